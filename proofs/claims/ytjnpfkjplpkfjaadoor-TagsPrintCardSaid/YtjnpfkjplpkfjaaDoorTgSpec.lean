/- What is printed of items. -/
import Derived.Test.YtjnpfkjplpkfjaaDoorTgText
import Derived.Test.YtjnpfkjplpkfjaaDoorTgTame
namespace Go.Proofs.YtjnpfkjplpkfjaaDoor.Tg
open Go.RowKit Go.Proofs.YtjnpfkjplpkfjaaDoorW.PrintWords Go.Proofs.YtjnpfkjplpkfjaaDoorW.PrintLast Go.Proofs.YtjnpfkjplpkfjaaDoorW.PrintMore Go.Proofs.YtjnpfkjplpkfjaaDoor.PTagsPrint
set_option linter.unusedVariables false

abbrev Out := Except Int (List UInt8)
def app (t : List UInt8) : Out → Out
  | .ok b => .ok (t ++ b)
  | .error n => .error n
/-- A field's line. -/
def field (tag qual text : ByteArray) : List UInt8 := [58] ++ tag.toList ++ [58] ++ (if qual.toList = [] then [] else [58] ++ qual.toList ++ [47, 47]) ++ text.toList ++ [10]
def blockOf (name : ByteArray) : Out → Out
  | .ok b => .ok ([58, 49, 54, 82, 58] ++ name.toList ++ [10] ++ b ++ [58, 49, 54, 83, 58] ++ name.toList ++ [10])
  | .error n => .error n
mutual
noncomputable def lnI : S50 → Int → Out
  | ⟨tag, qual, text, name, items⟩, d =>
    if wrn ⟨tag, qual, text, name, items⟩ d = 0 then (if tag.toList = [] then blockOf name (lnL items (d + 1)) else .ok (field tag qual text)) else .error (wrn ⟨tag, qual, text, name, items⟩ d)
noncomputable def lnL : List S50 → Int → Out
  | [], _ => .ok []
  | x :: xs, d => match lnI x d with
    | .ok b => app b (lnL xs d)
    | .error n => .error n
end
theorem lnI_eq (x : S50) (d : Int) : lnI x d = if wrn x d = 0 then (if x.f0.toList = [] then blockOf x.f3 (lnL x.f4 (d + 1)) else .ok (field x.f0 x.f1 x.f2)) else .error (wrn x d) := by cases x; rfl
theorem app_app (t u : List UInt8) (r : Out) : app t (app u r) = app (t ++ u) r := by cases r <;> simp [app]
theorem lnL_ok {x : S50} {xs : List S50} {d : Int} {b : List UInt8} (h : lnI x d = .ok b) : lnL (x :: xs) d = app b (lnL xs d) := by rw [lnL, h]
theorem lnL_err {x : S50} {xs : List S50} {d n : Int} (h : lnI x d = .error n) : lnL (x :: xs) d = .error n := by rw [lnL, h]
/-- How long the text can be. -/
def room (l : List S50) : Nat := 2 * byL l + 32 * cnt l
theorem room_cons (x : S50) (l : List S50) : room (x :: l) = 2 * (x.f0.size + x.f1.size + x.f2.size + x.f3.size) + 32 + room x.f4 + room l := by unfold room; rw [byL_cons, cnt_cons]; omega
theorem room_nil : room [] = 0 := by simp [room, byL, cnt]
theorem field_len (a b c : ByteArray) : (field a b c).length ≤ a.size + b.size + c.size + 6 := by
  unfold field
  split <;> simp [list_size] <;> omega
theorem lnL_len : ∀ (n : Nat) (l : List S50) (d : Int) (b : List UInt8), cnt l ≤ n → lnL l d = .ok b → b.length ≤ room l := by
  intro n
  induction n with
  | zero =>
    intro l d b hn h
    cases l with
    | nil => cases h; simp
    | cons x l => rw [cnt_cons] at hn; omega
  | succ n ih =>
    intro l d b hn h
    cases l with
    | nil => cases h; simp
    | cons x l =>
      rw [cnt_cons] at hn
      rw [room_cons]
      cases hx : lnI x d with
      | error e => rw [lnL_err hx] at h; cases h
      | ok bx =>
        rw [lnL_ok hx] at h
        cases hl : lnL l d with
        | error e => rw [hl] at h; cases h
        | ok bl =>
          rw [hl] at h
          cases h
          have h1 := ih l d bl (by omega) hl
          rw [lnI_eq] at hx
          split at hx
          · split at hx
            · cases hb : lnL x.f4 (d + 1) with
              | error e => rw [hb] at hx; cases hx
              | ok bb =>
                rw [hb] at hx
                cases hx
                have h2 := ih x.f4 (d + 1) bb (by omega) hb
                simp [list_size]
                omega
            · cases hx
              have := field_len x.f0 x.f1 x.f2
              simp
              omega
          · cases hx
theorem wrn_pos (x : S50) (d : Int) (h2 : x.f2.size ≤ 140737488351232) : wrn x d = 0 ∨ wrn x d = 4 ∨ wrn x d = 5 ∨ wrn x d = 6 ∨ wrn x d = 24 := by
  have := (textV_is x.f2 (x.f1.toList != []) (by omega)).1
  unfold wrn
  split
  · split
    · omega
    · split
      · omega
      · split <;> omega
  · split <;> omega
theorem wrn_depth {x : S50} {d : Int} (h : wrn x d = 0) (ht : x.f0.toList = []) : d < 8 := by
  unfold wrn at h
  rw [if_pos ht] at h
  split at h
  · omega
  · split at h <;> omega
end Go.Proofs.YtjnpfkjplpkfjaaDoor.Tg

/- A row of bytes that is being written; its append laws at a step of a region that draws its order. -/
import Derived.Test.YtjnpfkjplpkfjaaDoorTgRefPrint
import Derived.Deep.AppendLies
import Derived.Deep.RegionHeld3
import Derived.Lib.AppendStr
namespace Go.Proofs.YtjnpfkjplpkfjaaDoor.Tg
open Go.RowKit Go.Proofs.YtjnpfkjplpkfjaaDoorW.PrintWords Go.Proofs.YtjnpfkjplpkfjaaDoorW.PrintLast Go.Proofs.YtjnpfkjplpkfjaaDoorW.PrintMore Go.Proofs.YtjnpfkjplpkfjaaDoor.PTagsPrint
set_option linter.unusedVariables false

/-- v is a row of its own, above the base, and holds the bytes xs. -/
def Row (base : Nat) (w : World) (v : Value) (xs : List Int) : Prop := w.ownsRow base 5 1 v xs.length (nums .u8 xs)
theorem Row.nil (base : Nat) (w : World) : Row base w (.slice none 0 0) [] := by
  have h : Kd.R (Kd.int .u8) 5 w base (fun _ => True) (.slice none 0 0) [] := Kd.R_nil _ _ _ _ _
  exact Kd.own_of_R (enc := Value.int .u8) h
theorem Row.alloc {base : Nat} {w : World} {v : Value} {xs : List Int} (h : Row base w v xs) (o : Obj) : Row base (w.alloc o) v xs := World.ownsRow.alloc h o
theorem Row.drew {base : Nat} {w : World} {v : Value} {xs : List Int} (h : Row base w v xs) : Row base w.drew v xs := World.ownsRow.drew h
/-- A byte that stands by itself in block B, no part of the row v. -/
def Lit (w : World) (v : Value) (B : Nat) (c : Int) : Prop := w.heap[B]? = some (.cells #[.int .u8 c] 5 (0, 0)) ∧ some B ≠ v.ownBlock
theorem Lit.new {base : Nat} {w : World} {v : Value} {xs : List Int} (h : Row base w v xs) (c : Int) : Lit (w.alloc (.cells #[.int .u8 c] 5)) v w.heap.size c :=
  ⟨heap_alloc_new w _, fun he => by have := own_lt h _ he.symm; omega⟩
theorem Lit.alloc {w : World} {v : Value} {B : Nat} {c : Int} (h : Lit w v B c) (o : Obj) : Lit (w.alloc o) v B c := ⟨blk_alloc h.1 o, h.2⟩
theorem Lit.new2 {base : Nat} {w : World} {v : Value} {xs : List Int} (h : Row base w v xs) (o : Obj) (c : Int) : Lit ((w.alloc o).alloc (.cells #[.int .u8 c] 5)) v (w.heap.size + 1) c := by
  have := Lit.new (h.alloc o) c
  simpa using this
theorem Lit.drew {w : World} {v : Value} {B : Nat} {c : Int} (h : Lit w v B c) : Lit w.drew v B c := h
theorem Row.ne {base : Nat} {w : World} {v : Value} {xs : List Int} (h : Row base w v xs) {g t : Nat} {cells : Array Value} (hb : w.heap[g]? = some (.cells cells t (0, 0))) (ht : 5 ≠ t) : some g ≠ v.ownBlock :=
  Kd.R_ne (ok := fun _ => True) (Kd.R_of_own (enc := Value.int .u8) (h1 := fun _ => rfl) h (fun _ _ => trivial)) hb ht
theorem Lit.long {base : Nat} {w : World} {v : Value} {xs : List Int} (h : Row base w v xs) {B : Nat} {c : Int} (hb : w.heap[B]? = some (.cells #[.int .u8 c] 5 (0, 0))) (hl : 2 ≤ xs.length) : Lit w v B c := by
  refine ⟨hb, fun he => ?_⟩
  rcases h.2 with ⟨rfl, _⟩ | ⟨g, cap, cur, rfl, _, hg, hc, _, hs, _⟩
  · simp [Value.ownBlock] at he
  · have : B = g := by simpa [Value.ownBlock] using he
    subst this
    rw [hb] at hg
    cases hg
    simp at hs
    omega
/-- Whatever is no row of bytes is as it was. -/
def Oth (w w' : World) : Prop := w.heap.size ≤ w'.heap.size ∧ ∀ (g : Nat) (cs : Array Value) (t : TypeId), w.heap[g]? = some (.cells cs t (0, 0)) → 5 ≠ t → w'.heap[g]? = some (.cells cs t (0, 0))
theorem Oth.refl (w : World) : Oth w w := ⟨Nat.le_refl _, fun _ _ _ h _ => h⟩
theorem Oth.trans {a b c : World} (h : Oth a b) (k : Oth b c) : Oth a c := ⟨Nat.le_trans h.1 k.1, fun g cs t hb ht => k.2 g cs t (h.2 g cs t hb ht) ht⟩
theorem Oth.al (w : World) (o : Obj) : Oth w (w.alloc o) := ⟨by simp, fun _ _ _ h _ => blk_alloc h o⟩
theorem Oth.of_below {w w' : World} (h : Below w.heap.size w w') : Oth w w' := ⟨h.size, fun _ _ _ hb _ => blk_below hb h⟩
theorem Oth.of_grown {base : Nat} {w w' : World} {v : Value} {xs : List Int} (h : Row base w v xs) (hg : w.grownBy w' v.ownBlock) : Oth w w' := ⟨hg.size, fun _ _ _ hb ht => blk_grown hb hg (h.ne hb ht)⟩
section
variable {P : Program} {ops : Array Oper} {o : Oper} {a : Act} {K : Act → World → Prop} {Q : Exit → Act → World → Prop} {E : Prop}
theorem row_str_step (W0 : World) {W : World} (hgd : o.guard = none) (s x : Operand) (t u : TypeId)
    (ho : o.op = .call { callee := .builtin .append, args := #[s, x], argTypes := #[t, u] })
    (ht : P.underlying t = some (.slice 5)) (hu : P.underlying u = some .string) (hinfo : (P.info? 5).map (fun i => (i.zero, i.size, i.bytes)) = some (some (.int .u8 0), 1, 1))
    (v : Value) (xs : List Int) (y : ByteArray) (hs : a.eval s = v) (hx : a.eval x = .string y)
    (HO : Row W0.heap.size W v xs) (HB : Below W0.heap.size W0 W) (hl : xs.length + y.size ≤ 140737488355328)
    (h : ∀ v1 w1, Row W0.heap.size w1 v1 (xs ++ bytesOf y) → Below W0.heap.size W0 w1 → Oth W w1 → (2 ≤ xs.length + y.size → ∀ B c, Lit W v B c → Lit w1 v1 B c) → K (a.put o.dst v1) w1) :
    if Region.wanted o (yielded ops a.tmps) = true then Oper.wp P o a W K Q else E := by
  have hw : Region.wanted o (yielded ops a.tmps) = true := by simp [Region.wanted, hgd]
  rw [if_pos hw]
  obtain ⟨i0, hi, hzz⟩ := Option.map_eq_some_iff.1 hinfo
  simp only [Prod.mk.injEq] at hzz
  obtain ⟨hz0, hz1, hz2⟩ := hzz
  obtain ⟨v', w', hr, h2, h3, h4⟩ := Lib.run_append_own_string (P := P) W W0.heap.size t u o.type 5 i0 ht hu hi hz0 hz1 hz2 v xs.length (nums .u8 xs) HO y (by simp only [maxLen]; omega) hl (below_size HB)
  unfold Oper.wp execOp
  simp only [ho, resolve, invoke, builtin, Sem.run_bind, Sem.run_pure, Result.andThen_ok, List.map_toArray, List.map_cons, List.map_nil, hs, hx, hr]
  have hl2 : (xs ++ bytesOf y).length = xs.length + y.size := by rw [List.length_append, bytesOf_length]
  have hc : nums .u8 (xs ++ bytesOf y) = nums .u8 xs ++ Lib.strCells y := by
    rw [nums_append]
    congr 1
    simp [nums, bytesOf, Lib.strCells]
  have hrow : Row W0.heap.size w' v' (xs ++ bytesOf y) := by
    unfold Row
    rw [hl2, hc]
    exact h2
  exact h v' w' hrow (HB.grown h3 (below_size HB) (own_base HO)) (Oth.of_grown HO h3) (fun h2' B c hL => Lit.long hrow (blk_grown hL.1 h3 hL.2) (by omega))
theorem row_byte_step (W0 : World) {W : World} (hgd : o.guard = none) (s x : Operand) (t : TypeId)
    (ho : o.op = .call { callee := .builtin .append, args := #[s, x], argTypes := #[t, t] })
    (ht : P.underlying t = some (.slice 5)) (hinfo : (P.info? 5).map (fun i => (i.zero, i.size, i.bytes)) = some (some (.int .u8 0), 1, 1))
    (v : Value) (xs : List Int) (B : Nat) (c : Int) (hs : a.eval s = v) (hx : a.eval x = .slice (some ⟨B, 0, none⟩) 1 1) (hblk : W.heap[B]? = some (.cells #[.int .u8 c] 5 (0, 0)))
    (HO : Row W0.heap.size W v xs) (HB : Below W0.heap.size W0 W) (hl : xs.length + 1 ≤ 140737488355328)
    (h : ∀ v1 w1, Row W0.heap.size w1 v1 (xs ++ [c]) → Below W0.heap.size W0 w1 → Oth W w1 → (∀ B c, Lit W v B c → Lit w1 v1 B c) → K (a.put o.dst v1) w1) :
    if Region.wanted o (yielded ops a.tmps) = true then Oper.wp P o a W K Q else E := by
  obtain ⟨i0, hi, hzz⟩ := Option.map_eq_some_iff.1 hinfo
  simp only [Prod.mk.injEq] at hzz
  obtain ⟨hz0, hz1, hz2⟩ := hzz
  refine step_append_lies W hgd s x t ho W0.heap.size 5 i0 (.int .u8 0) 1 1 ht hi hz0 hz1 hz2 rfl (by omega) v xs.length (nums .u8 xs) hs HO ⟨B, 0, none⟩ 1 1 [.int .u8 c] hx rfl
    (World.news_of_block (cs := #[.int .u8 c]) hblk) (by simp [Value.oneCell']) (by omega) (by simp only [maxLen]; omega) (by omega) (below_size HB) W.heap.size rfl ?_
  intro g cap w' h2 h3 h4 h5
  refine h _ w' ?_ (HB.grown h3 (below_size HB) (own_base HO)) (Oth.of_grown HO h3) (fun B c' hL => ⟨blk_grown hL.1 h3 hL.2, fun he => ?_⟩)
  rotate_left
  · have he2 : B = g := by simpa [Value.ownBlock] using he
    rcases h4 with h4 | h4
    · exact hL.2 (by rw [he2, h4])
    · have := blk_lt hL.1
      omega
  unfold Row
  rw [nums_append, List.length_append]
  exact h2
theorem row_str_list (W0 : World) {W : World} {rest : List Oper} (hgd : o.guard = none) (s x : Operand) (t u : TypeId)
    (ho : o.op = .call { callee := .builtin .append, args := #[s, x], argTypes := #[t, u] })
    (ht : P.underlying t = some (.slice 5)) (hu : P.underlying u = some .string) (hinfo : (P.info? 5).map (fun i => (i.zero, i.size, i.bytes)) = some (some (.int .u8 0), 1, 1))
    (v : Value) (xs : List Int) (y : ByteArray) (hs : a.eval s = v) (hx : a.eval x = .string y)
    (HO : Row W0.heap.size W v xs) (HB : Below W0.heap.size W0 W) (hl : xs.length + y.size ≤ 140737488355328)
    (h : ∀ v1 w1, Row W0.heap.size w1 v1 (xs ++ bytesOf y) → Below W0.heap.size W0 w1 → Oth W w1 → wpList P ops Q rest (a.put o.dst v1) w1) :
    wpList P ops Q (o :: rest) a W :=
  print_append_str (w0 := W0) W0.heap.size hgd s x t u 5 ho ht hu hinfo v xs y hs hx HO HB (below_size HB) hl fun v1 w1 h1 h2 h3 => h v1 w1 h1 h2 (Oth.of_grown HO h3)
theorem row_byte_list (W0 : World) {W : World} {rest : List Oper} (hgd : o.guard = none) (s x : Operand) (t : TypeId)
    (ho : o.op = .call { callee := .builtin .append, args := #[s, x], argTypes := #[t, t] })
    (ht : P.underlying t = some (.slice 5)) (hinfo : (P.info? 5).map (fun i => (i.zero, i.size, i.bytes)) = some (some (.int .u8 0), 1, 1))
    (v : Value) (xs : List Int) (B : Nat) (c : Int) (hs : a.eval s = v) (hx : a.eval x = .slice (some ⟨B, 0, none⟩) 1 1) (hblk : W.heap[B]? = some (.cells #[.int .u8 c] 5 (0, 0)))
    (HO : Row W0.heap.size W v xs) (HB : Below W0.heap.size W0 W) (hl : xs.length + 1 ≤ 140737488355328)
    (h : ∀ v1 w1, Row W0.heap.size w1 v1 (xs ++ [c]) → Below W0.heap.size W0 w1 → Oth W w1 → wpList P ops Q rest (a.put o.dst v1) w1) :
    wpList P ops Q (o :: rest) a W := by
  obtain ⟨i0, hi, hzz⟩ := Option.map_eq_some_iff.1 hinfo
  simp only [Prod.mk.injEq] at hzz
  obtain ⟨hz0, hz1, hz2⟩ := hzz
  refine wpList_append_lies W hgd s x t ho W0.heap.size 5 i0 (.int .u8 0) 1 1 ht hi hz0 hz1 hz2 rfl (by omega) v xs.length (nums .u8 xs) hs HO ⟨B, 0, none⟩ 1 1 [.int .u8 c] hx rfl
    (World.news_of_block (cs := #[.int .u8 c]) hblk) (by simp [Value.oneCell']) (by omega) (by simp only [maxLen]; omega) (by omega) (below_size HB) W.heap.size rfl ?_
  intro g cap w' h2 h3 h4 h5
  refine h _ w' ?_ (HB.grown h3 (below_size HB) (own_base HO)) (Oth.of_grown HO h3)
  unfold Row
  rw [nums_append, List.length_append]
  exact h2
end
end Go.Proofs.YtjnpfkjplpkfjaaDoor.Tg

/- Plain laws of tags: what a byte, a name, a qualifier, a tag and a text are, the program's words and the document's. -/
import Derived.Test.YtjnpfkjplpkfjaaDoorPTagsPrintx1
import Derived.Test.YtjnpfkjplpkfjaaDoorPTagsPrintx2
import Derived.Test.YtjnpfkjplpkfjaaDoorPTagsPrintx3
import Derived.Test.YtjnpfkjplpkfjaaDoorPTagsPrintx5
import Derived.Test.YtjnpfkjplpkfjaaDoorPTagsPrintx6
namespace Go.Proofs.YtjnpfkjplpkfjaaDoor.Tg
open Go.RowKit Go.Proofs.YtjnpfkjplpkfjaaDoorW.PrintWords Go.Proofs.YtjnpfkjplpkfjaaDoorW.PrintLast Go.Proofs.YtjnpfkjplpkfjaaDoorW.PrintMore Go.Proofs.YtjnpfkjplpkfjaaDoor.PTagsPrint
set_option linter.unusedVariables false

def ofv (c : Int) : Int := if 65 ≤ c ∧ c ≤ 90 then 1 else if 48 ≤ c ∧ c ≤ 57 then 2 else if (97 ≤ c ∧ c ≤ 122) ∨ c ∈ [32, 47, 45, 63, 58, 40, 41, 46, 44, 39, 43] then 3 else 0
theorem of_fin : ∀ c : Fin 256, tags_of.f 4 (c.val : Int) = some (ofv c.val) := by decide +kernel
theorem in_fin : ∀ c : Fin 256, custodyref06_In.f 20 (c.val : Int) = some (decide (ofv c.val ≠ 0)) := by decide +kernel
theorem mono_le {α β : Type} {f : Nat → α → Option β} (hm : ∀ k a, LeO (f k a) (f (k + 1) a)) {k k' : Nat} (h : k ≤ k') {a : α} {r : β} (hr : f k a = some r) : f k' a = some r := by
  induction h with
  | refl => exact hr
  | step _ ih => exact hm _ _ _ ih
theorem of_eq (c : Int) (h0 : 0 ≤ c) (h1 : c ≤ 255) (k : Nat) (hk : 4 ≤ k) : tags_of.f k c = some (ofv c) := by
  have := of_fin ⟨c.toNat, by omega⟩
  simp only [Int.toNat_of_nonneg h0] at this
  exact mono_le (f := fun k a => tags_of.f k a) (fun k a => tags_of.mono a k) hk this
theorem in_eq (c : Int) (h0 : 0 ≤ c) (h1 : c ≤ 255) (k : Nat) (hk : 20 ≤ k) : custodyref06_In.f k c = some (decide (ofv c ≠ 0)) := by
  have := in_fin ⟨c.toNat, by omega⟩
  simp only [Int.toNat_of_nonneg h0] at this
  exact mono_le (f := fun k a => custodyref06_In.f k a) (fun k a => custodyref06_In.mono a k) hk this
theorem ofv_12 (c : Int) : (ofv c = 1 ↔ 65 ≤ c ∧ c ≤ 90) ∧ (ofv c = 2 ↔ 48 ≤ c ∧ c ≤ 57) := by
  unfold ofv
  by_cases h1 : 65 ≤ c ∧ c ≤ 90
  · rw [if_pos h1]; omega
  · rw [if_neg h1]
    by_cases h2 : 48 ≤ c ∧ c ≤ 57
    · rw [if_pos h2]; omega
    · rw [if_neg h2]
      split <;> omega
theorem step64 {i : Int} {n : Nat} (h0 : 0 ≤ i) (h : i < n) (hn : n ≤ 140737488355328) : wrap64 (i + 1) = i + 1 := by unfold wrap64; omega

theorem upper_great (s : ByteArray) (hs : s.size ≤ 140737488355328) (a b : Int) : ∀ (d : Nat) (i : Int), 0 ≤ i → i ≤ s.size → (s.size : Int) - i = d →
    ∃ r : Bool, ∀ k, d + 5 < k → tags_upper.l0 k s a b s.size i = some r ∧ custodyref06_great.l0 k s a b i = some r := by
  intro d
  induction d with
  | zero =>
    intro i h0 h1 hd
    refine ⟨decide (a ≤ s.size ∧ (s.size : Int) ≤ b), fun k hk => ?_⟩
    obtain ⟨k, rfl⟩ : ∃ m, k = m + 1 := ⟨k - 1, by omega⟩
    simp only [tags_upper.l0, custodyref06_great.l0]
    have hno : ¬ i < (s.size : Int) := by omega
    constructor
    · rw [if_neg hno]
      by_cases h2 : a ≤ (s.size : Int)
      · rw [if_pos h2]; simp [h2]
      · rw [if_neg h2]; simp [h2]
    · rw [if_neg hno]
      by_cases h2 : a ≤ (s.size : Int)
      · rw [if_pos (show (s.size : Int) ≥ a by omega)]; simp [h2]
      · rw [if_neg (show ¬ (s.size : Int) ≥ a by omega)]; simp [h2]
  | succ d ih =>
    intro i h0 h1 hd
    have hlt : i < (s.size : Int) := by omega
    have hb := bt_range s i
    obtain ⟨r, hr⟩ := ih (i + 1) (by omega) (by omega) (by omega)
    obtain ⟨o1, o2⟩ := ofv_12 (bt s i)
    by_cases hu : ofv (bt s i) = 1 ∨ ofv (bt s i) = 2
    · refine ⟨r, fun k hk => ?_⟩
      obtain ⟨k, rfl⟩ : ∃ m, k = m + 1 := ⟨k - 1, by omega⟩
      obtain ⟨r1, r2⟩ := hr k (by omega)
      simp only [tags_upper.l0, custodyref06_great.l0]
      rw [if_pos hlt, if_pos h0, if_pos hlt, of_eq _ hb.1 hb.2 k (by omega), if_pos hlt, if_pos h0, step64 h0 hlt hs, r1, r2]
      simp only [Option.bind_some]
      constructor
      · rcases hu with h | h
        · rw [if_pos h]
        · rw [if_neg (by omega), if_pos h]
      · rcases hu with h | h
        · rw [if_pos (show bt s i ≥ 65 by omega), if_pos (by omega)]
        · rw [if_neg (show ¬ bt s i ≥ 65 by omega), if_pos (show bt s i ≥ 48 by omega), if_pos (by omega)]
    · refine ⟨false, fun k hk => ?_⟩
      obtain ⟨k, rfl⟩ : ∃ m, k = m + 1 := ⟨k - 1, by omega⟩
      simp only [tags_upper.l0, custodyref06_great.l0]
      rw [if_pos hlt, if_pos h0, if_pos hlt, of_eq _ hb.1 hb.2 k (by omega), if_pos hlt, if_pos h0]
      simp only [Option.bind_some]
      constructor
      · rw [if_neg (by omega), if_neg (by omega)]
      · by_cases h65 : bt s i ≥ 65
        · rw [if_pos h65]
          by_cases h90 : bt s i ≤ 90
          · omega
          · rw [if_neg h90, if_pos (by omega), if_neg (by omega)]
        · rw [if_neg h65]
          by_cases h48 : bt s i ≥ 48
          · rw [if_pos h48, if_neg (by omega)]
          · rw [if_neg h48]

/-- A text of great letters and digits alone: both say the same. -/
theorem great_both (s : ByteArray) (hs : s.size ≤ 140737488355328) (a b : Int) : ∃ r : Bool, ∀ k, s.size + 5 < k → tags_upper.f k s a b = some r ∧ custodyref06_great.f k s a b = some r := by
  obtain ⟨r, hr⟩ := upper_great s hs a b s.size 0 (by omega) (by omega) (by omega)
  exact ⟨r, fun k hk => hr k (by omega)⟩
theorem qual_both (s : ByteArray) (hs : s.size ≤ 140737488355328) : ∃ r : Bool, ∀ k, s.size + 5 < k → tags_isQual.f k s = some r ∧ custodyref06_Qual.f k s = some r := by
  obtain ⟨r, hr⟩ := great_both s hs 4 4
  exact ⟨r, fun k hk => by unfold tags_isQual.f custodyref06_Qual.f; rw [(hr k hk).1, (hr k hk).2]; exact ⟨rfl, rfl⟩⟩
theorem name_both (s : ByteArray) (hs : s.size ≤ 140737488355328) : ∃ r : Bool, ∀ k, s.size + 5 < k → tags_isName.f k s = some r ∧ custodyref06_Name.f k s = some r := by
  obtain ⟨r, hr⟩ := great_both s hs 1 16
  exact ⟨r, fun k hk => by unfold tags_isName.f custodyref06_Name.f; rw [(hr k hk).1, (hr k hk).2]; exact ⟨rfl, rfl⟩⟩
theorem tag_both (s : ByteArray) : ∃ r : Bool, ∀ k, 5 < k → tags_isTag.f k s = some r ∧ custodyref06_Tag.f k s = some r := by
  have b0 := bt_range s 0
  have b1 := bt_range s 1
  have b2 := bt_range s 2
  obtain ⟨p0, q0⟩ := ofv_12 (bt s 0)
  obtain ⟨p1, q1⟩ := ofv_12 (bt s 1)
  obtain ⟨p2, q2⟩ := ofv_12 (bt s 2)
  by_cases hl : (s.size : Int) < 2 ∨ (s.size : Int) > 3 ∨ s.toList = ([49, 54, 82] : List UInt8) ∨ s.toList = ([49, 54, 83] : List UInt8)
  · refine ⟨false, fun k hk => ?_⟩
    obtain ⟨k, rfl⟩ : ∃ m, k = m + 1 := ⟨k - 1, by omega⟩
    unfold tags_isTag.f custodyref06_Tag.f
    simp only [custodyref06_Tag.j0]
    rcases hl with h | h | h | h <;> constructor
    · simp only [if_pos h]; split <;> (try rfl); split <;> rfl
    · simp only [if_pos h]; rfl
    · simp only [if_neg (show ¬ (s.size : Int) < 2 by omega), if_pos h]; split <;> (try rfl); split <;> rfl
    · simp only [if_neg (show ¬ (s.size : Int) < 2 by omega), if_pos h]; rfl
    · simp [h]
    · simp [h]
    · simp [h]
    · simp [h]
  · have hn : ¬ (s.size : Int) < 2 ∧ ¬ (s.size : Int) > 3 ∧ ¬ s.toList = ([49, 54, 82] : List UInt8) ∧ ¬ s.toList = ([49, 54, 83] : List UInt8) := ⟨fun h => hl (.inl h), fun h => hl (.inr (.inl h)), fun h => hl (.inr (.inr (.inl h))), fun h => hl (.inr (.inr (.inr h)))⟩
    obtain ⟨n1, n2, n3, n4⟩ := hn
    have n5 : (s.toList == ([49, 54, 83] : List UInt8)) = false := by simp [n4]
    refine ⟨decide (ofv (bt s 0) = 2) && decide (ofv (bt s 1) = 2) && (decide ((s.size : Int) = 2) || decide (ofv (bt s 2) = 1)), fun k hk => ?_⟩
    obtain ⟨k, rfl⟩ : ∃ m, k = m + 1 := ⟨k - 1, by omega⟩
    unfold tags_isTag.f custodyref06_Tag.f
    simp only [custodyref06_Tag.j0, if_neg n1, if_neg n2, if_neg n3, if_neg n4, n5, Bool.false_eq_true, if_false, of_eq _ b0.1 b0.2 (k + 1) (by omega), of_eq _ b1.1 b1.2 (k + 1) (by omega), of_eq _ b2.1 b2.2 (k + 1) (by omega), Option.bind_some, if_pos (show (0 : Int) < s.size by omega), if_pos (show (1 : Int) < s.size by omega)]
    by_cases h0 : ofv (bt s 0) = 2
    · by_cases h1 : ofv (bt s 1) = 2
      · rw [if_pos h0, if_pos h1, if_neg (show ¬ bt s 0 < 48 by omega), if_neg (show ¬ bt s 0 > 57 by omega), if_neg (show ¬ bt s 1 < 48 by omega), if_neg (show ¬ bt s 1 > 57 by omega)]
        by_cases hz : (s.size : Int) = 2
        · rw [if_pos hz, if_pos hz]
          simp [h0, h1, hz]
        · rw [if_neg hz, if_neg hz, if_pos (show (2 : Int) < s.size by omega), if_pos (show (2 : Int) < s.size by omega)]
          by_cases h2 : ofv (bt s 2) = 1
          · rw [if_pos (show bt s 2 ≥ 65 by omega)]
            simp [h0, h1, hz, h2]
            omega
          · by_cases h65 : bt s 2 ≥ 65
            · rw [if_pos h65]
              simp [h0, h1, hz, h2]
              omega
            · rw [if_neg h65]
              simp [h0, h1, hz, h2]
      · rw [if_pos h0, if_neg h1, if_neg (show ¬ bt s 0 < 48 by omega), if_neg (show ¬ bt s 0 > 57 by omega)]
        by_cases h48 : bt s 1 < 48
        · rw [if_pos h48]; simp [h1]
        · rw [if_neg h48, if_pos (by omega)]; simp [h1]
    · rw [if_neg h0]
      by_cases h48 : bt s 0 < 48
      · rw [if_pos h48]; simp [h0]
      · rw [if_neg h48, if_pos (by omega)]; simp [h0]
end Go.Proofs.YtjnpfkjplpkfjaaDoor.Tg

/- The tree of items: how many, how many bytes, what is printed of it; the counting functions' plain law. -/
import Derived.Test.YtjnpfkjplpkfjaaDoorTgPure
namespace Go.Proofs.YtjnpfkjplpkfjaaDoor.Tg
open Go.RowKit Go.Proofs.YtjnpfkjplpkfjaaDoorW.PrintWords Go.Proofs.YtjnpfkjplpkfjaaDoorW.PrintLast Go.Proofs.YtjnpfkjplpkfjaaDoorW.PrintMore Go.Proofs.YtjnpfkjplpkfjaaDoor.PTagsPrint
set_option linter.unusedVariables false

mutual
def cntI : S50 → Nat
  | ⟨_, _, _, _, l⟩ => 1 + cnt l
def cnt : List S50 → Nat
  | [] => 0
  | x :: xs => cntI x + cnt xs
end
mutual
def byI : S50 → Nat
  | ⟨a, b, c, d, l⟩ => a.size + b.size + c.size + d.size + byL l
def byL : List S50 → Nat
  | [] => 0
  | x :: xs => byI x + byL xs
end
mutual
def okI : S50 → Prop
  | ⟨a, b, c, d, l⟩ => a.size ≤ 140737488351232 ∧ b.size ≤ 140737488351232 ∧ c.size ≤ 140737488351232 ∧ d.size ≤ 140737488351232 ∧ okL l
def okL : List S50 → Prop
  | [] => True
  | x :: xs => okI x ∧ okL xs
end
theorem cntI_eq (x : S50) : cntI x = 1 + cnt x.f4 := by cases x; rfl
theorem byI_eq (x : S50) : byI x = x.f0.size + x.f1.size + x.f2.size + x.f3.size + byL x.f4 := by cases x; rfl
theorem okI_eq (x : S50) : okI x = (x.f0.size ≤ 140737488351232 ∧ x.f1.size ≤ 140737488351232 ∧ x.f2.size ≤ 140737488351232 ∧ x.f3.size ≤ 140737488351232 ∧ okL x.f4) := by cases x; rfl
theorem cnt_cons (x : S50) (l : List S50) : cnt (x :: l) = 1 + cnt x.f4 + cnt l := by rw [cnt, cntI_eq]
theorem byL_cons (x : S50) (l : List S50) : byL (x :: l) = x.f0.size + x.f1.size + x.f2.size + x.f3.size + byL x.f4 + byL l := by rw [byL, byI_eq]
theorem okL_cons (x : S50) (l : List S50) : okL (x :: l) = ((x.f0.size ≤ 140737488351232 ∧ x.f1.size ≤ 140737488351232 ∧ x.f2.size ≤ 140737488351232 ∧ x.f3.size ≤ 140737488351232 ∧ okL x.f4) ∧ okL l) := by rw [okL, okI_eq]
theorem cnt_len (l : List S50) : l.length ≤ cnt l := by
  induction l with
  | nil => simp
  | cons x l ih => rw [cnt_cons]; simp; omega
theorem drop_rd (l : List S50) (i : Int) (h0 : 0 ≤ i) (h1 : i < l.length) : l.drop i.toNat = rd_T50 l i :: l.drop (i + 1).toNat := by
  have hi : i.toNat < l.length := by omega
  rw [show (i + 1).toNat = i.toNat + 1 by omega, List.drop_eq_getElem_cons hi]
  unfold rd_T50
  rw [List.getD_eq_getElem?_getD, List.getElem?_eq_getElem hi]
  rfl
theorem drop_end (l : List S50) (i : Int) (h1 : ¬ i < l.length) : l.drop i.toNat = [] := List.drop_of_length_le (by omega)
/-- The items below the items themselves. -/
def subs (l : List S50) : Nat := cnt l - l.length
theorem subs_cons (x : S50) (l : List S50) : subs (x :: l) = cnt x.f4 + subs l := by
  have := cnt_len l
  unfold subs
  rw [cnt_cons]
  simp
  omega
theorem subs_nil : subs [] = 0 := by simp [subs, cnt]
theorem subs_le (l : List S50) : cnt l = l.length + subs l := by have := cnt_len l; unfold subs; omega

theorem cnt_drop : ∀ (l : List S50) (i : Nat), cnt (l.drop i) ≤ cnt l
  | [], i => by simp
  | x :: l, 0 => by simp
  | x :: l, i + 1 => by
    have := cnt_drop l i
    simp only [List.drop_succ_cons]
    rw [cnt_cons]
    omega
theorem cnt_sub (l : List S50) (i : Int) (h0 : 0 ≤ i) (h1 : i < l.length) : cnt (rd_T50 l i).f4 < cnt l := by
  have := cnt_drop l i.toNat
  rw [drop_rd l i h0 h1, cnt_cons] at this
  omega

/-- Parts counts the items: within the limit exactly. -/
theorem parts_l0 : ∀ (d : Nat) (l : List S50) (most n i : Int) (k : Nat), 0 ≤ i → i ≤ l.length → cnt (l.drop i.toNat) ≤ d → 0 ≤ n → n + cnt (l.drop i.toNat) ≤ 1000000 → l.length ≤ 1000000 → 0 ≤ most → most ≤ 1000000 → 2 * d + 1 < k →
    ∃ r, custodyref06_Parts.l0 k l most n i = some r ∧ n ≤ r ∧ r ≤ n + cnt (l.drop i.toNat) ∧ (r < most → r = n + cnt (l.drop i.toNat)) := by
  intro d
  induction d with
  | zero =>
    intro l most n i k h0 h1 hc hn hs hl hm hm2 hk
    obtain ⟨k, rfl⟩ : ∃ m, k = m + 1 := ⟨k - 1, by omega⟩
    have : ¬ i < (l.length : Int) := fun h => by rw [drop_rd l i h0 h, cnt_cons] at hc; omega
    exact ⟨n, by simp only [custodyref06_Parts.l0]; rw [if_neg this], by omega, by omega, fun _ => by omega⟩
  | succ d ih =>
    intro l most n i k h0 h1 hc hn hs hl hm hm2 hk
    obtain ⟨k, rfl⟩ : ∃ m, k = m + 1 := ⟨k - 1, by omega⟩
    by_cases hlt : i < (l.length : Int)
    · by_cases hnm : n < most
      · have hd := drop_rd l i h0 hlt
        rw [hd, cnt_cons] at hc hs
        obtain ⟨k, rfl⟩ : ∃ m, k = m + 1 := ⟨k - 1, by omega⟩
        have hsub := cnt_len (rd_T50 l i).f4
        obtain ⟨t, ht, ht0, ht1, ht2⟩ := ih (rd_T50 l i).f4 (most - n) 0 0 k (by omega) (by omega) (by simp; omega) (by omega) (by simp; omega) (by omega) (by omega) (by omega) (by omega)
        simp only [Int.toNat_zero, List.drop_zero] at ht1 ht2
        obtain ⟨r, hr, hr0, hr1, hr2⟩ := ih l most (n + 1 + t) (i + 1) (k + 1) (by omega) (by omega) (by omega) (by omega) (by omega) hl hm hm2 (by omega)
        refine ⟨r, ?_, by omega, by rw [hd, cnt_cons]; omega, fun h => ?_⟩
        · rw [custodyref06_Parts.l0, if_pos hlt, if_pos hnm, if_pos h0, show wrap64 (most - n) = most - n by unfold wrap64; omega]
          simp only [custodyref06_Parts.f, ht, Option.bind_some]
          rw [show wrap64 (wrap64 (n + 1) + t) = n + 1 + t by unfold wrap64; omega, show wrap64 (i + 1) = i + 1 by unfold wrap64; omega]
          exact hr
        · have h2 := hr2 h
          rw [hd, cnt_cons]
          have h3 := ht2 (by omega)
          omega
      · exact ⟨n, by rw [custodyref06_Parts.l0, if_pos hlt, if_neg hnm], by omega, by omega, fun h => by omega⟩
    · refine ⟨n, by rw [custodyref06_Parts.l0, if_neg hlt], by omega, by omega, fun _ => ?_⟩
      rw [drop_end l i hlt]
      simp [cnt]
theorem parts_f (l : List S50) (h : cnt l ≤ 1000000) : ∃ r, custodyref06_Parts.f (2 * cnt l + 3) l 10000 = some r ∧ (r < 10000 → cnt l < 10000) := by
  have := cnt_len l
  obtain ⟨r, hr, _, _, h2⟩ := parts_l0 (cnt l) l 10000 0 0 (2 * cnt l + 2) (by omega) (by omega) (by simp) (by omega) (by simp; omega) (by omega) (by omega) (by omega) (by omega)
  refine ⟨r, by simp only [custodyref06_Parts.f]; exact hr, fun h => ?_⟩
  have := h2 h
  simp at this
  omega

/-- size counts the bytes: up to 2^24 exactly. -/
theorem size_l0 : ∀ (d : Nat) (l : List S50) (n i : Int) (k : Nat), 0 ≤ i → i ≤ l.length → cnt (l.drop i.toNat) ≤ d → 0 ≤ n → n + 600000000000000 * cnt (l.drop i.toNat) ≤ 7000000000000000000 → l.length ≤ 1000000 → okL (l.drop i.toNat) → 2 * d + 1 < k →
    ∃ r, custodylaw06_size.l0 k l n i = some r ∧ n ≤ r ∧ r ≤ n + 600000000000000 * cnt (l.drop i.toNat) ∧ (r ≤ 16777216 → r = n + byL (l.drop i.toNat)) := by
  intro d
  induction d with
  | zero =>
    intro l n i k h0 h1 hc hn hs hl ho hk
    obtain ⟨k, rfl⟩ : ∃ m, k = m + 1 := ⟨k - 1, by omega⟩
    have : ¬ i < (l.length : Int) := fun h => by rw [drop_rd l i h0 h, cnt_cons] at hc; omega
    exact ⟨n, by simp only [custodylaw06_size.l0]; rw [if_neg this], by omega, by omega, fun _ => by rw [drop_end l i this]; simp [byL]⟩
  | succ d ih =>
    intro l n i k h0 h1 hc hn hs hl ho hk
    obtain ⟨k, rfl⟩ : ∃ m, k = m + 1 := ⟨k - 1, by omega⟩
    by_cases hlt : i < (l.length : Int)
    · by_cases hnm : n ≤ 16777216
      · have hd := drop_rd l i h0 hlt
        rw [hd, cnt_cons] at hc hs
        rw [hd, okL_cons] at ho
        obtain ⟨⟨o0, o1, o2, o3, o4⟩, o5⟩ := ho
        obtain ⟨k, rfl⟩ : ∃ m, k = m + 1 := ⟨k - 1, by omega⟩
        have hsub := cnt_len (rd_T50 l i).f4
        obtain ⟨t, ht, ht0, ht1, ht2⟩ := ih (rd_T50 l i).f4 0 0 k (by omega) (by omega) (by simp; omega) (by omega) (by simp; omega) (by omega) (by simpa using o4) (by omega)
        simp only [Int.toNat_zero, List.drop_zero] at ht1 ht2
        obtain ⟨r, hr, hr0, hr1, hr2⟩ := ih l (n + (rd_T50 l i).f0.size + (rd_T50 l i).f1.size + (rd_T50 l i).f2.size + (rd_T50 l i).f3.size + t) (i + 1) (k + 1) (by omega) (by omega) (by omega) (by omega) (by omega) hl o5 (by omega)
        refine ⟨r, ?_, by omega, by rw [hd, cnt_cons]; omega, fun h => ?_⟩
        · rw [custodylaw06_size.l0, if_pos hlt, if_pos hnm, if_pos h0]
          simp only [custodylaw06_size.f, ht, Option.bind_some]
          rw [show wrap64 (wrap64 (wrap64 (wrap64 (wrap64 (n + (rd_T50 l i).f0.size) + (rd_T50 l i).f1.size) + (rd_T50 l i).f2.size) + (rd_T50 l i).f3.size) + t) = n + (rd_T50 l i).f0.size + (rd_T50 l i).f1.size + (rd_T50 l i).f2.size + (rd_T50 l i).f3.size + t by unfold wrap64; omega, show wrap64 (i + 1) = i + 1 by unfold wrap64; omega]
          exact hr
        · have h2 := hr2 h
          rw [hd, byL_cons]
          have h3 := ht2 (by omega)
          omega
      · exact ⟨n, by rw [custodylaw06_size.l0, if_pos hlt, if_neg hnm], by omega, by omega, fun h => by omega⟩
    · refine ⟨n, by rw [custodylaw06_size.l0, if_neg hlt], by omega, by omega, fun _ => ?_⟩
      rw [drop_end l i hlt]
      simp [byL]
theorem size_f (l : List S50) (h : cnt l < 10000) (ho : okL l) : ∃ r, custodylaw06_size.f (2 * cnt l + 3) l = some r ∧ (r ≤ 16777216 → byL l ≤ 16777216) := by
  have := cnt_len l
  obtain ⟨r, hr, _, _, h2⟩ := size_l0 (cnt l) l 0 0 (2 * cnt l + 2) (by omega) (by omega) (by simp) (by omega) (by simp; omega) (by omega) (by simpa using ho) (by omega)
  refine ⟨r, by simp only [custodylaw06_size.f]; exact hr, fun h => ?_⟩
  have := h2 h
  simp at this
  omega
end Go.Proofs.YtjnpfkjplpkfjaaDoor.Tg

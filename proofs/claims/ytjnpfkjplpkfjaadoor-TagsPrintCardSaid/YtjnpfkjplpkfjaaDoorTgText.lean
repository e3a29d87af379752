/- Plain law of a field's text: the document's Text and the program's check say the same; what is printed of items. -/
import Derived.Test.YtjnpfkjplpkfjaaDoorTgTree
import Derived.Test.YtjnpfkjplpkfjaaDoorTgWrong
namespace Go.Proofs.YtjnpfkjplpkfjaaDoor.Tg
open Go.RowKit Go.Proofs.YtjnpfkjplpkfjaaDoorW.PrintWords Go.Proofs.YtjnpfkjplpkfjaaDoorW.PrintLast Go.Proofs.YtjnpfkjplpkfjaaDoorW.PrintMore Go.Proofs.YtjnpfkjplpkfjaaDoor.PTagsPrint
set_option linter.unusedVariables false
set_option linter.unusedSimpArgs false

theorem list_size (s : ByteArray) : s.toList.length = s.size := by rw [ByteArray.toList_eq]; exact data_length s
def errO (n : Int) : Option Int := if n = 0 then none else some n

theorem feeds (s : ByteArray) (q : Bool) (hs : s.size ≤ 140737488355328) (fin : Int) (hfin : ∀ k, 0 < k → custodyref06_Text.l1 k s q s.size = some fin) : ∀ (d : Nat) (i : Int), 0 ≤ i → i ≤ s.size → (s.size : Int) - i = d →
    ∃ b : Bool, ∀ k, d + 1 < k → custodyref06_Text.l1 k s q i = some (if b then 4 else fin) ∧ tags_check.l1 k s s.size i = some (if b then some 4 else none) := by
  intro d
  induction d with
  | zero =>
    intro i h0 h1 hd
    obtain rfl : i = (s.size : Int) := by omega
    refine ⟨false, fun k hk => ⟨hfin k (by omega), ?_⟩⟩
    obtain ⟨k, rfl⟩ : ∃ m, k = m + 1 := ⟨k - 1, by omega⟩
    simp only [tags_check.l1]
    rw [if_neg (by omega)]
    rfl
  | succ d ih =>
    intro i h0 h1 hd
    have hlt : i < (s.size : Int) := by omega
    have hst : wrap64 (i + 1) = i + 1 := step64 h0 hlt hs
    obtain ⟨b, hb⟩ := ih (i + 1) (by omega) (by omega) (by omega)
    have hp0 : 0 ≤ i + 1 := by omega
    by_cases h10 : bt s i = 10
    · by_cases he : i + 1 = (s.size : Int)
      · refine ⟨true, fun k hk => ?_⟩
        obtain ⟨k, rfl⟩ : ∃ m, k = m + 1 := ⟨k - 1, by omega⟩
        simp only [custodyref06_Text.l1, tags_check.l1, hst, hlt, h0, h10, ↓reduceIte]
        simp [he]
      · have hp1 : i + 1 < (s.size : Int) := by omega
        by_cases hn : bt s (i + 1) = 10 ∨ bt s (i + 1) = 58 ∨ bt s (i + 1) = 45
        · refine ⟨true, fun k hk => ?_⟩
          obtain ⟨k, rfl⟩ : ∃ m, k = m + 1 := ⟨k - 1, by omega⟩
          simp only [custodyref06_Text.l1, tags_check.l1, hst, hlt, h0, h10, he, hp0, hp1, ↓reduceIte]
          by_cases h1 : bt s (i + 1) = 10
          · simp [h1]
          · by_cases h2 : bt s (i + 1) = 58
            · simp [h2]
            · have h3 : bt s (i + 1) = 45 := by omega
              simp [h3]
        · refine ⟨b, fun k hk => ?_⟩
          obtain ⟨k, rfl⟩ : ∃ m, k = m + 1 := ⟨k - 1, by omega⟩
          obtain ⟨r1, r2⟩ := hb k (by omega)
          have n1 : ¬ bt s (i + 1) = 10 := by omega
          have n2 : ¬ bt s (i + 1) = 58 := by omega
          have n3 : ¬ bt s (i + 1) = 45 := by omega
          simp only [custodyref06_Text.l1, tags_check.l1, hst, hlt, h0, h10, he, hp0, hp1, n1, n2, n3, r1, r2, ↓reduceIte, and_self]
    · refine ⟨b, fun k hk => ?_⟩
      obtain ⟨k, rfl⟩ : ∃ m, k = m + 1 := ⟨k - 1, by omega⟩
      obtain ⟨r1, r2⟩ := hb k (by omega)
      simp only [custodyref06_Text.l1, tags_check.l1, hst, hlt, h0, h10, r1, r2, ↓reduceIte, and_self]

theorem stage2 (s : ByteArray) (q : Bool) (hs : s.size ≤ 140737488355328) : ∃ n : Int, (n = 0 ∨ n = 4) ∧ ∀ k, s.size + 3 < k → custodyref06_Text.l1 k s q 0 = some n ∧
    (if q = true then tags_check.j1 k s false else (if (s.size : Int) > 0 then (if 0 < (s.size : Int) then tags_check.j1 k s ((bt s 0) == 58) else none) else tags_check.j1 k s false)) = some (errO n) := by
  by_cases hq : q = false ∧ 0 < s.size ∧ bt s 0 = 58
  · obtain ⟨rfl, hp, hc⟩ := hq
    have hne : ¬ s.toList = ([] : List UInt8) := fun h => by
      have : s.size = 0 := by rw [← list_size, h]; rfl
      omega
    obtain ⟨b, hb⟩ := feeds s false hs 4 (fun k hk => by
      obtain ⟨k, rfl⟩ : ∃ m, k = m + 1 := ⟨k - 1, by omega⟩
      simp only [custodyref06_Text.l1]
      rw [if_neg (by omega), if_neg (by decide), if_neg hne, if_pos (by omega), if_pos hc]) s.size 0 (by omega) (by omega) (by omega)
    refine ⟨4, .inr rfl, fun k hk => ⟨by rw [(hb k (by omega)).1]; simp, ?_⟩⟩
    obtain ⟨k, rfl⟩ : ∃ m, k = m + 1 := ⟨k - 1, by omega⟩
    rw [if_neg (by decide), if_pos (by omega), if_pos (by omega), tags_check.j1, if_pos (by simp [hc])]
    rfl
  · obtain ⟨b, hb⟩ := feeds s q hs 0 (fun k hk => by
      obtain ⟨k, rfl⟩ : ∃ m, k = m + 1 := ⟨k - 1, by omega⟩
      simp only [custodyref06_Text.l1]
      rw [if_neg (by omega)]
      by_cases hq1 : q = true
      · rw [if_pos hq1]
      · rw [if_neg hq1]
        by_cases h3 : s.toList = ([] : List UInt8)
        · rw [if_pos h3]
        · have hp : 0 < s.size := by
            rcases Nat.eq_zero_or_pos s.size with h4 | h4
            · exact absurd (List.length_eq_zero_iff.1 (by rw [list_size]; exact h4)) h3
            · exact h4
          rw [if_neg h3, if_pos (by omega), if_neg (fun h => hq ⟨by simpa using hq1, hp, h⟩)]) s.size 0 (by omega) (by omega) (by omega)
    refine ⟨if b then 4 else 0, by cases b <;> simp, fun k hk => ⟨(hb k (by omega)).1, ?_⟩⟩
    obtain ⟨k, rfl⟩ : ∃ m, k = m + 1 := ⟨k - 1, by omega⟩
    have hj : tags_check.j1 (k + 1) s false = some (errO (if b then 4 else 0)) := by
      simp only [tags_check.j1]
      rw [if_neg (by decide), (hb k (by omega)).2]
      cases b <;> rfl
    by_cases hq1 : q = true
    · rw [if_pos hq1, hj]
    · rw [if_neg hq1]
      by_cases hp : (s.size : Int) > 0
      · have h58 : ((bt s 0) == 58) = false := by
          simp only [beq_eq_false_iff_ne]
          exact fun h => hq ⟨by simpa using hq1, by omega, h⟩
        rw [if_pos hp, if_pos (by omega), h58, hj]
      · rw [if_neg hp, hj]

theorem text_l0 (s : ByteArray) (q : Bool) (hs : s.size ≤ 140737488355328) : ∀ (d : Nat) (i : Int), 0 ≤ i → i ≤ s.size → (s.size : Int) - i = d →
    ∃ n : Int, (n = 0 ∨ n = 4 ∨ n = 6) ∧ ∀ k, d + s.size + 25 < k → custodyref06_Text.l0 k s q i = some n ∧ tags_check.l0 k s q s.size i = some (errO n) := by
  intro d
  induction d with
  | zero =>
    intro i h0 h1 hd
    obtain rfl : i = (s.size : Int) := by omega
    obtain ⟨n, hn, h⟩ := stage2 s q hs
    refine ⟨n, by omega, fun k hk => ?_⟩
    obtain ⟨k, rfl⟩ : ∃ m, k = m + 1 := ⟨k - 1, by omega⟩
    obtain ⟨r1, r2⟩ := h k (by omega)
    have hno : ¬ (s.size : Int) < (s.size : Int) := by omega
    simp only [custodyref06_Text.l0, tags_check.l0]
    rw [if_neg hno, if_neg hno]
    exact ⟨r1, r2⟩
  | succ d ih =>
    intro i h0 h1 hd
    have hlt : i < (s.size : Int) := by omega
    have hst : wrap64 (i + 1) = i + 1 := step64 h0 hlt hs
    obtain ⟨n, hn, h⟩ := ih (i + 1) (by omega) (by omega) (by omega)
    have hb := bt_range s i
    by_cases hz : ofv (bt s i) = 0
    · by_cases h10 : bt s i = 10
      · refine ⟨n, hn, fun k hk => ?_⟩
        obtain ⟨k, rfl⟩ : ∃ m, k = m + 1 := ⟨k - 1, by omega⟩
        obtain ⟨r1, r2⟩ := h k (by omega)
        simp only [custodyref06_Text.l0, tags_check.l0, in_eq _ hb.1 hb.2 k (by omega), of_eq _ hb.1 hb.2 k (by omega), Option.bind_some, hst]
        simp [hlt, h0, hz, h10, r1, r2]
      · refine ⟨6, by omega, fun k hk => ?_⟩
        obtain ⟨k, rfl⟩ : ∃ m, k = m + 1 := ⟨k - 1, by omega⟩
        simp only [custodyref06_Text.l0, tags_check.l0, in_eq _ hb.1 hb.2 k (by omega), of_eq _ hb.1 hb.2 k (by omega), Option.bind_some, hst]
        simp [hlt, h0, hz, h10, errO]
    · refine ⟨n, hn, fun k hk => ?_⟩
      obtain ⟨k, rfl⟩ : ∃ m, k = m + 1 := ⟨k - 1, by omega⟩
      obtain ⟨r1, r2⟩ := h k (by omega)
      simp only [custodyref06_Text.l0, tags_check.l0, in_eq _ hb.1 hb.2 k (by omega), of_eq _ hb.1 hb.2 k (by omega), Option.bind_some, hst]
      simp [hlt, h0, hz, r1, r2]
/-- What is wrong with a field's text. -/
theorem text_both (s : ByteArray) (q : Bool) (hs : s.size ≤ 140737488355328) : ∃ n : Int, (n = 0 ∨ n = 4 ∨ n = 6) ∧ ∀ k, 2 * s.size + 25 < k → custodyref06_Text.f k s q = some n ∧ tags_check.f k s q = some (errO n) := by
  obtain ⟨n, hn, h⟩ := text_l0 s q hs s.size 0 (by omega) (by omega) (by omega)
  exact ⟨n, hn, fun k hk => h k (by omega)⟩

noncomputable def tagV (s : ByteArray) : Bool := Classical.choose (tag_both s)
theorem tagV_is (s : ByteArray) : ∀ k, 5 < k → tags_isTag.f k s = some (tagV s) ∧ custodyref06_Tag.f k s = some (tagV s) := Classical.choose_spec (tag_both s)
noncomputable def qualV (s : ByteArray) : Bool := (tags_isQual.f (s.size + 6) s).getD false
noncomputable def nameV (s : ByteArray) : Bool := (tags_isName.f (s.size + 6) s).getD false
theorem qualV_is (s : ByteArray) (hs : s.size ≤ 140737488355328) : ∀ k, s.size + 5 < k → tags_isQual.f k s = some (qualV s) ∧ custodyref06_Qual.f k s = some (qualV s) := by
  obtain ⟨r, hr⟩ := qual_both s hs
  have : qualV s = r := by simp [qualV, (hr (s.size + 6) (by omega)).1]
  rw [this]
  exact hr
theorem nameV_is (s : ByteArray) (hs : s.size ≤ 140737488355328) : ∀ k, s.size + 5 < k → tags_isName.f k s = some (nameV s) ∧ custodyref06_Name.f k s = some (nameV s) := by
  obtain ⟨r, hr⟩ := name_both s hs
  have : nameV s = r := by simp [nameV, (hr (s.size + 6) (by omega)).1]
  rw [this]
  exact hr
noncomputable def textV (s : ByteArray) (q : Bool) : Int := (custodyref06_Text.f (2 * s.size + 26) s q).getD 0
theorem textV_is (s : ByteArray) (q : Bool) (hs : s.size ≤ 140737488355328) : (textV s q = 0 ∨ textV s q = 4 ∨ textV s q = 6) ∧ ∀ k, 2 * s.size + 25 < k → custodyref06_Text.f k s q = some (textV s q) ∧ tags_check.f k s q = some (errO (textV s q)) := by
  obtain ⟨n, hn, h⟩ := text_both s q hs
  have : textV s q = n := by simp [textV, (h (2 * s.size + 26) (by omega)).1]
  rw [this]
  exact ⟨hn, h⟩
/-- What is wrong with an item itself. -/
noncomputable def wrn (x : S50) (d : Int) : Int :=
  if x.f0.toList = [] then
    if x.f3.toList = [] then 24 else if d ≥ 8 then 5 else if nameV x.f3 = true ∧ x.f1.toList = [] ∧ x.f2.toList = [] then 0 else 4
  else if tagV x.f0 = true ∧ (x.f1.toList = [] ∨ qualV x.f1 = true) ∧ x.f3.toList = [] ∧ x.f4 = [] then textV x.f2 (x.f1.toList != []) else 4
theorem wrong_is (x : S50) (d : Int) (h1 : x.f1.size ≤ 140737488351232) (h2 : x.f2.size ≤ 140737488351232) (h3 : x.f3.size ≤ 140737488351232) :
    ∃ k, custodyref06_wrong.f k x.f0 x.f1 x.f2 x.f3 x.f4 d = some (wrn x d) := by
  refine ⟨2 * (x.f1.size + x.f2.size + x.f3.size) + 50, ?_⟩
  have a0 := (tagV_is x.f0 (2 * (x.f1.size + x.f2.size + x.f3.size) + 50) (by omega)).2
  have a1 := (qualV_is x.f1 (by omega) (2 * (x.f1.size + x.f2.size + x.f3.size) + 50) (by omega)).2
  have a3 := (nameV_is x.f3 (by omega) (2 * (x.f1.size + x.f2.size + x.f3.size) + 50) (by omega)).2
  have a2 := ((textV_is x.f2 (x.f1.toList != []) (by omega)).2 (2 * (x.f1.size + x.f2.size + x.f3.size) + 50) (by omega)).1
  have hl : ((x.f4.length : Int) > 0) ↔ ¬ x.f4 = [] := by
    cases x.f4 <;> simp
  unfold custodyref06_wrong.f wrn
  rw [a0, a1, a2, a3]
  simp only [Option.bind_some, hl]
  split
  · split
    · rfl
    · split
      · rfl
      · cases nameV x.f3 <;> simp
        by_cases q1 : x.f1.toList = [] <;> by_cases q2 : x.f2.toList = [] <;> simp [q1, q2]
  · cases tagV x.f0 <;> cases qualV x.f1 <;> simp
    all_goals (repeat' split) <;> simp_all
end Go.Proofs.YtjnpfkjplpkfjaaDoor.Tg

/- What a lent message is: plain law of fullItems; the walk of LentItems. -/
import Derived.Test.YtjnpfkjplpkfjaaDoorTgSame
namespace Go.Proofs.YtjnpfkjplpkfjaaDoor.Tg
open Go.RowKit Go.Proofs.YtjnpfkjplpkfjaaDoorW.PrintWords Go.Proofs.YtjnpfkjplpkfjaaDoorW.PrintLast Go.Proofs.YtjnpfkjplpkfjaaDoorW.PrintMore Go.Proofs.YtjnpfkjplpkfjaaDoor.PTagsPrint
set_option linter.unusedVariables false

def endI : S50 := ⟨⟨#[35, 101, 110, 100]⟩, ⟨#[]⟩, ⟨#[]⟩, ⟨#[]⟩, []⟩
mutual
def fuI : S50 → S50
  | ⟨_, _, _, _, l⟩ => ⟨⟨#[35, 102, 117, 108, 108]⟩, ⟨#[]⟩, ⟨#[]⟩, ⟨#[]⟩, l ++ fuL l ++ [endI]⟩
def fuL : List S50 → List S50
  | [] => []
  | x :: xs => fuI x :: fuL xs
end
def full (l : List S50) : List S50 := l ++ fuL l ++ [endI]
theorem fuI_eq (x : S50) : fuI x = ⟨⟨#[35, 102, 117, 108, 108]⟩, ⟨#[]⟩, ⟨#[]⟩, ⟨#[]⟩, full x.f4⟩ := by cases x; rfl
theorem fuL_len (l : List S50) : (fuL l).length = l.length := by
  induction l with
  | nil => rfl
  | cons x l ih => simp [fuL, ih]
theorem full_len (l : List S50) : (full l).length = 2 * l.length + 1 := by simp [full, fuL_len]; omega
theorem full_take (l : List S50) : (full l).take l.length = l := by simp [full]
theorem full_l0 : ∀ (d : Nat) (l xs ys : List S50) (i : Int) (k : Nat), 0 ≤ i → i ≤ l.length → cnt (l.drop i.toNat) ≤ d → xs.length + ys.length + 2 * l.length ≤ 100000000 + 2 * i → l.length ≤ 1000000 → d ≤ 1000000 → 2 * d + 1 < k →
    custodykit_fullItems.l0 k l xs ys i = some (xs ++ l.drop i.toNat ++ (ys ++ fuL (l.drop i.toNat)) ++ [endI]) := by
  intro d
  induction d with
  | zero =>
    intro l xs ys i k h0 h1 hc hs hl hd hk
    obtain ⟨k, rfl⟩ : ∃ m, k = m + 1 := ⟨k - 1, by omega⟩
    have hn : ¬ i < (l.length : Int) := fun h => by rw [drop_rd l i h0 h, cnt_cons] at hc; omega
    rw [drop_end l i hn, custodykit_fullItems.l0, if_neg hn, if_pos (by omega)]
    simp only [Option.bind_some]
    rw [if_pos (by rw [List.length_append]; omega)]
    simp [fuL, endI]
  | succ d ih =>
    intro l xs ys i k h0 h1 hc hs hl hd hk
    obtain ⟨k, rfl⟩ : ∃ m, k = m + 1 := ⟨k - 1, by omega⟩
    by_cases hlt : i < (l.length : Int)
    · have hdr := drop_rd l i h0 hlt
      rw [hdr, cnt_cons] at hc
      obtain ⟨k, rfl⟩ : ∃ m, k = m + 1 := ⟨k - 1, by omega⟩
      have hsub := cnt_len (rd_T50 l i).f4
      have h := ih (rd_T50 l i).f4 [] [] 0 k (by omega) (by omega) (by simp; omega) (by simp; omega) (by omega) (by omega) (by omega)
      simp only [Int.toNat_zero, List.drop_zero, List.nil_append] at h
      have h2 := ih l (xs ++ [rd_T50 l i]) (ys ++ [fuI (rd_T50 l i)]) (i + 1) (k + 1) (by omega) (by omega) (by omega) (by simp; omega) hl (by omega) (by omega)
      rw [custodykit_fullItems.l0, if_pos hlt, if_pos h0]
      simp only [custodykit_fullItems.f, h, Option.bind_some]
      rw [if_pos (by omega), if_pos (by simp [fuL_len]; omega), if_pos (by omega), if_pos (by omega), show wrap64 (i + 1) = i + 1 by unfold wrap64; omega]
      have e1 : ((rd_T50 l i).f4 ++ fuL (rd_T50 l i).f4 ++ [endI]).take (((rd_T50 l i).f4.length : Int)).toNat = (rd_T50 l i).f4 := by simp
      rw [e1]
      have e2 := fuI_eq (rd_T50 l i)
      unfold full at e2
      rw [← e2]
      rw [show (⟨(rd_T50 l i).f0, (rd_T50 l i).f1, (rd_T50 l i).f2, (rd_T50 l i).f3, (rd_T50 l i).f4⟩ : S50) = rd_T50 l i by cases rd_T50 l i; rfl]
      rw [h2, hdr, fuL]
      simp
    · rw [drop_end l i hlt, custodykit_fullItems.l0, if_neg hlt, if_pos (by omega)]
      simp only [Option.bind_some]
      rw [if_pos (by rw [List.length_append]; omega)]
      simp [fuL, endI]
theorem full_f (l : List S50) (h : cnt l ≤ 1000000) : custodykit_fullItems.f (2 * cnt l + 3) l = some (full l) := by
  have := cnt_len l
  simp only [custodykit_fullItems.f]
  rw [full_l0 (cnt l) l [] [] 0 (2 * cnt l + 2) (by omega) (by omega) (by simp) (by simp; omega) (by omega) h (by omega)]
  simp [full]

/-- A lent message lies there: the list itself, and behind it what shows a change. -/
def Lent (w : World) (A : Option Addr) (n c : Nat) (l : List S50) : Prop := n = l.length ∧ 2 * l.length + 1 ≤ c ∧ Kd.C k50 w A (full l).length (full l)
set_option maxHeartbeats 1000000 in
theorem Lent_calls (w : World) (l : List S50) (A : Option Addr) (c : Nat) (hC : Kd.C k50 w A l.length l) (hc : l.length ≤ c) (hm : cnt l ≤ 1000000) :
    Calls Tryd.prog 6 #[.slice A l.length c] w fun e w' => ∃ A' n' c', e = .returned (.slice A' n' c') ∧ Lent w' A' n' c' l ∧ Below w.heap.size w w' := by
  have hlen := cnt_len l
  go_enter Tryd.func6, Tryd.ntmps6
  go_wp2_with fail
  refine (custodykit_fullItems.calls _ A c l (full l) w hC hc (full_f l hm)).mono ?_
  rintro e w1 ⟨v, rfl, hN, hB⟩
  obtain ⟨A1, c1, rfl⟩ := Kd.N_slice hN
  obtain ⟨_, hc1, hr⟩ := Kd.N_reads' hN
  have hfl := full_len l
  obtain ⟨i0, hi0, _, hsz, _⟩ := info_parts info50
  have hcut := cut_to (P := Tryd.prog) 22 50 .i64 Tryd.underlying22 hi0 A1 (full l).length c1 (l.length : Int) (by omega) (by omega) hc1
  have HR := Aside0.mk hr
  have HB := Aside0.mk hB
  have HC1 := Lib.hid hc1
  have HF := Lib.hid hfl
  clear hr hB hN hc1 hfl hi0 hsz
  go_wp2
  go_ret
  exact ⟨_, _, _, rfl, ⟨by omega, by have := HC1.out; have := HF.out; omega, HR.out⟩, HB.out⟩
theorem Lent.reads {w : World} {A : Option Addr} {n c : Nat} {l : List S50} (h : Lent w A n c l) : Kd.C k50 w A l.length l := by
  have h1 := Kd.C_take (m := l.length) h.2.2 (by rw [full_len]; omega)
  rw [full_take] at h1
  exact h1
theorem Lent.below {w w' : World} {A : Option Addr} {n c : Nat} {l : List S50} (h : Lent w A n c l) (hb : Below w.heap.size w w') : Lent w' A n c l := ⟨h.1, h.2.1, Kd.C_below h.2.2 hb⟩
end Go.Proofs.YtjnpfkjplpkfjaaDoor.Tg

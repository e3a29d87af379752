/- KeptItems, tags.Print, and the law. -/
import Derived.Test.YtjnpfkjplpkfjaaDoorTgKept
import Derived.Test.YtjnpfkjplpkfjaaDoorTgWrite
namespace Go.Proofs.YtjnpfkjplpkfjaaDoor.Tg
open Go.RowKit Go.Proofs.YtjnpfkjplpkfjaaDoorW.PrintWords Go.Proofs.YtjnpfkjplpkfjaaDoorW.PrintLast Go.Proofs.YtjnpfkjplpkfjaaDoorW.PrintMore Go.Proofs.YtjnpfkjplpkfjaaDoor.PTagsPrint
set_option linter.unusedVariables false

def Printed (r : Out) (s : ByteArray) (E : Value) : Prop := match r with
  | .ok b => s.toList = b ∧ E = .nilIface
  | .error n => s = ⟨#[]⟩ ∧ Err.ErrOf E n ∧ n ≠ 0
def PrintPost (w : World) (r : Out) (e : Ending) (w' : World) : Prop := ∃ s E, e = .returned (.tuple #[.string s, E]) ∧ Below w.heap.size w w' ∧ Printed r s E
theorem nat_back (b : List UInt8) : (strOfNums (nat b)).toList = b := by
  rw [ByteArray.toList_eq]
  simp [strOfNums, nat, Function.comp_def]

set_option maxHeartbeats 4000000 in
set_option maxRecDepth 100000 in
theorem print_calls (w : World) (l : List S50) (A : Option Addr) (c : Nat) (hC : Kd.C k50 w A l.length l) (hc : l.length ≤ c) (ho : okL l) (hm : room l ≤ 1073741824) :
    Calls Tryd.prog 7 #[.slice A l.length c] w (PrintPost w (whole (lnL l 0))) := by
  go_enter Tryd.func7, Tryd.ntmps7
  go_wp2_with fail
  refine (write_calls w (cnt l) l A c 0 (Nat.le_refl _) hC hc ho hm (by omega) (by omega) w (.slice none 0 0) [] (Row.nil _ _) (Below.refl _ _) (by simp; omega)).mono ?_
  rintro e w1 ⟨v, E, rfl, hB, _, hw⟩
  have HB := Aside0.mk hB
  clear hB
  cases hr : lnL l 0 with
  | error n =>
    rw [hr] at hw
    obtain ⟨hE, rfl, hn⟩ := hw
    have HE := Lib.hid hE
    have HR := Lib.hid hr
    obtain ⟨ti, u, rfl⟩ := Err.ErrOf.iface hE
    clear hE hr hC ho hm
    go_wp2
    go_ret2
    refine ⟨_, _, rfl, HB.out, ?_⟩
    rw [HR.out]
    exact ⟨rfl, HE.out, hn⟩
  | ok b =>
    rw [hr] at hw
    obtain ⟨rfl, hR⟩ := hw
    have HR := Lib.hid hr
    have HW := Lib.hid hR
    have hl := lnL_len (cnt l) l 0 b (Nat.le_refl _) hr
    have hR0 : Row w.heap.size w1 v (nat b) := by simpa using hR
    obtain ⟨A1, c1, rfl⟩ := Kd.R_slice (Kd.R_of_own (enc := Value.int .u8) (h1 := fun _ => rfl) hR0 (fun _ _ => trivial))
    have hcv := own_string (P := Tryd.prog) Tryd.underlying36 Tryd.underlying5 Tryd.underlying9 hR0
    have hbk := nat_back b
    have HBK := Lib.hid hbk
    have hnl := nat_len b
    have HL := Lib.hid hnl
    clear hr hC ho hR hR0 hbk
    by_cases hbig : 1048576 < b.length
    · have b1 : decide (1048576 < ((nat b).length : Int)) = true := by rw [hnl]; exact decide_eq_true (by omega)
      have b2 : decide (1048576 < (nat b).length) = true := by rw [hnl]; exact decide_eq_true hbig
      clear hnl
      go_wp2
      go_ret2
      refine ⟨_, _, rfl, HB.out, ?_⟩
      rw [HR.out]
      simp only [whole]
      rw [if_pos hbig]
      exact ⟨rfl, .inr rfl, by decide⟩
    · have b1 : decide (1048576 < ((nat b).length : Int)) = false := by rw [hnl]; exact decide_eq_false (by omega)
      have b2 : decide (1048576 < (nat b).length) = false := by rw [hnl]; exact decide_eq_false hbig
      clear hnl
      go_wp2
      go_ret2
      refine ⟨_, _, rfl, HB.out, ?_⟩
      rw [HR.out]
      simp only [whole]
      rw [if_neg hbig]
      exact ⟨HBK.out, rfl⟩

section
variable {P : Program}
theorem cut_cap (t e : TypeId) (kh : IntKind) {i : TypeInfo} (ht : P.underlying t = some (.slice e)) (hi : P.info? e = some i) (A : Option Addr) (n c : Nat) (j : Int) (h0 : 0 ≤ j) (hc : j ≤ c) :
    ∀ W : World, (Instr.slice t (.slice A n c) none (some (.int kh j)) none).run P W = .ok (.slice A j.toNat c) W := by
  intro W
  have hel : P.elem t = e := by simp [Program.elem, ht]
  have hu : P.underlying t = some (.slice (P.elem t)) := by rw [hel]; exact ht
  have ha : (A.map fun x => x.add 0) = A := by cases A <;> simp [Addr.add]
  rw [run_slice_h W t A n c hu kh j h0 (by omega), hel]
  simp [sizeOf, typeInfo, hi, sliced, Result.andThen, ha]
end
set_option maxHeartbeats 4000000 in
set_option maxRecDepth 100000 in
theorem KeptItems_calls (w : World) (l : List S50) (A B : Option Addr) (n c cB : Nat) (h : Lent w A n c l) (hC : Kd.C k50 w B l.length l) (hcB : l.length ≤ cB) (hm : cnt l ≤ 1000000) :
    Calls Tryd.prog 9 #[.slice A n c, .slice B l.length cB] w fun e w' => e = .returned (.bool true) ∧ Below w.heap.size w w' := by
  obtain ⟨rfl, hcap, hA⟩ := h
  have hlen := cnt_len l
  obtain ⟨i0, hi0, _, hsz, _⟩ := info_parts info50
  have hcut := cut_cap (P := Tryd.prog) 22 50 .i64 Tryd.underlying22 hi0 A l.length c (2 * (l.length : Int) + 1) (by omega) (by omega)
  have b0 : ((l.length : Int) != (l.length : Int)) = false := by simp
  have HA := Aside0.mk hA
  have HC := Aside0.mk hC
  have hfl := full_len l
  have HF := Lib.hid hfl
  clear hA hC hi0 hsz hfl
  go_enter Tryd.func9, Tryd.ntmps9
  go_wp2_with fail
  rw [show 2 * l.length + 1 = (full l).length from HF.out.symm]
  refine (kept_calls (cnt l) l A B c cB _ (Nat.le_refl _) HA.out HC.out (by rw [HF.out]; omega) hcB hm).mono ?_
  rintro e w1 ⟨rfl, hB⟩
  have HB := Aside0.mk hB
  clear hB
  go_wp2
  go_ret
  exact ⟨rfl, HB.out⟩

theorem lnL_no : ∀ (n : Nat) (l : List S50) (d e : Int), cnt l ≤ n → okL l → lnL l d = .error e → 1 ≤ e ∧ e ≤ 24 := by
  intro n
  induction n with
  | zero =>
    intro l d e hn ho h
    cases l with
    | nil => cases h
    | cons x l => rw [cnt_cons] at hn; omega
  | succ n ih =>
    intro l d e hn ho h
    cases l with
    | nil => cases h
    | cons x l =>
      rw [cnt_cons] at hn
      rw [okL_cons] at ho
      cases hx : lnI x d with
      | ok b =>
        rw [lnL_ok hx] at h
        cases hl : lnL l d with
        | ok c => rw [hl] at h; cases h
        | error e' =>
          rw [hl] at h
          cases h
          exact ih l d _ (by omega) ho.2 hl
      | error e' =>
        rw [lnL_err hx] at h
        cases h
        rw [lnI_eq] at hx
        split at hx
        · split at hx
          · cases hb : lnL x.f4 (d + 1) with
            | ok c => rw [hb] at hx; cases hx
            | error e2 =>
              rw [hb] at hx
              cases hx
              exact ih x.f4 (d + 1) _ (by omega) ho.1.2.2.2.2 hb
          · cases hx
        · cases hx
          have := wrn_pos x d ho.1.2.2.1
          omega
theorem whole_no {l : List S50} {e : Int} (ho : okL l) (h : whole (lnL l 0) = .error e) : 1 ≤ e ∧ e ≤ 24 := by
  cases hl : lnL l 0 with
  | ok b =>
    rw [hl] at h
    simp only [whole] at h
    split at h
    · cases h; omega
    · cases h
  | error n =>
    rw [hl] at h
    cases h
    exact lnL_no (cnt l) l 0 _ (Nat.le_refl _) ho hl
theorem list_inj {a b : ByteArray} (h : a.toList = b.toList) : a = b := by
  rw [ByteArray.toList_eq, ByteArray.toList_eq] at h
  exact Go.WideShapes.bytes_inj h

set_option maxHeartbeats 4000000 in
set_option maxRecDepth 100000 in
theorem law_calls (w : World) (l : List S50) (A : Option Addr) (c : Nat) (hC : Kd.C k50 w A l.length l) (hc : l.length ≤ c) (ho : okL l)
    (hg : w.cell? ⟨0, 0, none⟩ = some (.iface 76 (.agg #[.pointer (some ⟨1, 28, none⟩)]))) :
    Calls Tryd.prog 3 #[.slice A l.length c] w fun e w' => e = .returned (.bool true) ∧ Below w.heap.size w w' := by
  have HC := Aside0.mk hC
  have HO := Lib.hid ho
  have HG := Lib.hid hg
  clear hC ho hg
  go_enter Tryd.func3, Tryd.ntmps3
  go_wp2_with fail
  refine (few_calls w l A c HC.out hc HO.out).mono ?_
  rintro e w1 ⟨b, rfl, hB1, hb⟩
  cases b with
  | false =>
    have HB1 := Aside0.mk hB1
    clear hB1 hb
    go_wp2
    go_ret
    exact ⟨rfl, HB1.out⟩
  | true =>
    obtain ⟨hcnt, hby⟩ := hb rfl
    have hroom : room l ≤ 1073741824 := by unfold room; omega
    have HB1 := Aside0.mk hB1
    clear hB1 hb
    go_wp2_with fail
    refine (refPrint_calls l A c w1 (Kd.C_below HC.out HB1.out) hc HO.out hroom).mono ?_
    rintro e w2 ⟨s, no, rfl, hB2, hs⟩
    have HS := Lib.hid hs
    have HB2 := Aside0.mk (below_step HB1.out hB2)
    clear hB2 HB1 hs
    go_wp2_with fail
    refine (Lent_calls w2 l A c (Kd.C_below HC.out HB2.out) hc (by omega)).mono ?_
    rintro e w3 ⟨A3, n3, c3, rfl, hL, hB3⟩
    obtain rfl : n3 = l.length := hL.1
    have HL := Lib.hid hL
    have HB3 := Aside0.mk (below_step HB2.out hB3)
    clear hL hB3 HB2
    go_wp2_with fail
    refine (print_calls w3 l A3 c3 HL.out.reads (by have := HL.out.2.1; omega) HO.out hroom).mono ?_
    rintro e w4 ⟨s2, E, rfl, hB4, hp⟩
    have HL4 := Lib.hid (HL.out.below hB4)
    have HB4 := Aside0.mk (below_step HB3.out hB4)
    have HP := Lib.hid hp
    clear hB4 HB3 HL hp
    have hs2 : s2 = s ∧ ((E = .nilIface ∧ no = 0) ∨ (Err.ErrOf E no ∧ 1 ≤ no ∧ no ≤ 24)) := by
      have h1 := HS.out
      have h2 := HP.out
      cases hr : whole (lnL l 0) with
      | ok b =>
        rw [hr] at h1 h2
        exact ⟨list_inj (h2.1.trans h1.1.symm), .inl ⟨h2.2, h1.2⟩⟩
      | error n =>
        have h3 := whole_no HO.out hr
        rw [hr] at h1 h2
        obtain ⟨rfl, rfl, _⟩ := h1
        exact ⟨h2.1, .inr ⟨h2.2.1, h3⟩⟩
    obtain ⟨rfl, hE⟩ := hs2
    have b0 : (s2.toList == s2.toList) = true := by simp
    have hplain : Calls Tryd.prog 8 #[E, .int .i64 no] w4 fun e w' => e = .returned (.bool true) ∧ Below w4.heap.size w4 w' := by
      rcases hE with ⟨rfl, rfl⟩ | ⟨h1, h2, h3⟩
      · exact Err.Plain_nil 0 w4
      · refine (Err.Plain_of h1 h2 h3 no w4 ((HB4.out.cell (World.block_lt_of_cell? w _ HG.out)).trans HG.out)).mono ?_
        rintro e w' ⟨rfl, h⟩
        exact ⟨by simp, h⟩
    have HPL := Lib.hid hplain
    clear hE hplain HS HP
    go_wp2_with fail
    refine HPL.out.mono ?_
    rintro e w5 ⟨rfl, hB5⟩
    have HL5 := Lib.hid (HL4.out.below hB5)
    have HB5 := Aside0.mk (below_step HB4.out hB5)
    clear hB5 HB4 HL4 HPL
    go_wp2_with fail
    refine (KeptItems_calls w5 l A3 A l.length c3 c HL5.out (Kd.C_below HC.out HB5.out) hc (by omega)).mono ?_
    rintro e w6 ⟨rfl, hB6⟩
    have HB6 := Aside0.mk (below_step HB5.out hB6)
    clear hB6 HB5 HL5
    go_wp2
    go_ret
    exact ⟨rfl, HB6.out⟩
end Go.Proofs.YtjnpfkjplpkfjaaDoor.Tg

/- The walk of writeBlock. -/
import Derived.Test.YtjnpfkjplpkfjaaDoorTgRow
import Derived.Test.YtjnpfkjplpkfjaaDoorAs
import Derived.Test.YtjnpfkjplpkfjaaDoorTgWrong
import Derived.Deep.DeepCutAuto
import Derived.Deep.DrawnRows
namespace Go.Proofs.YtjnpfkjplpkfjaaDoor.Tg
open Go.RowKit Go.Proofs.YtjnpfkjplpkfjaaDoorW.PrintWords Go.Proofs.YtjnpfkjplpkfjaaDoorW.PrintLast Go.Proofs.YtjnpfkjplpkfjaaDoorW.PrintMore Go.Proofs.YtjnpfkjplpkfjaaDoor.PTagsPrint
set_option linter.unusedVariables false

def nat (b : List UInt8) : List Int := b.map fun x => (x.toNat : Int)
theorem nat_app (a b : List UInt8) : nat (a ++ b) = nat a ++ nat b := by simp [nat]
theorem nat_len (a : List UInt8) : (nat a).length = a.length := by simp [nat]
theorem bytesOf_nat (s : ByteArray) : bytesOf s = nat s.toList := by rw [ByteArray.toList_eq]; rfl
def Wrote (base : Nat) (xs : List Int) (r : Out) (v E : Value) (w' : World) : Prop := match r with
  | .ok b => E = .nilIface ∧ Row base w' v (xs ++ nat b)
  | .error n => Err.ErrOf E n ∧ v = .slice none 0 0 ∧ n ≠ 0
def WrPost (W0 w : World) (xs : List Int) (r : Out) (e : Ending) (w' : World) : Prop :=
  ∃ v E, e = .returned (.tuple #[v, E]) ∧ Below W0.heap.size W0 w' ∧ Oth w w' ∧ Wrote W0.heap.size xs r v E w'
theorem Row.drewN {base : Nat} {w : World} {v : Value} {xs : List Int} (h : Row base w v xs) (n : Nat) : Row base (w.drewN n) v xs := by
  have h2 : Kd.R (Kd.int .u8) 5 w base (fun _ => True) v xs := Kd.R_of_own (enc := Value.int .u8) h (fun _ _ => trivial)
  exact Kd.own_of_R (enc := Value.int .u8) (by (with_reducible repeat (first | apply Kd.R_drewN | apply Kd.R_drew)); exact h2)

theorem str_ne {s : ByteArray} (h : ¬ s.toList = []) : (s.toList == ([] : List UInt8)) = false ∧ (s.toList != ([] : List UInt8)) = true ∧ s.toList.isEmpty = false := by simp [h]
theorem str_eq {s : ByteArray} (h : s.toList = []) : (s.toList == ([] : List UInt8)) = true ∧ (s.toList != ([] : List UInt8)) = false ∧ s.toList.isEmpty = true := by simp [h]
theorem wrote_err (base : Nat) (xs : List Int) {E : Value} {n : Int} (w : World) (h : Err.ErrOf E n) (hn : n ≠ 0) : Wrote base xs (.error n) (.slice none 0 0) E w := ⟨h, rfl, hn⟩

set_option maxHeartbeats 8000000 in
set_option maxRecDepth 100000 in
theorem block_calls (W0 : World) (x : S50) (A4 : Option Addr) (c4 : Nat) (d : Int) (w : World) (v : Value) (xs : List Int)
    (ih : d < 8 → ∀ (w : World) (v : Value) (xs : List Int), Row W0.heap.size w v xs → Below W0.heap.size W0 w → xs.length + room x.f4 ≤ 2147483648 → Calls Tryd.prog 15 #[v, .slice A4 x.f4.length c4, .int .i64 (d + 1)] w (WrPost W0 w xs (lnL x.f4 (d + 1))))
    (ho : okI x) (htag : x.f0.toList = []) (hR : Row W0.heap.size w v xs) (hB : Below W0.heap.size W0 w) (hm : xs.length + 2 * x.f3.size + 32 + room x.f4 ≤ 2147483648) (hd0 : 0 ≤ d) (hd1 : d ≤ 8) :
    Calls Tryd.prog 21 #[v, .agg #[.string x.f0, .string x.f1, .string x.f2, .string x.f3, .slice A4 x.f4.length c4], .int .i64 d] w (WrPost W0 w xs (lnI x d)) := by
  have HO := Lib.hid ho
  have IH := Lib.hid ih
  have HT := Lib.hid htag
  have HR := Lib.hid hR
  have HB := Aside0.mk hB
  have HM := Lib.hid hm
  have hu := Tryd.underlying50
  clear ho ih htag hR hB hm
  go_enter Tryd.func21, Tryd.ntmps21
  have hwr : wrn x d = if x.f3.toList = [] then 24 else if d ≥ 8 then 5 else if nameV x.f3 = true ∧ x.f1.toList = [] ∧ x.f2.toList = [] then 0 else 4 := by
    unfold wrn
    rw [if_pos HT.out]
  have HW := Lib.hid hwr
  clear hwr
  by_cases hn : x.f3.toList = []
  · obtain ⟨n1, n2, n3⟩ := str_eq hn
    have hr : lnI x d = .error 24 := by
      have : wrn x d = 24 := by rw [HW.out, if_pos hn]
      rw [lnI_eq, this]
      rfl
    have HR2 := Lib.hid hr
    clear hr
    go_wp2
    go_ret2
    refine ⟨_, _, rfl, below_alloc HB.out _, Oth.al _ _, ?_⟩
    rw [HR2.out]
    exact wrote_err _ _ _ (.inl rfl) (by decide)
  · obtain ⟨n1, n2, n3⟩ := str_ne hn
    by_cases h8 : 8 ≤ d
    · have b8 : decide (8 ≤ d) = true := decide_eq_true h8
      have hr : lnI x d = .error 5 := by
        have : wrn x d = 5 := by rw [HW.out, if_neg hn, if_pos h8]
        rw [lnI_eq, this]
        rfl
      have HR2 := Lib.hid hr
      clear hr
      go_wp2
      go_ret2
      refine ⟨_, _, rfl, below_alloc HB.out _, Oth.al _ _, ?_⟩
      rw [HR2.out]
      exact wrote_err _ _ _ (.inr rfl) (by decide)
    · have b8 : decide (8 ≤ d) = false := decide_eq_false h8
      have hsz : x.f3.size ≤ 140737488355328 := by have := HO.out; rw [okI_eq] at this; omega
      obtain ⟨hnm, _⟩ := nameV_is x.f3 hsz (x.f3.size + 6) (by omega)
      have HNM := Lib.hid hnm
      clear hnm
      go_wp2_with fail
      refine (tags_isName.calls _ x.f3 _ _ HNM.out).mono ?_
      rintro e w1 ⟨rfl, ⟨nd, rfl⟩⟩
      have hk0 : ((w.alloc (.cells #[.string x.f0, .string x.f1, .string x.f2, .string x.f3, .slice A4 x.f4.length c4] 50)).drewN nd).heap[w.heap.size]? = some (.cells #[.string x.f0, .string x.f1, .string x.f2, .string x.f3, .slice A4 x.f4.length c4] 50 (0, 0)) := blk_drewN (by simpa using heap_alloc_new w _) nd
      have hB1 : Below W0.heap.size W0 ((w.alloc (.cells #[.string x.f0, .string x.f1, .string x.f2, .string x.f3, .slice A4 x.f4.length c4] 50)).drewN nd) := pw_below_drewN (below_alloc HB.out _) nd
      have hR1 : Row W0.heap.size ((w.alloc (.cells #[.string x.f0, .string x.f1, .string x.f2, .string x.f3, .slice A4 x.f4.length c4] 50)).drewN nd) v xs := (HR.out.alloc _).drewN nd
      have hg : W0.heap.size ≤ w.heap.size := below_size HB.out
      have ho : Oth w ((w.alloc (.cells #[.string x.f0, .string x.f1, .string x.f2, .string x.f3, .slice A4 x.f4.length c4] 50)).drewN nd) := Oth.al _ _
      clear HR HB HNM
      generalize ((w.alloc (.cells #[.string x.f0, .string x.f1, .string x.f2, .string x.f3, .slice A4 x.f4.length c4] 50)).drewN nd) = w1 at *
      generalize w.heap.size = g at *
      have hy1 : w1.cell? ⟨g, 1, none⟩ = some (.string x.f1) := (blk_cell hk0 1).trans rfl
      have hy2 : w1.cell? ⟨g, 2, none⟩ = some (.string x.f2) := (blk_cell hk0 2).trans rfl
      have hy3 : w1.cell? ⟨g, 3, none⟩ = some (.string x.f3) := (blk_cell hk0 3).trans rfl
      have hy4 : w1.cell? ⟨g, 4, none⟩ = some (.slice A4 x.f4.length c4) := (blk_cell hk0 4).trans rfl
      have HK := Aside0.mk hk0
      have HB := Aside0.mk hB1
      have HR := Lib.hid hR1
      have HG := Lib.hid hg
      have HH := Lib.hid ho
      clear hk0 hB1 hR1 hg ho
      by_cases hgood : nameV x.f3 = true ∧ x.f1.toList = [] ∧ x.f2.toList = []
      · obtain ⟨q1, q2, q3⟩ := hgood
        rw [q1]
        obtain ⟨m1, m2, m3⟩ := str_eq q2
        obtain ⟨o1, o2, o3⟩ := str_eq q3
        have hr : lnI x d = blockOf x.f3 (lnL x.f4 (d + 1)) := by
          have : wrn x d = 0 := by rw [HW.out, if_neg hn, if_neg (by omega), if_pos ⟨q1, q2, q3⟩]
          rw [lnI_eq, this, if_pos rfl, if_pos HT.out]
        have HR2 := Lib.hid hr
        clear hr q1
        have hlen : xs.length + x.f3.size + 100 ≤ 140737488355328 := by have := HM.out; omega
        have h5 := info5
        go_wp2_with fail
        go_cut [0] (fun v0 wc => Row W0.heap.size wc v0 (xs ++ bytesOf ⟨#[58, 49, 54, 82, 58]⟩ ++ bytesOf x.f3 ++ [10]) ∧ Below W0.heap.size W0 wc ∧ Oth w wc ∧ wc.heap[g]? = some (.cells #[.string x.f0, .string x.f1, .string x.f2, .string x.f3, .slice A4 x.f4.length c4] 50 (0, 0)))
        case first =>
          have hR0 := HR.out
          have e5 : (⟨#[58, 49, 54, 82, 58]⟩ : ByteArray).size = 5 := rfl
          have hB0 := HB.out
          go_region_held3 (fun w' => w'.cell? ⟨g, 3, none⟩ = some (.string x.f3)) (first | assumption | go_keep)
            (first
              | ((refine row_str_step W0 (by rfl) (.tmp 35) _ 36 9 (by rfl) Tryd.underlying36 Tryd.underlying9 h5 v xs ⟨#[58, 49, 54, 82, 58]⟩ (by rfl) (by rfl) (by first | exact hR0.drew | exact hR0.drew.alloc _) (by first | exact below_drew1 hB0 | exact below_alloc (below_drew1 hB0) _) (by omega) ?_); intro v1 w2 hR1 hB1 hg1 hL1; have hk1 := hg1.2 _ _ _ (by first | exact HK.out | exact blk_alloc HK.out _) (by decide); have hc1 := (blk_cell hk1 3).trans rfl)
              | ((refine row_str_step W0 (by rfl) (.tmp 36) _ 36 9 (by rfl) Tryd.underlying36 Tryd.underlying9 h5 v1 (xs ++ bytesOf ⟨#[58, 49, 54, 82, 58]⟩) x.f3 (by rfl) (by rfl) (by first | exact hR1 | exact hR1.alloc _) (by first | exact hB1 | exact below_alloc hB1 _) (by simp only [List.length_append, bytesOf_length]; omega) ?_); intro v2 w3 hR2 hB2 hg2 hL2; have hk2 := hg2.2 _ _ _ (by first | exact hk1 | exact blk_alloc hk1 _) (by decide); have hc2 := (blk_cell hk2 3).trans rfl)
              | ((refine row_byte_step W0 (by rfl) (.tmp 39) (.tmp 40) 36 (by rfl) Tryd.underlying36 h5 v2 (xs ++ bytesOf ⟨#[58, 49, 54, 82, 58]⟩ ++ bytesOf x.f3) _ 10 (by rfl) (by rfl) (by first | exact (Lit.new hR2 10).1 | exact (hL2 (by simp only [List.length_append, bytesOf_length]; omega) _ _ (Lit.new hR1 10)).1 | exact (hL2 (by simp only [List.length_append, bytesOf_length]; omega) _ _ (hL1 (by omega) _ _ (Lit.new hR0.drew 10))).1) (by first | exact hR2 | exact hR2.alloc _) (by first | exact hB2 | exact below_alloc hB2 _) (by simp only [List.length_append, bytesOf_length]; omega) ?_); intro v3 w4 hR3 hB3 hg3 hL3; have hk3 := hg3.2 _ _ _ (by first | exact hk2 | exact blk_alloc hk2 _) (by decide); have hc3 := (blk_cell hk3 3).trans rfl))
          all_goals
            go_wp2_with fail
            go_meet
            case rel =>
              have o1 : Oth w1 w2 := by first | exact hg1 | exact (Oth.al _ _).trans hg1
              have o2 : Oth w2 w3 := by first | exact hg2 | exact (Oth.al _ _).trans hg2
              have o3 : Oth w3 w4 := by first | exact hg3 | exact (Oth.al _ _).trans hg3
              exact ⟨hR3, hB3, HH.out.trans (o1.trans (o2.trans o3)), hk3⟩
        case rest =>
          obtain ⟨hR0, hB0, ho0, hk0⟩ := hcut
          have hz4 : wc.cell? ⟨g, 4, none⟩ = some (.slice A4 x.f4.length c4) := (blk_cell hk0 4).trans rfl
          have hz3 : wc.cell? ⟨g, 3, none⟩ = some (.string x.f3) := (blk_cell hk0 3).trans rfl
          have HR0 := Lib.hid hR0
          have HB0 := Aside0.mk hB0
          have HK0 := Aside0.mk hk0
          have HH0 := Lib.hid ho0
          clear ho0 HH hR0 hB0 hk0 hy1 hy2 hy3 hy4 HR HK HB
          go_wp2_with fail
          refine (IH.out (by omega) _ _ _ HR0.out HB0.out (by have := HM.out; simp only [List.length_append, bytesOf_length, List.length_cons, List.length_nil]; have : (⟨#[58, 49, 54, 82, 58]⟩ : ByteArray).size = 5 := rfl; omega)).mono ?_
          rintro e w2 ⟨vb, E, rfl, hBb, hob, hwr⟩
          have hob2 := HH0.out.trans hob
          have hkb0 := hob.2 _ _ _ HK0.out (by decide)
          have HKb := Aside0.mk hkb0
          have HHb := Lib.hid hob2
          clear hob hob2 hkb0
          cases hrr : lnL x.f4 (d + 1) with
          | error no =>
            rw [hrr] at hwr
            obtain ⟨hE, rfl, hno⟩ := hwr
            have HE := Lib.hid hE
            have HBb := Aside0.mk hBb
            obtain ⟨t, u, rfl⟩ := Err.ErrOf.iface hE
            clear hE hBb
            go_wp2
            go_ret2
            refine ⟨_, _, rfl, HBb.out, HHb.out, ?_⟩
            rw [HR2.out, hrr]
            exact wrote_err _ _ _ HE.out hno
          | ok b =>
            rw [hrr] at hwr
            obtain ⟨rfl, hRb⟩ := hwr
            have hbl := lnL_len (cnt x.f4) x.f4 (d + 1) b (Nat.le_refl _) hrr
            have hyl : (xs ++ bytesOf ⟨#[58, 49, 54, 82, 58]⟩ ++ bytesOf x.f3 ++ [10] ++ nat b).length + x.f3.size + 100 ≤ 140737488355328 := by
              have := HM.out
              have h5' : (⟨#[58, 49, 54, 82, 58]⟩ : ByteArray).size = 5 := rfl
              simp only [List.length_append, bytesOf_length, List.length_cons, List.length_nil, nat_len, h5']
              omega
            have hy : xs ++ bytesOf ⟨#[58, 49, 54, 82, 58]⟩ ++ bytesOf x.f3 ++ [10] ++ nat b = xs ++ nat ([58, 49, 54, 82, 58] ++ x.f3.toList ++ [10] ++ b) := by
              rw [bytesOf_nat, bytesOf_nat]
              simp [nat]
            generalize xs ++ bytesOf ⟨#[58, 49, 54, 82, 58]⟩ ++ bytesOf x.f3 ++ [10] ++ nat b = ys at *
            have HY := Lib.hid hy
            have hq3 : w2.cell? ⟨g, 3, none⟩ = some (.string x.f3) := (blk_cell HKb.out 3).trans rfl
            have e5 : (⟨#[58, 49, 54, 83, 58]⟩ : ByteArray).size = 5 := rfl
            clear hy hz3 hz4
            go_wp2_with fail
            go_region_held3 (fun w' => w'.cell? ⟨g, 3, none⟩ = some (.string x.f3)) (first | assumption | go_keep)
                (first
                  | ((refine row_str_step W0 (by rfl) (.tmp 54) _ 36 9 (by rfl) Tryd.underlying36 Tryd.underlying9 h5 vb ys ⟨#[58, 49, 54, 83, 58]⟩ (by rfl) (by rfl) (by first | exact hRb.drew | exact hRb.drew.alloc _) (by first | exact below_drew1 hBb | exact below_alloc (below_drew1 hBb) _) (by omega) ?_); intro v1 w3 hR1 hB1 hg1 hL1; have hk1 := hg1.2 _ _ _ (by first | exact HKb.out | exact blk_alloc HKb.out _) (by decide); have hc1 := (blk_cell hk1 3).trans rfl)
                  | ((refine row_str_step W0 (by rfl) (.tmp 55) _ 36 9 (by rfl) Tryd.underlying36 Tryd.underlying9 h5 v1 (ys ++ bytesOf ⟨#[58, 49, 54, 83, 58]⟩) x.f3 (by rfl) (by rfl) (by first | exact hR1 | exact hR1.alloc _) (by first | exact hB1 | exact below_alloc hB1 _) (by simp only [List.length_append, bytesOf_length]; omega) ?_); intro v2 w4 hR2 hB2 hg2 hL2; have hk2 := hg2.2 _ _ _ (by first | exact hk1 | exact blk_alloc hk1 _) (by decide); have hc2 := (blk_cell hk2 3).trans rfl)
                  | ((refine row_byte_step W0 (by rfl) (.tmp 58) (.tmp 59) 36 (by rfl) Tryd.underlying36 h5 v2 (ys ++ bytesOf ⟨#[58, 49, 54, 83, 58]⟩ ++ bytesOf x.f3) _ 10 (by rfl) (by rfl) (by first | exact (Lit.new hR2 10).1 | exact (hL2 (by simp only [List.length_append, bytesOf_length]; omega) _ _ (Lit.new hR1 10)).1 | exact (hL2 (by simp only [List.length_append, bytesOf_length]; omega) _ _ (hL1 (by omega) _ _ (Lit.new hRb.drew 10))).1) (by first | exact hR2 | exact hR2.alloc _) (by first | exact hB2 | exact below_alloc hB2 _) (by simp only [List.length_append, bytesOf_length]; omega) ?_); intro v3 w5 hR3 hB3 hg3 hL3; have hk3 := hg3.2 _ _ _ (by first | exact hk2 | exact blk_alloc hk2 _) (by decide); have hc3 := (blk_cell hk3 3).trans rfl))
            all_goals
              go_wp2_with fail
              go_ret2
              have o1 : Oth w2 w3 := by first | exact hg1 | exact (Oth.al _ _).trans hg1
              have o2 : Oth w3 w4 := by first | exact hg2 | exact (Oth.al _ _).trans hg2
              have o3 : Oth w4 w5 := by first | exact hg3 | exact (Oth.al _ _).trans hg3
              refine ⟨_, _, rfl, hB3, HHb.out.trans (o1.trans (o2.trans o3)), ?_⟩
              rw [HR2.out, hrr]
              refine ⟨rfl, ?_⟩
              have he : ys ++ bytesOf ⟨#[58, 49, 54, 83, 58]⟩ ++ bytesOf x.f3 ++ [10] = xs ++ nat ([58, 49, 54, 82, 58] ++ x.f3.toList ++ [10] ++ b ++ [58, 49, 54, 83, 58] ++ x.f3.toList ++ [10]) := by
                rw [HY.out, bytesOf_nat, bytesOf_nat]
                simp [nat]
              rw [← he]
              exact hR3
      · have hr : lnI x d = .error 4 := by
          have : wrn x d = 4 := by rw [HW.out, if_neg hn, if_neg (by omega), if_neg hgood]
          rw [lnI_eq, this]
          rfl
        have HR2 := Lib.hid hr
        clear hr
        cases hv : nameV x.f3 with
        | false =>
          go_wp2
          go_ret2
          refine ⟨_, _, rfl, HB.out, HH.out, ?_⟩
          rw [HR2.out]
          exact wrote_err _ _ _ (.inl rfl) (by decide)
        | true =>
          by_cases q2 : x.f1.toList = []
          · have q3 : ¬ x.f2.toList = [] := fun q3 => hgood ⟨hv, q2, q3⟩
            obtain ⟨m1, m2, m3⟩ := str_eq q2
            obtain ⟨o1, o2, o3⟩ := str_ne q3
            go_wp2
            go_ret2
            refine ⟨_, _, rfl, HB.out, HH.out, ?_⟩
            rw [HR2.out]
            exact wrote_err _ _ _ (.inl rfl) (by decide)
          · obtain ⟨m1, m2, m3⟩ := str_ne q2
            go_wp2
            go_ret2
            refine ⟨_, _, rfl, HB.out, HH.out, ?_⟩
            rw [HR2.out]
            exact wrote_err _ _ _ (.inl rfl) (by decide)
end Go.Proofs.YtjnpfkjplpkfjaaDoor.Tg

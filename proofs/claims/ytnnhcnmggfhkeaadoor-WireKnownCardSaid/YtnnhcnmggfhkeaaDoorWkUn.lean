import Derived.Test.YtnnhcnmggfhkeaaDoorPWireKnownx0
import Derived.Test.YtnnhcnmggfhkeaaDoorPWireKnownx1
import Derived.Test.YtnnhcnmggfhkeaaDoorPWireKnownx2
import Derived.Test.YtnnhcnmggfhkeaaDoorPWireKnownx3
import Derived.Test.YtnnhcnmggfhkeaaDoorPWireKnownx4
namespace Go.Proofs.YtnnhcnmggfhkeaaDoor.PWireKnown
open Go.RowKit Go.Proofs.YtnnhcnmggfhkeaaDoorW.PrintWords Go.Proofs.YtnnhcnmggfhkeaaDoorW.PrintLast Go.Proofs.YtnnhcnmggfhkeaaDoorW.PrintMore
attribute [local go_sem] max2_int min2_int max_two min_two max_three min_three max_four min_four   -- for this text's walks alone
set_option linter.unusedVariables false
set_option linter.unusedSimpArgs false

/-! ### custodyref05_Unframe: function 51 -/
def custodyref05_Unframe.j0 : Nat → List Int → Int → Int → Int → Int → Bool → Option (Int × List Int × Int × Int)
  | 0, _, _, _, _, _, _ => none
  | k + 1, x0, x6, x7, x9, x11, x53 => if x53 = true then (some (0, ([] : List Int), 0, 2)) else (if 0 ≤ x7 then (if x7 ≤ x11 then (if x11 ≤ (x0.length : Int) then ((custodyref0_CopyBytes.f k ((x0.take (x11 : Int).toNat).drop (x7 : Int).toNat)).bind fun t227 => (if 0 ≤ (wrap64 (x11 + 4)) then (if (wrap64 (x11 + 4)) ≤ (wrap64 ((wrap64 (x11 + 4)) + (wrap64 (x6)))) then (if (wrap64 ((wrap64 (x11 + 4)) + (wrap64 (x6)))) ≤ (x0.length : Int) then ((custodyref0_CopyBytes.f k ((x0.take ((wrap64 ((wrap64 (x11 + 4)) + (wrap64 (x6)))) : Int).toNat).drop ((wrap64 (x11 + 4)) : Int).toNat)).bind fun t231 => (if t227.length + t231.length < 140737488355328 then ((custodyref05_Sum.f k (t227 ++ t231)).bind fun t237 => ((custodyref05_PutSum.f ([] : List Int) t237).bind fun t238 => (if 0 ≤ x11 then (if x11 ≤ (wrap64 (x11 + 4)) then (if (wrap64 (x11 + 4)) ≤ (x0.length : Int) then ((custodyref0_SameBytes.f k t238 ((x0.take ((wrap64 (x11 + 4)) : Int).toNat).drop (x11 : Int).toNat)).bind fun t242 => (if t242 = true then (some (x9, t231, wrap64 ((wrap64 (x11 + 4)) + (wrap64 (x6))), 0)) else (some (0, ([] : List Int), 0, 7)))) else (none)) else (none)) else (none)))) else (none))) else (none)) else (none)) else (none))) else (none)) else (none)) else (none))
def custodyref05_Unframe.f (k : Nat) (l0 : List Int) : Option (Int × List Int × Int × Int) := (custodyref05_Uint.f k l0).bind fun bt219 => (if bt219.2.2 = 0 then (if bt219.1 > 65536 then (some (0, ([] : List Int), 0, 5)) else (if 0 ≤ bt219.2.1 then (if bt219.2.1 ≤ (l0.length : Int) then ((custodyref05_Uint.f k (l0.drop (bt219.2.1 : Int).toNat)).bind fun bt223 => (if bt223.2.2 = 0 then (if (l0.length : Int) < (wrap64 ((wrap64 (bt219.2.1 + bt223.2.1)) + 4)) then (custodyref05_Unframe.j0 k l0 bt219.1 bt219.2.1 bt223.1 (wrap64 (bt219.2.1 + bt223.2.1)) true) else (custodyref05_Unframe.j0 k l0 bt219.1 bt219.2.1 bt223.1 (wrap64 (bt219.2.1 + bt223.2.1)) (decide ((l0.length : Int) < (wrap64 ((wrap64 ((wrap64 (bt219.2.1 + bt223.2.1)) + 4)) + (wrap64 (bt219.1)))))))) else (some (0, ([] : List Int), 0, bt223.2.2)))) else (none)) else (none))) else (some (0, ([] : List Int), 0, bt219.2.2)))
def custodyref05_Unframe.T15 : Bool × List (List Nat × List Nat) := (true, [([], []), ([0], [0]), ([1, 1], [1]), ([], []), ([], []), ([], []), ([5], [5]), ([3, 4, 6], [3, 4, 6]), ([2, 7, 2], [2, 7]), ([8], [8])])
def custodyref05_Unframe.B15 : List Nat := [0, 1, 3, 0, 0, 0, 32, 120, 255, 511]
theorem custodyref05_Unframe.tab15 : rtab .any (opsOf Tryd.f51 15) = custodyref05_Unframe.T15 := by kernel_rfl
theorem custodyref05_Unframe.bits15 : waitsOk custodyref05_Unframe.T15.2 custodyref05_Unframe.B15 = true := by kernel_rfl
set_option maxHeartbeats 8000000 in
set_option maxRecDepth 100000 in
theorem custodyref05_Unframe.calls (k : Nat) (A0 : Option Addr) (c0 : Nat) (l0 : List Int) (r1 : Int) (r2 : List Int) (r3 : Int) (r4 : Int) (w : World) (hr0 : Kd.C (Kd.int .u8) w A0 l0.length l0) (hc0 : l0.length ≤ c0) (h : custodyref05_Unframe.f k l0 = some (r1, r2, r3, r4)) :
    Calls Tryd.prog 51 #[.slice A0 l0.length c0] w fun e w' => ∃ v1_ : Value, e = .returned (.tuple #[.int .u64 r1, v1_, .int .i64 r3, .int .i64 r4]) ∧ Kd.R (Kd.int .u8) 5 w' w.heap.size (fun _ => True) v1_ r2 ∧ Below w.heap.size w w' := by
  have HR0 := Aside0.mk hr0
  have HC0 := Aside0.mk hc0
  clear hr0 hc0
  have HB := Aside0.mk (Below.refl w.heap.size w)
  have H : ((custodyref05_Uint.f k l0).bind fun bt219 => (if bt219.2.2 = 0 then (if bt219.1 > 65536 then (some (0, ([] : List Int), 0, 5)) else (if 0 ≤ bt219.2.1 then (if bt219.2.1 ≤ (l0.length : Int) then ((custodyref05_Uint.f k (l0.drop (bt219.2.1 : Int).toNat)).bind fun bt223 => (if bt223.2.2 = 0 then (if (l0.length : Int) < (wrap64 ((wrap64 (bt219.2.1 + bt223.2.1)) + 4)) then (custodyref05_Unframe.j0 k l0 bt219.1 bt219.2.1 bt223.1 (wrap64 (bt219.2.1 + bt223.2.1)) true) else (custodyref05_Unframe.j0 k l0 bt219.1 bt219.2.1 bt223.1 (wrap64 (bt219.2.1 + bt223.2.1)) (decide ((l0.length : Int) < (wrap64 ((wrap64 ((wrap64 (bt219.2.1 + bt223.2.1)) + 4)) + (wrap64 (bt219.1)))))))) else (some (0, ([] : List Int), 0, bt223.2.2)))) else (none)) else (none))) else (some (0, ([] : List Int), 0, bt219.2.2)))) = some (r1, r2, r3, r4) := h
  clear h
  replace H := Option.bind_eq_some_iff.mp H
  obtain ⟨⟨t219, t220, t221⟩, A20, H⟩ := H
  replace H : (if t221 = 0 then (if t219 > 65536 then (some (0, ([] : List Int), 0, 5)) else (if 0 ≤ t220 then (if t220 ≤ (l0.length : Int) then ((custodyref05_Uint.f k (l0.drop (t220 : Int).toNat)).bind fun bt223 => (if bt223.2.2 = 0 then (if (l0.length : Int) < (wrap64 ((wrap64 (t220 + bt223.2.1)) + 4)) then (custodyref05_Unframe.j0 k l0 t219 t220 bt223.1 (wrap64 (t220 + bt223.2.1)) true) else (custodyref05_Unframe.j0 k l0 t219 t220 bt223.1 (wrap64 (t220 + bt223.2.1)) (decide ((l0.length : Int) < (wrap64 ((wrap64 ((wrap64 (t220 + bt223.2.1)) + 4)) + (wrap64 (t219)))))))) else (some (0, ([] : List Int), 0, bt223.2.2)))) else (none)) else (none))) else (some (0, ([] : List Int), 0, t221))) = some (r1, r2, r3, r4) := H
  have A2 := Aside0.mk A20
  clear A20
  by_cases c3 : t221 = 0
  · rw [if_pos c3] at H
    have c3b0 : (t221 == 0) = true := beq_iff_eq.mpr c3
    have c3b1 : (t221 != 0) = false := bne_eq_false_iff_eq.mpr c3
    clear c3
    by_cases c4 : t219 > 65536
    · rw [if_pos c4] at H
      have c4b0 : decide (65536 < t219) = true := decide_eq_true c4
      clear c4
      simp only [Option.some.injEq, Prod.mk.injEq] at H
      obtain ⟨rfl, rfl, rfl, rfl⟩ := H
      go_enter Tryd.func51, Tryd.ntmps51
      go_wp2_with (first | ((with_reducible refine gate_callee (f := 70) rfl ?_); refine goesL_ (some 16) rfl rfl Tryd.func70 (by kernel_rfl) rfl #[.slice A0 l0.length c0] rfl (by (try simp only [List.map_toArray, List.map_cons, List.map_nil]); first | done | rfl | (simp only [List.length_drop, List.length_take]; rfl)) ?_; (with_reducible refine (custodyref05_Uint.calls k _ _ l0 t219 t220 t221 _ ?side1 ?side2 A2.out).mono ?_); (case side1 => repeat (first | exact HR0.out | (with_reducible refine Kd.C_alloc ?_ _) | (with_reducible refine Kd.C_drewN ?_ _) | (with_reducible refine Kd.C_drew ?_))); (case side2 => exact HC0.out); rintro e w' ⟨rfl, ⟨nd, rfl⟩⟩; refine ⟨_, rfl, ?_⟩))
      refine bodyPost_ret (results_list (rs := [.tmp 2, .tmp 3, .tmp 4, .tmp 5]) rfl (by simp) (.tmp (.tmp (.tmp (.tmp .nil))))) rfl ?_
      exact ⟨_, by first | rfl | (simp [errW_none, errW_some] <;> rfl) | (simp [*, errW_none, errW_some] <;> rfl), by first | exact Kd.R_nil _ _ _ _ _ | exact Kd.N_nil _ _ _ _ _ | exact Kd.V_nil _ _ _ _ _ | exact Kd.Q_nil _ _ _ _ _ | exact Kd.S_nil _ _ _ _ _, by repeat (first | (with_reducible first | exact HB.out | apply below_alloc | apply pw_below_drewN | apply below_drew1) | exact HB.out)⟩
    · rw [if_neg c4] at H
      have c4b0 : decide (65536 < t219) = false := decide_eq_false c4
      clear c4
      by_cases c5 : 0 ≤ t220
      · rw [if_pos c5] at H
        have c5b0 := eq_true c5
        have c5b1 : decide (0 ≤ t220) = true := decide_eq_true c5
        clear c5
        by_cases c6 : t220 ≤ (l0.length : Int)
        · rw [if_pos c6] at H
          have c6b0 := eq_true c6
          have c6b1 : decide (t220 ≤ (l0.length : Int)) = true := decide_eq_true c6
          clear c6
          replace H := Option.bind_eq_some_iff.mp H
          obtain ⟨⟨t223, t224, t225⟩, A70, H⟩ := H
          replace H : (if t225 = 0 then (if (l0.length : Int) < (wrap64 ((wrap64 (t220 + t224)) + 4)) then (custodyref05_Unframe.j0 k l0 t219 t220 t223 (wrap64 (t220 + t224)) true) else (custodyref05_Unframe.j0 k l0 t219 t220 t223 (wrap64 (t220 + t224)) (decide ((l0.length : Int) < (wrap64 ((wrap64 ((wrap64 (t220 + t224)) + 4)) + (wrap64 (t219)))))))) else (some (0, ([] : List Int), 0, t225))) = some (r1, r2, r3, r4) := H
          have A7 := Aside0.mk A70
          clear A70
          by_cases c8 : t225 = 0
          · rw [if_pos c8] at H
            have c8b0 : (t225 == 0) = true := beq_iff_eq.mpr c8
            have c8b1 : (t225 != 0) = false := bne_eq_false_iff_eq.mpr c8
            clear c8
            have HC9 := Aside0.mk H
            clear H
            go_enter Tryd.func51, Tryd.ntmps51
            go_upto_region 10 with (first | ((with_reducible refine gate_callee (f := 70) rfl ?_); refine goesL_ (some 16) rfl rfl Tryd.func70 (by kernel_rfl) rfl #[.slice A0 l0.length c0] rfl (by (try simp only [List.map_toArray, List.map_cons, List.map_nil]); first | done | rfl | (simp only [List.length_drop, List.length_take]; rfl)) ?_; (with_reducible refine (custodyref05_Uint.calls k _ _ l0 t219 t220 t221 _ ?side1 ?side2 A2.out).mono ?_); (case side1 => repeat (first | exact HR0.out | (with_reducible refine Kd.C_alloc ?_ _) | (with_reducible refine Kd.C_drewN ?_ _) | (with_reducible refine Kd.C_drew ?_))); (case side2 => exact HC0.out); rintro e w' ⟨rfl, ⟨nd, rfl⟩⟩; refine ⟨_, rfl, ?_⟩; obtain ⟨i010, hi010, _, hsz10, _⟩ := info_parts info5; obtain ⟨A10, hcut10, hA10, hC10⟩ := print_drop_of (P := Tryd.prog) (Value.int .u8) 0 29 5 .i64 Tryd.underlying29 hi010 hsz10 A0 c0 l0 t220 (of_decide_eq_true (by first | (with_reducible assumption) | assumption)) (of_decide_eq_true (by first | (with_reducible assumption) | assumption)) HC0.out; have HR222 := Aside0.mk (Kd.C_of_reads (h1 := fun _ => rfl) (hA10 _ (Kd.reads_of_C HR0.out))); have HC222 := Aside0.mk hC10; clear hA10 hC10 hi010 hsz10) | ((with_reducible refine gate_callee (f := 70) rfl ?_); refine goesL_ (some 29) rfl rfl Tryd.func70 (by kernel_rfl) rfl #[.slice A10 (l0.drop (t220 : Int).toNat).length (c0 - t220.toNat)] rfl (by (try simp only [List.map_toArray, List.map_cons, List.map_nil]); first | done | (rw [show (l0.drop (t220 : Int).toNat).length = (l0.length - t220.toNat) from List.length_drop] <;> rfl) | rfl | (simp only [List.length_drop, List.length_take]; rfl)) ?_; (with_reducible refine (custodyref05_Uint.calls k _ _ (l0.drop (t220 : Int).toNat) t223 t224 t225 _ ?side1 ?side2 A7.out).mono ?_); (case side1 => repeat (first | exact HR222.out | (with_reducible refine Kd.C_alloc ?_ _) | (with_reducible refine Kd.C_drewN ?_ _) | (with_reducible refine Kd.C_drew ?_))); (case side2 => exact HC222.out); rintro e w' ⟨rfl, ⟨nd, rfl⟩⟩; refine ⟨_, rfl, ?_⟩))
            (try simp only [Act.put, List.setIfInBounds_toArray, List.set_cons_zero, List.set_cons_succ])
            go_cut [53] (fun v53 wc => ∃ (kq : Nat) (x53_8 : Bool), v53 = .bool x53_8 ∧ Aside0 (custodyref05_Unframe.j0 kq l0 t219 t220 t223 (wrap64 (t220 + t224)) x53_8 = some (r1, r2, r3, r4)) ∧ Aside0 (kq ≤ k) ∧ Aside0 (Below w.heap.size w wc))
            case first =>
              have H := HC9.out
              clear HC9
              by_cases c11 : (l0.length : Int) < (wrap64 ((wrap64 (t220 + t224)) + 4))
              · rw [if_pos c11] at H
                have c11b0 : decide ((l0.length : Int) < (wrap64 ((wrap64 (t220 + t224)) + 4))) = true := decide_eq_true c11
                clear c11
                (first | rw [c11b0] | (simp only [i64_w, i32_w]; rw [c11b0]) | skip)
                have H' := Aside0.mk H
                clear H
                go_wp2
                go_meet
                case rel => exact ⟨_, (true), (by first | rfl | (simp; done) | (simp [*]; done)), H', ⟨by first | omega | exact Nat.le_refl _⟩, ⟨by repeat (first | (with_reducible first | exact HB.out | apply below_alloc | apply pw_below_drewN | apply below_drew1) | exact HB.out)⟩⟩
              · rw [if_neg c11] at H
                have c11b0 : decide ((l0.length : Int) < (wrap64 ((wrap64 (t220 + t224)) + 4))) = false := decide_eq_false c11
                clear c11
                (first | rw [c11b0] | (simp only [i64_w, i32_w]; rw [c11b0]) | skip)
                have H' := Aside0.mk H
                clear H
                go_wp2
                go_meet
                case rel => exact ⟨_, (decide ((l0.length : Int) < (wrap64 ((wrap64 ((wrap64 (t220 + t224)) + 4)) + (wrap64 (t219)))))), (by first | rfl | (simp; done) | (simp [*]; done)), H', ⟨by first | omega | exact Nat.le_refl _⟩, ⟨by repeat (first | (with_reducible first | exact HB.out | apply below_alloc | apply pw_below_drewN | apply below_drew1) | exact HB.out)⟩⟩
            case rest =>
              clear HC9
              try clear c1
              try clear p2
              try clear c3
              try clear c3b0
              try clear c3b1
              try clear c4
              try clear c4b0
              try clear c5
              try clear c5b0
              try clear c5b1
              try clear c6
              try clear c6b0
              try clear c6b1
              try clear p6
              try clear c7
              try clear c8
              try clear c8b0
              try clear c8b1
              try clear c11
              try clear c11b0
              obtain ⟨kq, x53_8, rfl, HA, HJ8, HB⟩ := hcut
              cases kq with
              | zero => exact absurd HA.out (by simp [custodyref05_Unframe.j0])
              | succ kj8 =>
                have H := HA.out
                clear HA
                simp only [custodyref05_Unframe.j0] at H
                by_cases c12 : x53_8 = true
                · subst c12
                  have H1 : (some (0, ([] : List Int), 0, 2)) = some (r1, r2, r3, r4) := by rw [if_pos rfl] at H; exact H
                  clear H
                  have H := H1
                  clear H1
                  simp only [Option.some.injEq, Prod.mk.injEq] at H
                  obtain ⟨rfl, rfl, rfl, rfl⟩ := H
                  go_wp2
                  refine bodyPost_ret (results_list (rs := [.tmp 2, .tmp 3, .tmp 4, .tmp 5]) rfl (by simp) (.tmp (.tmp (.tmp (.tmp .nil))))) rfl ?_
                  exact ⟨_, by first | rfl | (simp [errW_none, errW_some] <;> rfl) | (simp [*, errW_none, errW_some] <;> rfl), by first | exact Kd.R_nil _ _ _ _ _ | exact Kd.N_nil _ _ _ _ _ | exact Kd.V_nil _ _ _ _ _ | exact Kd.Q_nil _ _ _ _ _ | exact Kd.S_nil _ _ _ _ _, by repeat (first | (with_reducible first | exact HB.out | apply below_alloc | apply pw_below_drewN | apply below_drew1) | exact HB.out)⟩
                · replace c12 := Bool.eq_false_iff.mpr c12
                  subst c12
                  have H1 : (if 0 ≤ t220 then (if t220 ≤ (wrap64 (t220 + t224)) then (if (wrap64 (t220 + t224)) ≤ (l0.length : Int) then ((custodyref0_CopyBytes.f kj8 ((l0.take ((wrap64 (t220 + t224)) : Int).toNat).drop (t220 : Int).toNat)).bind fun t227 => (if 0 ≤ (wrap64 ((wrap64 (t220 + t224)) + 4)) then (if (wrap64 ((wrap64 (t220 + t224)) + 4)) ≤ (wrap64 ((wrap64 ((wrap64 (t220 + t224)) + 4)) + (wrap64 (t219)))) then (if (wrap64 ((wrap64 ((wrap64 (t220 + t224)) + 4)) + (wrap64 (t219)))) ≤ (l0.length : Int) then ((custodyref0_CopyBytes.f kj8 ((l0.take ((wrap64 ((wrap64 ((wrap64 (t220 + t224)) + 4)) + (wrap64 (t219)))) : Int).toNat).drop ((wrap64 ((wrap64 (t220 + t224)) + 4)) : Int).toNat)).bind fun t231 => (if t227.length + t231.length < 140737488355328 then ((custodyref05_Sum.f kj8 (t227 ++ t231)).bind fun t237 => ((custodyref05_PutSum.f ([] : List Int) t237).bind fun t238 => (if 0 ≤ (wrap64 (t220 + t224)) then (if (wrap64 (t220 + t224)) ≤ (wrap64 ((wrap64 (t220 + t224)) + 4)) then (if (wrap64 ((wrap64 (t220 + t224)) + 4)) ≤ (l0.length : Int) then ((custodyref0_SameBytes.f kj8 t238 ((l0.take ((wrap64 ((wrap64 (t220 + t224)) + 4)) : Int).toNat).drop ((wrap64 (t220 + t224)) : Int).toNat)).bind fun t242 => (if t242 = true then (some (t223, t231, wrap64 ((wrap64 ((wrap64 (t220 + t224)) + 4)) + (wrap64 (t219))), 0)) else (some (0, ([] : List Int), 0, 7)))) else (none)) else (none)) else (none)))) else (none))) else (none)) else (none)) else (none))) else (none)) else (none)) else (none)) = some (r1, r2, r3, r4) := by rw [if_neg (show ¬ (false = true) by decide)] at H; exact H
                  clear H
                  have H := H1
                  clear H1
                  by_cases c13 : 0 ≤ t220
                  · rw [if_pos c13] at H
                    have c13b0 := eq_true c13
                    have c13b1 : decide (0 ≤ t220) = true := decide_eq_true c13
                    clear c13
                    by_cases c14 : t220 ≤ (wrap64 (t220 + t224))
                    · rw [if_pos c14] at H
                      have c14b0 := eq_true c14
                      have c14b1 : decide (t220 ≤ (wrap64 (t220 + t224))) = true := decide_eq_true c14
                      by_cases c15 : (wrap64 (t220 + t224)) ≤ (l0.length : Int)
                      · rw [if_pos c15] at H
                        have c15b0 := eq_true c15
                        have c15b1 : decide ((wrap64 (t220 + t224)) ≤ (l0.length : Int)) = true := decide_eq_true c15
                        replace H := Option.bind_eq_some_iff.mp H
                        obtain ⟨t227, A160, H⟩ := H
                        replace H : (if 0 ≤ (wrap64 ((wrap64 (t220 + t224)) + 4)) then (if (wrap64 ((wrap64 (t220 + t224)) + 4)) ≤ (wrap64 ((wrap64 ((wrap64 (t220 + t224)) + 4)) + (wrap64 (t219)))) then (if (wrap64 ((wrap64 ((wrap64 (t220 + t224)) + 4)) + (wrap64 (t219)))) ≤ (l0.length : Int) then ((custodyref0_CopyBytes.f kj8 ((l0.take ((wrap64 ((wrap64 ((wrap64 (t220 + t224)) + 4)) + (wrap64 (t219)))) : Int).toNat).drop ((wrap64 ((wrap64 (t220 + t224)) + 4)) : Int).toNat)).bind fun t231 => (if t227.length + t231.length < 140737488355328 then ((custodyref05_Sum.f kj8 (t227 ++ t231)).bind fun t237 => ((custodyref05_PutSum.f ([] : List Int) t237).bind fun t238 => (if 0 ≤ (wrap64 (t220 + t224)) then (if (wrap64 (t220 + t224)) ≤ (wrap64 ((wrap64 (t220 + t224)) + 4)) then (if (wrap64 ((wrap64 (t220 + t224)) + 4)) ≤ (l0.length : Int) then ((custodyref0_SameBytes.f kj8 t238 ((l0.take ((wrap64 ((wrap64 (t220 + t224)) + 4)) : Int).toNat).drop ((wrap64 (t220 + t224)) : Int).toNat)).bind fun t242 => (if t242 = true then (some (t223, t231, wrap64 ((wrap64 ((wrap64 (t220 + t224)) + 4)) + (wrap64 (t219))), 0)) else (some (0, ([] : List Int), 0, 7)))) else (none)) else (none)) else (none)))) else (none))) else (none)) else (none)) else (none)) = some (r1, r2, r3, r4) := H
                        have A16 := Aside0.mk A160
                        clear A160
                        obtain ⟨ji17, hji17⟩ : ∃ j_ : Int, (wrap64 ((wrap64 (t220 + t224)) + 4)) = j_ := ⟨_, rfl⟩
                        replace H : (if 0 ≤ (ji17) then (if (ji17) ≤ (wrap64 ((ji17) + (wrap64 (t219)))) then (if (wrap64 ((ji17) + (wrap64 (t219)))) ≤ (l0.length : Int) then ((custodyref0_CopyBytes.f kj8 ((l0.take ((wrap64 ((ji17) + (wrap64 (t219)))) : Int).toNat).drop ((ji17) : Int).toNat)).bind fun t231 => (if t227.length + t231.length < 140737488355328 then ((custodyref05_Sum.f kj8 (t227 ++ t231)).bind fun t237 => ((custodyref05_PutSum.f ([] : List Int) t237).bind fun t238 => (if 0 ≤ (wrap64 (t220 + t224)) then (if (wrap64 (t220 + t224)) ≤ (ji17) then (if (ji17) ≤ (l0.length : Int) then ((custodyref0_SameBytes.f kj8 t238 ((l0.take ((ji17) : Int).toNat).drop ((wrap64 (t220 + t224)) : Int).toNat)).bind fun t242 => (if t242 = true then (some (t223, t231, wrap64 ((ji17) + (wrap64 (t219))), 0)) else (some (0, ([] : List Int), 0, 7)))) else (none)) else (none)) else (none)))) else (none))) else (none)) else (none)) else (none)) = some (r1, r2, r3, r4) := by first | (rw [hji17] at H; exact H) | (simp only [hji17] at H ⊢; exact H)
                        (try rw [hji17] at A16)
                        have hji17w : (IntKind.i64.wrap ((wrap64 (t220 + t224)) + 4)) = ji17 := (i64_w _).trans hji17
                        by_cases c18 : 0 ≤ (ji17)
                        · rw [if_pos c18] at H
                          have c18b0 := eq_true c18
                          have c18b1 : decide (0 ≤ (ji17)) = true := decide_eq_true c18
                          clear c18
                          by_cases c19 : (ji17) ≤ (wrap64 ((ji17) + (wrap64 (t219))))
                          · rw [if_pos c19] at H
                            have c19b0 := eq_true c19
                            have c19b1 : decide ((ji17) ≤ (wrap64 ((ji17) + (wrap64 (t219))))) = true := decide_eq_true c19
                            by_cases c20 : (wrap64 ((ji17) + (wrap64 (t219)))) ≤ (l0.length : Int)
                            · rw [if_pos c20] at H
                              have c20b0 := eq_true c20
                              have c20b1 : decide ((wrap64 ((ji17) + (wrap64 (t219)))) ≤ (l0.length : Int)) = true := decide_eq_true c20
                              replace H := Option.bind_eq_some_iff.mp H
                              obtain ⟨t231, A210, H⟩ := H
                              replace H : (if t227.length + t231.length < 140737488355328 then ((custodyref05_Sum.f kj8 (t227 ++ t231)).bind fun t237 => ((custodyref05_PutSum.f ([] : List Int) t237).bind fun t238 => (if 0 ≤ (wrap64 (t220 + t224)) then (if (wrap64 (t220 + t224)) ≤ (ji17) then (if (ji17) ≤ (l0.length : Int) then ((custodyref0_SameBytes.f kj8 t238 ((l0.take ((ji17) : Int).toNat).drop ((wrap64 (t220 + t224)) : Int).toNat)).bind fun t242 => (if t242 = true then (some (t223, t231, wrap64 ((ji17) + (wrap64 (t219))), 0)) else (some (0, ([] : List Int), 0, 7)))) else (none)) else (none)) else (none)))) else (none)) = some (r1, r2, r3, r4) := H
                              have A21 := Aside0.mk A210
                              clear A210
                              by_cases c22 : t227.length + t231.length < 140737488355328
                              · rw [if_pos c22] at H
                                have LMc22 := Aside0.mk c22
                                clear c22
                                obtain ⟨y234, hy234⟩ : ∃ y_ : List Int, y_ = (t227 ++ t231) := ⟨_, rfl⟩
                                replace H : ((custodyref05_Sum.f kj8 y234).bind fun t237 => ((custodyref05_PutSum.f ([] : List Int) t237).bind fun t238 => (if 0 ≤ (wrap64 (t220 + t224)) then (if (wrap64 (t220 + t224)) ≤ (ji17) then (if (ji17) ≤ (l0.length : Int) then ((custodyref0_SameBytes.f kj8 t238 ((l0.take ((ji17) : Int).toNat).drop ((wrap64 (t220 + t224)) : Int).toNat)).bind fun t242 => (if t242 = true then (some (t223, t231, wrap64 ((ji17) + (wrap64 (t219))), 0)) else (some (0, ([] : List Int), 0, 7)))) else (none)) else (none)) else (none)))) = some (r1, r2, r3, r4) := by first | (rw [hy234]; with_reducible exact H) | (have H2_ := (Option.bind_some _ _).symm.trans H; rw [hy234]; with_reducible exact H2_) | (have H2_ := (Option.bind_some _ _).symm.trans H; with_reducible exact H2_) | with_reducible exact H | (rw [hy234]; exact H) | exact H
                                have Ny234 := Aside0.mk hy234
                                clear hy234
                                replace H := Option.bind_eq_some_iff.mp H
                                obtain ⟨t237, A230, H⟩ := H
                                replace H : ((custodyref05_PutSum.f ([] : List Int) t237).bind fun t238 => (if 0 ≤ (wrap64 (t220 + t224)) then (if (wrap64 (t220 + t224)) ≤ (ji17) then (if (ji17) ≤ (l0.length : Int) then ((custodyref0_SameBytes.f kj8 t238 ((l0.take ((ji17) : Int).toNat).drop ((wrap64 (t220 + t224)) : Int).toNat)).bind fun t242 => (if t242 = true then (some (t223, t231, wrap64 ((ji17) + (wrap64 (t219))), 0)) else (some (0, ([] : List Int), 0, 7)))) else (none)) else (none)) else (none))) = some (r1, r2, r3, r4) := H
                                have A23 := Aside0.mk A230
                                clear A230
                                replace H := Option.bind_eq_some_iff.mp H
                                obtain ⟨t238, A240, H⟩ := H
                                replace H : (if 0 ≤ (wrap64 (t220 + t224)) then (if (wrap64 (t220 + t224)) ≤ (ji17) then (if (ji17) ≤ (l0.length : Int) then ((custodyref0_SameBytes.f kj8 t238 ((l0.take ((ji17) : Int).toNat).drop ((wrap64 (t220 + t224)) : Int).toNat)).bind fun t242 => (if t242 = true then (some (t223, t231, wrap64 ((ji17) + (wrap64 (t219))), 0)) else (some (0, ([] : List Int), 0, 7)))) else (none)) else (none)) else (none)) = some (r1, r2, r3, r4) := H
                                have A24 := Aside0.mk A240
                                clear A240
                                obtain ⟨ji25, hji25⟩ : ∃ j_ : Int, (wrap64 (t220 + t224)) = j_ := ⟨_, rfl⟩
                                replace H : (if 0 ≤ (ji25) then (if (ji25) ≤ (ji17) then (if (ji17) ≤ (l0.length : Int) then ((custodyref0_SameBytes.f kj8 t238 ((l0.take ((ji17) : Int).toNat).drop ((ji25) : Int).toNat)).bind fun t242 => (if t242 = true then (some (t223, t231, wrap64 ((ji17) + (wrap64 (t219))), 0)) else (some (0, ([] : List Int), 0, 7)))) else (none)) else (none)) else (none)) = some (r1, r2, r3, r4) := by first | (rw [hji25] at H; exact H) | (simp only [hji25] at H ⊢; exact H)
                                (try rw [hji25] at c14b0)
                                (try rw [hji25] at c14b1)
                                (try rw [hji25] at c14)
                                (try rw [hji25] at c15b0)
                                (try rw [hji25] at c15b1)
                                (try rw [hji25] at c15)
                                (try rw [hji25] at A16)
                                (try rw [hji25] at A21)
                                (try rw [hji25] at A23)
                                (try rw [hji25] at A24)
                                have hji25w : (IntKind.i64.wrap (t220 + t224)) = ji25 := (i64_w _).trans hji25
                                by_cases c26 : 0 ≤ (ji25)
                                · rw [if_pos c26] at H
                                  have c26b0 := eq_true c26
                                  have c26b1 : decide (0 ≤ (ji25)) = true := decide_eq_true c26
                                  clear c26
                                  by_cases c27 : (ji25) ≤ (ji17)
                                  · rw [if_pos c27] at H
                                    have c27b0 := eq_true c27
                                    have c27b1 : decide ((ji25) ≤ (ji17)) = true := decide_eq_true c27
                                    clear c27
                                    by_cases c28 : (ji17) ≤ (l0.length : Int)
                                    · rw [if_pos c28] at H
                                      have c28b0 := eq_true c28
                                      have c28b1 : decide ((ji17) ≤ (l0.length : Int)) = true := decide_eq_true c28
                                      clear c28
                                      replace H := Option.bind_eq_some_iff.mp H
                                      obtain ⟨t242, A290, H⟩ := H
                                      replace H : (if t242 = true then (some (t223, t231, wrap64 ((ji17) + (wrap64 (t219))), 0)) else (some (0, ([] : List Int), 0, 7))) = some (r1, r2, r3, r4) := H
                                      have A29 := Aside0.mk A290
                                      clear A290
                                      by_cases c30 : t242 = true
                                      · subst c30
                                        have H1 : (some (t223, t231, wrap64 ((ji17) + (wrap64 (t219))), 0)) = some (r1, r2, r3, r4) := by rw [if_pos rfl] at H; exact H
                                        clear H
                                        have H := H1
                                        clear H1
                                        simp only [Option.some.injEq, Prod.mk.injEq] at H
                                        obtain ⟨rfl, rfl, rfl, rfl⟩ := H
                                        obtain ⟨i031, hi031, _, hsz31, _⟩ := info_parts info5
                                        obtain ⟨A31, hcut31, hA31, hC31⟩ := print_mid_of (P := Tryd.prog) (Value.int .u8) 0 29 5 .i64 .i64 Tryd.underlying29 hi031 hsz31 A0 c0 l0 t220 (ji25) (of_decide_eq_true (by first | (with_reducible assumption) | assumption)) (by first | omega | exact of_decide_eq_true (by first | (with_reducible assumption) | assumption)) (of_decide_eq_true (by first | (with_reducible assumption) | assumption)) HC0.out
                                        have HR226 := Aside0.mk (Kd.C_of_reads (h1 := fun _ => rfl) (hA31 _ (Kd.reads_of_C HR0.out)))
                                        have HC226 := Aside0.mk hC31
                                        clear hA31 hC31 hi031 hsz31
                                        rw [hji25] at hji17
                                        rw [hji25] at hji17w
                                        go_wp2_with (first | ((with_reducible refine gate_callee (f := 53) rfl ?_); refine goesL_ (some 58) rfl rfl Tryd.func53 (by kernel_rfl) rfl #[.slice A31 ((l0.take ((ji25) : Int).toNat).drop (t220 : Int).toNat).length (c0 - t220.toNat)] rfl (by (try simp only [List.map_toArray, List.map_cons, List.map_nil]); first | done | (rw [show ((l0.take ((ji25) : Int).toNat).drop (t220 : Int).toNat).length = ((ji25).toNat - t220.toNat) from (by rw [List.length_drop, List.length_take]; have h_ : ((ji25) : Int) ≤ (l0.length : Int) := of_decide_eq_true (by first | (with_reducible assumption) | assumption); omega)] <;> rfl) | (simp only [hji25]; rfl) | rfl | (simp only [List.length_drop, List.length_take]; rfl)) ?_; (with_reducible refine (custodyref0_CopyBytes.calls kj8 _ _ ((l0.take ((ji25) : Int).toNat).drop (t220 : Int).toNat) t227 _ ?side1 ?side2 A16.out).mono ?_); (case side1 => repeat (first | exact (Kd.C_below HR226.out HB.out) | (with_reducible refine Kd.C_alloc ?_ _) | (with_reducible refine Kd.C_drewN ?_ _) | (with_reducible refine Kd.C_drew ?_))); (case side2 => exact HC226.out); rintro e w32 ⟨v228, rfl, ho0, hb⟩; refine ⟨_, rfl, ?_⟩; have n0_ := Aside0.mk (Kd.R_lower ho0 (below_size (by repeat (first | (with_reducible first | exact HB.out | apply below_alloc | apply pw_below_drewN | apply below_drew1) | exact HB.out)))); have n1_ := Aside0.mk (below_step (by repeat (first | (with_reducible first | exact HB.out | apply below_alloc | apply pw_below_drewN | apply below_drew1) | exact HB.out)) hb); clear HB; have HO229 := n0_; have HB := n1_; clear n0_ n1_; (try clear hb); (try clear hb2); (try clear hk); (try clear hi); (try clear ho0); obtain ⟨i033, hi033, _, hsz33, _⟩ := info_parts info5; obtain ⟨A33, hcut33, hA33, hC33⟩ := print_mid_of (P := Tryd.prog) (Value.int .u8) 0 29 5 .i64 .i64 Tryd.underlying29 hi033 hsz33 A0 c0 l0 (ji17) (wrap64 ((ji17) + (wrap64 (t219)))) (of_decide_eq_true (by first | (with_reducible assumption) | assumption)) (by first | omega | exact of_decide_eq_true (by first | (with_reducible assumption) | assumption)) (of_decide_eq_true (by first | (with_reducible assumption) | assumption)) HC0.out; have HR230 := Aside0.mk (Kd.C_of_reads (h1 := fun _ => rfl) (hA33 _ (Kd.reads_of_C HR0.out))); have HC230 := Aside0.mk hC33; clear hA33 hC33 hi033 hsz33) | ((with_reducible refine gate_callee (f := 53) rfl ?_); refine goesL_ (some 68) rfl rfl Tryd.func53 (by kernel_rfl) rfl #[.slice A33 ((l0.take ((wrap64 ((ji17) + (wrap64 (t219)))) : Int).toNat).drop ((ji17) : Int).toNat).length (c0 - (ji17).toNat)] rfl (by (try simp only [List.map_toArray, List.map_cons, List.map_nil]); first | done | (rw [show ((l0.take ((wrap64 ((ji17) + (wrap64 (t219)))) : Int).toNat).drop ((ji17) : Int).toNat).length = ((wrap64 ((ji17) + (wrap64 (t219)))).toNat - (ji17).toNat) from (by rw [List.length_drop, List.length_take]; have h_ : ((wrap64 ((ji17) + (wrap64 (t219)))) : Int) ≤ (l0.length : Int) := of_decide_eq_true (by first | (with_reducible assumption) | assumption); omega)] <;> rfl) | (simp only [hji17]; rfl) | rfl | (simp only [List.length_drop, List.length_take]; rfl)) ?_; (with_reducible refine (custodyref0_CopyBytes.calls kj8 _ _ ((l0.take ((wrap64 ((ji17) + (wrap64 (t219)))) : Int).toNat).drop ((ji17) : Int).toNat) t231 _ ?side1 ?side2 A21.out).mono ?_); (case side1 => repeat (first | exact (Kd.C_below HR230.out HB.out) | (with_reducible refine Kd.C_alloc ?_ _) | (with_reducible refine Kd.C_drewN ?_ _) | (with_reducible refine Kd.C_drew ?_))); (case side2 => exact HC230.out); rintro e w34 ⟨v232, rfl, ho0, hb⟩; refine ⟨_, rfl, ?_⟩; have n0_ := Aside0.mk (Kd.R_elder' (by (with_reducible repeat (first | apply Kd.R_alloc | apply Kd.R_drewN | apply Kd.R_drew)); exact HO229.out) (Kd.R_base ho0) hb); have n1_ := Aside0.mk (Kd.R_lower (Kd.R_new' ho0 (Kd.R_lt (by (with_reducible repeat (first | apply Kd.R_alloc | apply Kd.R_drewN | apply Kd.R_drew)); exact HO229.out))) (below_size (by repeat (first | (with_reducible first | exact HB.out | apply below_alloc | apply pw_below_drewN | apply below_drew1) | exact HB.out)))); have n2_ := Aside0.mk (below_step (by repeat (first | (with_reducible first | exact HB.out | apply below_alloc | apply pw_below_drewN | apply below_drew1) | exact HB.out)) hb); clear HO229; clear HB; have HO229 := n0_; have HO233 := n1_; have HB := n2_; clear n0_ n1_ n2_; (try clear hb); (try clear hb2); (try clear hk); (try clear hi); (try clear ho0); obtain ⟨Ao36, co36, eo36⟩ := Kd.R_slice HO233.out; subst eo36) | ((with_reducible refine gate_builtin (b := .append) (xs := #[.tmp 69, .tmp 70]) rfl ?_); (try (refine gate_guard (by rfl) ?_; dsimp only)); at_builtin; refine Kd.R_append_rows (Kd.int .u8) (w0 := w) w.heap.size rfl (.tmp 69) (.tmp 70) 29 5 (.int .u8 0) 1 rfl Tryd.underlying29 info5 rfl (by decide) (by omega) v228 t227 t231 _ _ _ (fun k_ => some k_ ≠ (.slice Ao36 t231.length co36 : Value).ownBlock) (fun _ => False) rfl rfl ?aO ?aR (fun _ _ h => h) (fun _ h => h.elim) ?aF ?aB ?aS ?aL ?_; (case aR => repeat (first | exact (Kd.R_reads' HO233.out).2.2 | (with_reducible refine Kd.C_alloc ?_ _) | (with_reducible refine Kd.C_drewN ?_ _) | (with_reducible refine Kd.C_drew ?_))); (case aB => exact (by repeat (first | (with_reducible first | exact HB.out | apply below_alloc | apply pw_below_drewN | apply below_drew1) | exact HB.out))); (case aF => exact (fun k_ hk => Kd.fresh' (Kd.R_lt (by (with_reducible repeat (first | apply Kd.R_alloc | apply Kd.R_drewN | apply Kd.R_drew)); exact HO233.out)) k_ hk)); (case aO => exact (by (with_reducible repeat (first | apply Kd.R_alloc | apply Kd.R_drewN | apply Kd.R_drew)); exact Kd.R_mono HO229.out (fun _ hk => hk.2))); (case aS => exact (below_size (by repeat (first | (with_reducible first | exact HB.out | apply below_alloc | apply pw_below_drewN | apply below_drew1) | exact HB.out)))); (case aL => have := LMc22.out; omega); intro v235 w35 ho hb hg hat; rw [← Ny234.out] at ho; have n0_ := Aside0.mk (Kd.R_after (ok := (fun _ => True)) (by (with_reducible repeat (first | apply Kd.R_alloc | apply Kd.R_drewN | apply Kd.R_drew)); exact HO233.out) hg hat); have n1_ := Aside0.mk (hb); have n2_ := Aside0.mk (ho); clear HO233; clear HB; clear HO229; have HO233 := n0_; have HB := n1_; have HO236 := n2_; clear n0_ n1_ n2_; clear ho hb hg hat))
                                        have n0_ := Aside0.mk (Kd.R_drew HO233.out)
                                        have n1_ := Aside0.mk (Kd.R_drew HO236.out)
                                        have n2_ := Aside0.mk (below_drew1 HB.out)
                                        clear HO233
                                        clear HO236
                                        clear HB
                                        have HO233 := n0_
                                        have HO236 := n1_
                                        have HB := n2_
                                        clear n0_ n1_ n2_
                                        obtain ⟨i038, hi038, _, hsz38, _⟩ := info_parts info5
                                        obtain ⟨A38, hcut38, hA38, hC38⟩ := print_mid_of (P := Tryd.prog) (Value.int .u8) 0 29 5 .i64 .i64 Tryd.underlying29 hi038 hsz38 A0 c0 l0 (ji25) (ji17) (of_decide_eq_true (by first | (with_reducible assumption) | assumption)) (by first | omega | exact of_decide_eq_true (by first | (with_reducible assumption) | assumption)) (of_decide_eq_true (by first | (with_reducible assumption) | assumption)) HC0.out
                                        have HR241 := Aside0.mk (Kd.C_of_reads (h1 := fun _ => rfl) (hA38 _ (Kd.reads_of_C HR0.out)))
                                        have HC241 := Aside0.mk hC38
                                        clear hA38 hC38 hi038 hsz38
                                        obtain ⟨Ao39, co39, eo39⟩ := Kd.R_slice HO236.out
                                        (first | subst eo39 | (injection eo39 with f1_ f2_ f3_; have f4_ := f1_.symm; have f5_ := f3_.symm; clear f1_ f2_ f3_; subst f4_; subst f5_))
                                        refine start_ (n := 10) (S := fun w' => True) (ds := []) #[false, false, false, false, false, false, false, false, false, false] (by kernel_rfl) rfl rfl trivial (fun hHeld => ?_); refine with_tabW custodyref05_Unframe.tab15 custodyref05_Unframe.bits15 (fun HT_ HW_ => ?_)
                                        generalize w35.drew = w37 at HO233 HO236 HB HR241 hHeld ⊢
                                        refine pure_ (i := 0) (N := some 72) (v := ?_) (a' := ?_) #[true, false, false, false, false, false, false, false, false, false] rfl rfl (any_of HT_.out (by kernel_rfl)) (fun _ _ _ h => h) (Or.inl ⟨by rfl, ?_⟩) ?_ ?_
                                        rotate_left
                                        · intro w'
                                          go_simp
                                          with_reducible rfl
                                        rotate_left
                                        · simp only [Act.put, List.setIfInBounds_toArray, List.set_cons_zero, List.set_cons_succ, i64_w, i32_w]
                                          rfl
                                        refine pure_ (i := 3) (N := some 75) (v := ?_) (a' := ?_) #[true, false, false, true, false, false, false, false, false, false] rfl rfl (any_of HT_.out (by kernel_rfl)) (fun _ _ _ h => h) (Or.inl ⟨by rfl, ?_⟩) ?_ ?_
                                        rotate_left
                                        · intro w'
                                          go_simp
                                          with_reducible rfl
                                        rotate_left
                                        · simp only [Act.put, List.setIfInBounds_toArray, List.set_cons_zero, List.set_cons_succ, i64_w, i32_w]
                                          rfl
                                        refine pure_ (i := 4) (N := some 76) (v := ?_) (a' := ?_) #[true, false, false, true, true, false, false, false, false, false] rfl rfl (any_of HT_.out (by kernel_rfl)) (fun _ _ _ h => h) (Or.inl ⟨by rfl, ?_⟩) ?_ ?_
                                        rotate_left
                                        · intro w'
                                          go_simp
                                          with_reducible rfl
                                        rotate_left
                                        · simp only [Act.put, List.setIfInBounds_toArray, List.set_cons_zero, List.set_cons_succ, i64_w, i32_w]
                                          rfl
                                        refine pure_ (i := 5) (N := some 77) (v := ?_) (a' := ?_) #[true, false, false, true, true, true, false, false, false, false] rfl rfl (any_of HT_.out (by kernel_rfl)) (fun _ _ _ h => h) (Or.inl ⟨by rfl, ?_⟩) ?_ ?_
                                        rotate_left
                                        · intro w'
                                          go_simp
                                          with_reducible rfl
                                        rotate_left
                                        · simp only [Act.put, List.setIfInBounds_toArray, List.set_cons_zero, List.set_cons_succ, i64_w, i32_w]
                                          rfl
                                        refine pure_ (i := 6) (N := some 78) (v := ?_) (a' := ?_) #[true, false, false, true, true, true, true, false, false, false] rfl rfl (any_of HT_.out (by kernel_rfl)) (fun _ _ _ h => h) (Or.inl ⟨by rfl, ?_⟩) ?_ ?_
                                        rotate_left
                                        · intro w'
                                          go_simp
                                          with_reducible rfl
                                        rotate_left
                                        · simp only [Act.put, List.setIfInBounds_toArray, List.set_cons_zero, List.set_cons_succ, i64_w, i32_w]
                                          rfl
                                        refine pure_ (i := 7) (N := some 79) (v := ?_) (a' := ?_) #[true, false, false, true, true, true, true, true, false, false] rfl rfl (any_of HT_.out (by kernel_rfl)) (fun _ _ _ h => h) (Or.inl ⟨by rfl, ?_⟩) ?_ ?_
                                        rotate_left
                                        · intro w'
                                          go_simp
                                          with_reducible rfl
                                        rotate_left
                                        · simp only [Act.put, List.setIfInBounds_toArray, List.set_cons_zero, List.set_cons_succ, i64_w, i32_w]
                                          rfl
                                        refine one_ (i := 1) (N := some 73) #[true, true, false, true, true, true, true, true, false, false] rfl rfl (one_of HT_.out (by kernel_rfl)) (by decide) (fun K hK => ?_)
                                        refine goes_ Tryd.func72 (by kernel_rfl) rfl #[.slice Ao39 y234.length co39] (by rfl) rfl rfl (by (try simp only [List.map_toArray, List.map_cons, List.map_nil]); first | done | rfl | (simp only [List.length_drop, List.length_take]; rfl)) ?_
                                        with_reducible refine (custodyref05_Sum.calls kj8 _ _ y234 t237 _ ?side1 ?side2 A23.out).mono ?_
                                        (case side1 => repeat (first | exact (Kd.R_reads' HO236.out).2.2 | (with_reducible refine Kd.C_alloc ?_ _) | (with_reducible refine Kd.C_drewN ?_ _) | (with_reducible refine Kd.C_drew ?_)))
                                        (case side2 => exact (Kd.R_reads' HO236.out).2.1)
                                        rintro e w' ⟨rfl, ⟨nd, rfl⟩⟩
                                        refine ⟨_, rfl, ?_⟩
                                        refine hK.out _ _ trivial (fun hHeld => ?_)
                                        clear hK K
                                        refine norm_ (a' := ?_) ?_ ?_
                                        rotate_left
                                        · show Act.put _ (some 73) _ = _
                                          simp only [Act.put, List.setIfInBounds_toArray, List.set_cons_zero, List.set_cons_succ, i64_w, i32_w]
                                          rfl
                                        refine one_ (i := 2) (N := some 74) #[true, true, true, true, true, true, true, true, false, false] rfl rfl (one_of HT_.out (by kernel_rfl)) (by decide) (fun K hK => ?_)
                                        refine goes_ Tryd.func71 (by kernel_rfl) rfl #[.slice none 0 0, .int .u32 t237] (by rfl) rfl rfl (by (try simp only [List.map_toArray, List.map_cons, List.map_nil]); first | done | rfl | (simp only [List.length_drop, List.length_take]; rfl)) ?_
                                        refine (custodyref05_PutSum.calls (fun k_ => some k_ = (.slice none 0 0 : Value).ownBlock) (.slice none 0 0) ([] : List Int) t237 t238 w _ ?side1 ?side2 A24.out).mono ?_
                                        (case side1 => repeat (first | (with_reducible first | exact HB.out | apply below_alloc | apply pw_below_drewN | apply below_drew1) | exact HB.out))
                                        (case side2 => exact Kd.R_nil _ _ _ _ _)
                                        rintro e w40 ⟨v239, rfl, ho0, hb, hkp⟩
                                        refine ⟨_, rfl, ?_⟩
                                        have n0_ := Aside0.mk (Kd.R_mono (ok' := fun k_ => some k_ ≠ (.slice Ao39 y234.length co39 : Value).ownBlock ∧ some k_ ≠ (v239 : Value).ownBlock) (Kd.R_keptB (HO233.out) hkp (fun k_ hk_ hs_ => (fun e_ => by simp [Value.ownBlock] at e_) hs_)) (fun k_ hk_ => ⟨hk_.1.2, fun e_ => Or.elim (ho0.1 k_ e_.symm) (fun hs_ => hk_.2.1 hs_) (fun hn_ => Nat.not_le.2 hk_.2.2 hn_)⟩))
                                        have n1_ := Aside0.mk (Kd.R_mono (ok' := fun k_ => some k_ ≠ (.slice Ao36 t231.length co36 : Value).ownBlock ∧ some k_ ≠ (v239 : Value).ownBlock) (Kd.R_keptB (HO236.out) hkp (fun k_ hk_ hs_ => (fun e_ => by simp [Value.ownBlock] at e_) hs_)) (fun k_ hk_ => ⟨hk_.1, fun e_ => Or.elim (ho0.1 k_ e_.symm) (fun hs_ => hk_.2.1 hs_) (fun hn_ => Nat.not_le.2 hk_.2.2 hn_)⟩))
                                        have n2_ := Aside0.mk (Kd.R_mono (ok' := fun k_ => some k_ ≠ (.slice Ao36 t231.length co36 : Value).ownBlock ∧ some k_ ≠ (.slice Ao39 y234.length co39 : Value).ownBlock) ho0 (fun k_ hk_ => ⟨Or.elim hk_ (fun hs_ => absurd hs_ (by simp [Value.ownBlock])) (fun hn_ => (Kd.fresh' (Kd.R_lt (by (with_reducible repeat (first | apply Kd.R_alloc | apply Kd.R_drewN | apply Kd.R_drew)); exact HO233.out)) k_ hn_)), Or.elim hk_ (fun hs_ => absurd hs_ (by simp [Value.ownBlock])) (fun hn_ => (Kd.fresh' (Kd.R_lt (by (with_reducible repeat (first | apply Kd.R_alloc | apply Kd.R_drewN | apply Kd.R_drew)); exact HO236.out)) k_ hn_))⟩))
                                        have n3_ := Aside0.mk (hb)
                                        clear HO233
                                        clear HO236
                                        clear HB
                                        have HO233 := n0_
                                        have HO236 := n1_
                                        have HO240 := n2_
                                        have HB := n3_
                                        clear n0_ n1_ n2_ n3_
                                        (try clear hb)
                                        (try clear hkp)
                                        (try clear ho0)
                                        obtain ⟨Ao41, co41, eo41⟩ := Kd.R_slice HO240.out
                                        (first | subst eo41 | (injection eo41 with f1_ f2_ f3_; have f4_ := f1_.symm; have f5_ := f3_.symm; clear f1_ f2_ f3_; subst f4_; subst f5_))
                                        refine hK.out _ _ trivial (fun hHeld => ?_)
                                        clear hK K
                                        refine norm_ (a' := ?_) ?_ ?_
                                        rotate_left
                                        · show Act.put _ (some 74) _ = _
                                          simp only [Act.put, List.setIfInBounds_toArray, List.set_cons_zero, List.set_cons_succ, i64_w, i32_w]
                                          rfl
                                        refine one_ (i := 8) (N := some 80) #[true, true, true, true, true, true, true, true, true, false] rfl rfl (one_of HT_.out (by kernel_rfl)) (by decide) (fun K hK => ?_)
                                        refine goes_ Tryd.func11 (by kernel_rfl) rfl #[.slice Ao41 t238.length co41, .slice A38 ((l0.take ((ji17) : Int).toNat).drop ((ji25) : Int).toNat).length (c0 - (ji25).toNat)] (by rfl) rfl rfl (by (try simp only [List.map_toArray, List.map_cons, List.map_nil]); first | done | (rw [show ((l0.take ((ji17) : Int).toNat).drop ((ji25) : Int).toNat).length = ((ji17).toNat - (ji25).toNat) from (by rw [List.length_drop, List.length_take]; have h_ : ((ji17) : Int) ≤ (l0.length : Int) := of_decide_eq_true (by first | (with_reducible assumption) | assumption); omega)] <;> rfl) | (simp only [hji17, hji25]; rfl) | rfl | (simp only [List.length_drop, List.length_take]; rfl)) ?_
                                        with_reducible refine (custodyref0_SameBytes.calls kj8 _ _ t238 _ _ ((l0.take ((ji17) : Int).toNat).drop ((ji25) : Int).toNat) true _ ?side1 ?side2 ?side3 ?side4 A29.out).mono ?_
                                        (case side1 => repeat (first | exact (Kd.R_reads' HO240.out).2.2 | (with_reducible refine Kd.C_alloc ?_ _) | (with_reducible refine Kd.C_drewN ?_ _) | (with_reducible refine Kd.C_drew ?_)))
                                        (case side2 => exact (Kd.R_reads' HO240.out).2.1)
                                        (case side3 => repeat (first | exact (Kd.C_below HR241.out HB.out) | (with_reducible refine Kd.C_alloc ?_ _) | (with_reducible refine Kd.C_drewN ?_ _) | (with_reducible refine Kd.C_drew ?_)))
                                        (case side4 => exact HC241.out)
                                        rintro e w' ⟨rfl, ⟨nd, rfl⟩⟩
                                        refine ⟨_, rfl, ?_⟩
                                        refine hK.out _ _ trivial (fun hHeld => ?_)
                                        clear hK K
                                        refine norm_ (a' := ?_) ?_ ?_
                                        rotate_left
                                        · show Act.put _ (some 80) _ = _
                                          simp only [Act.put, List.setIfInBounds_toArray, List.set_cons_zero, List.set_cons_succ, i64_w, i32_w]
                                          rfl
                                        refine pure_ (i := 9) (N := some 81) (v := ?_) (a' := ?_) #[true, true, true, true, true, true, true, true, true, true] rfl rfl (any_of HT_.out (by kernel_rfl)) (fun _ _ _ h => h) (Or.inl ⟨by rfl, ?_⟩) ?_ ?_
                                        rotate_left
                                        · intro w'
                                          go_simp
                                          with_reducible rfl
                                        rotate_left
                                        · simp only [Act.put, List.setIfInBounds_toArray, List.set_cons_zero, List.set_cons_succ, i64_w, i32_w]
                                          rfl
                                        refine done_ (done_of HT_.out (by kernel_rfl)) ?_
                                        try go_wp2
                                        refine bodyPost_ret (results_list (rs := [.tmp 2, .tmp 3, .tmp 4, .tmp 5]) rfl (by simp) (.tmp (.tmp (.tmp (.tmp .nil))))) rfl ?_
                                        exact ⟨_, by first | rfl | (simp [errW_none, errW_some] <;> rfl) | (simp only [← hji17, ← hji25]; first | rfl | (simp [errW_none, errW_some] <;> rfl)) | (simp [*, errW_none, errW_some] <;> rfl), by (with_reducible repeat (first | apply Kd.R_alloc | apply Kd.R_drewN | apply Kd.R_drew)); exact Kd.R_mono HO233.out (fun _ hk => trivial), by repeat (first | (with_reducible first | exact HB.out | apply below_alloc | apply pw_below_drewN | apply below_drew1) | exact HB.out)⟩
                                      · replace c30 := Bool.eq_false_iff.mpr c30
                                        subst c30
                                        have H1 : (some (0, ([] : List Int), 0, 7)) = some (r1, r2, r3, r4) := by rw [if_neg (show ¬ (false = true) by decide)] at H; exact H
                                        clear H
                                        have H := H1
                                        clear H1
                                        simp only [Option.some.injEq, Prod.mk.injEq] at H
                                        obtain ⟨rfl, rfl, rfl, rfl⟩ := H
                                        obtain ⟨i042, hi042, _, hsz42, _⟩ := info_parts info5
                                        obtain ⟨A42, hcut42, hA42, hC42⟩ := print_mid_of (P := Tryd.prog) (Value.int .u8) 0 29 5 .i64 .i64 Tryd.underlying29 hi042 hsz42 A0 c0 l0 t220 (ji25) (of_decide_eq_true (by first | (with_reducible assumption) | assumption)) (by first | omega | exact of_decide_eq_true (by first | (with_reducible assumption) | assumption)) (of_decide_eq_true (by first | (with_reducible assumption) | assumption)) HC0.out
                                        have HR226 := Aside0.mk (Kd.C_of_reads (h1 := fun _ => rfl) (hA42 _ (Kd.reads_of_C HR0.out)))
                                        have HC226 := Aside0.mk hC42
                                        clear hA42 hC42 hi042 hsz42
                                        rw [hji25] at hji17
                                        rw [hji25] at hji17w
                                        try go_wp2_with (first | ((with_reducible refine gate_callee (f := 53) rfl ?_); refine goesL_ (some 58) rfl rfl Tryd.func53 (by kernel_rfl) rfl #[.slice A42 ((l0.take ((ji25) : Int).toNat).drop (t220 : Int).toNat).length (c0 - t220.toNat)] rfl (by (try simp only [List.map_toArray, List.map_cons, List.map_nil]); first | done | (rw [show ((l0.take ((ji25) : Int).toNat).drop (t220 : Int).toNat).length = ((ji25).toNat - t220.toNat) from (by rw [List.length_drop, List.length_take]; have h_ : ((ji25) : Int) ≤ (l0.length : Int) := of_decide_eq_true (by first | (with_reducible assumption) | assumption); omega)] <;> rfl) | (simp only [hji25]; rfl) | rfl | (simp only [List.length_drop, List.length_take]; rfl)) ?_; (with_reducible refine (custodyref0_CopyBytes.calls kj8 _ _ ((l0.take ((ji25) : Int).toNat).drop (t220 : Int).toNat) t227 _ ?side1 ?side2 A16.out).mono ?_); (case side1 => repeat (first | exact (Kd.C_below HR226.out HB.out) | (with_reducible refine Kd.C_alloc ?_ _) | (with_reducible refine Kd.C_drewN ?_ _) | (with_reducible refine Kd.C_drew ?_))); (case side2 => exact HC226.out); rintro e w43 ⟨v228, rfl, ho0, hb⟩; refine ⟨_, rfl, ?_⟩; have n0_ := Aside0.mk (Kd.R_lower ho0 (below_size (by repeat (first | (with_reducible first | exact HB.out | apply below_alloc | apply pw_below_drewN | apply below_drew1) | exact HB.out)))); have n1_ := Aside0.mk (below_step (by repeat (first | (with_reducible first | exact HB.out | apply below_alloc | apply pw_below_drewN | apply below_drew1) | exact HB.out)) hb); clear HB; have HO229 := n0_; have HB := n1_; clear n0_ n1_; (try clear hb); (try clear hb2); (try clear hk); (try clear hi); (try clear ho0); obtain ⟨i044, hi044, _, hsz44, _⟩ := info_parts info5; obtain ⟨A44, hcut44, hA44, hC44⟩ := print_mid_of (P := Tryd.prog) (Value.int .u8) 0 29 5 .i64 .i64 Tryd.underlying29 hi044 hsz44 A0 c0 l0 (ji17) (wrap64 ((ji17) + (wrap64 (t219)))) (of_decide_eq_true (by first | (with_reducible assumption) | assumption)) (by first | omega | exact of_decide_eq_true (by first | (with_reducible assumption) | assumption)) (of_decide_eq_true (by first | (with_reducible assumption) | assumption)) HC0.out; have HR230 := Aside0.mk (Kd.C_of_reads (h1 := fun _ => rfl) (hA44 _ (Kd.reads_of_C HR0.out))); have HC230 := Aside0.mk hC44; clear hA44 hC44 hi044 hsz44) | ((with_reducible refine gate_callee (f := 53) rfl ?_); refine goesL_ (some 68) rfl rfl Tryd.func53 (by kernel_rfl) rfl #[.slice A44 ((l0.take ((wrap64 ((ji17) + (wrap64 (t219)))) : Int).toNat).drop ((ji17) : Int).toNat).length (c0 - (ji17).toNat)] rfl (by (try simp only [List.map_toArray, List.map_cons, List.map_nil]); first | done | (rw [show ((l0.take ((wrap64 ((ji17) + (wrap64 (t219)))) : Int).toNat).drop ((ji17) : Int).toNat).length = ((wrap64 ((ji17) + (wrap64 (t219)))).toNat - (ji17).toNat) from (by rw [List.length_drop, List.length_take]; have h_ : ((wrap64 ((ji17) + (wrap64 (t219)))) : Int) ≤ (l0.length : Int) := of_decide_eq_true (by first | (with_reducible assumption) | assumption); omega)] <;> rfl) | (simp only [hji17]; rfl) | rfl | (simp only [List.length_drop, List.length_take]; rfl)) ?_; (with_reducible refine (custodyref0_CopyBytes.calls kj8 _ _ ((l0.take ((wrap64 ((ji17) + (wrap64 (t219)))) : Int).toNat).drop ((ji17) : Int).toNat) t231 _ ?side1 ?side2 A21.out).mono ?_); (case side1 => repeat (first | exact (Kd.C_below HR230.out HB.out) | (with_reducible refine Kd.C_alloc ?_ _) | (with_reducible refine Kd.C_drewN ?_ _) | (with_reducible refine Kd.C_drew ?_))); (case side2 => exact HC230.out); rintro e w45 ⟨v232, rfl, ho0, hb⟩; refine ⟨_, rfl, ?_⟩; have n0_ := Aside0.mk (Kd.R_elder' (by (with_reducible repeat (first | apply Kd.R_alloc | apply Kd.R_drewN | apply Kd.R_drew)); exact HO229.out) (Kd.R_base ho0) hb); have n1_ := Aside0.mk (Kd.R_lower (Kd.R_new' ho0 (Kd.R_lt (by (with_reducible repeat (first | apply Kd.R_alloc | apply Kd.R_drewN | apply Kd.R_drew)); exact HO229.out))) (below_size (by repeat (first | (with_reducible first | exact HB.out | apply below_alloc | apply pw_below_drewN | apply below_drew1) | exact HB.out)))); have n2_ := Aside0.mk (below_step (by repeat (first | (with_reducible first | exact HB.out | apply below_alloc | apply pw_below_drewN | apply below_drew1) | exact HB.out)) hb); clear HO229; clear HB; have HO229 := n0_; have HO233 := n1_; have HB := n2_; clear n0_ n1_ n2_; (try clear hb); (try clear hb2); (try clear hk); (try clear hi); (try clear ho0); obtain ⟨Ao47, co47, eo47⟩ := Kd.R_slice HO233.out; subst eo47) | ((with_reducible refine gate_builtin (b := .append) (xs := #[.tmp 69, .tmp 70]) rfl ?_); (try (refine gate_guard (by rfl) ?_; dsimp only)); at_builtin; refine Kd.R_append_rows (Kd.int .u8) (w0 := w) w.heap.size rfl (.tmp 69) (.tmp 70) 29 5 (.int .u8 0) 1 rfl Tryd.underlying29 info5 rfl (by decide) (by omega) v228 t227 t231 _ _ _ (fun k_ => some k_ ≠ (.slice Ao47 t231.length co47 : Value).ownBlock) (fun _ => False) rfl rfl ?aO ?aR (fun _ _ h => h) (fun _ h => h.elim) ?aF ?aB ?aS ?aL ?_; (case aR => repeat (first | exact (Kd.R_reads' HO233.out).2.2 | (with_reducible refine Kd.C_alloc ?_ _) | (with_reducible refine Kd.C_drewN ?_ _) | (with_reducible refine Kd.C_drew ?_))); (case aB => exact (by repeat (first | (with_reducible first | exact HB.out | apply below_alloc | apply pw_below_drewN | apply below_drew1) | exact HB.out))); (case aF => exact (fun k_ hk => Kd.fresh' (Kd.R_lt (by (with_reducible repeat (first | apply Kd.R_alloc | apply Kd.R_drewN | apply Kd.R_drew)); exact HO233.out)) k_ hk)); (case aO => exact (by (with_reducible repeat (first | apply Kd.R_alloc | apply Kd.R_drewN | apply Kd.R_drew)); exact Kd.R_mono HO229.out (fun _ hk => hk.2))); (case aS => exact (below_size (by repeat (first | (with_reducible first | exact HB.out | apply below_alloc | apply pw_below_drewN | apply below_drew1) | exact HB.out)))); (case aL => have := LMc22.out; omega); intro v235 w46 ho hb hg hat; rw [← Ny234.out] at ho; have n0_ := Aside0.mk (Kd.R_after (ok := (fun _ => True)) (by (with_reducible repeat (first | apply Kd.R_alloc | apply Kd.R_drewN | apply Kd.R_drew)); exact HO233.out) hg hat); have n1_ := Aside0.mk (hb); have n2_ := Aside0.mk (ho); clear HO233; clear HB; clear HO229; have HO233 := n0_; have HB := n1_; have HO236 := n2_; clear n0_ n1_ n2_; clear ho hb hg hat))
                                        have n0_ := Aside0.mk (Kd.R_drew HO233.out)
                                        have n1_ := Aside0.mk (Kd.R_drew HO236.out)
                                        have n2_ := Aside0.mk (below_drew1 HB.out)
                                        clear HO233
                                        clear HO236
                                        clear HB
                                        have HO233 := n0_
                                        have HO236 := n1_
                                        have HB := n2_
                                        clear n0_ n1_ n2_
                                        obtain ⟨i049, hi049, _, hsz49, _⟩ := info_parts info5
                                        obtain ⟨A49, hcut49, hA49, hC49⟩ := print_mid_of (P := Tryd.prog) (Value.int .u8) 0 29 5 .i64 .i64 Tryd.underlying29 hi049 hsz49 A0 c0 l0 (ji25) (ji17) (of_decide_eq_true (by first | (with_reducible assumption) | assumption)) (by first | omega | exact of_decide_eq_true (by first | (with_reducible assumption) | assumption)) (of_decide_eq_true (by first | (with_reducible assumption) | assumption)) HC0.out
                                        have HR241 := Aside0.mk (Kd.C_of_reads (h1 := fun _ => rfl) (hA49 _ (Kd.reads_of_C HR0.out)))
                                        have HC241 := Aside0.mk hC49
                                        clear hA49 hC49 hi049 hsz49
                                        obtain ⟨Ao50, co50, eo50⟩ := Kd.R_slice HO236.out
                                        (first | subst eo50 | (injection eo50 with f1_ f2_ f3_; have f4_ := f1_.symm; have f5_ := f3_.symm; clear f1_ f2_ f3_; subst f4_; subst f5_))
                                        refine start_ (n := 10) (S := fun w' => True) (ds := []) #[false, false, false, false, false, false, false, false, false, false] (by kernel_rfl) rfl rfl trivial (fun hHeld => ?_); refine with_tabW custodyref05_Unframe.tab15 custodyref05_Unframe.bits15 (fun HT_ HW_ => ?_)
                                        generalize w46.drew = w48 at HO233 HO236 HB HR241 hHeld ⊢
                                        refine pure_ (i := 0) (N := some 72) (v := ?_) (a' := ?_) #[true, false, false, false, false, false, false, false, false, false] rfl rfl (any_of HT_.out (by kernel_rfl)) (fun _ _ _ h => h) (Or.inl ⟨by rfl, ?_⟩) ?_ ?_
                                        rotate_left
                                        · intro w'
                                          go_simp
                                          with_reducible rfl
                                        rotate_left
                                        · simp only [Act.put, List.setIfInBounds_toArray, List.set_cons_zero, List.set_cons_succ, i64_w, i32_w]
                                          rfl
                                        refine pure_ (i := 3) (N := some 75) (v := ?_) (a' := ?_) #[true, false, false, true, false, false, false, false, false, false] rfl rfl (any_of HT_.out (by kernel_rfl)) (fun _ _ _ h => h) (Or.inl ⟨by rfl, ?_⟩) ?_ ?_
                                        rotate_left
                                        · intro w'
                                          go_simp
                                          with_reducible rfl
                                        rotate_left
                                        · simp only [Act.put, List.setIfInBounds_toArray, List.set_cons_zero, List.set_cons_succ, i64_w, i32_w]
                                          rfl
                                        refine pure_ (i := 4) (N := some 76) (v := ?_) (a' := ?_) #[true, false, false, true, true, false, false, false, false, false] rfl rfl (any_of HT_.out (by kernel_rfl)) (fun _ _ _ h => h) (Or.inl ⟨by rfl, ?_⟩) ?_ ?_
                                        rotate_left
                                        · intro w'
                                          go_simp
                                          with_reducible rfl
                                        rotate_left
                                        · simp only [Act.put, List.setIfInBounds_toArray, List.set_cons_zero, List.set_cons_succ, i64_w, i32_w]
                                          rfl
                                        refine pure_ (i := 5) (N := some 77) (v := ?_) (a' := ?_) #[true, false, false, true, true, true, false, false, false, false] rfl rfl (any_of HT_.out (by kernel_rfl)) (fun _ _ _ h => h) (Or.inl ⟨by rfl, ?_⟩) ?_ ?_
                                        rotate_left
                                        · intro w'
                                          go_simp
                                          with_reducible rfl
                                        rotate_left
                                        · simp only [Act.put, List.setIfInBounds_toArray, List.set_cons_zero, List.set_cons_succ, i64_w, i32_w]
                                          rfl
                                        refine pure_ (i := 6) (N := some 78) (v := ?_) (a' := ?_) #[true, false, false, true, true, true, true, false, false, false] rfl rfl (any_of HT_.out (by kernel_rfl)) (fun _ _ _ h => h) (Or.inl ⟨by rfl, ?_⟩) ?_ ?_
                                        rotate_left
                                        · intro w'
                                          go_simp
                                          with_reducible rfl
                                        rotate_left
                                        · simp only [Act.put, List.setIfInBounds_toArray, List.set_cons_zero, List.set_cons_succ, i64_w, i32_w]
                                          rfl
                                        refine pure_ (i := 7) (N := some 79) (v := ?_) (a' := ?_) #[true, false, false, true, true, true, true, true, false, false] rfl rfl (any_of HT_.out (by kernel_rfl)) (fun _ _ _ h => h) (Or.inl ⟨by rfl, ?_⟩) ?_ ?_
                                        rotate_left
                                        · intro w'
                                          go_simp
                                          with_reducible rfl
                                        rotate_left
                                        · simp only [Act.put, List.setIfInBounds_toArray, List.set_cons_zero, List.set_cons_succ, i64_w, i32_w]
                                          rfl
                                        refine one_ (i := 1) (N := some 73) #[true, true, false, true, true, true, true, true, false, false] rfl rfl (one_of HT_.out (by kernel_rfl)) (by decide) (fun K hK => ?_)
                                        refine goes_ Tryd.func72 (by kernel_rfl) rfl #[.slice Ao50 y234.length co50] (by rfl) rfl rfl (by (try simp only [List.map_toArray, List.map_cons, List.map_nil]); first | done | rfl | (simp only [List.length_drop, List.length_take]; rfl)) ?_
                                        with_reducible refine (custodyref05_Sum.calls kj8 _ _ y234 t237 _ ?side1 ?side2 A23.out).mono ?_
                                        (case side1 => repeat (first | exact (Kd.R_reads' HO236.out).2.2 | (with_reducible refine Kd.C_alloc ?_ _) | (with_reducible refine Kd.C_drewN ?_ _) | (with_reducible refine Kd.C_drew ?_)))
                                        (case side2 => exact (Kd.R_reads' HO236.out).2.1)
                                        rintro e w' ⟨rfl, ⟨nd, rfl⟩⟩
                                        refine ⟨_, rfl, ?_⟩
                                        refine hK.out _ _ trivial (fun hHeld => ?_)
                                        clear hK K
                                        refine norm_ (a' := ?_) ?_ ?_
                                        rotate_left
                                        · show Act.put _ (some 73) _ = _
                                          simp only [Act.put, List.setIfInBounds_toArray, List.set_cons_zero, List.set_cons_succ, i64_w, i32_w]
                                          rfl
                                        refine one_ (i := 2) (N := some 74) #[true, true, true, true, true, true, true, true, false, false] rfl rfl (one_of HT_.out (by kernel_rfl)) (by decide) (fun K hK => ?_)
                                        refine goes_ Tryd.func71 (by kernel_rfl) rfl #[.slice none 0 0, .int .u32 t237] (by rfl) rfl rfl (by (try simp only [List.map_toArray, List.map_cons, List.map_nil]); first | done | rfl | (simp only [List.length_drop, List.length_take]; rfl)) ?_
                                        refine (custodyref05_PutSum.calls (fun k_ => some k_ = (.slice none 0 0 : Value).ownBlock) (.slice none 0 0) ([] : List Int) t237 t238 w _ ?side1 ?side2 A24.out).mono ?_
                                        (case side1 => repeat (first | (with_reducible first | exact HB.out | apply below_alloc | apply pw_below_drewN | apply below_drew1) | exact HB.out))
                                        (case side2 => exact Kd.R_nil _ _ _ _ _)
                                        rintro e w51 ⟨v239, rfl, ho0, hb, hkp⟩
                                        refine ⟨_, rfl, ?_⟩
                                        have n0_ := Aside0.mk (Kd.R_mono (ok' := fun k_ => some k_ ≠ (.slice Ao50 y234.length co50 : Value).ownBlock ∧ some k_ ≠ (v239 : Value).ownBlock) (Kd.R_keptB (HO233.out) hkp (fun k_ hk_ hs_ => (fun e_ => by simp [Value.ownBlock] at e_) hs_)) (fun k_ hk_ => ⟨hk_.1.2, fun e_ => Or.elim (ho0.1 k_ e_.symm) (fun hs_ => hk_.2.1 hs_) (fun hn_ => Nat.not_le.2 hk_.2.2 hn_)⟩))
                                        have n1_ := Aside0.mk (Kd.R_mono (ok' := fun k_ => some k_ ≠ (.slice Ao47 t231.length co47 : Value).ownBlock ∧ some k_ ≠ (v239 : Value).ownBlock) (Kd.R_keptB (HO236.out) hkp (fun k_ hk_ hs_ => (fun e_ => by simp [Value.ownBlock] at e_) hs_)) (fun k_ hk_ => ⟨hk_.1, fun e_ => Or.elim (ho0.1 k_ e_.symm) (fun hs_ => hk_.2.1 hs_) (fun hn_ => Nat.not_le.2 hk_.2.2 hn_)⟩))
                                        have n2_ := Aside0.mk (Kd.R_mono (ok' := fun k_ => some k_ ≠ (.slice Ao47 t231.length co47 : Value).ownBlock ∧ some k_ ≠ (.slice Ao50 y234.length co50 : Value).ownBlock) ho0 (fun k_ hk_ => ⟨Or.elim hk_ (fun hs_ => absurd hs_ (by simp [Value.ownBlock])) (fun hn_ => (Kd.fresh' (Kd.R_lt (by (with_reducible repeat (first | apply Kd.R_alloc | apply Kd.R_drewN | apply Kd.R_drew)); exact HO233.out)) k_ hn_)), Or.elim hk_ (fun hs_ => absurd hs_ (by simp [Value.ownBlock])) (fun hn_ => (Kd.fresh' (Kd.R_lt (by (with_reducible repeat (first | apply Kd.R_alloc | apply Kd.R_drewN | apply Kd.R_drew)); exact HO236.out)) k_ hn_))⟩))
                                        have n3_ := Aside0.mk (hb)
                                        clear HO233
                                        clear HO236
                                        clear HB
                                        have HO233 := n0_
                                        have HO236 := n1_
                                        have HO240 := n2_
                                        have HB := n3_
                                        clear n0_ n1_ n2_ n3_
                                        (try clear hb)
                                        (try clear hkp)
                                        (try clear ho0)
                                        obtain ⟨Ao52, co52, eo52⟩ := Kd.R_slice HO240.out
                                        (first | subst eo52 | (injection eo52 with f1_ f2_ f3_; have f4_ := f1_.symm; have f5_ := f3_.symm; clear f1_ f2_ f3_; subst f4_; subst f5_))
                                        refine hK.out _ _ trivial (fun hHeld => ?_)
                                        clear hK K
                                        refine norm_ (a' := ?_) ?_ ?_
                                        rotate_left
                                        · show Act.put _ (some 74) _ = _
                                          simp only [Act.put, List.setIfInBounds_toArray, List.set_cons_zero, List.set_cons_succ, i64_w, i32_w]
                                          rfl
                                        refine one_ (i := 8) (N := some 80) #[true, true, true, true, true, true, true, true, true, false] rfl rfl (one_of HT_.out (by kernel_rfl)) (by decide) (fun K hK => ?_)
                                        refine goes_ Tryd.func11 (by kernel_rfl) rfl #[.slice Ao52 t238.length co52, .slice A49 ((l0.take ((ji17) : Int).toNat).drop ((ji25) : Int).toNat).length (c0 - (ji25).toNat)] (by rfl) rfl rfl (by (try simp only [List.map_toArray, List.map_cons, List.map_nil]); first | done | (rw [show ((l0.take ((ji17) : Int).toNat).drop ((ji25) : Int).toNat).length = ((ji17).toNat - (ji25).toNat) from (by rw [List.length_drop, List.length_take]; have h_ : ((ji17) : Int) ≤ (l0.length : Int) := of_decide_eq_true (by first | (with_reducible assumption) | assumption); omega)] <;> rfl) | (simp only [hji17, hji25]; rfl) | rfl | (simp only [List.length_drop, List.length_take]; rfl)) ?_
                                        with_reducible refine (custodyref0_SameBytes.calls kj8 _ _ t238 _ _ ((l0.take ((ji17) : Int).toNat).drop ((ji25) : Int).toNat) false _ ?side1 ?side2 ?side3 ?side4 A29.out).mono ?_
                                        (case side1 => repeat (first | exact (Kd.R_reads' HO240.out).2.2 | (with_reducible refine Kd.C_alloc ?_ _) | (with_reducible refine Kd.C_drewN ?_ _) | (with_reducible refine Kd.C_drew ?_)))
                                        (case side2 => exact (Kd.R_reads' HO240.out).2.1)
                                        (case side3 => repeat (first | exact (Kd.C_below HR241.out HB.out) | (with_reducible refine Kd.C_alloc ?_ _) | (with_reducible refine Kd.C_drewN ?_ _) | (with_reducible refine Kd.C_drew ?_)))
                                        (case side4 => exact HC241.out)
                                        rintro e w' ⟨rfl, ⟨nd, rfl⟩⟩
                                        refine ⟨_, rfl, ?_⟩
                                        refine hK.out _ _ trivial (fun hHeld => ?_)
                                        clear hK K
                                        refine norm_ (a' := ?_) ?_ ?_
                                        rotate_left
                                        · show Act.put _ (some 80) _ = _
                                          simp only [Act.put, List.setIfInBounds_toArray, List.set_cons_zero, List.set_cons_succ, i64_w, i32_w]
                                          rfl
                                        refine pure_ (i := 9) (N := some 81) (v := ?_) (a' := ?_) #[true, true, true, true, true, true, true, true, true, true] rfl rfl (any_of HT_.out (by kernel_rfl)) (fun _ _ _ h => h) (Or.inl ⟨by rfl, ?_⟩) ?_ ?_
                                        rotate_left
                                        · intro w'
                                          go_simp
                                          with_reducible rfl
                                        rotate_left
                                        · simp only [Act.put, List.setIfInBounds_toArray, List.set_cons_zero, List.set_cons_succ, i64_w, i32_w]
                                          rfl
                                        refine done_ (done_of HT_.out (by kernel_rfl)) ?_
                                        try go_wp2
                                        refine bodyPost_ret (results_list (rs := [.tmp 2, .tmp 3, .tmp 4, .tmp 5]) rfl (by simp) (.tmp (.tmp (.tmp (.tmp .nil))))) rfl ?_
                                        exact ⟨_, by first | rfl | (simp [errW_none, errW_some] <;> rfl) | (simp only [← hji17, ← hji25]; first | rfl | (simp [errW_none, errW_some] <;> rfl)) | (simp [*, errW_none, errW_some] <;> rfl), by first | exact Kd.R_nil _ _ _ _ _ | exact Kd.N_nil _ _ _ _ _ | exact Kd.V_nil _ _ _ _ _ | exact Kd.Q_nil _ _ _ _ _ | exact Kd.S_nil _ _ _ _ _, by repeat (first | (with_reducible first | exact HB.out | apply below_alloc | apply pw_below_drewN | apply below_drew1) | exact HB.out)⟩
                                    · rw [if_neg c28] at H
                                      exact absurd H (by simp)
                                  · rw [if_neg c27] at H
                                    exact absurd H (by simp)
                                · rw [if_neg c26] at H
                                  exact absurd H (by simp)
                              · rw [if_neg c22] at H
                                exact absurd H (by simp)
                            · rw [if_neg c20] at H
                              exact absurd H (by simp)
                          · rw [if_neg c19] at H
                            exact absurd H (by simp)
                        · rw [if_neg c18] at H
                          exact absurd H (by simp)
                      · rw [if_neg c15] at H
                        exact absurd H (by simp)
                    · rw [if_neg c14] at H
                      exact absurd H (by simp)
                  · rw [if_neg c13] at H
                    exact absurd H (by simp)
          · rw [if_neg c8] at H
            have c8b0 : (t225 == 0) = false := beq_eq_false_iff_ne.mpr c8
            have c8b1 : (t225 != 0) = true := bne_iff_ne.mpr c8
            simp only [Option.some.injEq, Prod.mk.injEq] at H
            obtain ⟨rfl, rfl, rfl, rfl⟩ := H
            go_enter Tryd.func51, Tryd.ntmps51
            go_wp2_with (first | ((with_reducible refine gate_callee (f := 70) rfl ?_); refine goesL_ (some 16) rfl rfl Tryd.func70 (by kernel_rfl) rfl #[.slice A0 l0.length c0] rfl (by (try simp only [List.map_toArray, List.map_cons, List.map_nil]); first | done | rfl | (simp only [List.length_drop, List.length_take]; rfl)) ?_; (with_reducible refine (custodyref05_Uint.calls k _ _ l0 t219 t220 t221 _ ?side1 ?side2 A2.out).mono ?_); (case side1 => repeat (first | exact HR0.out | (with_reducible refine Kd.C_alloc ?_ _) | (with_reducible refine Kd.C_drewN ?_ _) | (with_reducible refine Kd.C_drew ?_))); (case side2 => exact HC0.out); rintro e w' ⟨rfl, ⟨nd, rfl⟩⟩; refine ⟨_, rfl, ?_⟩; obtain ⟨i053, hi053, _, hsz53, _⟩ := info_parts info5; obtain ⟨A53, hcut53, hA53, hC53⟩ := print_drop_of (P := Tryd.prog) (Value.int .u8) 0 29 5 .i64 Tryd.underlying29 hi053 hsz53 A0 c0 l0 t220 (of_decide_eq_true (by first | (with_reducible assumption) | assumption)) (of_decide_eq_true (by first | (with_reducible assumption) | assumption)) HC0.out; have HR222 := Aside0.mk (Kd.C_of_reads (h1 := fun _ => rfl) (hA53 _ (Kd.reads_of_C HR0.out))); have HC222 := Aside0.mk hC53; clear hA53 hC53 hi053 hsz53) | ((with_reducible refine gate_callee (f := 70) rfl ?_); refine goesL_ (some 29) rfl rfl Tryd.func70 (by kernel_rfl) rfl #[.slice A53 (l0.drop (t220 : Int).toNat).length (c0 - t220.toNat)] rfl (by (try simp only [List.map_toArray, List.map_cons, List.map_nil]); first | done | (rw [show (l0.drop (t220 : Int).toNat).length = (l0.length - t220.toNat) from List.length_drop] <;> rfl) | rfl | (simp only [List.length_drop, List.length_take]; rfl)) ?_; (with_reducible refine (custodyref05_Uint.calls k _ _ (l0.drop (t220 : Int).toNat) t223 t224 t225 _ ?side1 ?side2 A7.out).mono ?_); (case side1 => repeat (first | exact HR222.out | (with_reducible refine Kd.C_alloc ?_ _) | (with_reducible refine Kd.C_drewN ?_ _) | (with_reducible refine Kd.C_drew ?_))); (case side2 => exact HC222.out); rintro e w' ⟨rfl, ⟨nd, rfl⟩⟩; refine ⟨_, rfl, ?_⟩))
            refine bodyPost_ret (results_list (rs := [.tmp 2, .tmp 3, .tmp 4, .tmp 5]) rfl (by simp) (.tmp (.tmp (.tmp (.tmp .nil))))) rfl ?_
            exact ⟨_, by first | rfl | (simp [errW_none, errW_some] <;> rfl) | (simp [*, errW_none, errW_some] <;> rfl), by first | exact Kd.R_nil _ _ _ _ _ | exact Kd.N_nil _ _ _ _ _ | exact Kd.V_nil _ _ _ _ _ | exact Kd.Q_nil _ _ _ _ _ | exact Kd.S_nil _ _ _ _ _, by repeat (first | (with_reducible first | exact HB.out | apply below_alloc | apply pw_below_drewN | apply below_drew1) | exact HB.out)⟩
        · rw [if_neg c6] at H
          exact absurd H (by simp)
      · rw [if_neg c5] at H
        exact absurd H (by simp)
  · rw [if_neg c3] at H
    have c3b0 : (t221 == 0) = false := beq_eq_false_iff_ne.mpr c3
    have c3b1 : (t221 != 0) = true := bne_iff_ne.mpr c3
    simp only [Option.some.injEq, Prod.mk.injEq] at H
    obtain ⟨rfl, rfl, rfl, rfl⟩ := H
    go_enter Tryd.func51, Tryd.ntmps51
    go_wp2_with (first | ((with_reducible refine gate_callee (f := 70) rfl ?_); refine goesL_ (some 16) rfl rfl Tryd.func70 (by kernel_rfl) rfl #[.slice A0 l0.length c0] rfl (by (try simp only [List.map_toArray, List.map_cons, List.map_nil]); first | done | rfl | (simp only [List.length_drop, List.length_take]; rfl)) ?_; (with_reducible refine (custodyref05_Uint.calls k _ _ l0 t219 t220 t221 _ ?side1 ?side2 A2.out).mono ?_); (case side1 => repeat (first | exact HR0.out | (with_reducible refine Kd.C_alloc ?_ _) | (with_reducible refine Kd.C_drewN ?_ _) | (with_reducible refine Kd.C_drew ?_))); (case side2 => exact HC0.out); rintro e w' ⟨rfl, ⟨nd, rfl⟩⟩; refine ⟨_, rfl, ?_⟩))
    refine bodyPost_ret (results_list (rs := [.tmp 2, .tmp 3, .tmp 4, .tmp 5]) rfl (by simp) (.tmp (.tmp (.tmp (.tmp .nil))))) rfl ?_
    exact ⟨_, by first | rfl | (simp [errW_none, errW_some] <;> rfl) | (simp [*, errW_none, errW_some] <;> rfl), by first | exact Kd.R_nil _ _ _ _ _ | exact Kd.N_nil _ _ _ _ _ | exact Kd.V_nil _ _ _ _ _ | exact Kd.Q_nil _ _ _ _ _ | exact Kd.S_nil _ _ _ _ _, by repeat (first | (with_reducible first | exact HB.out | apply below_alloc | apply pw_below_drewN | apply below_drew1) | exact HB.out)⟩

-- NOT PRINTED: function 26 (custodylaw05_WireUnframes)

end Go.Proofs.YtnnhcnmggfhkeaaDoor.PWireKnown

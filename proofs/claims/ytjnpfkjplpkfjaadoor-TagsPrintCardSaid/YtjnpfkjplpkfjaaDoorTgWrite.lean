/- The walk of write. -/
import Derived.Test.YtjnpfkjplpkfjaaDoorTgBlock
namespace Go.Proofs.YtjnpfkjplpkfjaaDoor.Tg
open Go.RowKit Go.Proofs.YtjnpfkjplpkfjaaDoorW.PrintWords Go.Proofs.YtjnpfkjplpkfjaaDoorW.PrintLast Go.Proofs.YtjnpfkjplpkfjaaDoorW.PrintMore Go.Proofs.YtjnpfkjplpkfjaaDoor.PTagsPrint
set_option linter.unusedVariables false
set_option linter.unusedSimpArgs false

theorem okI_of {l : List S50} (h : okL l) (i : Int) (h0 : 0 ≤ i) (h1 : i < l.length) : okI (rd_T50 l i) := by
  rw [okI_eq]
  exact get_ok h i h0 h1
theorem app_nil_row (xs : List Int) : xs ++ nat [] = xs := by simp [nat]

set_option maxHeartbeats 8000000 in
set_option maxRecDepth 100000 in
theorem write_calls (W0 : World) : ∀ (n : Nat) (l : List S50) (A : Option Addr) (c : Nat) (d : Int), cnt l ≤ n → Kd.C k50 W0 A l.length l → l.length ≤ c → okL l → room l ≤ 1073741824 → 0 ≤ d → d ≤ 8 →
    ∀ (w : World) (v : Value) (xs : List Int), Row W0.heap.size w v xs → Below W0.heap.size W0 w → xs.length + room l ≤ 2147483648 →
    Calls Tryd.prog 15 #[v, .slice A l.length c, .int .i64 d] w (WrPost W0 w xs (lnL l d)) := by
  intro n
  induction n using Nat.strongRecOn with
  | _ n ih =>
    intro l A c d hn hC hc ho hm hd0 hd1 w v xs hR hB hx
    have HC := Aside0.mk hC
    have HO := Lib.hid ho
    have IH := Lib.hid ih
    have HN := Lib.hid hn
    have HM := Lib.hid hm
    have HX := Lib.hid hx
    have HR := Lib.hid hR
    have HB := Aside0.mk hB
    have hu := Tryd.underlying50
    have hlen := cnt_len l
    have hroom : cnt l ≤ 33554432 := by unfold room at hm; omega
    clear hC ho ih hn hm hx hR hB
    go_enter Tryd.func15, Tryd.ntmps15
    go_wp2_with fail
    go_loopw [0, 14] (fun v0 v14 wr => ∃ (t : List UInt8) (i : Int), v14 = .int .i64 i ∧ 0 ≤ i ∧ i ≤ l.length ∧ Aside0 (lnL l d = app t (lnL (l.drop i.toNat) d)) ∧ Aside0 (t.length + room (l.drop i.toNat) ≤ room l) ∧ Hid (Row W0.heap.size wr v0 (xs ++ nat t)) ∧ Aside0 (Below W0.heap.size W0 wr) ∧ Hid (Oth w wr)) (fun _ v14 _ => l.length - (intOf v14).toNat)
    case atStart => exact ⟨[], 0, rfl, by omega, by omega, ⟨by simp; cases lnL l d <;> rfl⟩, ⟨by simp⟩, Lib.hid (by rw [app_nil_row]; exact HR.out), HB, Lib.hid (Oth.refl _)⟩
    case round =>
      clear HR HB
      obtain ⟨t, i, rfl, hi0, hi1, HT, HS, HR, HB, HH⟩ := hrel
      by_cases hlt : i < l.length
      · have blt : decide (i < (l.length : Int)) = true := by simp; omega
        obtain ⟨ad, A4, c4, rfl, hx0, hx1, hx2, hx3, hx4, hl4, hi4⟩ := at_T50 HC.out i hi0 hlt
        replace hx0 := (HB.out.cell (World.block_lt_of_cell? W0 _ hx0)).trans hx0
        replace hx1 := (HB.out.cell (World.block_lt_of_cell? W0 _ hx1)).trans hx1
        replace hx2 := (HB.out.cell (World.block_lt_of_cell? W0 _ hx2)).trans hx2
        replace hx3 := (HB.out.cell (World.block_lt_of_cell? W0 _ hx3)).trans hx3
        replace hx4 := (HB.out.cell (World.block_lt_of_cell? W0 _ hx4)).trans hx4
        have HR4 := Aside0.mk hi4
        have HL4 := Aside0.mk hl4
        have hok := get_ok HO.out i hi0 hlt
        have hoi := okI_of HO.out i hi0 hlt
        have hcn := cnt_sub l i hi0 hlt
        have hdr := drop_rd l i hi0 hlt
        have hT := HT.out
        have hS := HS.out
        rw [hdr] at hT hS
        rw [room_cons] at hS
        clear HT HS hdr hi4 hl4
        generalize rd_T50 l i = x at *
        have HT := Lib.hid hT
        have HS := Lib.hid hS
        have HOK := Lib.hid hok
        have HOI := Lib.hid hoi
        have HCN := Lib.hid hcn
        clear hT hS hok hcn hoi
        by_cases htag : x.f0.toList = []
        · obtain ⟨t1, t2, t3⟩ := str_eq htag
          go_wp2_with fail
          refine (block_calls W0 x A4 c4 d _ u0 (xs ++ nat t) (fun h8 w v xs hR hB hx => IH.out (cnt x.f4) (by have := HCN.out; have := HN.out; omega) x.f4 A4 c4 (d + 1) (Nat.le_refl _) HR4.out HL4.out HOK.out.2.2.2.2 (by have := HS.out; have := HM.out; omega) (by omega) (by omega) w v xs hR hB hx) HOI.out htag (HR.out.alloc _) (below_alloc HB.out _) (by have := HS.out; have := HX.out; simp only [List.length_append, nat_len]; omega) hd0 hd1).mono ?_
          rintro e w2 ⟨v2, E, rfl, hB2, ho2, hw2⟩
          have HB2 := Aside0.mk hB2
          have HH2 := Lib.hid (HH.out.trans ((Oth.al _ _).trans ho2))
          clear hB2 ho2 HB HH HR
          cases hr : lnI x d with
          | error no =>
            rw [hr] at hw2
            obtain ⟨hE, rfl, hno⟩ := hw2
            have HE := Lib.hid hE
            have HRR := Lib.hid hr
            obtain ⟨ti, u, rfl⟩ := Err.ErrOf.iface hE
            clear hE hr
            go_wp2
            go_ret2
            refine ⟨_, _, rfl, HB2.out, HH2.out, ?_⟩
            rw [HT.out, lnL_err HRR.out]
            exact wrote_err _ _ _ HE.out hno
          | ok b =>
            rw [hr] at hw2
            obtain ⟨rfl, hR2⟩ := hw2
            have HR2 := Lib.hid hR2
            have HRR := Lib.hid hr
            have hbl : b.length ≤ 2 * (x.f0.size + x.f1.size + x.f2.size + x.f3.size) + 32 + room x.f4 := by
              have := lnL_len (cnt [x]) [x] d b (Nat.le_refl _) (by rw [lnL_ok hr]; simp [lnL, app])
              rw [room_cons, room_nil] at this
              omega
            clear hR2 hr
            go_wp2_with fail
            refine ⟨⟨t ++ b, i + 1, rfl, by omega, by omega, ⟨?_⟩, ⟨?_⟩, Lib.hid ?_, HB2, HH2⟩, by simp [intOf]; omega⟩
            · rw [HT.out, lnL_ok HRR.out, app_app]
            · have := HS.out
              rw [List.length_append]
              omega
            · have := HR2.out
              rw [List.append_assoc, ← nat_app] at this
              exact this
        · obtain ⟨t1, t2, t3⟩ := str_ne htag
          have htl : 1 ≤ x.f0.size := by
            rcases Nat.eq_zero_or_pos x.f0.size with h0 | h0
            · exact absurd (List.length_eq_zero_iff.1 (by rw [list_size]; exact h0)) htag
            · exact h0
          obtain ⟨hit, _⟩ := tagV_is x.f0 6 (by omega)
          have HIT := Lib.hid hit
          have hsz1 : x.f1.size ≤ 140737488355328 := by have := HOK.out.2.1; omega
          have hsz2 : x.f2.size ≤ 140737488355328 := by have := HOK.out.2.2.1; omega
          have hwr : wrn x d = if tagV x.f0 = true ∧ (x.f1.toList = [] ∨ qualV x.f1 = true) ∧ x.f3.toList = [] ∧ x.f4 = [] then textV x.f2 (x.f1.toList != []) else 4 := by
            unfold wrn
            rw [if_neg htag]
          have HW := Lib.hid hwr
          clear hit hwr
          go_wp2_with fail
          refine (tags_isTag.calls _ x.f0 _ _ HIT.out).mono ?_
          rintro e w1 ⟨rfl, ⟨nd, rfl⟩⟩
          have hk0 : ((wr.alloc (.cells #[.string x.f0, .string x.f1, .string x.f2, .string x.f3, .slice A4 x.f4.length c4] 50)).drewN nd).heap[wr.heap.size]? = some (.cells #[.string x.f0, .string x.f1, .string x.f2, .string x.f3, .slice A4 x.f4.length c4] 50 (0, 0)) := blk_drewN (by simpa using heap_alloc_new wr _) nd
          have hB1 : Below W0.heap.size W0 ((wr.alloc (.cells #[.string x.f0, .string x.f1, .string x.f2, .string x.f3, .slice A4 x.f4.length c4] 50)).drewN nd) := pw_below_drewN (below_alloc HB.out _) nd
          have hR1 : Row W0.heap.size ((wr.alloc (.cells #[.string x.f0, .string x.f1, .string x.f2, .string x.f3, .slice A4 x.f4.length c4] 50)).drewN nd) u0 (xs ++ nat t) := (HR.out.alloc _).drewN nd
          have ho1 : Oth w ((wr.alloc (.cells #[.string x.f0, .string x.f1, .string x.f2, .string x.f3, .slice A4 x.f4.length c4] 50)).drewN nd) := HH.out.trans (Oth.al _ _)
          have HK := Aside0.mk hk0
          have HB1 := Aside0.mk hB1
          have HR1 := Lib.hid hR1
          have HH1 := Lib.hid ho1
          clear HR HB HH HIT hx0 hx1 hx2 hx3 hx4 hk0 hB1 hR1 ho1
          generalize ((wr.alloc (.cells #[.string x.f0, .string x.f1, .string x.f2, .string x.f3, .slice A4 x.f4.length c4] 50)).drewN nd) = w1 at *
          generalize wr.heap.size = g at *
          have hy0 : w1.cell? ⟨g, 0, none⟩ = some (.string x.f0) := (blk_cell HK.out 0).trans rfl
          have hy1 : w1.cell? ⟨g, 1, none⟩ = some (.string x.f1) := (blk_cell HK.out 1).trans rfl
          have hy2 : w1.cell? ⟨g, 2, none⟩ = some (.string x.f2) := (blk_cell HK.out 2).trans rfl
          have hy3 : w1.cell? ⟨g, 3, none⟩ = some (.string x.f3) := (blk_cell HK.out 3).trans rfl
          have hy4 : w1.cell? ⟨g, 4, none⟩ = some (.slice A4 x.f4.length c4) := (blk_cell HK.out 4).trans rfl
          have HB := HB1
          have HR := HR1
          have HH := HH1
          clear HB1 HR1 HH1
          cases hv : tagV x.f0 with
          | false =>
            have hbad : ¬ (tagV x.f0 = true ∧ (x.f1.toList = [] ∨ qualV x.f1 = true) ∧ x.f3.toList = [] ∧ x.f4 = []) := by rw [hv]; simp
            have hr : lnI x d = .error 4 := by
              have : wrn x d = 4 := by rw [HW.out, if_neg hbad]
              rw [lnI_eq, this]
              rfl
            have HRR := Lib.hid hr
            clear hr hbad
            go_wp2
            go_ret2
            refine ⟨_, _, rfl, HB.out, HH.out, ?_⟩
            rw [HT.out, lnL_err HRR.out]
            exact wrote_err _ _ _ (.inr rfl) (by decide)

          | true =>
            by_cases hq : x.f1.toList = []
            · obtain ⟨q1, q2, q3⟩ := str_eq hq
              by_cases hn3 : x.f3.toList = []
              · obtain ⟨n1, n2, n3⟩ := str_eq hn3
                by_cases hn4 : x.f4 = []
                · have m1 : decide (0 < (x.f4.length : Int)) = false := by rw [hn4]; rfl
                  have m2 : decide (0 < x.f4.length) = false := by rw [hn4]; rfl
                  have hgood : tagV x.f0 = true ∧ (x.f1.toList = [] ∨ qualV x.f1 = true) ∧ x.f3.toList = [] ∧ x.f4 = [] := ⟨hv, .inl hq, hn3, hn4⟩
                  have hwv : wrn x d = textV x.f2 false := by rw [HW.out, if_pos hgood, show (x.f1.toList != ([] : List UInt8)) = false from q2]
                  obtain ⟨htx, htk⟩ := textV_is x.f2 false hsz2
                  obtain ⟨_, htc⟩ := htk (2 * x.f2.size + 26) (by omega)
                  have HTC := Lib.hid htc
                  have HWV := Lib.hid hwv
                  clear hgood htk htc hwv
                  go_wp2_with fail
                  refine (tags_check.calls _ x.f2 false _ _ HTC.out).mono ?_
                  rintro e w1' ⟨rfl, ⟨nd', rfl⟩⟩
                  have hk0 : (w1.drewN nd').heap[g]? = some (.cells #[.string x.f0, .string x.f1, .string x.f2, .string x.f3, .slice A4 x.f4.length c4] 50 (0, 0)) := blk_drewN HK.out nd'
                  have hB1 : Below W0.heap.size W0 (w1.drewN nd') := pw_below_drewN HB.out nd'
                  have hR1 : Row W0.heap.size (w1.drewN nd') u0 (xs ++ nat t) := HR.out.drewN nd'
                  have ho1 : Oth w (w1.drewN nd') := HH.out
                  clear HR HB HH HK hy0 hy1 hy2 hy3 hy4 HTC
                  have HK := Aside0.mk hk0
                  have HB := Aside0.mk hB1
                  have HR := Lib.hid hR1
                  have HH := Lib.hid ho1
                  clear hk0 hB1 hR1 ho1
                  generalize w1.drewN nd' = w1 at *
                  have hy0 : w1.cell? ⟨g, 0, none⟩ = some (.string x.f0) := (blk_cell HK.out 0).trans rfl
                  have hy1 : w1.cell? ⟨g, 1, none⟩ = some (.string x.f1) := (blk_cell HK.out 1).trans rfl
                  have hy2 : w1.cell? ⟨g, 2, none⟩ = some (.string x.f2) := (blk_cell HK.out 2).trans rfl
                  have hy3 : w1.cell? ⟨g, 3, none⟩ = some (.string x.f3) := (blk_cell HK.out 3).trans rfl
                  have hy4 : w1.cell? ⟨g, 4, none⟩ = some (.slice A4 x.f4.length c4) := (blk_cell HK.out 4).trans rfl
                  by_cases htz : textV x.f2 false = 0
                  · have hr : lnI x d = .ok (field x.f0 x.f1 x.f2) := by
                      rw [lnI_eq, if_pos (by rw [HWV.out, htz]), if_neg htag]
                    have HRR := Lib.hid hr
                    have hyl : (xs ++ nat t).length + x.f0.size + x.f1.size + x.f2.size + 100 ≤ 140737488355328 := by
                      have := HS.out
                      have := HX.out
                      simp only [List.length_append, nat_len]
                      omega
                    have hy : xs ++ nat t = xs ++ nat t := rfl
                    obtain ⟨ys, hys⟩ : ∃ ys, ys = xs ++ nat t := ⟨_, rfl⟩
                    have HY := Lib.hid hys
                    have HR' := Lib.hid (show Row W0.heap.size w1 u0 ys by rw [HY.out]; exact HR.out)
                    have hyl2 : ys.length + x.f0.size + x.f1.size + x.f2.size + 100 ≤ 140737488355328 := by rw [HY.out]; exact hyl
                    have h5 := info5
                    have e2 : (⟨#[47, 47]⟩ : ByteArray).size = 2 := rfl
                    have hen : errW (errO (textV x.f2 false)) = .nilIface := by rw [htz]; rfl
                    rw [hen]
                    clear hen hr hy hys hyl HR
                    have HR := HR'
                    clear HR'
                    go_wp2_with fail
                    go_cut [0] (fun v0 wc => Row W0.heap.size wc v0 (ys ++ [58] ++ bytesOf x.f0 ++ [58]) ∧ Below W0.heap.size W0 wc ∧ Oth w wc ∧ wc.heap[g]? = some (.cells #[.string x.f0, .string x.f1, .string x.f2, .string x.f3, .slice A4 x.f4.length c4] 50 (0, 0)))
                    case first =>
                      have hR0 := HR.out
                      have hB0 := HB.out
                      go_region_held3 (fun w' => w'.cell? ⟨g, 0, none⟩ = some (.string x.f0)) (first | assumption | go_keep)
                        (first
                          | ((refine row_byte_step W0 (by rfl) (.tmp 68) (.tmp 69) 36 (by rfl) Tryd.underlying36 h5 u0 ys _ 58 (by rfl) (by rfl) (by first | exact (Lit.new hR0.drew 58).1 | exact (Lit.new hR0 58).drew.1 | exact (Lit.new2 hR0.drew _ 58).1 | exact (Lit.new2 hR0 _ 58).drew.1 | exact ((Lit.new hR0.drew 58).alloc _).1 | exact ((Lit.new hR0 58).alloc _).drew.1) (by first | exact hR0.drew.alloc _ | exact (hR0.alloc _).drew | exact (hR0.drew.alloc _).alloc _ | exact ((hR0.alloc _).alloc _).drew) (by first | exact below_alloc (below_drew1 hB0) _ | exact below_drew1 (below_alloc hB0 _) | exact below_alloc (below_alloc (below_drew1 hB0) _) _ | exact below_drew1 (below_alloc (below_alloc hB0 _) _)) (by omega) ?_); intro v1 w2 hR1 hB1 hg1 hL1; have hk1 := hg1.2 _ _ _ (by first | exact blk_alloc HK.out _ | exact blk_alloc (blk_alloc HK.out _) _) (by decide); have hc1 := (blk_cell hk1 0).trans rfl)
                          | ((refine row_str_step W0 (by rfl) (.tmp 70) _ 36 9 (by rfl) Tryd.underlying36 Tryd.underlying9 h5 v1 (ys ++ [58]) x.f0 (by rfl) (by rfl) (by first | exact hR1 | exact hR1.alloc _) (by first | exact hB1 | exact below_alloc hB1 _) (by simp only [List.length_append, List.length_cons, List.length_nil]; omega) ?_); intro v2 w3 hR2 hB2 hg2 hL2; have hk2 := hg2.2 _ _ _ (by first | exact hk1 | exact blk_alloc hk1 _) (by decide); have hc2 := (blk_cell hk2 0).trans rfl)
                          | ((refine row_byte_step W0 (by rfl) (.tmp 73) (.tmp 74) 36 (by rfl) Tryd.underlying36 h5 v2 (ys ++ [58] ++ bytesOf x.f0) _ 58 (by rfl) (by rfl) (by first | exact (Lit.new hR2 58).1 | exact (hL2 (by simp only [List.length_append, List.length_cons, List.length_nil]; omega) _ _ (Lit.new hR1 58)).1 | exact (hL2 (by simp only [List.length_append, List.length_cons, List.length_nil]; omega) _ _ (hL1 _ _ (Lit.new2 hR0 _ 58).drew)).1 | exact (hL2 (by simp only [List.length_append, List.length_cons, List.length_nil]; omega) _ _ (hL1 _ _ (Lit.new2 hR0.drew _ 58))).1 | exact (hL2 (by simp only [List.length_append, List.length_cons, List.length_nil]; omega) _ _ (hL1 _ _ ((Lit.new hR0 58).alloc _).drew)).1 | exact (hL2 (by simp only [List.length_append, List.length_cons, List.length_nil]; omega) _ _ (hL1 _ _ (Lit.new (hR0.drew.alloc _) 58))).1 | exact (hL2 (by simp only [List.length_append, List.length_cons, List.length_nil]; omega) _ _ (hL1 _ _ ((Lit.new hR0.drew 58).alloc _))).1) (by first | exact hR2 | exact hR2.alloc _) (by first | exact hB2 | exact below_alloc hB2 _) (by simp only [List.length_append, bytesOf_length, List.length_cons, List.length_nil]; omega) ?_); intro v3 w4 hR3 hB3 hg3 hL3; have hk3 := hg3.2 _ _ _ (by first | exact hk2 | exact blk_alloc hk2 _) (by decide); have hc3 := (blk_cell hk3 0).trans rfl))
                      all_goals
                        go_wp2_with fail
                        go_meet
                        case rel =>
                          have o1 : Oth w1 w2 := by first | exact (Oth.al _ _).trans hg1 | exact (Oth.al _ _).trans ((Oth.al _ _).trans hg1)
                          have o2 : Oth w2 w3 := by first | exact hg2 | exact (Oth.al _ _).trans hg2
                          have o3 : Oth w3 w4 := by first | exact hg3 | exact (Oth.al _ _).trans hg3
                          exact ⟨hR3, hB3, HH.out.trans (o1.trans (o2.trans o3)), hk3⟩
                    case rest =>
                      obtain ⟨hRc, hBc, hoc, hkc⟩ := hcut
                      have hz1 : wc.cell? ⟨g, 1, none⟩ = some (.string x.f1) := (blk_cell hkc 1).trans rfl
                      have hz2 : wc.cell? ⟨g, 2, none⟩ = some (.string x.f2) := (blk_cell hkc 2).trans rfl
                      have HRc := Lib.hid hRc
                      have HBc := Aside0.mk hBc
                      have HKc := Aside0.mk hkc
                      have HHc := Lib.hid hoc
                      clear hRc hBc hkc hoc hy0 hy1 hy2 hy3 hy4 HR HB HK HH
                      go_wp2_with (first
                        | ((with_reducible refine gate_builtin (b := .append) (xs := #[.tmp 86, .tmp 88]) rfl ?_); at_builtin; refine row_str_list W0 rfl (.tmp 86) (.tmp 88) 36 9 rfl Tryd.underlying36 Tryd.underlying9 h5 _ ((ys ++ [58] ++ bytesOf x.f0 ++ [58])) x.f2 rfl rfl HRc.out HBc.out (by simp only [List.length_append, bytesOf_length, List.length_cons, List.length_nil, e2]; omega) ?_; intro v7 w7 hR7 hB7 ho7)
                        | ((with_reducible refine gate_builtin (b := .append) (xs := #[.tmp 89, .tmp 90]) rfl ?_); at_builtin; refine row_byte_list W0 rfl (.tmp 89) (.tmp 90) 36 rfl Tryd.underlying36 h5 _ ((ys ++ [58] ++ bytesOf x.f0 ++ [58]) ++ bytesOf x.f2) _ 10 rfl rfl (heap_alloc_new _ _) (hR7.alloc _) (below_alloc hB7 _) (by simp only [List.length_append, bytesOf_length, List.length_cons, List.length_nil, e2]; omega) ?_; intro v8 w8 hR8 hB8 ho8))
                      refine ⟨⟨t ++ field x.f0 x.f1 x.f2, i + 1, rfl, by omega, by omega, ⟨?_⟩, ⟨?_⟩, Lib.hid ?_, ⟨hB8⟩, Lib.hid (HHc.out.trans (ho7.trans ((Oth.al _ _).trans ho8)))⟩, by simp [intOf]; omega⟩
                      · rw [HT.out, lnL_ok HRR.out, app_app]
                      · have := HS.out
                        have := field_len x.f0 x.f1 x.f2
                        rw [List.length_append]
                        omega
                      · have he : (ys ++ [58] ++ bytesOf x.f0 ++ [58]) ++ bytesOf x.f2 ++ [10] = xs ++ nat (t ++ field x.f0 x.f1 x.f2) := by
                          rw [HY.out]
                          simp [bytesOf_nat, nat, field, hq]
                        rw [← he]
                        exact hR8
                  · have hr : lnI x d = .error (textV x.f2 false) := by
                      rw [lnI_eq, if_neg (by rw [HWV.out]; exact htz), HWV.out]
                    have hen : errW (errO (textV x.f2 false)) = .iface 39 (.int .i64 (textV x.f2 false)) := by rw [errO, if_neg htz]; rfl
                    have HRR := Lib.hid hr
                    rw [hen]
                    clear hen hr
                    go_wp2
                    go_ret2
                    refine ⟨_, _, rfl, HB.out, HH.out, ?_⟩
                    rw [HT.out, lnL_err HRR.out]
                    exact wrote_err _ _ _ (.inl rfl) htz

                · have hp : 0 < x.f4.length := List.length_pos_iff.2 hn4
                  have m1 : decide (0 < (x.f4.length : Int)) = true := decide_eq_true (by omega)
                  have m2 : decide (0 < x.f4.length) = true := decide_eq_true hp
                  have hbad : ¬ (tagV x.f0 = true ∧ (x.f1.toList = [] ∨ qualV x.f1 = true) ∧ x.f3.toList = [] ∧ x.f4 = []) := by exact fun h => hn4 h.2.2.2
                  have hr : lnI x d = .error 4 := by
                    have : wrn x d = 4 := by rw [HW.out, if_neg hbad]
                    rw [lnI_eq, this]
                    rfl
                  have HRR := Lib.hid hr
                  clear hr hbad
                  go_wp2
                  go_ret2
                  refine ⟨_, _, rfl, HB.out, HH.out, ?_⟩
                  rw [HT.out, lnL_err HRR.out]
                  exact wrote_err _ _ _ (.inr rfl) (by decide)

              · obtain ⟨n1, n2, n3⟩ := str_ne hn3
                have hbad : ¬ (tagV x.f0 = true ∧ (x.f1.toList = [] ∨ qualV x.f1 = true) ∧ x.f3.toList = [] ∧ x.f4 = []) := by exact fun h => hn3 h.2.2.1
                have hr : lnI x d = .error 4 := by
                  have : wrn x d = 4 := by rw [HW.out, if_neg hbad]
                  rw [lnI_eq, this]
                  rfl
                have HRR := Lib.hid hr
                clear hr hbad
                go_wp2
                go_ret2
                refine ⟨_, _, rfl, HB.out, HH.out, ?_⟩
                rw [HT.out, lnL_err HRR.out]
                exact wrote_err _ _ _ (.inr rfl) (by decide)


            · obtain ⟨q1, q2, q3⟩ := str_ne hq
              obtain ⟨hqq, _⟩ := qualV_is x.f1 hsz1 (x.f1.size + 6) (by omega)
              have HQQ := Lib.hid hqq
              clear hqq
              go_wp2_with fail
              refine (tags_isQual.calls _ x.f1 _ _ HQQ.out).mono ?_
              rintro e w1' ⟨rfl, ⟨nd', rfl⟩⟩
              have hk0 : (w1.drewN nd').heap[g]? = some (.cells #[.string x.f0, .string x.f1, .string x.f2, .string x.f3, .slice A4 x.f4.length c4] 50 (0, 0)) := blk_drewN HK.out nd'
              have hB1 : Below W0.heap.size W0 (w1.drewN nd') := pw_below_drewN HB.out nd'
              have hR1 : Row W0.heap.size (w1.drewN nd') u0 (xs ++ nat t) := HR.out.drewN nd'
              have ho1 : Oth w (w1.drewN nd') := HH.out
              clear HR HB HH HK hy0 hy1 hy2 hy3 hy4
              have HK := Aside0.mk hk0
              have HB := Aside0.mk hB1
              have HR := Lib.hid hR1
              have HH := Lib.hid ho1
              clear hk0 hB1 hR1 ho1
              generalize w1.drewN nd' = w1 at *
              have hy0 : w1.cell? ⟨g, 0, none⟩ = some (.string x.f0) := (blk_cell HK.out 0).trans rfl
              have hy1 : w1.cell? ⟨g, 1, none⟩ = some (.string x.f1) := (blk_cell HK.out 1).trans rfl
              have hy2 : w1.cell? ⟨g, 2, none⟩ = some (.string x.f2) := (blk_cell HK.out 2).trans rfl
              have hy3 : w1.cell? ⟨g, 3, none⟩ = some (.string x.f3) := (blk_cell HK.out 3).trans rfl
              have hy4 : w1.cell? ⟨g, 4, none⟩ = some (.slice A4 x.f4.length c4) := (blk_cell HK.out 4).trans rfl
              cases hqv : qualV x.f1 with
              | false =>
                have hbad : ¬ (tagV x.f0 = true ∧ (x.f1.toList = [] ∨ qualV x.f1 = true) ∧ x.f3.toList = [] ∧ x.f4 = []) := by rw [hqv]; simp [hq]
                have hr : lnI x d = .error 4 := by
                  have : wrn x d = 4 := by rw [HW.out, if_neg hbad]
                  rw [lnI_eq, this]
                  rfl
                have HRR := Lib.hid hr
                clear hr hbad
                go_wp2
                go_ret2
                refine ⟨_, _, rfl, HB.out, HH.out, ?_⟩
                rw [HT.out, lnL_err HRR.out]
                exact wrote_err _ _ _ (.inr rfl) (by decide)

              | true =>
                by_cases hn3 : x.f3.toList = []
                · obtain ⟨n1, n2, n3⟩ := str_eq hn3
                  by_cases hn4 : x.f4 = []
                  · have m1 : decide (0 < (x.f4.length : Int)) = false := by rw [hn4]; rfl
                    have m2 : decide (0 < x.f4.length) = false := by rw [hn4]; rfl
                    have hgood : tagV x.f0 = true ∧ (x.f1.toList = [] ∨ qualV x.f1 = true) ∧ x.f3.toList = [] ∧ x.f4 = [] := ⟨hv, .inr hqv, hn3, hn4⟩
                    have hwv : wrn x d = textV x.f2 true := by rw [HW.out, if_pos hgood, show (x.f1.toList != ([] : List UInt8)) = true from q2]
                    obtain ⟨htx, htk⟩ := textV_is x.f2 true hsz2
                    obtain ⟨_, htc⟩ := htk (2 * x.f2.size + 26) (by omega)
                    have HTC := Lib.hid htc
                    have HWV := Lib.hid hwv
                    clear hgood htk htc hwv
                    go_wp2_with fail
                    refine (tags_check.calls _ x.f2 true _ _ HTC.out).mono ?_
                    rintro e w1' ⟨rfl, ⟨nd', rfl⟩⟩
                    have hk0 : (w1.drewN nd').heap[g]? = some (.cells #[.string x.f0, .string x.f1, .string x.f2, .string x.f3, .slice A4 x.f4.length c4] 50 (0, 0)) := blk_drewN HK.out nd'
                    have hB1 : Below W0.heap.size W0 (w1.drewN nd') := pw_below_drewN HB.out nd'
                    have hR1 : Row W0.heap.size (w1.drewN nd') u0 (xs ++ nat t) := HR.out.drewN nd'
                    have ho1 : Oth w (w1.drewN nd') := HH.out
                    clear HR HB HH HK hy0 hy1 hy2 hy3 hy4 HTC
                    have HK := Aside0.mk hk0
                    have HB := Aside0.mk hB1
                    have HR := Lib.hid hR1
                    have HH := Lib.hid ho1
                    clear hk0 hB1 hR1 ho1
                    generalize w1.drewN nd' = w1 at *
                    have hy0 : w1.cell? ⟨g, 0, none⟩ = some (.string x.f0) := (blk_cell HK.out 0).trans rfl
                    have hy1 : w1.cell? ⟨g, 1, none⟩ = some (.string x.f1) := (blk_cell HK.out 1).trans rfl
                    have hy2 : w1.cell? ⟨g, 2, none⟩ = some (.string x.f2) := (blk_cell HK.out 2).trans rfl
                    have hy3 : w1.cell? ⟨g, 3, none⟩ = some (.string x.f3) := (blk_cell HK.out 3).trans rfl
                    have hy4 : w1.cell? ⟨g, 4, none⟩ = some (.slice A4 x.f4.length c4) := (blk_cell HK.out 4).trans rfl
                    by_cases htz : textV x.f2 true = 0
                    · have hr : lnI x d = .ok (field x.f0 x.f1 x.f2) := by
                        rw [lnI_eq, if_pos (by rw [HWV.out, htz]), if_neg htag]
                      have HRR := Lib.hid hr
                      have hyl : (xs ++ nat t).length + x.f0.size + x.f1.size + x.f2.size + 100 ≤ 140737488355328 := by
                        have := HS.out
                        have := HX.out
                        simp only [List.length_append, nat_len]
                        omega
                      have hy : xs ++ nat t = xs ++ nat t := rfl
                      obtain ⟨ys, hys⟩ : ∃ ys, ys = xs ++ nat t := ⟨_, rfl⟩
                      have HY := Lib.hid hys
                      have HR' := Lib.hid (show Row W0.heap.size w1 u0 ys by rw [HY.out]; exact HR.out)
                      have hyl2 : ys.length + x.f0.size + x.f1.size + x.f2.size + 100 ≤ 140737488355328 := by rw [HY.out]; exact hyl
                      have h5 := info5
                      have e2 : (⟨#[47, 47]⟩ : ByteArray).size = 2 := rfl
                      have hen : errW (errO (textV x.f2 true)) = .nilIface := by rw [htz]; rfl
                      rw [hen]
                      clear hen hr hy hys hyl HR
                      have HR := HR'
                      clear HR'
                      go_wp2_with fail
                      go_cut [0] (fun v0 wc => Row W0.heap.size wc v0 (ys ++ [58] ++ bytesOf x.f0 ++ [58]) ∧ Below W0.heap.size W0 wc ∧ Oth w wc ∧ wc.heap[g]? = some (.cells #[.string x.f0, .string x.f1, .string x.f2, .string x.f3, .slice A4 x.f4.length c4] 50 (0, 0)))
                      case first =>
                        have hR0 := HR.out
                        have hB0 := HB.out
                        go_region_held3 (fun w' => w'.cell? ⟨g, 0, none⟩ = some (.string x.f0)) (first | assumption | go_keep)
                          (first
                            | ((refine row_byte_step W0 (by rfl) (.tmp 68) (.tmp 69) 36 (by rfl) Tryd.underlying36 h5 u0 ys _ 58 (by rfl) (by rfl) (by first | exact (Lit.new hR0.drew 58).1 | exact (Lit.new hR0 58).drew.1 | exact (Lit.new2 hR0.drew _ 58).1 | exact (Lit.new2 hR0 _ 58).drew.1 | exact ((Lit.new hR0.drew 58).alloc _).1 | exact ((Lit.new hR0 58).alloc _).drew.1) (by first | exact hR0.drew.alloc _ | exact (hR0.alloc _).drew | exact (hR0.drew.alloc _).alloc _ | exact ((hR0.alloc _).alloc _).drew) (by first | exact below_alloc (below_drew1 hB0) _ | exact below_drew1 (below_alloc hB0 _) | exact below_alloc (below_alloc (below_drew1 hB0) _) _ | exact below_drew1 (below_alloc (below_alloc hB0 _) _)) (by omega) ?_); intro v1 w2 hR1 hB1 hg1 hL1; have hk1 := hg1.2 _ _ _ (by first | exact blk_alloc HK.out _ | exact blk_alloc (blk_alloc HK.out _) _) (by decide); have hc1 := (blk_cell hk1 0).trans rfl)
                            | ((refine row_str_step W0 (by rfl) (.tmp 70) _ 36 9 (by rfl) Tryd.underlying36 Tryd.underlying9 h5 v1 (ys ++ [58]) x.f0 (by rfl) (by rfl) (by first | exact hR1 | exact hR1.alloc _) (by first | exact hB1 | exact below_alloc hB1 _) (by simp only [List.length_append, List.length_cons, List.length_nil]; omega) ?_); intro v2 w3 hR2 hB2 hg2 hL2; have hk2 := hg2.2 _ _ _ (by first | exact hk1 | exact blk_alloc hk1 _) (by decide); have hc2 := (blk_cell hk2 0).trans rfl)
                            | ((refine row_byte_step W0 (by rfl) (.tmp 73) (.tmp 74) 36 (by rfl) Tryd.underlying36 h5 v2 (ys ++ [58] ++ bytesOf x.f0) _ 58 (by rfl) (by rfl) (by first | exact (Lit.new hR2 58).1 | exact (hL2 (by simp only [List.length_append, List.length_cons, List.length_nil]; omega) _ _ (Lit.new hR1 58)).1 | exact (hL2 (by simp only [List.length_append, List.length_cons, List.length_nil]; omega) _ _ (hL1 _ _ (Lit.new2 hR0 _ 58).drew)).1 | exact (hL2 (by simp only [List.length_append, List.length_cons, List.length_nil]; omega) _ _ (hL1 _ _ (Lit.new2 hR0.drew _ 58))).1 | exact (hL2 (by simp only [List.length_append, List.length_cons, List.length_nil]; omega) _ _ (hL1 _ _ ((Lit.new hR0 58).alloc _).drew)).1 | exact (hL2 (by simp only [List.length_append, List.length_cons, List.length_nil]; omega) _ _ (hL1 _ _ (Lit.new (hR0.drew.alloc _) 58))).1 | exact (hL2 (by simp only [List.length_append, List.length_cons, List.length_nil]; omega) _ _ (hL1 _ _ ((Lit.new hR0.drew 58).alloc _))).1) (by first | exact hR2 | exact hR2.alloc _) (by first | exact hB2 | exact below_alloc hB2 _) (by simp only [List.length_append, bytesOf_length, List.length_cons, List.length_nil]; omega) ?_); intro v3 w4 hR3 hB3 hg3 hL3; have hk3 := hg3.2 _ _ _ (by first | exact hk2 | exact blk_alloc hk2 _) (by decide); have hc3 := (blk_cell hk3 0).trans rfl))
                        all_goals
                          go_wp2_with fail
                          go_meet
                          case rel =>
                            have o1 : Oth w1 w2 := by first | exact (Oth.al _ _).trans hg1 | exact (Oth.al _ _).trans ((Oth.al _ _).trans hg1)
                            have o2 : Oth w2 w3 := by first | exact hg2 | exact (Oth.al _ _).trans hg2
                            have o3 : Oth w3 w4 := by first | exact hg3 | exact (Oth.al _ _).trans hg3
                            exact ⟨hR3, hB3, HH.out.trans (o1.trans (o2.trans o3)), hk3⟩
                      case rest =>
                        obtain ⟨hRc, hBc, hoc, hkc⟩ := hcut
                        have hz1 : wc.cell? ⟨g, 1, none⟩ = some (.string x.f1) := (blk_cell hkc 1).trans rfl
                        have hz2 : wc.cell? ⟨g, 2, none⟩ = some (.string x.f2) := (blk_cell hkc 2).trans rfl
                        have HRc := Lib.hid hRc
                        have HBc := Aside0.mk hBc
                        have HKc := Aside0.mk hkc
                        have HHc := Lib.hid hoc
                        clear hRc hBc hkc hoc hy0 hy1 hy2 hy3 hy4 HR HB HK HH
                        go_wp2_with fail
                        have hRc := HRc.out
                        have hBc := HBc.out
                        go_region_held3 (fun w' => w'.cell? ⟨g, 1, none⟩ = some (.string x.f1)) (first | assumption | go_keep)
                          (first
                            | ((refine row_byte_step W0 (by rfl) (.tmp 79) (.tmp 80) 36 (by rfl) Tryd.underlying36 h5 _ (ys ++ [58] ++ bytesOf x.f0 ++ [58]) _ 58 (by rfl) (by rfl) (by exact (Lit.new hRc.drew 58).1) (by exact hRc.drew.alloc _) (by exact below_alloc (below_drew1 hBc) _) (by simp only [List.length_append, bytesOf_length, List.length_cons, List.length_nil]; omega) ?_); intro v4 w4 hR4 hB4 hg4 hL4; have hk4 := hg4.2 _ _ _ (by exact blk_alloc HKc.out _) (by decide); have hc4 := (blk_cell hk4 1).trans rfl)
                            | ((refine row_str_step W0 (by rfl) (.tmp 81) _ 36 9 (by rfl) Tryd.underlying36 Tryd.underlying9 h5 v4 ((ys ++ [58] ++ bytesOf x.f0 ++ [58]) ++ [58]) x.f1 (by rfl) (by rfl) (by exact hR4) (by exact hB4) (by simp only [List.length_append, bytesOf_length, List.length_cons, List.length_nil]; omega) ?_); intro v5 w5 hR5 hB5 hg5 hL5; have hk5 := hg5.2 _ _ _ (by exact hk4) (by decide); have hc5 := (blk_cell hk5 1).trans rfl)
                            | ((refine row_str_step W0 (by rfl) (.tmp 84) _ 36 9 (by rfl) Tryd.underlying36 Tryd.underlying9 h5 v5 ((ys ++ [58] ++ bytesOf x.f0 ++ [58]) ++ [58] ++ bytesOf x.f1) ⟨#[47, 47]⟩ (by rfl) (by rfl) (by exact hR5) (by exact hB5) (by simp only [List.length_append, bytesOf_length, List.length_cons, List.length_nil, e2]; omega) ?_); intro v6 w6 hR6 hB6 hg6 hL6; have hk6 := hg6.2 _ _ _ (by exact hk5) (by decide); have hc6 := (blk_cell hk6 1).trans rfl))
                        have hq2 : w6.cell? ⟨g, 2, none⟩ = some (.string x.f2) := (blk_cell hk6 2).trans rfl
                        have HH6 := Lib.hid (HHc.out.trans ((Oth.al _ _).trans (hg4.trans (hg5.trans hg6))))
                        go_wp2_with (first
                          | ((with_reducible refine gate_builtin (b := .append) (xs := #[.tmp 86, .tmp 88]) rfl ?_); at_builtin; refine row_str_list W0 rfl (.tmp 86) (.tmp 88) 36 9 rfl Tryd.underlying36 Tryd.underlying9 h5 _ ((ys ++ [58] ++ bytesOf x.f0 ++ [58] ++ [58] ++ bytesOf x.f1 ++ bytesOf ⟨#[47, 47]⟩)) x.f2 rfl rfl hR6 hB6 (by simp only [List.length_append, bytesOf_length, List.length_cons, List.length_nil, e2]; omega) ?_; intro v7 w7 hR7 hB7 ho7)
                          | ((with_reducible refine gate_builtin (b := .append) (xs := #[.tmp 89, .tmp 90]) rfl ?_); at_builtin; refine row_byte_list W0 rfl (.tmp 89) (.tmp 90) 36 rfl Tryd.underlying36 h5 _ ((ys ++ [58] ++ bytesOf x.f0 ++ [58] ++ [58] ++ bytesOf x.f1 ++ bytesOf ⟨#[47, 47]⟩) ++ bytesOf x.f2) _ 10 rfl rfl (heap_alloc_new _ _) (hR7.alloc _) (below_alloc hB7 _) (by simp only [List.length_append, bytesOf_length, List.length_cons, List.length_nil, e2]; omega) ?_; intro v8 w8 hR8 hB8 ho8))
                        refine ⟨⟨t ++ field x.f0 x.f1 x.f2, i + 1, rfl, by omega, by omega, ⟨?_⟩, ⟨?_⟩, Lib.hid ?_, ⟨hB8⟩, Lib.hid (HH6.out.trans (ho7.trans ((Oth.al _ _).trans ho8)))⟩, by simp [intOf]; omega⟩
                        · rw [HT.out, lnL_ok HRR.out, app_app]
                        · have := HS.out
                          have := field_len x.f0 x.f1 x.f2
                          rw [List.length_append]
                          omega
                        · have he : (ys ++ [58] ++ bytesOf x.f0 ++ [58] ++ [58] ++ bytesOf x.f1 ++ bytesOf ⟨#[47, 47]⟩) ++ bytesOf x.f2 ++ [10] = xs ++ nat (t ++ field x.f0 x.f1 x.f2) := by
                            rw [HY.out]
                            simp [bytesOf_nat, nat, field, hq]
                          rw [← he]
                          exact hR8
                    · have hr : lnI x d = .error (textV x.f2 true) := by
                        rw [lnI_eq, if_neg (by rw [HWV.out]; exact htz), HWV.out]
                      have hen : errW (errO (textV x.f2 true)) = .iface 39 (.int .i64 (textV x.f2 true)) := by rw [errO, if_neg htz]; rfl
                      have HRR := Lib.hid hr
                      rw [hen]
                      clear hen hr
                      go_wp2
                      go_ret2
                      refine ⟨_, _, rfl, HB.out, HH.out, ?_⟩
                      rw [HT.out, lnL_err HRR.out]
                      exact wrote_err _ _ _ (.inl rfl) htz

                  · have hp : 0 < x.f4.length := List.length_pos_iff.2 hn4
                    have m1 : decide (0 < (x.f4.length : Int)) = true := decide_eq_true (by omega)
                    have m2 : decide (0 < x.f4.length) = true := decide_eq_true hp
                    have hbad : ¬ (tagV x.f0 = true ∧ (x.f1.toList = [] ∨ qualV x.f1 = true) ∧ x.f3.toList = [] ∧ x.f4 = []) := by exact fun h => hn4 h.2.2.2
                    have hr : lnI x d = .error 4 := by
                      have : wrn x d = 4 := by rw [HW.out, if_neg hbad]
                      rw [lnI_eq, this]
                      rfl
                    have HRR := Lib.hid hr
                    clear hr hbad
                    go_wp2
                    go_ret2
                    refine ⟨_, _, rfl, HB.out, HH.out, ?_⟩
                    rw [HT.out, lnL_err HRR.out]
                    exact wrote_err _ _ _ (.inr rfl) (by decide)

                · obtain ⟨n1, n2, n3⟩ := str_ne hn3
                  have hbad : ¬ (tagV x.f0 = true ∧ (x.f1.toList = [] ∨ qualV x.f1 = true) ∧ x.f3.toList = [] ∧ x.f4 = []) := by exact fun h => hn3 h.2.2.1
                  have hr : lnI x d = .error 4 := by
                    have : wrn x d = 4 := by rw [HW.out, if_neg hbad]
                    rw [lnI_eq, this]
                    rfl
                  have HRR := Lib.hid hr
                  clear hr hbad
                  go_wp2
                  go_ret2
                  refine ⟨_, _, rfl, HB.out, HH.out, ?_⟩
                  rw [HT.out, lnL_err HRR.out]
                  exact wrote_err _ _ _ (.inr rfl) (by decide)
      · have blt : decide (i < (l.length : Int)) = false := by simp; omega
        have hT := HT.out
        rw [drop_end l i hlt] at hT
        have HT2 := Lib.hid hT
        clear hT HT
        go_wp2
        go_ret2
        refine ⟨_, _, rfl, HB.out, HH.out, ?_⟩
        rw [HT2.out]
        simp only [lnL, app, List.append_nil]
        exact ⟨rfl, HR.out⟩
end Go.Proofs.YtjnpfkjplpkfjaaDoor.Tg

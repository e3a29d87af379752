/- The walks of keptFullItems and KeptItems at a lent message. -/
import Derived.Test.YtjnpfkjplpkfjaaDoorTgFull
namespace Go.Proofs.YtjnpfkjplpkfjaaDoor.Tg
open Go.RowKit Go.Proofs.YtjnpfkjplpkfjaaDoorW.PrintWords Go.Proofs.YtjnpfkjplpkfjaaDoorW.PrintLast Go.Proofs.YtjnpfkjplpkfjaaDoorW.PrintMore Go.Proofs.YtjnpfkjplpkfjaaDoor.PTagsPrint
set_option linter.unusedVariables false
set_option linter.unusedSimpArgs false

theorem rd_full0 (l : List S50) (i : Int) (h0 : 0 ≤ i) (h1 : i < l.length) : rd_T50 (full l) i = rd_T50 l i := by
  have hi : i.toNat < l.length := by omega
  unfold rd_T50 full
  simp [List.getD_eq_getElem?_getD, List.getElem?_append, hi]
theorem rd_fuL : ∀ (l : List S50) (j : Nat), j < l.length → (fuL l)[j]? = (l[j]?).map fuI
  | [], j, h => by simp at h
  | x :: l, 0, h => by simp [fuL]
  | x :: l, j + 1, h => by
    have := rd_fuL l j (by simpa using h)
    simpa [fuL] using this
theorem rd_full1 (l : List S50) (i : Int) (h0 : 0 ≤ i) (h1 : i < l.length) : rd_T50 (full l) (l.length + i) = fuI (rd_T50 l i) := by
  have hi : i.toNat < l.length := by omega
  unfold rd_T50 full
  rw [List.getD_eq_getElem?_getD, List.getD_eq_getElem?_getD, List.append_assoc, List.getElem?_append_right (by omega), List.getElem?_append_left (by rw [fuL_len]; omega), show ((l.length : Int) + i).toNat - l.length = i.toNat by omega, rd_fuL l i.toNat hi, List.getElem?_eq_getElem hi]
  rfl
theorem rd_full2 (l : List S50) : rd_T50 (full l) (2 * l.length) = endI := by
  unfold rd_T50 full
  rw [List.getD_eq_getElem?_getD, List.getElem?_append_right (by simp [fuL_len]; omega)]
  have : (2 * (l.length : Int)).toNat - (l ++ fuL l).length = 0 := by simp [fuL_len]; omega
  rw [this]
  rfl

set_option maxHeartbeats 8000000 in
set_option maxRecDepth 100000 in
theorem kept_calls : ∀ (n : Nat) (l : List S50) (A B : Option Addr) (cA cB : Nat) (w : World), cnt l ≤ n → Kd.C k50 w A (full l).length (full l) → Kd.C k50 w B l.length l → (full l).length ≤ cA → l.length ≤ cB → cnt l ≤ 1000000 →
    Calls Tryd.prog 18 #[.slice A (full l).length cA, .slice B l.length cB] w fun e w' => e = .returned (.bool true) ∧ Below w.heap.size w w' := by
  intro n
  induction n using Nat.strongRecOn with
  | _ n ih =>
    intro l A B cA cB w hn hA hB hcA hcB hm
    have HA := Aside0.mk hA
    have HB := Aside0.mk hB
    have IH := Lib.hid ih
    have hlen := cnt_len l
    have hfl := full_len l
    have hu := Tryd.underlying50
    have b0 : (((full l).length : Int) != 2 * (l.length : Int) + 1) = false := by
      rw [hfl]
      simp
    have HFL := Lib.hid hfl
    have hfl2 : 2 * (l.length : Int) < ((full l).length : Int) := by omega
    clear hA hB ih hfl
    go_enter Tryd.func18, Tryd.ntmps18
    go_wp2_with fail
    go_loopw [6] (fun v6 wr => ∃ i : Int, v6 = .int .i64 i ∧ 0 ≤ i ∧ i ≤ l.length ∧ Aside0 (Below w.heap.size w wr)) (fun v6 _ => l.length - (intOf v6).toNat)
    case atStart => exact ⟨0, rfl, by omega, by omega, ⟨Below.refl _ _⟩⟩
    case round =>
      obtain ⟨i, rfl, hi0, hi1, HW⟩ := hrel
      by_cases hlt : i < l.length
      · have blt : decide (i < (l.length : Int)) = true := by simp; omega
        obtain ⟨ad, A4, c4, rfl, hx0, hx1, hx2, hx3, hx4, hl4, hi4⟩ := at_T50 HA.out i hi0 (by omega)
        obtain ⟨bd, B4, e4, rfl, hy0, hy1, hy2, hy3, hy4, hm4, hj4⟩ := at_T50 HB.out i hi0 hlt
        obtain ⟨ad', F4, c5, hae, hz0, _, _, _, hz4, hf4, hk4⟩ := at_T50 HA.out (l.length + i) (by omega) (by omega)
        cases hae
        rw [rd_full0 l i hi0 hlt] at hx0 hx1 hx2 hx3 hx4 hl4 hi4
        rw [rd_full1 l i hi0 hlt, fuI_eq] at hz0 hz4 hf4 hk4
        replace hx0 := (HW.out.cell (World.block_lt_of_cell? w _ hx0)).trans hx0
        replace hx1 := (HW.out.cell (World.block_lt_of_cell? w _ hx1)).trans hx1
        replace hx2 := (HW.out.cell (World.block_lt_of_cell? w _ hx2)).trans hx2
        replace hx3 := (HW.out.cell (World.block_lt_of_cell? w _ hx3)).trans hx3
        replace hx4 := (HW.out.cell (World.block_lt_of_cell? w _ hx4)).trans hx4
        replace hy0 := (HW.out.cell (World.block_lt_of_cell? w _ hy0)).trans hy0
        replace hy1 := (HW.out.cell (World.block_lt_of_cell? w _ hy1)).trans hy1
        replace hy2 := (HW.out.cell (World.block_lt_of_cell? w _ hy2)).trans hy2
        replace hy3 := (HW.out.cell (World.block_lt_of_cell? w _ hy3)).trans hy3
        replace hy4 := (HW.out.cell (World.block_lt_of_cell? w _ hy4)).trans hy4
        replace hz0 := (HW.out.cell (World.block_lt_of_cell? w _ hz0)).trans hz0
        replace hz4 := (HW.out.cell (World.block_lt_of_cell? w _ hz4)).trans hz4
        have p1 : i < ((full l).length : Int) := by omega
        have p2 : i < (l.length : Int) := by omega
        have p3 : 0 ≤ (l.length : Int) + i := by omega
        have p4 : (l.length : Int) + i < ((full l).length : Int) := by omega
        have hcn := cnt_sub l i hi0 hlt
        have HR4 := Aside0.mk hi4
        have HS4 := Aside0.mk hj4
        have HK4 := Aside0.mk hk4
        clear hi4 hj4 hk4
        generalize rd_T50 l i = x at *
        go_wp2_with fail
        have hj : (l.length : Int) + i = wrap64 ((l.length : Int) + i) := by unfold wrap64; omega
        rw [hj] at hz0 hz4 p3 p4
        clear hj
        have HWd := Aside0.mk (show Below w.heap.size w wr.drew from HW.out.drew)
        refine start_ (n := 36) (S := fun w' => w'.cell? (ad.add (i.toNat * 5)) = some (.string x.f0) ∧ w'.cell? ⟨(ad.add (i.toNat * 5)).block, (ad.add (i.toNat * 5)).off + 1, none⟩ = some (.string x.f1) ∧ w'.cell? ⟨(ad.add (i.toNat * 5)).block, (ad.add (i.toNat * 5)).off + 2, none⟩ = some (.string x.f2) ∧ w'.cell? ⟨(ad.add (i.toNat * 5)).block, (ad.add (i.toNat * 5)).off + 3, none⟩ = some (.string x.f3) ∧ w'.cell? ⟨(ad.add (i.toNat * 5)).block, (ad.add (i.toNat * 5)).off + 4, none⟩ = some (.slice A4 x.f4.length c4) ∧ w'.cell? (bd.add (i.toNat * 5)) = some (.string x.f0) ∧ w'.cell? ⟨(bd.add (i.toNat * 5)).block, (bd.add (i.toNat * 5)).off + 1, none⟩ = some (.string x.f1) ∧ w'.cell? ⟨(bd.add (i.toNat * 5)).block, (bd.add (i.toNat * 5)).off + 2, none⟩ = some (.string x.f2) ∧ w'.cell? ⟨(bd.add (i.toNat * 5)).block, (bd.add (i.toNat * 5)).off + 3, none⟩ = some (.string x.f3) ∧ w'.cell? ⟨(bd.add (i.toNat * 5)).block, (bd.add (i.toNat * 5)).off + 4, none⟩ = some (.slice B4 x.f4.length e4) ∧ w'.cell? (ad.add ((wrap64 ((l.length : Int) + i)).toNat * 5)) = some (.string ⟨#[35, 102, 117, 108, 108]⟩) ∧ w'.cell? ⟨(ad.add ((wrap64 ((l.length : Int) + i)).toNat * 5)).block, (ad.add ((wrap64 ((l.length : Int) + i)).toNat * 5)).off + 4, none⟩ = some (.slice F4 (full x.f4).length c5)) (ds := []) #[false, false, false, false, false, false, false, false, false, false, false, false, false, false, false, false, false, false, false, false, false, false, false, false, false, false, false, false, false, false, false, false, false, false, false, false] (by kernel_rfl) rfl rfl ⟨hx0, hx1, hx2, hx3, hx4, hy0, hy1, hy2, hy3, hy4, hz0, hz4⟩ (fun hHeld => ?_)
        refine pure_ (i := 0) (N := some 20) (v := ?_) (a' := ?_) #[true, false, false, false, false, false, false, false, false, false, false, false, false, false, false, false, false, false, false, false, false, false, false, false, false, false, false, false, false, false, false, false, false, false, false, false] rfl rfl (by kernel_rfl) (fun _ _ _ h => h) (Or.inl ⟨by rfl, ?_⟩) ?_ ?_
        rotate_left
        · intro w'
          go_simp
          with_reducible rfl
        rotate_left
        · simp only [Act.put, List.setIfInBounds_toArray, List.set_cons_zero, List.set_cons_succ, i64_w, i32_w]
          rfl
        refine pure_ (i := 1) (N := some 21) (v := ?_) (a' := ?_) #[true, true, false, false, false, false, false, false, false, false, false, false, false, false, false, false, false, false, false, false, false, false, false, false, false, false, false, false, false, false, false, false, false, false, false, false] rfl rfl (by kernel_rfl) (fun _ _ _ h => h) (Or.inl ⟨by rfl, ?_⟩) ?_ ?_
        rotate_left
        · intro w'
          go_simp
          with_reducible rfl
        rotate_left
        · simp only [Act.put, List.setIfInBounds_toArray, List.set_cons_zero, List.set_cons_succ, i64_w, i32_w]
          rfl
        refine pure_ (i := 2) (N := some 22) (v := ?_) (a' := ?_) #[true, true, true, false, false, false, false, false, false, false, false, false, false, false, false, false, false, false, false, false, false, false, false, false, false, false, false, false, false, false, false, false, false, false, false, false] rfl rfl (by kernel_rfl) (fun _ _ _ h => h) (Or.inl ⟨by rfl, ?_⟩) ?_ ?_
        rotate_left
        · intro w'
          go_simp
          with_reducible rfl
        rotate_left
        · simp only [Act.put, List.setIfInBounds_toArray, List.set_cons_zero, List.set_cons_succ, i64_w, i32_w]
          rfl
        refine pure_ (i := 4) (N := some 24) (v := ?_) (a' := ?_) #[true, true, true, false, true, false, false, false, false, false, false, false, false, false, false, false, false, false, false, false, false, false, false, false, false, false, false, false, false, false, false, false, false, false, false, false] rfl rfl (by kernel_rfl) (fun _ _ _ h => h) (Or.inl ⟨by rfl, ?_⟩) ?_ ?_
        rotate_left
        · intro w'
          go_simp
          with_reducible rfl
        rotate_left
        · simp only [Act.put, List.setIfInBounds_toArray, List.set_cons_zero, List.set_cons_succ, i64_w, i32_w]
          rfl
        refine pure_ (i := 5) (N := some 25) (v := ?_) (a' := ?_) #[true, true, true, false, true, true, false, false, false, false, false, false, false, false, false, false, false, false, false, false, false, false, false, false, false, false, false, false, false, false, false, false, false, false, false, false] rfl rfl (by kernel_rfl) (fun _ _ _ h => h) (Or.inl ⟨by rfl, ?_⟩) ?_ ?_
        rotate_left
        · intro w'
          go_simp
          with_reducible rfl
        rotate_left
        · simp only [Act.put, List.setIfInBounds_toArray, List.set_cons_zero, List.set_cons_succ, i64_w, i32_w]
          rfl
        refine pure_ (i := 6) (N := some 26) (v := ?_) (a' := ?_) #[true, true, true, false, true, true, true, false, false, false, false, false, false, false, false, false, false, false, false, false, false, false, false, false, false, false, false, false, false, false, false, false, false, false, false, false] rfl rfl (by kernel_rfl) (fun _ _ _ h => h) (Or.inl ⟨by rfl, ?_⟩) ?_ ?_
        rotate_left
        · intro w'
          go_simp
          with_reducible rfl
        rotate_left
        · simp only [Act.put, List.setIfInBounds_toArray, List.set_cons_zero, List.set_cons_succ, i64_w, i32_w]
          rfl
        refine take_ (i := 3) (N := some 23) (v := ?_) (a' := ?_) #[true, true, true, true, true, true, true, false, false, false, false, false, false, false, false, false, false, false, false, false, false, false, false, false, false, false, false, false, false, false, false, false, false, false, false, false] rfl rfl (by kernel_rfl) (fun _ _ _ h => h) (Or.inl ⟨by rfl, ?_⟩) hHeld ?_ ?_
        rotate_left
        · rintro w' ⟨s0, s1, s2, s3, s4, s5, s6, s7, s8, s9, s10, s11⟩
          go_simp
          with_reducible rfl
        rotate_left
        · simp only [Act.put, List.setIfInBounds_toArray, List.set_cons_zero, List.set_cons_succ, i64_w, i32_w]
          rfl
        refine take_ (i := 7) (N := some 27) (v := ?_) (a' := ?_) #[true, true, true, true, true, true, true, true, false, false, false, false, false, false, false, false, false, false, false, false, false, false, false, false, false, false, false, false, false, false, false, false, false, false, false, false] rfl rfl (by kernel_rfl) (fun _ _ _ h => h) (Or.inl ⟨by rfl, ?_⟩) hHeld ?_ ?_
        rotate_left
        · rintro w' ⟨s0, s1, s2, s3, s4, s5, s6, s7, s8, s9, s10, s11⟩
          go_simp
          with_reducible rfl
        rotate_left
        · simp only [Act.put, List.setIfInBounds_toArray, List.set_cons_zero, List.set_cons_succ, i64_w, i32_w]
          rfl
        refine one_ (i := 8) (N := some 28) #[true, true, true, true, true, true, true, true, true, false, false, false, false, false, false, false, false, false, false, false, false, false, false, false, false, false, false, false, false, false, false, false, false, false, false, false] rfl rfl (by kernel_rfl) (by decide) (fun K hK => ?_)
        refine goes_ Tryd.func30 (by kernel_rfl) rfl #[.agg #[.string x.f0, .string x.f1, .string x.f2, .string x.f3, .slice A4 x.f4.length c4], .agg #[.string x.f0, .string x.f1, .string x.f2, .string x.f3, .slice B4 x.f4.length e4]] (by rfl) rfl rfl (by simp only [List.map_toArray, List.map_cons, List.map_nil]; rfl) ?_
        with_reducible refine (same_calls x A4 B4 c4 e4 _ (fun w' hb => sames_calls (cnt x.f4) x.f4 A4 B4 c4 e4 w' (Nat.le_refl _) (Kd.C_below HR4.out (below_step HWd.out hb)) (Kd.C_below HS4.out (below_step HWd.out hb)) hl4 hm4 (by omega))).mono ?_
        rintro e w6 ⟨rfl, hb6⟩
        refine ⟨_, rfl, ?_⟩
        have hx0a := (hb6.cell (World.block_lt_of_cell? _ _ hx0)).trans hx0
        have hx1a := (hb6.cell (World.block_lt_of_cell? _ _ hx1)).trans hx1
        have hx2a := (hb6.cell (World.block_lt_of_cell? _ _ hx2)).trans hx2
        have hx3a := (hb6.cell (World.block_lt_of_cell? _ _ hx3)).trans hx3
        have hx4a := (hb6.cell (World.block_lt_of_cell? _ _ hx4)).trans hx4
        have hy0a := (hb6.cell (World.block_lt_of_cell? _ _ hy0)).trans hy0
        have hy1a := (hb6.cell (World.block_lt_of_cell? _ _ hy1)).trans hy1
        have hy2a := (hb6.cell (World.block_lt_of_cell? _ _ hy2)).trans hy2
        have hy3a := (hb6.cell (World.block_lt_of_cell? _ _ hy3)).trans hy3
        have hy4a := (hb6.cell (World.block_lt_of_cell? _ _ hy4)).trans hy4
        have hz0a := (hb6.cell (World.block_lt_of_cell? _ _ hz0)).trans hz0
        have hz4a := (hb6.cell (World.block_lt_of_cell? _ _ hz4)).trans hz4
        refine hK.out _ _ ⟨hx0a, hx1a, hx2a, hx3a, hx4a, hy0a, hy1a, hy2a, hy3a, hy4a, hz0a, hz4a⟩ (fun hHeld => ?_)
        clear hK K
        refine norm_ (a' := ?_) ?_ ?_
        rotate_left
        · show Act.put _ (some 28) _ = _
          simp only [Act.put, List.setIfInBounds_toArray, List.set_cons_zero, List.set_cons_succ, i64_w, i32_w]
          rfl
        refine pure_ (i := 9) (N := some 29) (v := ?_) (a' := ?_) #[true, true, true, true, true, true, true, true, true, true, false, false, false, false, false, false, false, false, false, false, false, false, false, false, false, false, false, false, false, false, false, false, false, false, false, false] rfl rfl (by kernel_rfl) (fun _ _ _ h => h) (Or.inl ⟨by rfl, ?_⟩) ?_ ?_
        rotate_left
        · intro w'
          go_simp
          with_reducible rfl
        rotate_left
        · simp only [Act.put, List.setIfInBounds_toArray, List.set_cons_zero, List.set_cons_succ, i64_w, i32_w]
          rfl
        refine pure_ (i := 10) (N := some 30) (v := ?_) (a' := ?_) #[true, true, true, true, true, true, true, true, true, true, true, false, false, false, false, false, false, false, false, false, false, false, false, false, false, false, false, false, false, false, false, false, false, false, false, false] rfl rfl (by kernel_rfl) (fun _ _ _ h => h) (Or.inl ⟨by rfl, ?_⟩) ?_ ?_
        rotate_left
        · intro w'
          go_simp
          with_reducible rfl
        rotate_left
        · simp only [Act.put, List.setIfInBounds_toArray, List.set_cons_zero, List.set_cons_succ, i64_w, i32_w]
          rfl
        refine pure_ (i := 11) (N := some 31) (v := ?_) (a' := ?_) #[true, true, true, true, true, true, true, true, true, true, true, true, false, false, false, false, false, false, false, false, false, false, false, false, false, false, false, false, false, false, false, false, false, false, false, false] rfl rfl (by kernel_rfl) (fun _ _ _ h => h) (Or.inl ⟨by rfl, ?_⟩) ?_ ?_
        rotate_left
        · intro w'
          go_simp
          with_reducible rfl
        rotate_left
        · simp only [Act.put, List.setIfInBounds_toArray, List.set_cons_zero, List.set_cons_succ, i64_w, i32_w]
          rfl
        refine pure_ (i := 12) (N := some 32) (v := ?_) (a' := ?_) #[true, true, true, true, true, true, true, true, true, true, true, true, true, false, false, false, false, false, false, false, false, false, false, false, false, false, false, false, false, false, false, false, false, false, false, false] rfl rfl (by kernel_rfl) (fun _ _ _ h => h) (Or.inl ⟨by rfl, ?_⟩) ?_ ?_
        rotate_left
        · intro w'
          go_simp
          with_reducible rfl
        rotate_left
        · simp only [Act.put, List.setIfInBounds_toArray, List.set_cons_zero, List.set_cons_succ, i64_w, i32_w]
          rfl
        refine pure_ (i := 13) (N := some 33) (v := ?_) (a' := ?_) #[true, true, true, true, true, true, true, true, true, true, true, true, true, true, false, false, false, false, false, false, false, false, false, false, false, false, false, false, false, false, false, false, false, false, false, false] rfl rfl (by kernel_rfl) (fun _ _ _ h => h) (Or.inl ⟨by rfl, ?_⟩) ?_ ?_
        rotate_left
        · intro w'
          go_simp
          with_reducible rfl
        rotate_left
        · simp only [Act.put, List.setIfInBounds_toArray, List.set_cons_zero, List.set_cons_succ, i64_w, i32_w]
          rfl
        refine pure_ (i := 14) (N := some 34) (v := ?_) (a' := ?_) #[true, true, true, true, true, true, true, true, true, true, true, true, true, true, true, false, false, false, false, false, false, false, false, false, false, false, false, false, false, false, false, false, false, false, false, false] rfl rfl (by kernel_rfl) (fun _ _ _ h => h) (Or.inl ⟨by rfl, ?_⟩) ?_ ?_
        rotate_left
        · intro w'
          go_simp
          with_reducible rfl
        rotate_left
        · simp only [Act.put, List.setIfInBounds_toArray, List.set_cons_zero, List.set_cons_succ, i64_w, i32_w]
          rfl
        refine pure_ (i := 15) (N := some 35) (v := ?_) (a' := ?_) #[true, true, true, true, true, true, true, true, true, true, true, true, true, true, true, true, false, false, false, false, false, false, false, false, false, false, false, false, false, false, false, false, false, false, false, false] rfl rfl (by kernel_rfl) (fun _ _ _ h => h) (Or.inl ⟨by rfl, ?_⟩) ?_ ?_
        rotate_left
        · intro w'
          go_simp
          with_reducible rfl
        rotate_left
        · simp only [Act.put, List.setIfInBounds_toArray, List.set_cons_zero, List.set_cons_succ, i64_w, i32_w]
          rfl
        refine pure_ (i := 16) (N := some 36) (v := ?_) (a' := ?_) #[true, true, true, true, true, true, true, true, true, true, true, true, true, true, true, true, true, false, false, false, false, false, false, false, false, false, false, false, false, false, false, false, false, false, false, false] rfl rfl (by kernel_rfl) (fun _ _ _ h => h) (Or.inl ⟨by rfl, ?_⟩) ?_ ?_
        rotate_left
        · intro w'
          go_simp
          with_reducible rfl
        rotate_left
        · simp only [Act.put, List.setIfInBounds_toArray, List.set_cons_zero, List.set_cons_succ, i64_w, i32_w]
          rfl
        refine take_ (i := 17) (N := some 37) (v := ?_) (a' := ?_) #[true, true, true, true, true, true, true, true, true, true, true, true, true, true, true, true, true, true, false, false, false, false, false, false, false, false, false, false, false, false, false, false, false, false, false, false] rfl rfl (by kernel_rfl) (fun _ _ _ h => h) (Or.inl ⟨by rfl, ?_⟩) hHeld ?_ ?_
        rotate_left
        · rintro w' ⟨s0, s1, s2, s3, s4, s5, s6, s7, s8, s9, s10, s11⟩
          go_simp
          with_reducible rfl
        rotate_left
        · simp only [Act.put, List.setIfInBounds_toArray, List.set_cons_zero, List.set_cons_succ, i64_w, i32_w]
          rfl
        refine pure_ (i := 18) (N := some 38) (v := ?_) (a' := ?_) #[true, true, true, true, true, true, true, true, true, true, true, true, true, true, true, true, true, true, true, false, false, false, false, false, false, false, false, false, false, false, false, false, false, false, false, false] rfl rfl (by kernel_rfl) (fun _ _ _ h => h) (Or.inl ⟨by rfl, ?_⟩) ?_ ?_
        rotate_left
        · intro w'
          go_simp
          with_reducible rfl
        rotate_left
        · simp only [Act.put, List.setIfInBounds_toArray, List.set_cons_zero, List.set_cons_succ, i64_w, i32_w]
          rfl
        refine pure_ (i := 19) (N := some 39) (v := ?_) (a' := ?_) #[true, true, true, true, true, true, true, true, true, true, true, true, true, true, true, true, true, true, true, true, false, false, false, false, false, false, false, false, false, false, false, false, false, false, false, false] rfl rfl (by kernel_rfl) (fun _ _ _ h => h) (Or.inl ⟨by rfl, ?_⟩) ?_ ?_
        rotate_left
        · intro w'
          go_simp
          with_reducible rfl
        rotate_left
        · simp only [Act.put, List.setIfInBounds_toArray, List.set_cons_zero, List.set_cons_succ, i64_w, i32_w]
          rfl
        refine pure_ (i := 20) (N := some 40) (v := ?_) (a' := ?_) #[true, true, true, true, true, true, true, true, true, true, true, true, true, true, true, true, true, true, true, true, true, false, false, false, false, false, false, false, false, false, false, false, false, false, false, false] rfl rfl (by kernel_rfl) (fun _ _ _ h => h) (Or.inl ⟨by rfl, ?_⟩) ?_ ?_
        rotate_left
        · intro w'
          go_simp
          with_reducible rfl
        rotate_left
        · simp only [Act.put, List.setIfInBounds_toArray, List.set_cons_zero, List.set_cons_succ, i64_w, i32_w]
          rfl
        refine pure_ (i := 21) (N := some 41) (v := ?_) (a' := ?_) #[true, true, true, true, true, true, true, true, true, true, true, true, true, true, true, true, true, true, true, true, true, true, false, false, false, false, false, false, false, false, false, false, false, false, false, false] rfl rfl (by kernel_rfl) (fun _ _ _ h => h) (Or.inl ⟨by rfl, ?_⟩) ?_ ?_
        rotate_left
        · intro w'
          go_simp
          with_reducible rfl
        rotate_left
        · simp only [Act.put, List.setIfInBounds_toArray, List.set_cons_zero, List.set_cons_succ, i64_w, i32_w]
          rfl
        refine pure_ (i := 22) (N := some 42) (v := ?_) (a' := ?_) #[true, true, true, true, true, true, true, true, true, true, true, true, true, true, true, true, true, true, true, true, true, true, true, false, false, false, false, false, false, false, false, false, false, false, false, false] rfl rfl (by kernel_rfl) (fun _ _ _ h => h) (Or.inl ⟨by rfl, ?_⟩) ?_ ?_
        rotate_left
        · intro w'
          go_simp
          with_reducible rfl
        rotate_left
        · simp only [Act.put, List.setIfInBounds_toArray, List.set_cons_zero, List.set_cons_succ, i64_w, i32_w]
          rfl
        refine pure_ (i := 23) (N := some 43) (v := ?_) (a' := ?_) #[true, true, true, true, true, true, true, true, true, true, true, true, true, true, true, true, true, true, true, true, true, true, true, true, false, false, false, false, false, false, false, false, false, false, false, false] rfl rfl (by kernel_rfl) (fun _ _ _ h => h) (Or.inl ⟨by rfl, ?_⟩) ?_ ?_
        rotate_left
        · intro w'
          go_simp
          with_reducible rfl
        rotate_left
        · simp only [Act.put, List.setIfInBounds_toArray, List.set_cons_zero, List.set_cons_succ, i64_w, i32_w]
          rfl
        refine pure_ (i := 24) (N := some 44) (v := ?_) (a' := ?_) #[true, true, true, true, true, true, true, true, true, true, true, true, true, true, true, true, true, true, true, true, true, true, true, true, true, false, false, false, false, false, false, false, false, false, false, false] rfl rfl (by kernel_rfl) (fun _ _ _ h => h) (Or.inl ⟨by rfl, ?_⟩) ?_ ?_
        rotate_left
        · intro w'
          go_simp
          with_reducible rfl
        rotate_left
        · simp only [Act.put, List.setIfInBounds_toArray, List.set_cons_zero, List.set_cons_succ, i64_w, i32_w]
          rfl
        refine pure_ (i := 25) (N := some 45) (v := ?_) (a' := ?_) #[true, true, true, true, true, true, true, true, true, true, true, true, true, true, true, true, true, true, true, true, true, true, true, true, true, true, false, false, false, false, false, false, false, false, false, false] rfl rfl (by kernel_rfl) (fun _ _ _ h => h) (Or.inl ⟨by rfl, ?_⟩) ?_ ?_
        rotate_left
        · intro w'
          go_simp
          with_reducible rfl
        rotate_left
        · simp only [Act.put, List.setIfInBounds_toArray, List.set_cons_zero, List.set_cons_succ, i64_w, i32_w]
          rfl
        refine pure_ (i := 26) (N := some 46) (v := ?_) (a' := ?_) #[true, true, true, true, true, true, true, true, true, true, true, true, true, true, true, true, true, true, true, true, true, true, true, true, true, true, true, false, false, false, false, false, false, false, false, false] rfl rfl (by kernel_rfl) (fun _ _ _ h => h) (Or.inl ⟨by rfl, ?_⟩) ?_ ?_
        rotate_left
        · intro w'
          go_simp
          with_reducible rfl
        rotate_left
        · simp only [Act.put, List.setIfInBounds_toArray, List.set_cons_zero, List.set_cons_succ, i64_w, i32_w]
          rfl
        refine pure_ (i := 28) (N := some 48) (v := ?_) (a' := ?_) #[true, true, true, true, true, true, true, true, true, true, true, true, true, true, true, true, true, true, true, true, true, true, true, true, true, true, true, false, true, false, false, false, false, false, false, false] rfl rfl (by kernel_rfl) (fun _ _ _ h => h) (Or.inl ⟨by rfl, ?_⟩) ?_ ?_
        rotate_left
        · intro w'
          go_simp
          with_reducible rfl
        rotate_left
        · simp only [Act.put, List.setIfInBounds_toArray, List.set_cons_zero, List.set_cons_succ, i64_w, i32_w]
          rfl
        refine pure_ (i := 29) (N := some 49) (v := ?_) (a' := ?_) #[true, true, true, true, true, true, true, true, true, true, true, true, true, true, true, true, true, true, true, true, true, true, true, true, true, true, true, false, true, true, false, false, false, false, false, false] rfl rfl (by kernel_rfl) (fun _ _ _ h => h) (Or.inl ⟨by rfl, ?_⟩) ?_ ?_
        rotate_left
        · intro w'
          go_simp
          with_reducible rfl
        rotate_left
        · simp only [Act.put, List.setIfInBounds_toArray, List.set_cons_zero, List.set_cons_succ, i64_w, i32_w]
          rfl
        refine pure_ (i := 30) (N := some 50) (v := ?_) (a' := ?_) #[true, true, true, true, true, true, true, true, true, true, true, true, true, true, true, true, true, true, true, true, true, true, true, true, true, true, true, false, true, true, true, false, false, false, false, false] rfl rfl (by kernel_rfl) (fun _ _ _ h => h) (Or.inl ⟨by rfl, ?_⟩) ?_ ?_
        rotate_left
        · intro w'
          go_simp
          with_reducible rfl
        rotate_left
        · simp only [Act.put, List.setIfInBounds_toArray, List.set_cons_zero, List.set_cons_succ, i64_w, i32_w]
          rfl
        refine pure_ (i := 31) (N := some 51) (v := ?_) (a' := ?_) #[true, true, true, true, true, true, true, true, true, true, true, true, true, true, true, true, true, true, true, true, true, true, true, true, true, true, true, false, true, true, true, true, false, false, false, false] rfl rfl (by kernel_rfl) (fun _ _ _ h => h) (Or.inl ⟨by rfl, ?_⟩) ?_ ?_
        rotate_left
        · intro w'
          go_simp
          with_reducible rfl
        rotate_left
        · simp only [Act.put, List.setIfInBounds_toArray, List.set_cons_zero, List.set_cons_succ, i64_w, i32_w]
          rfl
        refine take_ (i := 27) (N := some 47) (v := ?_) (a' := ?_) #[true, true, true, true, true, true, true, true, true, true, true, true, true, true, true, true, true, true, true, true, true, true, true, true, true, true, true, true, true, true, true, true, false, false, false, false] rfl rfl (by kernel_rfl) (fun _ _ _ h => h) (Or.inl ⟨by rfl, ?_⟩) hHeld ?_ ?_
        rotate_left
        · rintro w' ⟨s0, s1, s2, s3, s4, s5, s6, s7, s8, s9, s10, s11⟩
          go_simp
          with_reducible rfl
        rotate_left
        · simp only [Act.put, List.setIfInBounds_toArray, List.set_cons_zero, List.set_cons_succ, i64_w, i32_w]
          rfl
        refine take_ (i := 32) (N := some 52) (v := ?_) (a' := ?_) #[true, true, true, true, true, true, true, true, true, true, true, true, true, true, true, true, true, true, true, true, true, true, true, true, true, true, true, true, true, true, true, true, true, false, false, false] rfl rfl (by kernel_rfl) (fun _ _ _ h => h) (Or.inl ⟨by rfl, ?_⟩) hHeld ?_ ?_
        rotate_left
        · rintro w' ⟨s0, s1, s2, s3, s4, s5, s6, s7, s8, s9, s10, s11⟩
          go_simp
          with_reducible rfl
        rotate_left
        · simp only [Act.put, List.setIfInBounds_toArray, List.set_cons_zero, List.set_cons_succ, i64_w, i32_w]
          rfl
        refine one_ (i := 33) (N := some 53) #[true, true, true, true, true, true, true, true, true, true, true, true, true, true, true, true, true, true, true, true, true, true, true, true, true, true, true, true, true, true, true, true, true, true, false, false] rfl rfl (by kernel_rfl) (by decide) (fun K hK => ?_)
        refine goes_ Tryd.func18 (by kernel_rfl) rfl #[.slice F4 (full x.f4).length c5, .slice B4 x.f4.length e4] (by rfl) rfl rfl (by simp only [List.map_toArray, List.map_cons, List.map_nil]; rfl) ?_
        with_reducible refine (IH.out (cnt x.f4) (by omega) x.f4 F4 B4 c5 e4 _ (Nat.le_refl _) (Kd.C_below HK4.out (below_step HWd.out hb6)) (Kd.C_below HS4.out (below_step HWd.out hb6)) hf4 hm4 (by omega)).mono ?_
        rintro e w7 ⟨rfl, hb7⟩
        refine ⟨_, rfl, ?_⟩
        have hx0b := (hb7.cell (World.block_lt_of_cell? _ _ hx0a)).trans hx0a
        have hx1b := (hb7.cell (World.block_lt_of_cell? _ _ hx1a)).trans hx1a
        have hx2b := (hb7.cell (World.block_lt_of_cell? _ _ hx2a)).trans hx2a
        have hx3b := (hb7.cell (World.block_lt_of_cell? _ _ hx3a)).trans hx3a
        have hx4b := (hb7.cell (World.block_lt_of_cell? _ _ hx4a)).trans hx4a
        have hy0b := (hb7.cell (World.block_lt_of_cell? _ _ hy0a)).trans hy0a
        have hy1b := (hb7.cell (World.block_lt_of_cell? _ _ hy1a)).trans hy1a
        have hy2b := (hb7.cell (World.block_lt_of_cell? _ _ hy2a)).trans hy2a
        have hy3b := (hb7.cell (World.block_lt_of_cell? _ _ hy3a)).trans hy3a
        have hy4b := (hb7.cell (World.block_lt_of_cell? _ _ hy4a)).trans hy4a
        have hz0b := (hb7.cell (World.block_lt_of_cell? _ _ hz0a)).trans hz0a
        have hz4b := (hb7.cell (World.block_lt_of_cell? _ _ hz4a)).trans hz4a
        refine hK.out _ _ ⟨hx0b, hx1b, hx2b, hx3b, hx4b, hy0b, hy1b, hy2b, hy3b, hy4b, hz0b, hz4b⟩ (fun hHeld => ?_)
        clear hK K
        refine norm_ (a' := ?_) ?_ ?_
        rotate_left
        · show Act.put _ (some 53) _ = _
          simp only [Act.put, List.setIfInBounds_toArray, List.set_cons_zero, List.set_cons_succ, i64_w, i32_w]
          rfl
        refine pure_ (i := 34) (N := some 54) (v := ?_) (a' := ?_) #[true, true, true, true, true, true, true, true, true, true, true, true, true, true, true, true, true, true, true, true, true, true, true, true, true, true, true, true, true, true, true, true, true, true, true, false] rfl rfl (by kernel_rfl) (fun _ _ _ h => h) (Or.inl ⟨by rfl, ?_⟩) ?_ ?_
        rotate_left
        · intro w'
          go_simp
          with_reducible rfl
        rotate_left
        · simp only [Act.put, List.setIfInBounds_toArray, List.set_cons_zero, List.set_cons_succ, i64_w, i32_w]
          rfl
        refine pure_ (i := 35) (N := some 55) (v := ?_) (a' := ?_) #[true, true, true, true, true, true, true, true, true, true, true, true, true, true, true, true, true, true, true, true, true, true, true, true, true, true, true, true, true, true, true, true, true, true, true, true] rfl rfl (by kernel_rfl) (fun _ _ _ h => h) (Or.inl ⟨by rfl, ?_⟩) ?_ ?_
        rotate_left
        · intro w'
          go_simp
          with_reducible rfl
        rotate_left
        · simp only [Act.put, List.setIfInBounds_toArray, List.set_cons_zero, List.set_cons_succ, i64_w, i32_w]
          rfl
        refine done_ (by kernel_rfl) ?_
        clear p3 p4 hz0 hz4 hz0a hz4a hz0b hz4b
        have HW7 := Aside0.mk (below_step (below_step HWd.out hb6) hb7)
        go_wp2_with fail
        refine ⟨⟨i + 1, rfl, by omega, by omega, HW7⟩, by simp [intOf]; omega⟩
      · have blt : decide (i < (l.length : Int)) = false := by simp; omega
        obtain ⟨ad, A4, c4, rfl, hx0, _⟩ := at_T50 HA.out (2 * l.length) (by omega) hfl2
        rw [rd_full2] at hx0
        replace hx0 := (HW.out.cell (World.block_lt_of_cell? w _ hx0)).trans hx0
        rw [show (2 * (l.length : Int)).toNat = 2 * l.length by omega] at hx0
        replace hx0 : wr.cell? (ad.add (2 * l.length * 5)) = some (.string ⟨#[35, 101, 110, 100]⟩) := hx0
        go_wp2
        go_ret
        exact ⟨rfl, HW.out⟩
end Go.Proofs.YtjnpfkjplpkfjaaDoor.Tg

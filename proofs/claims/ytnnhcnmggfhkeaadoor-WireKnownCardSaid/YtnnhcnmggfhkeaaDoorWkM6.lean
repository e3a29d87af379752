/- Texts of this claim, one behind the other: WkPuts, WkLay, WkWrites, WkWrites2, WkSome, WkShown. -/
import Derived.Test.YtnnhcnmggfhkeaaDoorWkM5
import Derived.Lib.SlBytesConst
/- The walks of vast, lay and laid. -/
namespace Go.Proofs.YtnnhcnmggfhkeaaDoor.Wk
open Go.RowKit Go.Proofs.YtnnhcnmggfhkeaaDoorW.PrintWords Go.Proofs.YtnnhcnmggfhkeaaDoorW.PrintLast Go.Proofs.YtnnhcnmggfhkeaaDoorW.PrintMore Go.Proofs.YtnnhcnmggfhkeaaDoor.PWireKnown
set_option linter.unusedVariables false
set_option linter.unusedSimpArgs false

structure P4 where
  on : Int
  kind : Int
  X : Nat
/-- A row of calls without texts lies there. -/
def Puts (w : World) (A : Option Addr) (S : List P4) : Prop := ∀ i q, S[i]? = some q → ∃ ad, A = some ad ∧ (∀ W, Below w.heap.size w W → W.cell? (ad.add (i * 4)) = some (.int .i64 q.on) ∧ W.cell? ⟨(ad.add (i * 4)).block, (ad.add (i * 4)).off + 1, none⟩ = some (.int .i64 q.kind) ∧ W.cell? ⟨(ad.add (i * 4)).block, (ad.add (i * 4)).off + 2, none⟩ = some (.int .u64 q.X) ∧ W.cell? ⟨(ad.add (i * 4)).block, (ad.add (i * 4)).off + 3, none⟩ = some (.string ⟨#[]⟩)) ∧ q.X < 2 ^ 64
def VastPost (w : World) (e : Ending) (w' : World) : Prop := ∃ b, e = .returned (.bool b) ∧ Below w.heap.size w w'
set_option maxHeartbeats 8000000 in
set_option maxRecDepth 100000 in
theorem vast_calls (w0 w : World) (A : Option Addr) (c : Nat) (S : List P4) (hB : Below w0.heap.size w0 w) (hS : Puts w0 A S) (hls : S.length ≤ 1000000) :
    Calls Tryd.prog 38 #[.slice A S.length c] w (VastPost w) := by
  have HS := Lib.hid hS
  have HB := Aside0.mk hB
  clear hS hB
  go_enter Tryd.func38, Tryd.ntmps38
  go_wp2_with fail
  have hV0 : (w.alloc (.cells #[.int .i64 0, .int .i64 0] 119)).heap[w.heap.size]? = some (.cells #[.int .i64 0, .int .i64 0] 119 (0, 0)) := by simpa using heap_alloc_new w _
  have hB0 : Below w.heap.size w (w.alloc (.cells #[.int .i64 0, .int .i64 0] 119)) := below_alloc (Below.refl _ _) _
  have HV0 := Aside0.mk hV0
  have HB0 := Aside0.mk hB0
  clear hV0 hB0
  generalize w.alloc (.cells #[.int .i64 0, .int .i64 0] 119) = wA at *
  obtain ⟨V, hVV⟩ : ∃ V, w.heap.size = V := ⟨_, rfl⟩
  have HVV := Lib.hid hVV
  rw [hVV] at HV0 ⊢
  clear hVV
  go_loopw [3, 5] (fun v3 v5 wr => ∃ (z : Int) (i : Nat) (z0 z1 : Int), v3 = .int .i64 z ∧ v5 = .int .i64 i ∧ i ≤ S.length ∧ Aside0 (wr.heap[V]? = some (.cells #[.int .i64 z0, .int .i64 z1] 119 (0, 0))) ∧ Aside0 (Below w.heap.size w wr)) (fun _ v5 _ => S.length - (intOf v5).toNat)
  case atStart => exact ⟨0, 0, 0, 0, rfl, rfl, Nat.zero_le _, HV0, HB0⟩
  case round =>
    obtain ⟨z, i, z0, z1, rfl, rfl, hi, HV, HW⟩ := hrel
    by_cases hlt : i < S.length
    · have blt : decide ((i : Int) < (S.length : Int)) = true := by simp; omega
      by_cases hz : z ≤ 33554432
      · have bz : decide (z ≤ 33554432) = true := by simp [hz]
        obtain ⟨q, hq⟩ : ∃ q, S[i]? = some q := ⟨S[i], List.getElem?_eq_getElem hlt⟩
        obtain ⟨ad, hSA, hQ, hX⟩ := HS.out i q hq
        subst hSA
        obtain ⟨m1, m2, m3, m4⟩ := hQ wr (below_step HB.out HW.out)
        have hT : (wr.alloc (.cells #[.int .i64 q.on, .int .i64 q.kind, .int .u64 q.X, .string ⟨#[]⟩] 54)).heap[wr.heap.size]? = some (.cells #[.int .i64 q.on, .int .i64 q.kind, .int .u64 q.X, .string ⟨#[]⟩] 54 (0, 0)) := by simpa using heap_alloc_new wr _
        have hbA : Below wr.heap.size wr (wr.alloc (.cells #[.int .i64 q.on, .int .i64 q.kind, .int .u64 q.X, .string ⟨#[]⟩] 54)) := below_alloc (Below.refl _ _) _
        have hV := blk_below HV.out hbA
        have hbW := below_step HW.out hbA
        obtain ⟨T, hTT⟩ : ∃ T, wr.heap.size = T := ⟨_, rfl⟩
        have hTV : T ≠ V := by
          have := blk_lt HV.out
          omega
        clear hQ hq
        go_wp2_with fail
        rw [hTT] at hT
        generalize wr.alloc (.cells #[.int .i64 q.on, .int .i64 q.kind, .int .u64 q.X, .string ⟨#[]⟩] 54) = w1 at *
        have HT := Aside0.mk hT
        have HVa := Aside0.mk hV
        have HbW := Aside0.mk hbW
        have HTT := Lib.hid hTT
        clear m1 m2 m3 m4 hT hV hbW hbA hTT HV HW
        rcases pick2 q.on with hp | hp
        · have HP := Lib.hid hp
          clear hp
          refine (custodykit_Pick.calls q.on 2 0 _ HP.out).mono ?_
          rintro e wP ⟨rfl, hd⟩
          have hbd := below_step (below_step HbW.out (Drawn0.below hd)) (below_drew (Below.refl wP.heap.size wP))
          have hTd : wP.drew.heap[T]? = some (.cells #[.int .i64 q.on, .int .i64 q.kind, .int .u64 q.X, .string ⟨#[]⟩] 54 (0, 0)) := (blk_below HT.out (Drawn0.below hd) : wP.heap[T]? = _)
          have hVd : wP.drew.heap[V]? = some (.cells #[.int .i64 z0, .int .i64 z1] 119 (0, 0)) := (blk_below HVa.out (Drawn0.below hd) : wP.heap[V]? = _)
          have s0 : wP.drew.cell? ⟨V, 0, none⟩ = some (.int .i64 z0) := (blk_cell hVd 0).trans rfl
          have s1 : wP.drew.cell? ⟨T, 3, none⟩ = some (.string ⟨#[]⟩) := (blk_cell hTd 3).trans rfl
          have s2 : wP.drew.frozen? ⟨V, 0, none⟩ = false := blk_frozen hVd 0
          have HVd := Aside0.mk hVd
          have HTd := Aside0.mk hTd
          have Hbd := Aside0.mk hbd
          clear hd hTd hVd hbd HT HVa HbW HTT
          go_wp2_with fail
          refine start_ (n := 11) (S := fun w' => w'.cell? ⟨V, 0, none⟩ = some (.int .i64 z0) ∧ w'.cell? ⟨T, 3, none⟩ = some (.string ⟨#[]⟩)) (ds := [10]) #[false, false, false, false, false, false, false, false, false, false, false] (by kernel_rfl) rfl rfl ⟨s0, s1⟩ (fun hHeld => ?_)
          refine pure_ (i := 0) (N := some 25) (v := ?_) (a' := ?_) #[true, false, false, false, false, false, false, false, false, false, false] rfl rfl (by kernel_rfl) (fun _ _ _ h => h) (Or.inl ⟨by rfl, ?_⟩) ?_ ?_
          rotate_left
          · intro w'
            go_simp
            with_reducible rfl
          rotate_left
          · simp only [Act.put, List.setIfInBounds_toArray, List.set_cons_zero, List.set_cons_succ, i64_w, i32_w]
            rfl
          refine pure_ (i := 1) (N := some 26) (v := ?_) (a' := ?_) #[true, true, false, false, false, false, false, false, false, false, false] rfl rfl (by kernel_rfl) (fun _ _ _ h => h) (Or.inl ⟨by rfl, ?_⟩) ?_ ?_
          rotate_left
          · intro w'
            go_simp
            with_reducible rfl
          rotate_left
          · simp only [Act.put, List.setIfInBounds_toArray, List.set_cons_zero, List.set_cons_succ, i64_w, i32_w]
            rfl
          refine pure_ (i := 2) (N := some 27) (v := ?_) (a' := ?_) #[true, true, true, false, false, false, false, false, false, false, false] rfl rfl (by kernel_rfl) (fun _ _ _ h => h) (Or.inl ⟨by rfl, ?_⟩) ?_ ?_
          rotate_left
          · intro w'
            go_simp
            with_reducible rfl
          rotate_left
          · simp only [Act.put, List.setIfInBounds_toArray, List.set_cons_zero, List.set_cons_succ, i64_w, i32_w]
            rfl
          refine pure_ (i := 4) (N := some 29) (v := ?_) (a' := ?_) #[true, true, true, false, true, false, false, false, false, false, false] rfl rfl (by kernel_rfl) (fun _ _ _ h => h) (Or.inl ⟨by rfl, ?_⟩) ?_ ?_
          rotate_left
          · intro w'
            go_simp
            with_reducible rfl
          rotate_left
          · simp only [Act.put, List.setIfInBounds_toArray, List.set_cons_zero, List.set_cons_succ, i64_w, i32_w]
            rfl
          refine take_ (i := 3) (N := some 28) (v := ?_) (a' := ?_) #[true, true, true, true, true, false, false, false, false, false, false] rfl rfl (by kernel_rfl) (fun _ _ _ h => h) (Or.inl ⟨by rfl, ?_⟩) hHeld ?_ ?_
          rotate_left
          · rintro w' ⟨s0, s1⟩
            go_simp
            with_reducible rfl
          rotate_left
          · simp only [Act.put, List.setIfInBounds_toArray, List.set_cons_zero, List.set_cons_succ, i64_w, i32_w]
            rfl
          refine take_ (i := 5) (N := some 30) (v := ?_) (a' := ?_) #[true, true, true, true, true, true, false, false, false, false, false] rfl rfl (by kernel_rfl) (fun _ _ _ h => h) (Or.inl ⟨by rfl, ?_⟩) hHeld ?_ ?_
          rotate_left
          · rintro w' ⟨s0, s1⟩
            go_simp
            with_reducible rfl
          rotate_left
          · simp only [Act.put, List.setIfInBounds_toArray, List.set_cons_zero, List.set_cons_succ, i64_w, i32_w]
            rfl
          refine pure_ (i := 6) (N := some 31) (v := ?_) (a' := ?_) #[true, true, true, true, true, true, true, false, false, false, false] rfl rfl (by kernel_rfl) (fun _ _ _ h => h) (Or.inl ⟨by rfl, ?_⟩) ?_ ?_
          rotate_left
          · intro w'
            go_simp
            with_reducible rfl
          rotate_left
          · simp only [Act.put, List.setIfInBounds_toArray, List.set_cons_zero, List.set_cons_succ, i64_w, i32_w]
            rfl
          refine pure_ (i := 7) (N := some 32) (v := ?_) (a' := ?_) #[true, true, true, true, true, true, true, true, false, false, false] rfl rfl (by kernel_rfl) (fun _ _ _ h => h) (Or.inl ⟨by rfl, ?_⟩) ?_ ?_
          rotate_left
          · intro w'
            go_simp
            with_reducible rfl
          rotate_left
          · simp only [Act.put, List.setIfInBounds_toArray, List.set_cons_zero, List.set_cons_succ, i64_w, i32_w]
            rfl
          refine pure_ (i := 8) (N := some 33) (v := ?_) (a' := ?_) #[true, true, true, true, true, true, true, true, true, false, false] rfl rfl (by kernel_rfl) (fun _ _ _ h => h) (Or.inl ⟨by rfl, ?_⟩) ?_ ?_
          rotate_left
          · intro w'
            go_simp
            with_reducible rfl
          rotate_left
          · simp only [Act.put, List.setIfInBounds_toArray, List.set_cons_zero, List.set_cons_succ, i64_w, i32_w]
            rfl
          refine pure_ (i := 9) (N := some 34) (v := ?_) (a' := ?_) #[true, true, true, true, true, true, true, true, true, true, false] rfl rfl (by kernel_rfl) (fun _ _ _ h => h) (Or.inl ⟨by rfl, ?_⟩) ?_ ?_
          rotate_left
          · intro w'
            go_simp
            with_reducible rfl
          rotate_left
          · simp only [Act.put, List.setIfInBounds_toArray, List.set_cons_zero, List.set_cons_succ, i64_w, i32_w]
            rfl
          refine last_ (i := 10) (N := none) #[true, true, true, true, true, true, true, true, true, true, true] rfl rfl (by kernel_rfl) (by decide) (fun K hK => ?_)
          refine skip_ (w1 := ?_) (by rfl) rfl ?_ ?_
          rotate_left
          · go_simp
            rfl
          refine hK.out _ _ ?_
          clear hK K
          refine done_ (by kernel_rfl) ?_
          have hV2 : ((wP.setCell ⟨V, 0, none⟩ (.int .i64 (wrap64 (wrap64 z0 + 16)))).drew).heap[V]? = some (.cells #[.int .i64 (wrap64 (wrap64 z0 + 16)), .int .i64 z1] 119 (0, 0)) := blk_set HVd.out 0 _
          have hT2 : ((wP.setCell ⟨V, 0, none⟩ (.int .i64 (wrap64 (wrap64 z0 + 16)))).drew).heap[T]? = some (.cells #[.int .i64 q.on, .int .i64 q.kind, .int .u64 q.X, .string ⟨#[]⟩] 54 (0, 0)) := by
            show (wP.setCell ⟨V, 0, none⟩ (.int .i64 (wrap64 (wrap64 z0 + 16)))).heap[T]? = _
            rw [Below.heap_setCell _ _ _ _ hTV]
            exact HTd.out
          have hb2 : Below w.heap.size w ((wP.setCell ⟨V, 0, none⟩ (.int .i64 (wrap64 (wrap64 z0 + 16)))).drew) := Hbd.out.setCell (p := ⟨V, 0, none⟩) (show w.heap.size ≤ V from Nat.le_of_eq HVV.out) _
          clear s0 s1 s2 HVd HTd Hbd
          generalize (wP.setCell ⟨V, 0, none⟩ (.int .i64 (wrap64 (wrap64 z0 + 16)))).drew = w2 at *
          have k1 : w2.cell? ⟨T, 1, none⟩ = some (.int .i64 q.kind) := (blk_cell hT2 1).trans rfl
          have k3 : w2.cell? ⟨T, 3, none⟩ = some (.string ⟨#[]⟩) := (blk_cell hT2 3).trans rfl
          have kv : w2.cell? ⟨V, 0, none⟩ = some (.int .i64 (wrap64 (wrap64 z0 + 16))) := (blk_cell hV2 0).trans rfl
          have HV2 := Aside0.mk hV2
          have HB2 := Aside0.mk hb2
          have hw : Value.int .i64 (wrap64 ((i : Int) + 1)) = .int .i64 ((i + 1 : Nat) : Int) := by rw [wrap64_id (x := (i : Int) + 1) (by omega) (by omega)]; rfl
          have hms : S.length - ((i + 1 : Nat) : Int).toNat < S.length - (i : Int).toNat := by omega
          have HWr := Lib.hid hw
          have HMs := Lib.hid hms
          clear hV2 hT2 hb2 hw hms
          by_cases c1 : q.kind < 0
          · have d1 : decide (q.kind < 0) = true := by simp [c1]
            go_wp2_with fail
            refine ⟨⟨_, i + 1, _, _, rfl, ?_, by omega, HV2, HB2⟩, ?_⟩
            · first | rfl | exact HWr.out
            · first | exact HMs.out | (rw [HWr.out]; exact HMs.out)
          · have d1 : decide (q.kind < 0) = false := by simp; omega
            by_cases c2 : 2 < q.kind
            · have d2 : decide (2 < q.kind) = true := by simp [c2]
              go_wp2_with fail
              refine ⟨⟨_, i + 1, _, _, rfl, ?_, by omega, HV2, HB2⟩, ?_⟩
              · first | rfl | exact HWr.out
              · first | exact HMs.out | (rw [HWr.out]; exact HMs.out)
            · have d2 : decide (2 < q.kind) = false := by simp; omega
              go_wp2_with fail
              refine ⟨⟨_, i + 1, _, _, rfl, ?_, by omega, HV2, HB2⟩, ?_⟩
              · first | rfl | exact HWr.out
              · first | exact HMs.out | (rw [HWr.out]; exact HMs.out)
        · have HP := Lib.hid hp
          clear hp
          refine (custodykit_Pick.calls q.on 2 1 _ HP.out).mono ?_
          rintro e wP ⟨rfl, hd⟩
          have hbd := below_step (below_step HbW.out (Drawn0.below hd)) (below_drew (Below.refl wP.heap.size wP))
          have hTd : wP.drew.heap[T]? = some (.cells #[.int .i64 q.on, .int .i64 q.kind, .int .u64 q.X, .string ⟨#[]⟩] 54 (0, 0)) := (blk_below HT.out (Drawn0.below hd) : wP.heap[T]? = _)
          have hVd : wP.drew.heap[V]? = some (.cells #[.int .i64 z0, .int .i64 z1] 119 (0, 0)) := (blk_below HVa.out (Drawn0.below hd) : wP.heap[V]? = _)
          have s0 : wP.drew.cell? ⟨V, 1, none⟩ = some (.int .i64 z1) := (blk_cell hVd 1).trans rfl
          have s1 : wP.drew.cell? ⟨T, 3, none⟩ = some (.string ⟨#[]⟩) := (blk_cell hTd 3).trans rfl
          have s2 : wP.drew.frozen? ⟨V, 1, none⟩ = false := blk_frozen hVd 1
          have HVd := Aside0.mk hVd
          have HTd := Aside0.mk hTd
          have Hbd := Aside0.mk hbd
          clear hd hTd hVd hbd HT HVa HbW HTT
          go_wp2_with fail
          refine start_ (n := 11) (S := fun w' => w'.cell? ⟨V, 1, none⟩ = some (.int .i64 z1) ∧ w'.cell? ⟨T, 3, none⟩ = some (.string ⟨#[]⟩)) (ds := [10]) #[false, false, false, false, false, false, false, false, false, false, false] (by kernel_rfl) rfl rfl ⟨s0, s1⟩ (fun hHeld => ?_)
          refine pure_ (i := 0) (N := some 25) (v := ?_) (a' := ?_) #[true, false, false, false, false, false, false, false, false, false, false] rfl rfl (by kernel_rfl) (fun _ _ _ h => h) (Or.inl ⟨by rfl, ?_⟩) ?_ ?_
          rotate_left
          · intro w'
            go_simp
            with_reducible rfl
          rotate_left
          · simp only [Act.put, List.setIfInBounds_toArray, List.set_cons_zero, List.set_cons_succ, i64_w, i32_w]
            rfl
          refine pure_ (i := 1) (N := some 26) (v := ?_) (a' := ?_) #[true, true, false, false, false, false, false, false, false, false, false] rfl rfl (by kernel_rfl) (fun _ _ _ h => h) (Or.inl ⟨by rfl, ?_⟩) ?_ ?_
          rotate_left
          · intro w'
            go_simp
            with_reducible rfl
          rotate_left
          · simp only [Act.put, List.setIfInBounds_toArray, List.set_cons_zero, List.set_cons_succ, i64_w, i32_w]
            rfl
          refine pure_ (i := 2) (N := some 27) (v := ?_) (a' := ?_) #[true, true, true, false, false, false, false, false, false, false, false] rfl rfl (by kernel_rfl) (fun _ _ _ h => h) (Or.inl ⟨by rfl, ?_⟩) ?_ ?_
          rotate_left
          · intro w'
            go_simp
            with_reducible rfl
          rotate_left
          · simp only [Act.put, List.setIfInBounds_toArray, List.set_cons_zero, List.set_cons_succ, i64_w, i32_w]
            rfl
          refine pure_ (i := 4) (N := some 29) (v := ?_) (a' := ?_) #[true, true, true, false, true, false, false, false, false, false, false] rfl rfl (by kernel_rfl) (fun _ _ _ h => h) (Or.inl ⟨by rfl, ?_⟩) ?_ ?_
          rotate_left
          · intro w'
            go_simp
            with_reducible rfl
          rotate_left
          · simp only [Act.put, List.setIfInBounds_toArray, List.set_cons_zero, List.set_cons_succ, i64_w, i32_w]
            rfl
          refine take_ (i := 3) (N := some 28) (v := ?_) (a' := ?_) #[true, true, true, true, true, false, false, false, false, false, false] rfl rfl (by kernel_rfl) (fun _ _ _ h => h) (Or.inl ⟨by rfl, ?_⟩) hHeld ?_ ?_
          rotate_left
          · rintro w' ⟨s0, s1⟩
            go_simp
            with_reducible rfl
          rotate_left
          · simp only [Act.put, List.setIfInBounds_toArray, List.set_cons_zero, List.set_cons_succ, i64_w, i32_w]
            rfl
          refine take_ (i := 5) (N := some 30) (v := ?_) (a' := ?_) #[true, true, true, true, true, true, false, false, false, false, false] rfl rfl (by kernel_rfl) (fun _ _ _ h => h) (Or.inl ⟨by rfl, ?_⟩) hHeld ?_ ?_
          rotate_left
          · rintro w' ⟨s0, s1⟩
            go_simp
            with_reducible rfl
          rotate_left
          · simp only [Act.put, List.setIfInBounds_toArray, List.set_cons_zero, List.set_cons_succ, i64_w, i32_w]
            rfl
          refine pure_ (i := 6) (N := some 31) (v := ?_) (a' := ?_) #[true, true, true, true, true, true, true, false, false, false, false] rfl rfl (by kernel_rfl) (fun _ _ _ h => h) (Or.inl ⟨by rfl, ?_⟩) ?_ ?_
          rotate_left
          · intro w'
            go_simp
            with_reducible rfl
          rotate_left
          · simp only [Act.put, List.setIfInBounds_toArray, List.set_cons_zero, List.set_cons_succ, i64_w, i32_w]
            rfl
          refine pure_ (i := 7) (N := some 32) (v := ?_) (a' := ?_) #[true, true, true, true, true, true, true, true, false, false, false] rfl rfl (by kernel_rfl) (fun _ _ _ h => h) (Or.inl ⟨by rfl, ?_⟩) ?_ ?_
          rotate_left
          · intro w'
            go_simp
            with_reducible rfl
          rotate_left
          · simp only [Act.put, List.setIfInBounds_toArray, List.set_cons_zero, List.set_cons_succ, i64_w, i32_w]
            rfl
          refine pure_ (i := 8) (N := some 33) (v := ?_) (a' := ?_) #[true, true, true, true, true, true, true, true, true, false, false] rfl rfl (by kernel_rfl) (fun _ _ _ h => h) (Or.inl ⟨by rfl, ?_⟩) ?_ ?_
          rotate_left
          · intro w'
            go_simp
            with_reducible rfl
          rotate_left
          · simp only [Act.put, List.setIfInBounds_toArray, List.set_cons_zero, List.set_cons_succ, i64_w, i32_w]
            rfl
          refine pure_ (i := 9) (N := some 34) (v := ?_) (a' := ?_) #[true, true, true, true, true, true, true, true, true, true, false] rfl rfl (by kernel_rfl) (fun _ _ _ h => h) (Or.inl ⟨by rfl, ?_⟩) ?_ ?_
          rotate_left
          · intro w'
            go_simp
            with_reducible rfl
          rotate_left
          · simp only [Act.put, List.setIfInBounds_toArray, List.set_cons_zero, List.set_cons_succ, i64_w, i32_w]
            rfl
          refine last_ (i := 10) (N := none) #[true, true, true, true, true, true, true, true, true, true, true] rfl rfl (by kernel_rfl) (by decide) (fun K hK => ?_)
          refine skip_ (w1 := ?_) (by rfl) rfl ?_ ?_
          rotate_left
          · go_simp
            rfl
          refine hK.out _ _ ?_
          clear hK K
          refine done_ (by kernel_rfl) ?_
          have hV2 : ((wP.setCell ⟨V, 1, none⟩ (.int .i64 (wrap64 (wrap64 z1 + 16)))).drew).heap[V]? = some (.cells #[.int .i64 z0, .int .i64 (wrap64 (wrap64 z1 + 16))] 119 (0, 0)) := blk_set HVd.out 1 _
          have hT2 : ((wP.setCell ⟨V, 1, none⟩ (.int .i64 (wrap64 (wrap64 z1 + 16)))).drew).heap[T]? = some (.cells #[.int .i64 q.on, .int .i64 q.kind, .int .u64 q.X, .string ⟨#[]⟩] 54 (0, 0)) := by
            show (wP.setCell ⟨V, 1, none⟩ (.int .i64 (wrap64 (wrap64 z1 + 16)))).heap[T]? = _
            rw [Below.heap_setCell _ _ _ _ hTV]
            exact HTd.out
          have hb2 : Below w.heap.size w ((wP.setCell ⟨V, 1, none⟩ (.int .i64 (wrap64 (wrap64 z1 + 16)))).drew) := Hbd.out.setCell (p := ⟨V, 1, none⟩) (show w.heap.size ≤ V from Nat.le_of_eq HVV.out) _
          clear s0 s1 s2 HVd HTd Hbd
          generalize (wP.setCell ⟨V, 1, none⟩ (.int .i64 (wrap64 (wrap64 z1 + 16)))).drew = w2 at *
          have k1 : w2.cell? ⟨T, 1, none⟩ = some (.int .i64 q.kind) := (blk_cell hT2 1).trans rfl
          have k3 : w2.cell? ⟨T, 3, none⟩ = some (.string ⟨#[]⟩) := (blk_cell hT2 3).trans rfl
          have kv : w2.cell? ⟨V, 1, none⟩ = some (.int .i64 (wrap64 (wrap64 z1 + 16))) := (blk_cell hV2 1).trans rfl
          have HV2 := Aside0.mk hV2
          have HB2 := Aside0.mk hb2
          have hw : Value.int .i64 (wrap64 ((i : Int) + 1)) = .int .i64 ((i + 1 : Nat) : Int) := by rw [wrap64_id (x := (i : Int) + 1) (by omega) (by omega)]; rfl
          have hms : S.length - ((i + 1 : Nat) : Int).toNat < S.length - (i : Int).toNat := by omega
          have HWr := Lib.hid hw
          have HMs := Lib.hid hms
          clear hV2 hT2 hb2 hw hms
          by_cases c1 : q.kind < 0
          · have d1 : decide (q.kind < 0) = true := by simp [c1]
            go_wp2_with fail
            refine ⟨⟨_, i + 1, _, _, rfl, ?_, by omega, HV2, HB2⟩, ?_⟩
            · first | rfl | exact HWr.out
            · first | exact HMs.out | (rw [HWr.out]; exact HMs.out)
          · have d1 : decide (q.kind < 0) = false := by simp; omega
            by_cases c2 : 2 < q.kind
            · have d2 : decide (2 < q.kind) = true := by simp [c2]
              go_wp2_with fail
              refine ⟨⟨_, i + 1, _, _, rfl, ?_, by omega, HV2, HB2⟩, ?_⟩
              · first | rfl | exact HWr.out
              · first | exact HMs.out | (rw [HWr.out]; exact HMs.out)
            · have d2 : decide (2 < q.kind) = false := by simp; omega
              go_wp2_with fail
              refine ⟨⟨_, i + 1, _, _, rfl, ?_, by omega, HV2, HB2⟩, ?_⟩
              · first | rfl | exact HWr.out
              · first | exact HMs.out | (rw [HWr.out]; exact HMs.out)
      · have bz : decide (z ≤ 33554432) = false := by simp; omega
        go_wp2
        go_ret
        exact ⟨_, rfl, HW.out⟩
    · have blt : decide ((i : Int) < (S.length : Int)) = false := by simp; omega
      go_wp2
      go_ret
      exact ⟨_, rfl, HW.out⟩
end Go.Proofs.YtnnhcnmggfhkeaaDoor.Wk

/- The walks of lay and laid; writers that leave all else as it was. -/
namespace Go.Proofs.YtnnhcnmggfhkeaaDoor.Wk
open Go.RowKit Go.Proofs.YtnnhcnmggfhkeaaDoorW.PrintWords Go.Proofs.YtnnhcnmggfhkeaaDoorW.PrintLast Go.Proofs.YtnnhcnmggfhkeaaDoorW.PrintMore Go.Proofs.YtnnhcnmggfhkeaaDoor.PWireKnown
set_option linter.unusedVariables false
set_option linter.unusedSimpArgs false

/-- A writer at block g, whose bytes are v. -/
def Wrv (w0 w : World) (g : Nat) (v : Value) (l : List Int) : Prop :=
  w.heap[g]? = some (.cells #[v] 64 (0, 0)) ∧ w0.heap.size ≤ g ∧ Kd.R (Kd.int .u8) 5 w w0.heap.size (fun k => v.ownBlock = some k) v l
def WrPost (w0 w : World) (g : Nat) (v : Value) (l' : List Int) (w' : World) : Prop :=
  ∃ v', Wrv w0 w' g v' l' ∧ Below w0.heap.size w0 w' ∧ Kept w w' (fun k => k = g ∨ v.ownBlock = some k) ∧ (∀ q, v'.ownBlock = some q → v.ownBlock = some q ∨ w.heap.size ≤ q)
theorem Wrv.store {w0 w w1 : World} {g : Nat} {v v' : Value} {l l' : List Int} (h : Wrv w0 w g v l) (hR1 : Kd.R (Kd.int .u8) 5 w1 w0.heap.size (fun k => v.ownBlock = some k ∨ w.heap.size ≤ k) v' l')
    (hB1 : Below w0.heap.size w0 w1) (hk : Kept w w1 (fun k => v.ownBlock = some k)) :
    w1.heap[g]? = some (.cells #[v] 64 (0, 0)) ∧ WrPost w0 w g v l' (w1.setCell ⟨g, 0, none⟩ v') := by
  obtain ⟨hb, hg, hR⟩ := h
  have hne : ¬ v.ownBlock = some g := fun h => Kd.R_ne hR hb (by decide) h.symm
  have hb1 := blk_kept hb hk hne
  refine ⟨hb1, v', ⟨by rw [blk_set hb1]; rfl, hg, R_own_ok (Kd.R_set hR1 hb1 (by decide) 0 v')⟩, hB1.setCell hg _, (hk.mono (fun k hk => .inr hk)).setCell (p := ⟨g, _, none⟩) (.inl (.inl rfl)) _, fun q hq => hR1.1 q hq⟩

set_option maxHeartbeats 1000000 in
theorem Writer_Uint2 (w0 w : World) (g : Nat) (v : Value) (l : List Int) (x : Nat) (hB : Below w0.heap.size w0 w) (h : Wrv w0 w g v l) (hx : x < 2 ^ 64) (hl : l.length + 9 < 140737488355328) :
    Calls Tryd.prog 7 #[.pointer (some ⟨g, 0, none⟩), .int .u64 x] w fun e w' => e = .returned (.tuple #[]) ∧ WrPost w0 w g v (l ++ enc x) w' := by
  have hc : w.cell? ⟨g, 0, none⟩ = some v := (blk_cell h.1 0).trans rfl
  have HH := Lib.hid h
  have HB := Aside0.mk hB
  obtain ⟨A0, n0, c0, rfl⟩ := R_slice_any h.2.2
  clear h hB
  go_enter Tryd.func7, Tryd.ntmps7
  go_wp2_with fail
  refine (wire_put.calls 10 (fun k => (Value.slice A0 n0 c0).ownBlock = some k) (.slice A0 n0 c0) l x _ w0 _ HB.out HH.out.2.2 (put_ok 10 l x (by omega) hx hl)).mono ?_
  rintro e w1 ⟨v', rfl, hR1, hB1, hk⟩
  obtain ⟨A', n', c', rfl⟩ := R_slice_any hR1
  obtain ⟨hb1, hw1⟩ := HH.out.store hR1 hB1 hk
  have hf1 := blk_frozen hb1 0
  have hc1 : w1.cell? ⟨g, 0, none⟩ = some (.slice A0 n0 c0) := (blk_cell hb1 0).trans rfl
  have HW := Lib.hid hw1
  clear hR1 hk hw1 hb1 hB1
  go_wp2
  go_end0
  exact ⟨rfl, HW.out⟩
set_option maxHeartbeats 1000000 in
theorem Writer_Int2 (w0 w : World) (g : Nat) (v : Value) (l : List Int) (x : Int) (hB : Below w0.heap.size w0 w) (h : Wrv w0 w g v l) (hx : -9223372036854775808 ≤ x ∧ x ≤ 9223372036854775807) (hl : l.length + 9 < 140737488355328) :
    Calls Tryd.prog 8 #[.pointer (some ⟨g, 0, none⟩), .int .i64 x] w fun e w' => e = .returned (.tuple #[]) ∧ WrPost w0 w g v (l ++ enc (zz x)) w' := by
  have hc : w.cell? ⟨g, 0, none⟩ = some v := (blk_cell h.1 0).trans rfl
  have HH := Lib.hid h
  have HB := Aside0.mk hB
  obtain ⟨A0, n0, c0, rfl⟩ := R_slice_any h.2.2
  clear h hB
  go_enter Tryd.func8, Tryd.ntmps8
  go_wp2_with fail
  rw [zz_write x hx]
  refine (wire_put.calls 10 (fun k => (Value.slice A0 n0 c0).ownBlock = some k) (.slice A0 n0 c0) l (zz x) _ w0 _ HB.out HH.out.2.2 (put_ok 10 l (zz x) (by omega) (zz_lt x hx) hl)).mono ?_
  rintro e w1 ⟨v', rfl, hR1, hB1, hk⟩
  obtain ⟨A', n', c', rfl⟩ := R_slice_any hR1
  obtain ⟨hb1, hw1⟩ := HH.out.store hR1 hB1 hk
  have hf1 := blk_frozen hb1 0
  have hc1 : w1.cell? ⟨g, 0, none⟩ = some (.slice A0 n0 c0) := (blk_cell hb1 0).trans rfl
  have HW := Lib.hid hw1
  clear hR1 hk hw1 hb1 hB1
  go_wp2
  go_end0
  exact ⟨rfl, HW.out⟩

/-- What a call without a text writes. -/
def pt (q : P4) : List Int := if q.kind = 0 then enc q.X else if q.kind = 1 then enc (zz (wrap64 q.X)) else []
theorem wrap64_rng (x : Int) : -9223372036854775808 ≤ wrap64 x ∧ wrap64 x ≤ 9223372036854775807 := by
  unfold wrap64
  omega
theorem pt_len (q : P4) (hX : q.X < 2 ^ 64) : (pt q).length ≤ 9 := by
  unfold pt
  split
  · exact (enc_length _ hX).2
  · split
    · exact (enc_length _ (zz_lt _ (wrap64_rng _))).2
    · exact Nat.zero_le _
theorem laid_ok (q : P4) (l : List Int) (hX : q.X < 2 ^ 64) (hk : q.kind = 0 ∨ q.kind = 1 ∨ q.kind = 9) (hl : l.length + 9 < 140737488355328) : custodylaw05_laid.f 10 l q.on q.kind q.X ⟨#[]⟩ = some (l ++ pt q) := by
  unfold custodylaw05_laid.f pt
  rcases hk with h | h | h
  · rw [if_pos h, if_pos h, putUint_ok 10 l q.X (by omega) hX hl]
    rfl
  · rw [if_neg (by omega), if_pos h, if_neg (by omega), if_pos h, putInt_ok 10 l _ (by omega) (wrap64_rng _) hl]
    rfl
  · rw [if_neg (by omega), if_neg (by omega), if_neg (by omega), if_neg (by omega), if_neg (by omega), List.append_nil]
theorem Wrv.below {w0 w w' : World} {g : Nat} {v : Value} {l : List Int} (h : Wrv w0 w g v l) (hb : Below w.heap.size w w') : Wrv w0 w' g v l := ⟨blk_below h.1 hb, h.2.1, Kd.R_below h.2.2 hb⟩
theorem WrPost.since {w0 w w1 w2 : World} {g : Nat} {v : Value} {l : List Int} (h : WrPost w0 w1 g v l w2) (hb : Below w.heap.size w w1) : WrPost w0 w g v l w2 := by
  obtain ⟨v', h1, h2, h3, h4⟩ := h
  exact ⟨v', h1, h2, Kept.then_ (Kept.of_below hb (fun k => k = g ∨ v.ownBlock = some k)) h3 (fun k hk => .inl hk), fun q hq => (h4 q hq).imp id (fun h => Nat.le_trans hb.size h)⟩
set_option maxHeartbeats 2000000 in
theorem lay_calls (w0 w : World) (g : Nat) (v : Value) (l : List Int) (q : P4) (hB : Below w0.heap.size w0 w) (h : Wrv w0 w g v l) (hX : q.X < 2 ^ 64) (hk : q.kind = 0 ∨ q.kind = 1 ∨ q.kind = 9) (hl : l.length + 9 < 140737488355328) :
    Calls Tryd.prog 40 #[.pointer (some ⟨g, 0, none⟩), .agg #[.int .i64 q.on, .int .i64 q.kind, .int .u64 q.X, .string ⟨#[]⟩]] w fun e w' => e = .returned (.tuple #[]) ∧ WrPost w0 w g v (l ++ pt q) w' := by
  obtain ⟨on, kind, X⟩ := q
  dsimp only at *
  have hb2 := below_alloc (Below.refl w.heap.size w) (.cells #[.int .i64 on, .int .i64 kind, .int .u64 X, .string ⟨#[]⟩] 54)
  have HW := Lib.hid (h.below hb2)
  have HB := Aside0.mk (below_step hB hb2)
  have Hb2 := Aside0.mk hb2
  unfold pt
  dsimp only
  rcases hk with h1 | h1 | h1
  · subst h1
    rw [if_pos rfl]
    clear hb2 h hB
    go_enter Tryd.func40, Tryd.ntmps40
    go_wp2_with fail
    refine (Writer_Uint2 w0 _ g v l X HB.out HW.out hX hl).mono ?_
    rintro e w1 ⟨rfl, hp⟩
    have HP := Lib.hid (hp.since Hb2.out)
    clear hp
    go_wp2
    go_end0
    exact ⟨rfl, HP.out⟩
  · subst h1
    rw [if_neg (by decide), if_pos rfl]
    clear hb2 h hB
    go_enter Tryd.func40, Tryd.ntmps40
    go_wp2_with fail
    refine (Writer_Int2 w0 _ g v l (wrap64 X) HB.out HW.out (wrap64_rng _) hl).mono ?_
    rintro e w1 ⟨rfl, hp⟩
    have HP := Lib.hid (hp.since Hb2.out)
    clear hp
    go_wp2
    go_end0
    exact ⟨rfl, HP.out⟩
  · subst h1
    rw [if_neg (by decide), if_neg (by decide), List.append_nil]
    clear hb2 h hB
    go_enter Tryd.func40, Tryd.ntmps40
    go_wp2
    go_end0
    exact ⟨rfl, v, HW.out, HB.out, Kept.of_below Hb2.out _, fun q hq => .inl hq⟩
end Go.Proofs.YtnnhcnmggfhkeaaDoor.Wk

/- The walk of WireWrites, for rows of calls of the first writer without texts, the last of them Done. -/
namespace Go.Proofs.YtnnhcnmggfhkeaaDoor.Wk
open Go.RowKit Go.Proofs.YtnnhcnmggfhkeaaDoorW.PrintWords Go.Proofs.YtnnhcnmggfhkeaaDoorW.PrintLast Go.Proofs.YtnnhcnmggfhkeaaDoorW.PrintMore Go.Proofs.YtnnhcnmggfhkeaaDoor.PWireKnown
set_option linter.unusedVariables false
set_option linter.unusedSimpArgs false

/-- Between the calls: the writers at g1, g2, the list of both at R, what is wanted at V. -/
structure WInv (w : World) (g1 g2 R V : Nat) (v1 vw : Value) (l : List Int) (w' : World) : Prop where
  below : Below w.heap.size w w'
  ws : w'.heap[R]? = some (.cells #[.pointer (some ⟨g1, 0, none⟩), .pointer (some ⟨g2, 0, none⟩)] 84 (0, 0))
  one : Wrv w w' g1 v1 l
  two : w'.heap[g2]? = some (.cells #[.slice none 0 0] 64 (0, 0))
  want : w'.heap[V]? = some (.cells #[vw, .slice none 0 0] 85 (0, 0))
  row : Kd.R (Kd.int .u8) 5 w' w.heap.size (fun k => vw.ownBlock = some k) vw l
  dis : ∀ q, v1.ownBlock = some q → vw.ownBlock ≠ some q
  h12 : g1 < g2
  h2R : g2 < R
  hRV : R < V
  hg1 : w.heap.size ≤ g1
theorem WInv.still {w : World} {g1 g2 R V : Nat} {v1 vw : Value} {l : List Int} {w1 w2 : World} (h : WInv w g1 g2 R V v1 vw l w1) (hb : Below w1.heap.size w1 w2) : WInv w g1 g2 R V v1 vw l w2 :=
  ⟨below_step h.below hb, blk_below h.ws hb, h.one.below hb, blk_below h.two hb, blk_below h.want hb, Kd.R_below h.row hb, h.dis, h.h12, h.h2R, h.hRV, h.hg1⟩
/-- Behind the program's call, ahead of the document's: the writer has l', what is wanted is still l. -/
structure WMid (w : World) (g1 g2 R V : Nat) (v1 vw : Value) (l' l : List Int) (w' : World) : Prop where
  below : Below w.heap.size w w'
  ws : w'.heap[R]? = some (.cells #[.pointer (some ⟨g1, 0, none⟩), .pointer (some ⟨g2, 0, none⟩)] 84 (0, 0))
  one : Wrv w w' g1 v1 l'
  two : w'.heap[g2]? = some (.cells #[.slice none 0 0] 64 (0, 0))
  want : w'.heap[V]? = some (.cells #[vw, .slice none 0 0] 85 (0, 0))
  row : Kd.R (Kd.int .u8) 5 w' w.heap.size (fun k => vw.ownBlock = some k) vw l
  dis : ∀ q, v1.ownBlock = some q → vw.ownBlock ≠ some q
  h12 : g1 < g2
  h2R : g2 < R
  hRV : R < V
  hg1 : w.heap.size ≤ g1
theorem WMid.still {w : World} {g1 g2 R V : Nat} {v1 vw : Value} {l' l : List Int} {w1 w2 : World} (h : WMid w g1 g2 R V v1 vw l' l w1) (hb : Below w1.heap.size w1 w2) : WMid w g1 g2 R V v1 vw l' l w2 :=
  ⟨below_step h.below hb, blk_below h.ws hb, h.one.below hb, blk_below h.two hb, blk_below h.want hb, Kd.R_below h.row hb, h.dis, h.h12, h.h2R, h.hRV, h.hg1⟩
theorem row_lt {w : World} {b e : Nat} {ok : Nat → Prop} {v : Value} {xs : List Int} (h : Kd.R (Kd.int .u8) e w b ok v xs) {q : Nat} (hq : v.ownBlock = some q) : b ≤ q ∧ q < w.heap.size := by
  obtain ⟨inner, ho⟩ := Kd.R_own h
  exact ⟨own_base ho q hq, own_lt ho q hq⟩
theorem WInv.laid {w : World} {g1 g2 R V : Nat} {v1 vw : Value} {l l' : List Int} {w1 w2 : World} (h : WInv w g1 g2 R V v1 vw l w1) (hp : WrPost w w1 g1 v1 l' w2) : ∃ v1', WMid w g1 g2 R V v1' vw l' l w2 := by
  obtain ⟨v', h1, h2, h3, h4⟩ := hp
  have a := h.h12
  have b := h.h2R
  have c := h.hRV
  have nR : ¬ (R = g1 ∨ v1.ownBlock = some R) := by
    rintro (e | e)
    · omega
    · exact Kd.R_ne h.one.2.2 h.ws (by decide) e.symm
  have n2 : ¬ (g2 = g1 ∨ v1.ownBlock = some g2) := by
    rintro (e | e)
    · omega
    · exact Kd.R_ne h.one.2.2 h.two (by decide) e.symm
  have nV : ¬ (V = g1 ∨ v1.ownBlock = some V) := by
    rintro (e | e)
    · omega
    · exact Kd.R_ne h.one.2.2 h.want (by decide) e.symm
  refine ⟨v', h2, blk_kept h.ws h3 nR, h1, blk_kept h.two h3 n2, blk_kept h.want h3 nV, Kd.R_kept h.row h3 (fun q hq => ?_), fun q hq e => ?_, h.h12, h.h2R, h.hRV, h.hg1⟩
  · rintro (e | e)
    · subst e
      exact Kd.R_ne h.row h.one.1 (by decide) hq.symm
    · exact h.dis q e hq
  · rcases h4 q hq with h5 | h5
    · exact h.dis q h5 e
    · have := (row_lt h.row e).2
      omega
/-- The document's bytes are stored. -/
theorem WMid.stored {w : World} {g1 g2 R V : Nat} {v1 vw v2 : Value} {l l' : List Int} {w1 w2 : World} (h : WMid w g1 g2 R V v1 vw l' l w1)
    (hR : Kd.R (Kd.int .u8) 5 w2 w.heap.size (fun k => vw.ownBlock = some k ∨ w1.heap.size ≤ k) v2 l') (hB : Below w.heap.size w w2) (hk : Kept w1 w2 (fun k => vw.ownBlock = some k)) :
    w2.heap[V]? = some (.cells #[vw, .slice none 0 0] 85 (0, 0)) ∧ WInv w g1 g2 R V v1 v2 l' (w2.setCell ⟨V, 0, none⟩ v2) := by
  have a := h.h12
  have b := h.h2R
  have c := h.hRV
  have hg := h.hg1
  have nR : ¬ vw.ownBlock = some R := fun e => Kd.R_ne h.row h.ws (by decide) e.symm
  have n2 : ¬ vw.ownBlock = some g2 := fun e => Kd.R_ne h.row h.two (by decide) e.symm
  have nV : ¬ vw.ownBlock = some V := fun e => Kd.R_ne h.row h.want (by decide) e.symm
  have n1 : ¬ vw.ownBlock = some g1 := fun e => Kd.R_ne h.row h.one.1 (by decide) e.symm
  have kR := blk_kept h.ws hk nR
  have k2 := blk_kept h.two hk n2
  have kV := blk_kept h.want hk nV
  have k1 := blk_kept h.one.1 hk n1
  have r1 := Kd.R_kept h.one.2.2 hk (fun q hq e => h.dis q hq e)
  refine ⟨kV, hB.setCell (by show w.heap.size ≤ V; omega) _, ?_, ⟨?_, h.one.2.1, ?_⟩, ?_, ?_, ?_, fun q hq e => ?_, h.h12, h.h2R, h.hRV, h.hg1⟩
  · rw [Below.heap_setCell _ _ _ _ (by show R ≠ V; omega)]
    exact kR
  · rw [Below.heap_setCell _ _ _ _ (by show g1 ≠ V; omega)]
    exact k1
  · exact Kd.R_set r1 kV (by decide) 0 v2
  · rw [Below.heap_setCell _ _ _ _ (by show g2 ≠ V; omega)]
    exact k2
  · rw [blk_set kV 0 v2]
    rfl
  · exact R_own_ok (Kd.R_set hR kV (by decide) 0 v2)
  · rcases hR.1 q e with h5 | h5
    · exact h.dis q hq h5
    · have := (row_lt h.one.2.2 hq).2
      omega
end Go.Proofs.YtnnhcnmggfhkeaaDoor.Wk

/- The walk of WireWrites, for rows of calls of the first writer without texts, the last of them Done. -/
namespace Go.Proofs.YtnnhcnmggfhkeaaDoor.Wk
open Go.RowKit Go.Proofs.YtnnhcnmggfhkeaaDoorW.PrintWords Go.Proofs.YtnnhcnmggfhkeaaDoorW.PrintLast Go.Proofs.YtnnhcnmggfhkeaaDoorW.PrintMore Go.Proofs.YtnnhcnmggfhkeaaDoor.PWireKnown
set_option linter.unusedVariables false
set_option linter.unusedSimpArgs false

theorem WrPost.kept2 {w0 w w' : World} {g : Nat} {v : Value} {l : List Int} (h : WrPost w0 w g v l w') : Kept w w' (fun k => k = g ∨ v.ownBlock = some k) := by
  obtain ⟨v', h1, h2, h3, h4⟩ := h
  exact h3
set_option maxHeartbeats 1000000 in
theorem NewWriter_new (w : World) : Calls Tryd.prog 6 #[] w fun e w' => e = .returned (.pointer (some ⟨w.heap.size, 0, none⟩)) ∧ w' = w.alloc (.cells #[.slice none 0 0] 64) := by
  go_enter Tryd.func6, Tryd.ntmps6
  go_wp2
  go_ret
  exact ⟨rfl, rfl⟩
theorem Wr.of {w0 w : World} {g : Nat} {v : Value} {l : List Int} (h : Wrv w0 w g v l) : Wr w0 w g l := ⟨v, h⟩
theorem Wrv.mk0 {w0 w : World} {g : Nat} (h : w.heap[g]? = some (.cells #[.slice none 0 0] 64 (0, 0))) (hg : w0.heap.size ≤ g) : Wrv w0 w g (.slice none 0 0) [] := ⟨h, hg, Kd.R_nil _ _ _ _ _⟩
theorem R_raise {w : World} {b b' e : Nat} {ok : Nat → Prop} {v : Value} {xs : List Int} (h : Kd.R (Kd.int .u8) e w b ok v xs) (hok : ∀ k, ok k → b' ≤ k) : Kd.R (Kd.int .u8) e w b' ok v xs := by
  have ho := Kd.own_of_R (enc := Value.int .u8) (h1 := fun _ => rfl) h
  refine Kd.R_of_own (enc := Value.int .u8) (h1 := fun _ => rfl) ⟨ho.1, ?_⟩ h.1
  rcases ho.2 with h1 | ⟨g, c, cur, he, hb, hrest⟩
  · exact .inl h1
  · exact .inr ⟨g, c, cur, he, hok g (h.1 g (by rw [he]; rfl)), hrest⟩
structure ToldEnd (w : World) (g1 g2 R V : Nat) (v5 : Value) (wr : World) : Prop where
  ex : ∃ (wd : World) (v1 vw : Value) (l : List Int) (T c m : Nat) (arr : Array Value) (a b : Value), v5 = .slice (some ⟨T, 0, none⟩) 2 c ∧ wr.heap[T]? = some (.cells arr 29 (0, 0)) ∧ arr[0]? = some a ∧ arr[1]? = some b ∧
    Kd.R (Kd.int .u8) 5 wr wd.heap.size (fun k => k < m) a l ∧ Kd.R (Kd.int .u8) 5 wr wd.heap.size (fun k => m ≤ k) b l ∧ Below wd.heap.size wd wr ∧ WInv w g1 g2 R V v1 vw l wd ∧ l.length ≤ 10000
def Told (w : World) (g1 g2 R V : Nat) (N i : Nat) (v5 : Value) (wr : World) : Prop := (i < N → v5 = .slice none 0 0) ∧ (i = N → ToldEnd w g1 g2 R V v5 wr)

/-- What is told lies behind the last call. -/
theorem fin9 {w : World} {g1 g2 R V : Nat} {v1 vw a b : Value} {l : List Int} {N i m : Nat} {wZ wb wd : World} (hd : Below wb.heap.size wb wd) (hi : WInv w g1 g2 R V v1 vw l wb) (ha : Kd.R (Kd.int .u8) 5 wb wZ.heap.size (fun k => k < m) a l) (hb : Kd.R (Kd.int .u8) 5 wb wZ.heap.size (fun k => m ≤ k) b l)
    (hz : Below wZ.heap.size wZ wb) (hl : l.length ≤ 9 * (i + 1)) (he : i + 1 = N) (hl2 : l.length ≤ 10000) (ar0 arr : Array Value) (cap : Nat) (h0 : arr[0]? = some a) (h1 : arr[1]? = some b) (hiZ : WInv w g1 g2 R V v1 vw l wZ) :
    ∃ (i' : Nat) (v1 vw : Value) (l : List Int), Value.int .i64 ((i : Int) + 1) = .int .i64 (i' : Nat) ∧ i' ≤ N ∧ l.length ≤ 9 * i' ∧
      Hid (WInv w g1 g2 R V v1 vw l ((wd.alloc (.cells ar0 29)).alloc (.cells arr 29)).drew) ∧
      Hid (Told w g1 g2 R V N i' (.slice (some ⟨wd.heap.size + 1, 0, none⟩) 2 cap) ((wd.alloc (.cells ar0 29)).alloc (.cells arr 29)).drew) := by
  have hbe : Below wb.heap.size wb ((wd.alloc (.cells ar0 29)).alloc (.cells arr 29)).drew := below_step hd (below_drew (below_alloc (below_alloc (Below.refl _ _) _) _))
  have hT : (((wd.alloc (.cells ar0 29)).alloc (.cells arr 29)).drew).heap[wd.heap.size + 1]? = some (.cells arr 29 (0, 0)) := by
    show ((wd.alloc (.cells ar0 29)).alloc (.cells arr 29)).heap[wd.heap.size + 1]? = _
    simpa using heap_alloc_new (wd.alloc (.cells ar0 29)) (.cells arr 29)
  exact ⟨i + 1, v1, vw, l, by rw [show ((i + 1 : Nat) : Int) = (i : Int) + 1 by omega], by omega, hl, Lib.hid (hi.still hbe),
    Lib.hid ⟨fun h => by omega, fun _ => ⟨wZ, v1, vw, l, _, cap, m, arr, a, b, rfl, hT, h0, h1, Kd.R_below ha hbe, Kd.R_below hb hbe, below_step hz hbe, hiZ, hl2⟩⟩⟩
set_option maxHeartbeats 8000000 in
set_option maxRecDepth 100000 in
theorem WireWrites_calls (w : World) (A : Option Addr) (c : Nat) (S : List P4) (hS : Puts w A S) (h0 : 0 < S.length) (hls : S.length ≤ 1000)
    (hk : ∀ i q, S[i]? = some q → q.on = 0 ∧ (i + 1 < S.length → q.kind = 0 ∨ q.kind = 1) ∧ (i + 1 = S.length → q.kind = 9)) :
    Calls Tryd.prog 23 #[.slice A S.length c] w fun e w' => e = .returned (.bool true) ∧ Below w.heap.size w w' := by
  have HS := Lib.hid hS
  have HK := Lib.hid hk
  clear hS hk
  go_enter Tryd.func23, Tryd.ntmps23
  go_wp2_with fail
  refine (NewWriter_new w).mono ?_
  rintro e w1 ⟨rfl, hw1⟩
  have hb1 : Below w.heap.size w w1 := by rw [hw1]; exact below_alloc (Below.refl _ _) _
  have hn1 : w1.heap[w.heap.size]? = some (.cells #[.slice none 0 0] 64 (0, 0)) := by rw [hw1]; exact heap_alloc_new w _
  have HB1 := Aside0.mk hb1
  have Hn1 := Aside0.mk hn1
  obtain ⟨g1, hg1⟩ : ∃ g, w.heap.size = g := ⟨_, rfl⟩
  rw [hg1] at Hn1 ⊢
  have HG1 := Lib.hid hg1
  clear hw1 hb1 hn1 hg1
  go_wp2_with fail
  refine (NewWriter_new w1).mono ?_
  rintro e w2 ⟨rfl, hw2⟩
  have hb2 : Below w1.heap.size w1 w2 := by rw [hw2]; exact below_alloc (Below.refl _ _) _
  have hn2 : w2.heap[w1.heap.size]? = some (.cells #[.slice none 0 0] 64 (0, 0)) := by rw [hw2]; exact heap_alloc_new w1 _
  have hn1 := blk_below Hn1.out hb2
  have hlt1 : g1 < w1.heap.size := blk_lt Hn1.out
  have HB2 := Aside0.mk (below_step HB1.out hb2)
  have Hn2 := Aside0.mk hn2
  have Hn1b := Aside0.mk hn1
  obtain ⟨g2, hg2⟩ : ∃ g, w1.heap.size = g := ⟨_, rfl⟩
  rw [hg2] at Hn2 hlt1 ⊢
  have H12 := Aside0.mk hlt1
  clear hw2 hb2 hn2 hn1 hg2 hlt1 Hn1 HB1
  have hbR := heap_alloc_new w2 (.cells #[.pointer (some ⟨g1, 0, none⟩), .pointer (some ⟨g2, 0, none⟩)] 84)
  have hb3 := below_alloc (Below.refl w2.heap.size w2) (.cells #[.pointer (some ⟨g1, 0, none⟩), .pointer (some ⟨g2, 0, none⟩)] 84)
  have HR := Aside0.mk hbR
  have HB3 := Aside0.mk hb3
  clear hbR hb3
  go_wp2_with fail
  generalize w2.alloc (.cells #[.pointer (some ⟨g1, 0, none⟩), .pointer (some ⟨g2, 0, none⟩)] 84) = w3 at *
  obtain ⟨R, hR⟩ : ∃ R, w2.heap.size = R := ⟨_, rfl⟩
  have h2R : g2 < R := by have := blk_lt Hn2.out; omega
  rw [hR] at HR ⊢
  have H2R := Aside0.mk h2R
  clear hR h2R
  refine (works_calls w3).mono ?_
  rintro e w4 ⟨rfl, hb4⟩
  have HB4 := Aside0.mk (below_step HB3.out hb4)
  have HR4 := Aside0.mk (blk_below HR.out hb4)
  clear hb4 HB3 HR
  go_wp2_with fail
  refine (vast_calls w w4 A c S (below_step HB2.out HB4.out) HS.out (by omega)).mono ?_
  rintro e w5 ⟨b, rfl, hb5⟩
  have HB5 := Aside0.mk (below_step (below_step HB2.out HB4.out) hb5)
  have HR5 := Aside0.mk (blk_below HR4.out hb5)
  have Hn15 := Aside0.mk (blk_below Hn1b.out (below_step HB4.out hb5))
  have Hn25 := Aside0.mk (blk_below Hn2.out (below_step HB4.out hb5))
  clear hb5 HR4 HB4 HB2 Hn1b Hn2
  cases b with
  | true =>
    go_wp2
    go_ret
    exact ⟨rfl, HB5.out⟩
  | false =>
    have hbV := heap_alloc_new w5 (.cells #[.slice none 0 0, .slice none 0 0] 85)
    have hb6 := below_alloc (Below.refl w5.heap.size w5) (.cells #[.slice none 0 0, .slice none 0 0] 85)
    have hinv : WInv w g1 g2 R w5.heap.size (.slice none 0 0) (.slice none 0 0) [] (w5.alloc (.cells #[.slice none 0 0, .slice none 0 0] 85)) :=
      ⟨below_step HB5.out hb6, blk_below HR5.out hb6, ⟨blk_below Hn15.out hb6, Nat.le_of_eq HG1.out, Kd.R_nil _ _ _ _ _⟩, blk_below Hn25.out hb6, hbV, Kd.R_nil _ _ _ _ _, fun q hq => by simp [Value.ownBlock] at hq, H12.out, H2R.out, blk_lt HR5.out, Nat.le_of_eq HG1.out⟩
    have HInv := Lib.hid hinv
    clear hinv hb6 hbV HR5 HB5 Hn15 Hn25
    go_wp2_with fail
    generalize w5.alloc (.cells #[.slice none 0 0, .slice none 0 0] 85) = w6 at *
    obtain ⟨V, hV⟩ : ∃ V, w5.heap.size = V := ⟨_, rfl⟩
    rw [hV] at HInv ⊢
    clear hV
    go_loopw [5, 6] (fun v5 v6 wr => ∃ (i : Nat) (v1 vw : Value) (l : List Int), v6 = .int .i64 i ∧ i ≤ S.length ∧ l.length ≤ 9 * i ∧ Hid (WInv w g1 g2 R V v1 vw l wr) ∧ Hid (Told w g1 g2 R V S.length i v5 wr)) (fun _ v6 _ => S.length - (intOf v6).toNat)
    case atStart => exact ⟨0, _, _, [], rfl, Nat.zero_le _, Nat.zero_le _, HInv, Lib.hid ⟨fun _ => rfl, fun h => by omega⟩⟩
    case round =>
      clear HInv
      obtain ⟨i, v1, vw, l, rfl, hi, hll, HInv, HTo⟩ := hrel
      by_cases hlt : i < S.length
      · have blt : decide ((i : Int) < (S.length : Int)) = true := by simp; omega
        obtain ⟨q, hq⟩ : ∃ q, S[i]? = some q := ⟨S[i], List.getElem?_eq_getElem hlt⟩
        obtain ⟨hq0, hq1, hq2⟩ := HK.out i q hq
        obtain ⟨ad, hSA, hQ, hX⟩ := HS.out i q hq
        obtain ⟨on, kind, X⟩ := q
        dsimp only at *
        subst hq0
        subst hSA
        have htn := HTo.out.1 hlt
        subst htn
        have h019 : kind = 0 ∨ kind = 1 ∨ kind = 9 := by
          rcases Nat.lt_or_ge (i + 1) S.length with h | h
          · exact (hq1 h).imp id .inl
          · exact .inr (.inr (hq2 (by omega)))
        have hlast : kind = 9 → i + 1 = S.length := by
          intro h
          rcases Nat.lt_or_ge (i + 1) S.length with h1 | h1
          · rcases hq1 h1 with h2 | h2 <;> omega
          · omega
        have hlast2 : kind ≠ 9 → i + 1 < S.length := by
          intro h
          rcases Nat.lt_or_ge (i + 1) S.length with h1 | h1
          · exact h1
          · exact absurd (hq2 (by omega)) h
        obtain ⟨m1, m2, m3, m4⟩ := hQ wr HInv.out.below
        have hT := heap_alloc_new wr (.cells #[.int .i64 0, .int .i64 kind, .int .u64 X, .string ⟨#[]⟩] 54)
        have hbA := below_alloc (Below.refl wr.heap.size wr) (.cells #[.int .i64 0, .int .i64 kind, .int .u64 X, .string ⟨#[]⟩] 54)
        have HLast := Lib.hid hlast
        have HLast2 := Lib.hid hlast2
        have H019 := Lib.hid h019
        clear hQ hq hq1 hq2 hlast hlast2 h019
        go_wp2_with fail
        have hinv1 := HInv.out.still hbA
        generalize wr.alloc (.cells #[.int .i64 0, .int .i64 kind, .int .u64 X, .string ⟨#[]⟩] 54) = w7 at *
        obtain ⟨T, hTT⟩ : ∃ T, wr.heap.size = T := ⟨_, rfl⟩
        have hTV : V < T := by have := blk_lt HInv.out.want; omega
        rw [hTT] at hT ⊢
        have HTV := Aside0.mk hTV
        have hpick : custodykit_Pick.f 0 2 = some 0 := by decide
        clear m1 m2 m3 m4 hbA hTT hTV HInv HTo
        refine (custodykit_Pick.calls 0 2 0 _ hpick).mono ?_
        rintro e w8 ⟨rfl, hd⟩
        have hinv8 := (hinv1.still (Drawn0.below hd)).still (below_drew (Below.refl w8.heap.size w8))
        have hT8 : w8.drew.heap[T]? = some (.cells #[.int .i64 0, .int .i64 kind, .int .u64 X, .string ⟨#[]⟩] 54 (0, 0)) := (blk_below hT (Drawn0.below hd) : w8.heap[T]? = _)
        have hlay := lay_calls w w8.drew g1 v1 l ⟨0, kind, X⟩ hinv8.below hinv8.one hX H019.out (by omega)
        have r0 := (blk_cell hinv8.ws 0).trans rfl
        have s0 := (blk_cell hT8 0).trans rfl
        have s1 := (blk_cell hT8 1).trans rfl
        have s2 := (blk_cell hT8 2).trans rfl
        have s3 := (blk_cell hT8 3).trans rfl
        have htn : ¬ (T = g1 ∨ v1.ownBlock = some T) := by
          rintro (e | e)
          · have := hinv8.h12; have := hinv8.h2R; have := hinv8.hRV; have := HTV.out; omega
          · exact Kd.R_ne hinv8.one.2.2 hT8 (by decide) e.symm
        have HTn := Lib.hid htn
        have HInv := Lib.hid hinv8
        have HT := Aside0.mk hT8
        have HLay := Lib.hid hlay
        clear hinv1 hinv8 hT hT8 hlay hd hpick htn
        go_wp2_with fail
        refine start_ (n := 5) (S := fun w' => w'.cell? ⟨R, 0, none⟩ = some (.pointer (some ⟨g1, 0, none⟩)) ∧ w'.cell? ⟨T, 0, none⟩ = some (.int .i64 0) ∧ w'.cell? ⟨T, 1, none⟩ = some (.int .i64 kind) ∧ w'.cell? ⟨T, 2, none⟩ = some (.int .u64 X) ∧ w'.cell? ⟨T, 3, none⟩ = some (.string ⟨#[]⟩)) (ds := []) #[false, false, false, false, false] (by kernel_rfl) rfl rfl ⟨r0, s0, s1, s2, s3⟩ (fun hHeld => ?_)
        refine pure_ (i := 0) (N := some 41) (v := ?_) (a' := ?_) #[true, false, false, false, false] rfl rfl (by kernel_rfl) (fun _ _ _ h => h) (Or.inl ⟨by rfl, ?_⟩) ?_ ?_
        rotate_left
        · intro w'
          go_simp
          with_reducible rfl
        rotate_left
        · simp only [Act.put, List.setIfInBounds_toArray, List.set_cons_zero, List.set_cons_succ, i64_w, i32_w]
          rfl
        refine pure_ (i := 1) (N := some 42) (v := ?_) (a' := ?_) #[true, true, false, false, false] rfl rfl (by kernel_rfl) (fun _ _ _ h => h) (Or.inl ⟨by rfl, ?_⟩) ?_ ?_
        rotate_left
        · intro w'
          go_simp
          with_reducible rfl
        rotate_left
        · simp only [Act.put, List.setIfInBounds_toArray, List.set_cons_zero, List.set_cons_succ, i64_w, i32_w]
          rfl
        refine take_ (i := 2) (N := some 43) (v := ?_) (a' := ?_) #[true, true, true, false, false] rfl rfl (by kernel_rfl) (fun _ _ _ h => h) (Or.inl ⟨by rfl, ?_⟩) hHeld ?_ ?_
        rotate_left
        · rintro w' ⟨s0, s1, s2, s3, s4⟩
          go_simp
          with_reducible rfl
        rotate_left
        · simp only [Act.put, List.setIfInBounds_toArray, List.set_cons_zero, List.set_cons_succ, i64_w, i32_w]
          rfl
        refine take_ (i := 3) (N := some 44) (v := ?_) (a' := ?_) #[true, true, true, true, false] rfl rfl (by kernel_rfl) (fun _ _ _ h => h) (Or.inl ⟨by rfl, ?_⟩) hHeld ?_ ?_
        rotate_left
        · rintro w' ⟨s0, s1, s2, s3, s4⟩
          go_simp
          with_reducible rfl
        rotate_left
        · simp only [Act.put, List.setIfInBounds_toArray, List.set_cons_zero, List.set_cons_succ, i64_w, i32_w]
          rfl
        refine one_ (i := 4) (N := some 45) #[true, true, true, true, true] rfl rfl (by kernel_rfl) (by decide) (fun K hK => ?_)
        refine goes_ Tryd.func40 (by kernel_rfl) rfl #[.pointer (some ⟨g1, 0, none⟩), .agg #[.int .i64 0, .int .i64 kind, .int .u64 X, .string ⟨#[]⟩]] (by rfl) rfl rfl (by simp only [List.map_toArray, List.map_cons, List.map_nil]; rfl) ?_
        with_reducible refine (HLay.out).mono ?_
        rintro e w3 ⟨rfl, hp⟩
        refine ⟨_, rfl, ?_⟩
        have HPost := Lib.hid hp
        have hT3 := blk_kept HT.out hp.kept2 HTn.out
        have t0 := (blk_cell hT3 0).trans rfl
        have t1 := (blk_cell hT3 1).trans rfl
        have t2 := (blk_cell hT3 2).trans rfl
        have t3 := (blk_cell hT3 3).trans rfl
        obtain ⟨v1', hmid⟩ := HInv.out.laid hp
        have HMid := Lib.hid hmid
        have tr := (blk_cell hmid.ws 0).trans rfl
        have HT3 := Aside0.mk hT3
        clear hp hmid hT3
        refine hK.out _ _ ⟨tr, t0, t1, t2, t3⟩ (fun hHeld => ?_)
        clear hK K
        refine norm_ (a' := ?_) ?_ ?_
        rotate_left
        · show Act.put _ (some 45) _ = _
          simp only [Act.put, List.setIfInBounds_toArray, List.set_cons_zero, List.set_cons_succ, i64_w, i32_w]
          rfl
        refine done_ (by kernel_rfl) ?_
        clear HInv HT HTn HLay HPost hHeld r0 s0 s1 s2 s3
        have hmid2 := HMid.out.still (below_drew (Below.refl w3.heap.size w3))
        have hT4 : w3.drew.heap[T]? = some (.cells #[.int .i64 0, .int .i64 kind, .int .u64 X, .string ⟨#[]⟩] 54 (0, 0)) := HT3.out
        have q0 := (blk_cell hmid2.want 0).trans rfl
        have p0 := (blk_cell hT4 0).trans rfl
        have p1 := (blk_cell hT4 1).trans rfl
        have p2 := (blk_cell hT4 2).trans rfl
        have p3 := (blk_cell hT4 3).trans rfl
        have htn2 : ¬ vw.ownBlock = some T := fun e => Kd.R_ne hmid2.row hT4 (by decide) e.symm
        have hlaid := custodylaw05_laid.calls 10 (fun k => vw.ownBlock = some k) vw l 0 kind X ⟨#[]⟩ (l ++ pt ⟨0, kind, X⟩) w w3.drew hmid2.below hmid2.row (laid_ok ⟨0, kind, X⟩ l hX H019.out (by omega))
        have hpl := pt_len ⟨0, kind, X⟩ hX
        have HPl := Aside0.mk hpl
        have HTn2 := Lib.hid htn2
        have HMid2 := Lib.hid hmid2
        have HT4 := Aside0.mk hT4
        have HLaid := Lib.hid hlaid
        clear hmid2 hT4 htn2 hlaid HMid HT3 hpl
        go_wp2_with fail
        refine start_ (n := 8) (S := fun w' => w'.cell? ⟨V, 0, none⟩ = some vw ∧ w'.cell? ⟨T, 0, none⟩ = some (.int .i64 0) ∧ w'.cell? ⟨T, 1, none⟩ = some (.int .i64 kind) ∧ w'.cell? ⟨T, 2, none⟩ = some (.int .u64 X) ∧ w'.cell? ⟨T, 3, none⟩ = some (.string ⟨#[]⟩)) (ds := [7]) #[false, false, false, false, false, false, false, false] (by kernel_rfl) rfl rfl ⟨q0, p0, p1, p2, p3⟩ (fun hHeld => ?_)
        refine pure_ (i := 0) (N := some 46) (v := ?_) (a' := ?_) #[true, false, false, false, false, false, false, false] rfl rfl (by kernel_rfl) (fun _ _ _ h => h) (Or.inl ⟨by rfl, ?_⟩) ?_ ?_
        rotate_left
        · intro w'
          go_simp
          with_reducible rfl
        rotate_left
        · simp only [Act.put, List.setIfInBounds_toArray, List.set_cons_zero, List.set_cons_succ, i64_w, i32_w]
          rfl
        refine pure_ (i := 1) (N := some 47) (v := ?_) (a' := ?_) #[true, true, false, false, false, false, false, false] rfl rfl (by kernel_rfl) (fun _ _ _ h => h) (Or.inl ⟨by rfl, ?_⟩) ?_ ?_
        rotate_left
        · intro w'
          go_simp
          with_reducible rfl
        rotate_left
        · simp only [Act.put, List.setIfInBounds_toArray, List.set_cons_zero, List.set_cons_succ, i64_w, i32_w]
          rfl
        refine pure_ (i := 2) (N := some 48) (v := ?_) (a' := ?_) #[true, true, true, false, false, false, false, false] rfl rfl (by kernel_rfl) (fun _ _ _ h => h) (Or.inl ⟨by rfl, ?_⟩) ?_ ?_
        rotate_left
        · intro w'
          go_simp
          with_reducible rfl
        rotate_left
        · simp only [Act.put, List.setIfInBounds_toArray, List.set_cons_zero, List.set_cons_succ, i64_w, i32_w]
          rfl
        refine take_ (i := 3) (N := some 49) (v := ?_) (a' := ?_) #[true, true, true, true, false, false, false, false] rfl rfl (by kernel_rfl) (fun _ _ _ h => h) (Or.inl ⟨by rfl, ?_⟩) hHeld ?_ ?_
        rotate_left
        · rintro w' ⟨s0, s1, s2, s3, s4⟩
          go_simp
          with_reducible rfl
        rotate_left
        · simp only [Act.put, List.setIfInBounds_toArray, List.set_cons_zero, List.set_cons_succ, i64_w, i32_w]
          rfl
        refine take_ (i := 4) (N := some 50) (v := ?_) (a' := ?_) #[true, true, true, true, true, false, false, false] rfl rfl (by kernel_rfl) (fun _ _ _ h => h) (Or.inl ⟨by rfl, ?_⟩) hHeld ?_ ?_
        rotate_left
        · rintro w' ⟨s0, s1, s2, s3, s4⟩
          go_simp
          with_reducible rfl
        rotate_left
        · simp only [Act.put, List.setIfInBounds_toArray, List.set_cons_zero, List.set_cons_succ, i64_w, i32_w]
          rfl
        refine one_ (i := 5) (N := some 51) #[true, true, true, true, true, true, false, false] rfl rfl (by kernel_rfl) (by decide) (fun K hK => ?_)
        refine goes_ Tryd.func41 (by kernel_rfl) rfl #[vw, .agg #[.int .i64 0, .int .i64 kind, .int .u64 X, .string ⟨#[]⟩]] (by rfl) rfl rfl (by simp only [List.map_toArray, List.map_cons, List.map_nil]; rfl) ?_
        with_reducible refine (HLaid.out).mono ?_
        rintro e w5 ⟨v2, rfl, hR5, hB5, hk5⟩
        refine ⟨_, rfl, ?_⟩
        have hst := HMid2.out.stored hR5 hB5 hk5
        have HSt := Lib.hid hst.2
        have hT5 := blk_kept HT4.out hk5 HTn2.out
        have u0 := (blk_cell hT5 0).trans rfl
        have u1 := (blk_cell hT5 1).trans rfl
        have u2 := (blk_cell hT5 2).trans rfl
        have u3 := (blk_cell hT5 3).trans rfl
        have uv := (blk_cell hst.1 0).trans rfl
        have fv := blk_frozen hst.1 0
        have HT5 := Aside0.mk hT5
        obtain ⟨A5, n5, c5, rfl⟩ := R_slice_any hR5
        clear hst hT5 hR5 hB5 hk5
        refine hK.out _ _ ⟨uv, u0, u1, u2, u3⟩ (fun hHeld => ?_)
        clear hK K
        refine norm_ (a' := ?_) ?_ ?_
        rotate_left
        · show Act.put _ (some 51) _ = _
          simp only [Act.put, List.setIfInBounds_toArray, List.set_cons_zero, List.set_cons_succ, i64_w, i32_w]
          rfl
        refine pure_ (i := 6) (N := some 52) (v := ?_) (a' := ?_) #[true, true, true, true, true, true, true, false] rfl rfl (by kernel_rfl) (fun _ _ _ h => h) (Or.inl ⟨by rfl, ?_⟩) ?_ ?_
        rotate_left
        · intro w'
          go_simp
          with_reducible rfl
        rotate_left
        · simp only [Act.put, List.setIfInBounds_toArray, List.set_cons_zero, List.set_cons_succ, i64_w, i32_w]
          rfl
        refine last_ (i := 7) (N := none) #[true, true, true, true, true, true, true, true] rfl rfl (by kernel_rfl) (by decide) (fun K hK => ?_)
        refine skip_ (w1 := ?_) (by rfl) rfl ?_ ?_
        rotate_left
        · go_simp
          rfl
        refine hK.out _ _ ?_
        clear hK K
        refine done_ (by kernel_rfl) ?_
        have hTZ : (w5.setCell ⟨V, 0, none⟩ (.slice A5 n5 c5)).heap[T]? = some (.cells #[.int .i64 0, .int .i64 kind, .int .u64 X, .string ⟨#[]⟩] 54 (0, 0)) := by
          rw [Below.heap_setCell _ _ _ _ (by show T ≠ V; have := HTV.out; omega)]
          exact HT5.out
        have hlen : (l ++ pt ⟨0, kind, X⟩).length ≤ 9 * (i + 1) := by have := HPl.out; rw [List.length_append]; omega
        have HLen := Aside0.mk hlen
        clear HMid2 HT4 HLaid HTn2 HT5 HPl hlen q0 p0 p1 p2 p3 hHeld HTV
        try clear uv u0 u1 u2 u3 fv
        generalize w5.setCell ⟨V, 0, none⟩ (.slice A5 n5 c5) = wZ at *
        have z1 : wZ.cell? ⟨T, 1, none⟩ = some (.int .i64 kind) := (blk_cell hTZ 1).trans rfl
        have hms : S.length - ((i : Int) + 1).toNat < S.length - (i : Int).toNat := by omega
        have HMs := Aside0.mk hms
        clear hTZ hms
        generalize l ++ pt ⟨0, kind, X⟩ = l2 at *
        have hk3 := H019.out
        have fin01 : kind ≠ 9 → ∃ i' v1 vw l, Value.int .i64 ((i : Int) + 1) = .int .i64 (i' : Nat) ∧ i' ≤ S.length ∧ l.length ≤ 9 * i' ∧ Hid (WInv w g1 g2 R V v1 vw l wZ) ∧ Hid (Told w g1 g2 R V S.length i' (.slice none 0 0) wZ) := fun h9 =>
          ⟨i + 1, v1', _, l2, by rw [show ((i + 1 : Nat) : Int) = (i : Int) + 1 by omega], by omega, HLen.out, HSt, Lib.hid ⟨fun _ => rfl, fun h => by have := HLast2.out h9; omega⟩⟩
        have HFin := Lib.hid fin01
        clear fin01
        rcases hk3 with h9 | h9 | h9
        · subst h9
          go_wp2_with fail
          exact ⟨HFin.out (by decide), HMs.out⟩
        · subst h9
          go_wp2_with fail
          exact ⟨HFin.out (by decide), HMs.out⟩
        · subst h9
          have hend := HLast.out rfl
          clear HFin HLast HLast2 H019
          have zr : wZ.cell? ⟨R, 0, none⟩ = some (.pointer (some ⟨g1, 0, none⟩)) := (blk_cell HSt.out.ws 0).trans rfl
          have zv : wZ.cell? ⟨V, 0, none⟩ = some (.slice A5 n5 c5) := (blk_cell HSt.out.want 0).trans rfl
          have hl3 : l2.length ≤ 9000 + 9 := by have := HLen.out; omega
          have HL3 := Aside0.mk hl3
          have hsame := same_ok 100001 l2 (by omega) (by omega)
          have HSm := Lib.hid hsame
          clear hsame
          go_wp2_with fail
          refine (Done_any w wZ g1 l2 HSt.out.below ⟨v1', HSt.out.one⟩ (by omega)).mono ?_
          rintro e wa ⟨va, rfl, hRa, hBa, hBza⟩
          have hRa1 := R_raise (b' := wZ.heap.size) hRa (fun k hk => hk)
          obtain ⟨Aa, na, ca, rfl⟩ := R_slice_any hRa
          have HRa := Aside0.mk hRa1
          have HBa := Aside0.mk hBza
          have hZa := HSt.out.still hBza
          have HZa := Lib.hid hZa
          have zra : wa.cell? ⟨R, 0, none⟩ = some (.pointer (some ⟨g1, 0, none⟩)) := (blk_cell hZa.ws 0).trans rfl
          clear hRa hBa hBza hRa1 hZa zr zv
          go_wp2_with fail
          refine (Done_any w wa g1 l2 HZa.out.below ⟨v1', HZa.out.one⟩ (by omega)).mono ?_
          rintro e wb ⟨vb, rfl, hRb, hBb, hBab⟩
          have hRb1 := R_raise (b' := wZ.heap.size) hRb (fun k hk => Nat.le_trans HBa.out.size hk)
          have hRa2 := Kd.R_below (Kd.R_mono (ok' := fun k => k < wa.heap.size) (Kd.R_bound HRa.out) (fun k hk => hk.2.2.1)) hBab
          obtain ⟨Ab, nb', cb, rfl⟩ := R_slice_any hRb
          have HRb := Aside0.mk (Kd.R_mono (ok' := fun k => wa.heap.size ≤ k) hRb1 (fun k hk => hk))
          have HRa2 := Aside0.mk hRa2
          have HBb := Aside0.mk (below_step HBa.out hBab)
          have hZb := HZa.out.still hBab
          have zvb : wb.cell? ⟨V, 0, none⟩ = some (.slice A5 n5 c5) := (blk_cell hZb.want 0).trans rfl
          obtain ⟨_, _, ea, hca, hCa⟩ := Kd.R_reads hRa2
          cases ea
          obtain ⟨_, _, eb, hcb, hCb⟩ := Kd.R_reads hRb1
          cases eb
          obtain ⟨_, _, e5, hc5, hC5⟩ := Kd.R_reads hZb.row
          cases e5
          have HCa := Aside0.mk hCa
          have HCb := Aside0.mk hCb
          have HC5 := Aside0.mk hC5
          have HZb := Lib.hid hZb
          clear hRb hBb hBab hRb1 hRa2 hZb hCa hCb hC5 zra
          go_wp2_with fail
          refine (custodyref0_SameBytes.calls 100001 Aa ca l2 A5 c5 l2 true wb HCa.out hca HC5.out hc5 HSm.out).mono ?_
          rintro e wc ⟨rfl, hdc⟩
          have HBc := Aside0.mk (Drawn0.below hdc)
          have hZc := HZb.out.still (Drawn0.below hdc)
          have zvc : wc.cell? ⟨V, 0, none⟩ = some (.slice A5 l2.length c5) := (blk_cell hZc.want 0).trans rfl
          clear hdc zvb hZc
          go_wp2_with fail
          refine (custodyref0_SameBytes.calls 100001 Ab cb l2 A5 c5 l2 true wc (Kd.C_below HCb.out HBc.out) hcb (Kd.C_below HC5.out HBc.out) hc5 HSm.out).mono ?_
          rintro e wd ⟨rfl, hdd⟩
          have HBd := Aside0.mk (below_step HBc.out (Drawn0.below hdd))
          clear hdd zvc
          go_wp2_with fail
          refine ⟨fin9 HBd.out HZb.out HRa2.out HRb.out HBb.out HLen.out hend (by omega) _ _ _ ?_ ?_ HSt.out, HMs.out⟩
          all_goals first | rfl | (rw [Array.getElem?_append_left (by show _ < 2; omega)]; rfl)
      · have hie : i = S.length := by omega
        subst hie
        have blt : decide ((S.length : Int) < (S.length : Int)) = false := by simp
        obtain ⟨wd, u1, uw, l, T, ct, m, arr, ua, ub, rfl, hT, ha0, ha1, hra, hrb, hbd, hwi, hl9⟩ := (HTo.out.2 rfl).ex
        have hap := Apart2 wd wr ua ub l l m T ct arr hbd hra hrb hT ha0 ha1 (by omega) (by omega)
        have HAp := Lib.hid hap
        have HWi := Lib.hid hwi
        have HSm := Lib.hid (same_ok 100001 l (by omega) (by omega))
        have HSe := Lib.hid (same_ok 100001 [] (by decide) (by decide))
        clear hap hwi hT ha0 ha1 hra hrb hbd HTo HInv hll
        go_wp2_with fail
        refine HAp.out.mono ?_
        rintro e wy ⟨rfl, hby⟩
        have hi0 := (HWi.out.still hby).still (below_drew (Below.refl wy.heap.size wy))
        obtain ⟨Av, cv, hvv, hcv, hCv⟩ := Kd.R_reads hi0.row
        subst hvv
        have HI0 := Lib.hid hi0
        have HCv := Aside0.mk hCv
        have a0 := (blk_cell hi0.ws 0).trans rfl
        have b0 := (blk_cell hi0.ws 1).trans rfl
        have c0 := (blk_cell hi0.want 0).trans rfl
        have d0 := (blk_cell hi0.want 1).trans rfl
        clear hi0 hCv hby HWi HAp
        go_wp2_with fail
        refine start_ (n := 15) (S := fun w' => w'.cell? ⟨R, 0, none⟩ = some (.pointer (some ⟨g1, 0, none⟩)) ∧ w'.cell? ⟨R, 1, none⟩ = some (.pointer (some ⟨g2, 0, none⟩)) ∧ w'.cell? ⟨V, 0, none⟩ = some (.slice Av l.length cv) ∧ w'.cell? ⟨V, 1, none⟩ = some (.slice none 0 0)) (ds := []) #[false, false, false, false, false, false, false, false, false, false, false, false, false, false, false] (by kernel_rfl) rfl rfl ⟨a0, b0, c0, d0⟩ (fun hHeld => ?_)
        refine pure_ (i := 0) (N := some 91) (v := ?_) (a' := ?_) #[true, false, false, false, false, false, false, false, false, false, false, false, false, false, false] rfl rfl (by kernel_rfl) (fun _ _ _ h => h) (Or.inl ⟨by rfl, ?_⟩) ?_ ?_
        rotate_left
        · intro w'
          go_simp
          with_reducible rfl
        rotate_left
        · simp only [Act.put, List.setIfInBounds_toArray, List.set_cons_zero, List.set_cons_succ, i64_w, i32_w]
          rfl
        refine pure_ (i := 3) (N := some 94) (v := ?_) (a' := ?_) #[true, false, false, true, false, false, false, false, false, false, false, false, false, false, false] rfl rfl (by kernel_rfl) (fun _ _ _ h => h) (Or.inl ⟨by rfl, ?_⟩) ?_ ?_
        rotate_left
        · intro w'
          go_simp
          with_reducible rfl
        rotate_left
        · simp only [Act.put, List.setIfInBounds_toArray, List.set_cons_zero, List.set_cons_succ, i64_w, i32_w]
          rfl
        refine take_ (i := 1) (N := some 92) (v := ?_) (a' := ?_) #[true, true, false, true, false, false, false, false, false, false, false, false, false, false, false] rfl rfl (by kernel_rfl) (fun _ _ _ h => h) (Or.inl ⟨by rfl, ?_⟩) hHeld ?_ ?_
        rotate_left
        · rintro w' ⟨s0, s1, s2, s3⟩
          go_simp
          with_reducible rfl
        rotate_left
        · simp only [Act.put, List.setIfInBounds_toArray, List.set_cons_zero, List.set_cons_succ, i64_w, i32_w]
          rfl
        refine take_ (i := 4) (N := some 95) (v := ?_) (a' := ?_) #[true, true, false, true, true, false, false, false, false, false, false, false, false, false, false] rfl rfl (by kernel_rfl) (fun _ _ _ h => h) (Or.inl ⟨by rfl, ?_⟩) hHeld ?_ ?_
        rotate_left
        · rintro w' ⟨s0, s1, s2, s3⟩
          go_simp
          with_reducible rfl
        rotate_left
        · simp only [Act.put, List.setIfInBounds_toArray, List.set_cons_zero, List.set_cons_succ, i64_w, i32_w]
          rfl
        refine one_ (i := 2) (N := some 93) #[true, true, true, true, true, false, false, false, false, false, false, false, false, false, false] rfl rfl (by kernel_rfl) (by decide) (fun K hK => ?_)
        refine goes_ Tryd.func10 (by kernel_rfl) rfl #[.pointer (some ⟨g1, 0, none⟩)] (by rfl) rfl rfl (by simp only [List.map_toArray, List.map_cons, List.map_nil]; rfl) ?_
        with_reducible refine (Done_any w _ g1 l HI0.out.below (Wr.of HI0.out.one) (by omega)).mono ?_
        rintro e y1 ⟨va, rfl, hRa, -, hBa⟩
        refine ⟨_, rfl, ?_⟩
        obtain ⟨Aa, ca, rfl, hca, hCa⟩ := Kd.R_reads hRa
        have HI1 := Lib.hid (HI0.out.still hBa)
        have a1 := (blk_cell HI1.out.ws 0).trans rfl
        have b1 := (blk_cell HI1.out.ws 1).trans rfl
        have c1 := (blk_cell HI1.out.want 0).trans rfl
        have d1 := (blk_cell HI1.out.want 1).trans rfl
        have HCv1 := Aside0.mk (Kd.C_below HCv.out hBa)
        have HCa := Aside0.mk hCa
        clear hRa hCa hBa
        refine hK.out _ _ ⟨a1, b1, c1, d1⟩ (fun hHeld => ?_)
        clear hK K
        refine norm_ (a' := ?_) ?_ ?_
        rotate_left
        · show Act.put _ (some 93) _ = _
          simp only [Act.put, List.setIfInBounds_toArray, List.set_cons_zero, List.set_cons_succ, i64_w, i32_w]
          rfl
        refine one_ (i := 5) (N := some 96) #[true, true, true, true, true, true, false, false, false, false, false, false, false, false, false] rfl rfl (by kernel_rfl) (by decide) (fun K hK => ?_)
        refine goes_ Tryd.func11 (by kernel_rfl) rfl #[.slice Aa l.length ca, .slice Av l.length cv] (by rfl) rfl rfl (by simp only [List.map_toArray, List.map_cons, List.map_nil]; rfl) ?_
        with_reducible refine (custodyref0_SameBytes.calls 100001 Aa ca l Av cv l true _ HCa.out hca HCv1.out hcv HSm.out).mono ?_
        rintro e y2 ⟨rfl, hd2⟩
        refine ⟨_, rfl, ?_⟩
        have HI2 := Lib.hid (HI1.out.still (Drawn0.below hd2))
        have a2 := (blk_cell HI2.out.ws 0).trans rfl
        have b2 := (blk_cell HI2.out.ws 1).trans rfl
        have c2 := (blk_cell HI2.out.want 0).trans rfl
        have d2 := (blk_cell HI2.out.want 1).trans rfl
        clear hd2
        refine hK.out _ _ ⟨a2, b2, c2, d2⟩ (fun hHeld => ?_)
        clear hK K
        refine norm_ (a' := ?_) ?_ ?_
        rotate_left
        · show Act.put _ (some 96) _ = _
          simp only [Act.put, List.setIfInBounds_toArray, List.set_cons_zero, List.set_cons_succ, i64_w, i32_w]
          rfl
        refine pure_ (i := 6) (N := some 97) (v := ?_) (a' := ?_) #[true, true, true, true, true, true, true, false, false, false, false, false, false, false, false] rfl rfl (by kernel_rfl) (fun _ _ _ h => h) (Or.inl ⟨by rfl, ?_⟩) ?_ ?_
        rotate_left
        · intro w'
          go_simp
          with_reducible rfl
        rotate_left
        · simp only [Act.put, List.setIfInBounds_toArray, List.set_cons_zero, List.set_cons_succ, i64_w, i32_w]
          rfl
        refine pure_ (i := 7) (N := some 98) (v := ?_) (a' := ?_) #[true, true, true, true, true, true, true, true, false, false, false, false, false, false, false] rfl rfl (by kernel_rfl) (fun _ _ _ h => h) (Or.inl ⟨by rfl, ?_⟩) ?_ ?_
        rotate_left
        · intro w'
          go_simp
          with_reducible rfl
        rotate_left
        · simp only [Act.put, List.setIfInBounds_toArray, List.set_cons_zero, List.set_cons_succ, i64_w, i32_w]
          rfl
        refine pure_ (i := 10) (N := some 101) (v := ?_) (a' := ?_) #[true, true, true, true, true, true, true, true, false, false, true, false, false, false, false] rfl rfl (by kernel_rfl) (fun _ _ _ h => h) (Or.inl ⟨by rfl, ?_⟩) ?_ ?_
        rotate_left
        · intro w'
          go_simp
          with_reducible rfl
        rotate_left
        · simp only [Act.put, List.setIfInBounds_toArray, List.set_cons_zero, List.set_cons_succ, i64_w, i32_w]
          rfl
        refine take_ (i := 8) (N := some 99) (v := ?_) (a' := ?_) #[true, true, true, true, true, true, true, true, true, false, true, false, false, false, false] rfl rfl (by kernel_rfl) (fun _ _ _ h => h) (Or.inl ⟨by rfl, ?_⟩) hHeld ?_ ?_
        rotate_left
        · rintro w' ⟨s0, s1, s2, s3⟩
          go_simp
          with_reducible rfl
        rotate_left
        · simp only [Act.put, List.setIfInBounds_toArray, List.set_cons_zero, List.set_cons_succ, i64_w, i32_w]
          rfl
        refine take_ (i := 11) (N := some 102) (v := ?_) (a' := ?_) #[true, true, true, true, true, true, true, true, true, false, true, true, false, false, false] rfl rfl (by kernel_rfl) (fun _ _ _ h => h) (Or.inl ⟨by rfl, ?_⟩) hHeld ?_ ?_
        rotate_left
        · rintro w' ⟨s0, s1, s2, s3⟩
          go_simp
          with_reducible rfl
        rotate_left
        · simp only [Act.put, List.setIfInBounds_toArray, List.set_cons_zero, List.set_cons_succ, i64_w, i32_w]
          rfl
        refine one_ (i := 9) (N := some 100) #[true, true, true, true, true, true, true, true, true, true, true, true, false, false, false] rfl rfl (by kernel_rfl) (by decide) (fun K hK => ?_)
        refine goes_ Tryd.func10 (by kernel_rfl) rfl #[.pointer (some ⟨g2, 0, none⟩)] (by rfl) rfl rfl (by simp only [List.map_toArray, List.map_cons, List.map_nil]; rfl) ?_
        with_reducible refine (Done_any w _ g2 [] HI2.out.below (Wr.of (v := .slice none 0 0) (Wrv.mk0 HI2.out.two (Nat.le_trans HI2.out.hg1 (Nat.le_of_lt HI2.out.h12)))) (by decide)).mono ?_
        rintro e y3 ⟨vb, rfl, hRb, -, hBb⟩
        refine ⟨_, rfl, ?_⟩
        obtain ⟨Ab, cb, rfl, hcb, hCb⟩ := Kd.R_reads hRb
        have HI3 := Lib.hid (HI2.out.still hBb)
        have a3 := (blk_cell HI3.out.ws 0).trans rfl
        have b3 := (blk_cell HI3.out.ws 1).trans rfl
        have c3 := (blk_cell HI3.out.want 0).trans rfl
        have d3 := (blk_cell HI3.out.want 1).trans rfl
        have HCb := Aside0.mk hCb
        clear hRb hCb hBb
        refine hK.out _ _ ⟨a3, b3, c3, d3⟩ (fun hHeld => ?_)
        clear hK K
        refine norm_ (a' := ?_) ?_ ?_
        rotate_left
        · show Act.put _ (some 100) _ = _
          simp only [Act.put, List.setIfInBounds_toArray, List.set_cons_zero, List.set_cons_succ, i64_w, i32_w]
          rfl
        refine one_ (i := 12) (N := some 103) #[true, true, true, true, true, true, true, true, true, true, true, true, true, false, false] rfl rfl (by kernel_rfl) (by decide) (fun K hK => ?_)
        refine goes_ Tryd.func11 (by kernel_rfl) rfl #[.slice Ab ([] : List Int).length cb, .slice none ([] : List Int).length 0] (by rfl) rfl rfl (by simp only [List.map_toArray, List.map_cons, List.map_nil]; rfl) ?_
        with_reducible refine (custodyref0_SameBytes.calls 100001 Ab cb [] none 0 [] true _ HCb.out hcb (Kd.C_nil _ _) (by decide) HSe.out).mono ?_
        rintro e y4 ⟨rfl, hd4⟩
        refine ⟨_, rfl, ?_⟩
        have HI4 := Lib.hid (HI3.out.still (Drawn0.below hd4))
        have a4 := (blk_cell HI4.out.ws 0).trans rfl
        have b4 := (blk_cell HI4.out.ws 1).trans rfl
        have c4 := (blk_cell HI4.out.want 0).trans rfl
        have d4 := (blk_cell HI4.out.want 1).trans rfl
        clear hd4
        refine hK.out _ _ ⟨a4, b4, c4, d4⟩ (fun hHeld => ?_)
        clear hK K
        refine norm_ (a' := ?_) ?_ ?_
        rotate_left
        · show Act.put _ (some 103) _ = _
          simp only [Act.put, List.setIfInBounds_toArray, List.set_cons_zero, List.set_cons_succ, i64_w, i32_w]
          rfl
        refine pure_ (i := 13) (N := some 104) (v := ?_) (a' := ?_) #[true, true, true, true, true, true, true, true, true, true, true, true, true, true, false] rfl rfl (by kernel_rfl) (fun _ _ _ h => h) (Or.inl ⟨by rfl, ?_⟩) ?_ ?_
        rotate_left
        · intro w'
          go_simp
          with_reducible rfl
        rotate_left
        · simp only [Act.put, List.setIfInBounds_toArray, List.set_cons_zero, List.set_cons_succ, i64_w, i32_w]
          rfl
        refine pure_ (i := 14) (N := some 2) (v := ?_) (a' := ?_) #[true, true, true, true, true, true, true, true, true, true, true, true, true, true, true] rfl rfl (by kernel_rfl) (fun _ _ _ h => h) (Or.inl ⟨by rfl, ?_⟩) ?_ ?_
        rotate_left
        · intro w'
          go_simp
          with_reducible rfl
        rotate_left
        · simp only [Act.put, List.setIfInBounds_toArray, List.set_cons_zero, List.set_cons_succ, i64_w, i32_w]
          rfl
        refine done_ (by kernel_rfl) ?_
        have HE := Lib.hid HI4.out.below
        go_wp2
        go_ret
        exact ⟨rfl, HE.out⟩
end Go.Proofs.YtnnhcnmggfhkeaaDoor.Wk

/- The numbers about the end of each form, as `some` makes them. -/
namespace Go.Proofs.YtnnhcnmggfhkeaaDoor.Wk
open Go.RowKit Go.Proofs.YtnnhcnmggfhkeaaDoorW.PrintWords Go.Proofs.YtnnhcnmggfhkeaaDoorW.PrintLast Go.Proofs.YtnnhcnmggfhkeaaDoorW.PrintMore Go.Proofs.YtnnhcnmggfhkeaaDoor.PWireKnown
set_option linter.unusedVariables false
set_option linter.unusedSimpArgs false

def someN : List Nat := [0, 1, 2, 246, 247, 248, 249, 255, 256, 300, 301, 65535, 65536, 65537, 9223372036854775807, 9223372036854775808, 9223372036854775809, 18446744073709551614, 18446744073709551615,
  65535, 65536, 16777215, 16777216, 4294967295, 4294967296, 1099511627775, 1099511627776, 281474976710655, 281474976710656, 72057594037927935, 72057594037927936]
theorem some_ok : custodylaw05_some.f 20 = some (someN.map (fun (n : Nat) => (n : Int))) := by decide +kernel
end Go.Proofs.YtnnhcnmggfhkeaaDoor.Wk

/- The walk of shown: the chapter's examples. -/
namespace Go.Proofs.YtnnhcnmggfhkeaaDoor.Wk
open Go.RowKit Go.Proofs.YtnnhcnmggfhkeaaDoorW.PrintWords Go.Proofs.YtnnhcnmggfhkeaaDoorW.PrintLast Go.Proofs.YtnnhcnmggfhkeaaDoorW.PrintMore Go.Proofs.YtnnhcnmggfhkeaaDoor.PWireKnown
set_option linter.unusedVariables false
set_option linter.unusedSimpArgs false

theorem C_lit (w : World) (n : Nat) (t : TypeId) (cs : Array Value) (xs : List Int) (hx : xs.length = n) (hm : n ≤ maxLen) (hcs : cs.toList = encs (Value.int .u8) xs) (fr : Nat × Nat := (0, 0)) :
    Kd.C (Kd.int .u8) (w.alloc (.cells cs t fr)) (some ⟨w.heap.size, 0, none⟩) xs.length xs := by
  subst hx
  refine Kd.C_of_reads (enc := Value.int .u8) (d := (0 : Int)) (h1 := fun _ => rfl) ?_
  refine ⟨rfl, hm, fun h => ⟨_, rfl, fun i hi => ?_⟩⟩
  rw [show ((⟨w.heap.size, 0, none⟩ : Addr).add i) = ⟨w.heap.size, i, none⟩ by simp [Addr.add]; omega, World.cell?_alloc_mark, ← Array.getElem?_toList, hcs]
  simp [encs, hi]
/-- A reader stays as it was where the other one reads. -/
theorem rd_turn {w w1 w2 : World} {lo g2 : Nat} {l l' : List Int} {e e' : Int} (h2 : Rdn lo w1 g2 l e) (hlo : lo ≤ w1.heap.size) (hb : Below w.heap.size w w1) (h0 : w.heap.size ≤ lo)
    (hr : Rd (base w1 lo) w2 g2 l' e') (hB : Below (base w1 lo).heap.size (base w1 lo) w2) : Rdn lo w2 g2 l' e' ∧ Below w.heap.size w w2 ∧ lo ≤ w2.heap.size :=
  ⟨fun v hv => hr.lower (by rw [base_size _ _ hlo]; omega), below_base hlo h0 hb hB, by have := hB.size; rw [base_size _ _ hlo] at this; exact this⟩
theorem stT_ab : (stT (2 : Int).toNat [2, 97, 98, 99] 0).1 = ⟨#[97, 98]⟩ ∧ (stT (2 : Int).toNat [2, 97, 98, 99] 0).2.1 = [99] ∧ (stT (2 : Int).toNat [2, 97, 98, 99] 0).2.2 = 0 := by decide +kernel
theorem stU_no : ((stU 300 [248, 247] 0).1 : Int) = 0 ∧ (stU 300 [248, 247] 0).2.1 = [248, 247] ∧ (stU 300 [248, 247] 0).2.2 = 4 := by decide +kernel
theorem endE_long : endE [99] 0 = 3 := by decide +kernel
theorem sum_nil : (sum [] : Int) = 0 := by decide +kernel
theorem sum_nine : (sum [49, 50, 51, 52, 53, 54, 55, 56, 57] : Int) = 3808858755 := by decide +kernel
theorem sum_zeros : (sum (List.replicate 32 0) : Int) = 2324772522 := by decide +kernel
theorem frameAns_ab : frameAns 1 [97, 98] = ([2, 1, 214, 230, 111, 224, 97, 98], 0) := by decide +kernel
theorem unframe_ab : unframe ([2, 1, 214, 230, 111, 224, 97, 98] ++ [255]) = (1, [97, 98], 8, 0) := by decide +kernel
theorem str_ab : strOfNums [97, 98] = ⟨#[97, 98]⟩ := by decide +kernel
set_option maxHeartbeats 8000000 in
set_option maxRecDepth 100000 in
theorem shown_calls (w : World) (hg0 : w.cell? ⟨0, 0, none⟩ = some handle) :
    Calls Tryd.prog 4 #[] w fun e w' => e = .returned (.bool true) ∧ Below w.heap.size w w' := by
  have f1 : [] ++ enc 248 = [248, 248] := by decide +kernel
  have f2 : [248, 248] ++ enc 256 = [248, 248, 249, 1, 0] := by decide +kernel
  have f3 : [248, 248, 249, 1, 0] ++ enc (zz (-1)) = [248, 248, 249, 1, 0, 1] := by decide +kernel
  have f4 : [248, 248, 249, 1, 0, 1] ++ enc (zz 124) = [248, 248, 249, 1, 0, 1, 248, 248] := by decide +kernel
  have f5 : [248, 248, 249, 1, 0, 1, 248, 248] ++ enc (ByteArray.size ⟨#[97, 98]⟩) ++ bytesOf ⟨#[97, 98]⟩ = [248, 248, 249, 1, 0, 1, 248, 248, 2, 97, 98] := by decide +kernel
  have f6 : custodyref0_SameBytes.f 100 [248, 248, 249, 1, 0, 1, 248, 248, 2, 97, 98] [248, 248, 249, 1, 0, 1, 248, 248, 2, 97, 98] = some true := by decide +kernel
  have F1 := Lib.hid f1
  have F2 := Lib.hid f2
  have F3 := Lib.hid f3
  have F4 := Lib.hid f4
  have F5 := Lib.hid f5
  have F6 := Lib.hid f6
  have HG := Lib.hid hg0
  clear f1 f2 f3 f4 f5 f6 hg0
  go_enter Tryd.func4, Tryd.ntmps4
  go_wp2_with fail
  refine (NewWriter_any w _ (Below.refl _ _)).mono ?_
  rintro e w1 ⟨g, rfl, hW, hB, -⟩
  have HW1 := Lib.hid hW
  have HB1 := Aside0.mk hB
  clear hW hB
  go_wp2_with fail
  refine (Writer_Uint w w1 g [] 248 HB1.out HW1.out (by decide) (by decide)).mono ?_
  rintro e w2 ⟨rfl, hW, hB⟩
  rw [F1.out] at hW
  have HW2 := Lib.hid hW
  have HB2 := Aside0.mk hB
  clear hW hB HW1 HB1 F1
  go_wp2_with fail
  refine (Writer_Uint w w2 g _ 256 HB2.out HW2.out (by decide) (by decide)).mono ?_
  rintro e w3 ⟨rfl, hW, hB⟩
  rw [F2.out] at hW
  have HW3 := Lib.hid hW
  have HB3 := Aside0.mk hB
  clear hW hB HW2 HB2 F2
  go_wp2_with fail
  refine (Writer_Int w w3 g _ (-1) HB3.out HW3.out (by decide) (by decide)).mono ?_
  rintro e w4 ⟨rfl, hW, hB⟩
  rw [F3.out] at hW
  have HW4 := Lib.hid hW
  have HB4 := Aside0.mk hB
  clear hW hB HW3 HB3 F3
  go_wp2_with fail
  refine (Writer_Int w w4 g _ 124 HB4.out HW4.out (by decide) (by decide)).mono ?_
  rintro e w5 ⟨rfl, hW, hB⟩
  rw [F4.out] at hW
  have HW5 := Lib.hid hW
  have HB5 := Aside0.mk hB
  clear hW hB HW4 HB4 F4
  go_wp2_with fail
  refine (Writer_Text w w5 g _ ⟨#[97, 98]⟩ HB5.out HW5.out (by decide) (by decide)).mono ?_
  rintro e w6 ⟨rfl, hW, hB⟩
  rw [F5.out] at hW
  have HW6 := Lib.hid hW
  have HB6 := Aside0.mk hB
  clear hW hB HW5 HB5 F5
  go_wp2_with fail
  refine (Done_any w w6 g _ HB6.out HW6.out (by decide)).mono ?_
  rintro e w7 ⟨v7, rfl, hR, hB, -⟩
  obtain ⟨A7, c7, rfl, hc7, hC7⟩ := Kd.R_reads hR
  have HB7 := Aside0.mk hB
  have HC7 := Aside0.mk (Kd.C_below hC7 ((Below.refl _ _).alloc (Nat.le_refl _) (.cells #[.int .u8 248, .int .u8 248, .int .u8 249, .int .u8 1, .int .u8 0, .int .u8 1, .int .u8 248, .int .u8 248, .int .u8 2, .int .u8 97, .int .u8 98] 5)))
  have HL7 := Aside0.mk (C_lit w7 11 5 #[.int .u8 248, .int .u8 248, .int .u8 249, .int .u8 1, .int .u8 0, .int .u8 1, .int .u8 248, .int .u8 248, .int .u8 2, .int .u8 97, .int .u8 98] [248, 248, 249, 1, 0, 1, 248, 248, 2, 97, 98] rfl (by decide) rfl)
  clear hR hB hC7 HW6 HB6
  go_wp2_with fail
  refine (custodyref0_SameBytes.calls 100 A7 c7 _ _ 11 _ true _ HC7.out hc7 HL7.out (by decide) F6.out).mono ?_
  rintro e w8 ⟨rfl, hd⟩
  have HB8 := Aside0.mk (below_step (HB7.out.alloc HB7.out.size _) (Drawn0.below hd))
  clear hd HC7 HL7 HB7 F6 hc7
  have HLa := Aside0.mk (C_lit w8 4 5 #[.int .u8 2, .int .u8 97, .int .u8 98, .int .u8 99] [2, 97, 98, 99] rfl (by decide) rfl)
  go_wp2_with fail
  refine (NewReader_any w _ _ 4 [2, 97, 98, 99] (HB8.out.alloc HB8.out.size _) HLa.out (by decide)).mono ?_
  rintro e w9 ⟨gr, rfl, hR, hB, hB', -⟩
  have HR9 := Lib.hid hR
  have HB9 := Aside0.mk hB
  clear hR hB hB' HB8 HLa
  have HLb := Aside0.mk (C_lit w9 2 5 #[.int .u8 248, .int .u8 247] [248, 247] rfl (by decide) rfl)
  go_wp2_with fail
  refine (NewReader_any w9 _ _ 2 [248, 247] ((Below.refl _ _).alloc (Nat.le_refl _) _) HLb.out (by decide)).mono ?_
  rintro e w10 ⟨gq, rfl, hQ, hB, -, -⟩
  have HRa := Lib.hid (HR9.out.below hB)
  have HQa := Lib.hid hQ.n
  have HSa := Aside0.mk hB.size
  have HGr := Aside0.mk HR9.out.lt
  have HBa := Aside0.mk (below_step HB9.out hB)
  have HLo := Aside0.mk HB9.out.size
  generalize w9.heap.size = lo at *
  clear hQ hB HR9 HB9 HLb
  go_wp2_with fail
  refine (Reader_Text w w10 gr 2 _ 0 (by decide) HBa.out HRa.out (Byt.cons (by decide) (by decide) (Byt.cons (by decide) (by decide) (Byt.cons (by decide) (by decide) (Byt.cons (by decide) (by decide) Byt.nil)))) (by decide)).mono ?_
  rintro e w11 ⟨rfl, hR, hB, hk⟩
  rw [stT_ab.1]
  rw [stT_ab.2.1, stT_ab.2.2] at hR
  have HRb := Lib.hid hR
  have HBb := Aside0.mk hB
  have HQb := Lib.hid (HQa.out.apart hk (.inl HGr.out))
  have HSb := Aside0.mk (Nat.le_trans HSa.out hk.1)
  clear hR hB hk HRa HBa HQa HSa
  go_wp2_with fail
  refine (End_any w w11 gr _ 0 HRb.out).mono ?_
  rintro e w11' ⟨E, rfl, hE, rfl⟩
  rw [endE_long] at hE
  have HE := Lib.hid hE
  clear hE
  go_wp2_with fail
  refine (Plain_Eo HE.out 3 w11 ((HBb.out.cell (World.block_lt_of_cell? w _ HG.out)).trans HG.out)).mono ?_
  rintro e w12 ⟨rfl, hb⟩
  have HRc := Lib.hid (HRb.out.below hb)
  have HQc := Lib.hid (HQb.out.below hb)
  have HBc := Aside0.mk (below_step HBb.out hb)
  have HSc := Aside0.mk (Nat.le_trans HSb.out hb.size)
  clear hb HRb HQb HBb HSb HE
  go_wp2_with fail
  refine (Err_any w w12 gr _ 0 HRc.out).mono ?_
  rintro e w12' ⟨E, rfl, hE, rfl⟩
  obtain rfl := Eo.zero hE
  clear hE
  go_wp2_with fail
  have HbB := Aside0.mk (base_below w12 lo HSc.out)
  have HbQ := Lib.hid (HQc.out.base HSc.out)
  refine (Reader_Uint (base w12 lo) w12 gq 300 _ 0 HbB.out HbQ.out (Byt.cons (by decide) (by decide) (Byt.cons (by decide) (by decide) Byt.nil)) (by decide)).mono ?_
  rintro e w13 ⟨rfl, hR, hB, hk⟩
  rw [stU_no.1]
  rw [stU_no.2.1, stU_no.2.2] at hR
  have ht := rd_turn HQc.out HSc.out HBc.out HLo.out hR hB
  have HQd := Lib.hid ht.1
  have HBd := Aside0.mk ht.2.1
  have HSd := Aside0.mk ht.2.2
  clear hR hB hk ht HbB HbQ HQc HBc HSc HRc
  go_wp2_with fail
  have HbQ := Lib.hid (HQd.out.base HSd.out)
  refine (Err_any (base w13 lo) w13 gq _ 4 HbQ.out).mono ?_
  rintro e w13' ⟨E, rfl, hE, rfl⟩
  have HE := Lib.hid hE
  clear hE
  go_wp2_with fail
  refine (Plain_Eo HE.out 4 w13 ((HBd.out.cell (World.block_lt_of_cell? w _ HG.out)).trans HG.out)).mono ?_
  rintro e w14 ⟨rfl, hb⟩
  have HQe := Lib.hid (HQd.out.below hb)
  have HBe := Aside0.mk (below_step HBd.out hb)
  have HSe := Aside0.mk (Nat.le_trans HSd.out hb.size)
  clear hb HQd HBd HSd HE HbQ
  go_wp2_with fail
  have HbQ := Lib.hid (HQe.out.base HSe.out)
  refine (Left_any (base w14 lo) w14 gq _ 4 HbQ.out).mono ?_
  rintro e w15 ⟨rfl, rfl⟩
  clear HbQ HQe HSe
  go_wp2_with fail
  refine (Sum_calls w14 none 0 [] (Kd.C_nil _ _) (by decide) Byt.nil (by decide)).mono ?_
  rintro e w15 ⟨rfl, hb⟩
  rw [sum_nil]
  have HBf := Aside0.mk (below_step HBe.out hb)
  clear hb HBe
  have kc := Lib.run_convert_bytes_const (P := Tryd.prog) w15 29 5 #[.int .u8 49, .int .u8 50, .int .u8 51, .int .u8 52, .int .u8 53, .int .u8 54, .int .u8 55, .int .u8 56, .int .u8 57] 9 9 Tryd.underlying29 Tryd.underlying5
  have HLc := Aside0.mk (C_lit w15 9 5 #[.int .u8 49, .int .u8 50, .int .u8 51, .int .u8 52, .int .u8 53, .int .u8 54, .int .u8 55, .int .u8 56, .int .u8 57] [49, 50, 51, 52, 53, 54, 55, 56, 57] rfl (by decide) rfl (9, 10))
  go_wp2_with fail
  refine (Sum_calls _ _ 9 [49, 50, 51, 52, 53, 54, 55, 56, 57] HLc.out (by decide) (by unfold Byt; decide) (by decide)).mono ?_
  rintro e w16 ⟨rfl, hb⟩
  rw [sum_nine]
  have HBg := Aside0.mk (below_step (HBf.out.alloc HBf.out.size _) hb)
  clear hb HBf HLc kc
  obtain ⟨i0, hi0, hz0, hsz, hby⟩ := info_parts info5
  have hmk := run_makeSlice (P := Tryd.prog) w16 29 5 i0 (.int .u8 0) Tryd.underlying29 hi0 hz0 .i64 .i64 32 32 (by decide) (by decide) (by rw [hsz]; decide) (by rw [hby]; decide) (by decide)
  rw [hsz] at hmk
  have hz : (madeCells (Value.int .u8 0).cells ((32 : Int).toNat * 1)).toList = encs (Value.int .u8) (List.replicate 32 0) := by kernel_rfl
  generalize madeCells (Value.int .u8 0).cells ((32 : Int).toNat * 1) = zs at hmk hz
  have HLc := Aside0.mk (C_lit w16 32 5 zs (List.replicate 32 0) (by decide) (by decide) hz)
  clear hz hi0 hz0 hsz hby
  go_wp2_with fail
  refine (Sum_calls _ _ 32 (List.replicate 32 0) HLc.out (by decide) (by unfold Byt; decide) (by decide)).mono ?_
  rintro e w17 ⟨rfl, hb⟩
  rw [sum_zeros]
  have HBh := Aside0.mk (below_step (HBg.out.alloc HBg.out.size _) hb)
  clear hb HBg HLc hmk
  have kc := Lib.run_convert_bytes_const (P := Tryd.prog) w17 29 5 #[.int .u8 97, .int .u8 98] 2 2 Tryd.underlying29 Tryd.underlying5
  have HLc := Aside0.mk (C_lit w17 2 5 #[.int .u8 97, .int .u8 98] [97, 98] rfl (by decide) rfl (2, 3))
  go_wp2_with fail
  refine (Frame_calls _ 1 _ 2 [97, 98] HLc.out (by decide) (by unfold Byt; decide) (by decide) (by decide)).mono ?_
  rintro e w18 ⟨v18, E, rfl, hR, hE, hb⟩
  rw [frameAns_ab] at hR hE
  obtain rfl := Eo.zero hE
  have ho := Kd.own_of_R (enc := Value.int .u8) (h1 := fun _ => rfl) hR
  obtain ⟨g18, c18, hv, _, _⟩ := ho.form (by decide)
  subst hv
  have hcl := ho.cells (g := g18) rfl
  have a0 : w18.cell? ⟨g18, 0, none⟩ = some (.int .u8 2) := hcl 0 _ rfl
  have a1 : w18.cell? ⟨g18, 1, none⟩ = some (.int .u8 1) := hcl 1 _ rfl
  have a6 : w18.cell? ⟨g18, 6, none⟩ = some (.int .u8 97) := hcl 6 _ rfl
  have HR18 := Aside0.mk (Kd.R_lower hR (Nat.le_trans HBh.out.size (by simp)))
  have HB18 := Aside0.mk (below_step (HBh.out.alloc HBh.out.size _) hb)
  have HB18s := Aside0.mk HB18.out.size
  clear hR hE hb HBh HLc kc ho hcl
  go_wp2_with (first | ((with_reducible refine gate_builtin (b := .append) (xs := #[.tmp 127, .tmp 128]) rfl ?_); at_builtin; refine App.append_old (Value.int .u8) (h1 := fun _ => rfl) (w0 := w) w.heap.size rfl (.tmp 127) (.tmp 128) 29 5 (.int .u8 0) 1 rfl Tryd.underlying29 info5 rfl (by decide) _ _ 255 _ rfl rfl HR18.out HB18.out HB18s.out (by decide) ?_; intro v19 w19 h1 h2 h3; obtain ⟨A19, c19, rfl, hc19, hC19⟩ := Kd.R_reads h1; have HC19 := Aside0.mk hC19; have HB19 := Aside0.mk h2; clear h1 h2 h3 hC19))
  refine (Unframe_calls w19 A19 c19 _ HC19.out hc19 (by unfold Byt; decide) (by decide)).mono ?_
  rintro e w20 ⟨v20, E, rfl, hR, hE, hb⟩
  rw [unframe_ab] at hR hE ⊢
  obtain rfl := Eo.zero hE
  obtain ⟨A20, c20, rfl, hc20, hC20⟩ := Kd.R_reads hR
  have hcv : (convert 29 9 (.slice A20 2 c20)).run Tryd.prog w20 = .ok (.string (strOfNums [97, 98])) w20 := Kd.C_string (P := Tryd.prog) (w := w20) (src := 29) (dst := 9) (e := 5) (c := c20) Tryd.underlying29 Tryd.underlying5 Tryd.underlying9 hC20
  rw [str_ab] at hcv
  have HB20 := Aside0.mk (below_step HB19.out hb)
  clear hR hE hb hC20
  go_wp2
  go_ret
  exact ⟨rfl, HB20.out⟩
end Go.Proofs.YtnnhcnmggfhkeaaDoor.Wk


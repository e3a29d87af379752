/- Texts of this claim, one behind the other: WkRef, WkRef2, WkAsk, WkAsk2, WkTell, WkWorks, WkTurn. -/
import Derived.Test.YtnnhcnmggfhkeaaDoorWkM2
import Derived.StillTailTactics
/- The walks of the document's reader, at any place of a block. -/
namespace Go.Proofs.YtnnhcnmggfhkeaaDoor.Wk
open Go.RowKit Go.Proofs.YtnnhcnmggfhkeaaDoorW.PrintWords Go.Proofs.YtnnhcnmggfhkeaaDoorW.PrintLast Go.Proofs.YtnnhcnmggfhkeaaDoorW.PrintMore Go.Proofs.YtnnhcnmggfhkeaaDoor.PWireKnown
set_option linter.unusedVariables false
set_option linter.unusedSimpArgs false

/-- The three cells of a reader of the document, at off. -/
structure At3 (cs : Array Value) (off : Nat) (A : Option Addr) (n c : Nat) (a e : Int) : Prop where
  c0 : cs[off]? = some (.slice A n c)
  c1 : cs[off + 1]? = some (.int .i64 a)
  c2 : cs[off + 2]? = some (.int .i64 e)
/-- What is not of the reader at off is as it was. -/
def Rest3 (off : Nat) (cs cs' : Array Value) : Prop := ∀ j, j < off ∨ off + 3 ≤ j → cs'[j]? = cs[j]?
theorem Rest3.refl (off : Nat) (cs : Array Value) : Rest3 off cs cs := fun _ _ => rfl
theorem Rest3.trans {off : Nat} {a b c : Array Value} (h : Rest3 off a b) (k : Rest3 off b c) : Rest3 off a c := fun j hj => (k j hj).trans (h j hj)
theorem At3.other {cs cs' : Array Value} {off o2 : Nat} {A : Option Addr} {n c : Nat} {a e : Int} (h : At3 cs o2 A n c a e) (k : Rest3 off cs cs') (hd : o2 + 3 ≤ off ∨ off + 3 ≤ o2) : At3 cs' o2 A n c a e :=
  ⟨(k _ (by omega)).trans h.c0, (k _ (by omega)).trans h.c1, (k _ (by omega)).trans h.c2⟩
theorem At3.setE {cs : Array Value} {off : Nat} {A : Option Addr} {n c : Nat} {a e : Int} (h : At3 cs off A n c a e) (e' : Int) : At3 (cs.setIfInBounds (off + 2) (.int .i64 e')) off A n c a e' ∧ Rest3 off cs (cs.setIfInBounds (off + 2) (.int .i64 e')) := by
  have hs : off + 2 < cs.size := by
    rcases Nat.lt_or_ge (off + 2) cs.size with h1 | h1
    · exact h1
    · have := h.c2; rw [Array.getElem?_eq_none h1] at this; cases this
  refine ⟨⟨?_, ?_, ?_⟩, fun j hj => ?_⟩
  · rw [Array.getElem?_setIfInBounds_ne (by omega)]; exact h.c0
  · rw [Array.getElem?_setIfInBounds_ne (by omega)]; exact h.c1
  · simp [Array.getElem?_setIfInBounds, hs]
  · rw [Array.getElem?_setIfInBounds_ne (by omega)]
theorem At3.setA {cs : Array Value} {off : Nat} {A : Option Addr} {n c : Nat} {a e : Int} (h : At3 cs off A n c a e) (a' : Int) : At3 (cs.setIfInBounds (off + 1) (.int .i64 a')) off A n c a' e ∧ Rest3 off cs (cs.setIfInBounds (off + 1) (.int .i64 a')) := by
  have hs : off + 1 < cs.size := by
    rcases Nat.lt_or_ge (off + 1) cs.size with h1 | h1
    · exact h1
    · have := h.c1; rw [Array.getElem?_eq_none h1] at this; cases this
  refine ⟨⟨?_, ?_, ?_⟩, fun j hj => ?_⟩
  · rw [Array.getElem?_setIfInBounds_ne (by omega)]; exact h.c0
  · simp [Array.getElem?_setIfInBounds, hs]
  · rw [Array.getElem?_setIfInBounds_ne (by omega)]; exact h.c2
  · rw [Array.getElem?_setIfInBounds_ne (by omega)]

/-- A reader of the document at ⟨g, off⟩ which reads b, stands at a, with error e. -/
def Rf (w0 w : World) (g off : Nat) (cs : Array Value) (b : List Int) (a : Nat) (e : Int) : Prop :=
  w.heap[g]? = some (.cells cs 95 (0, 0)) ∧ w0.heap.size ≤ g ∧ Below w0.heap.size w0 w ∧ a ≤ b.length ∧ ∃ A c, b.length ≤ c ∧ At3 cs off A b.length c a e ∧ Kd.C (Kd.int .u8) w0 A b.length b
/-- Behind a call. -/
def RfPost (w0 w : World) (g off : Nat) (cs : Array Value) (b : List Int) (a : Nat) (e : Int) (w' : World) : Prop :=
  (∃ cs', Rf w0 w' g off cs' b a e ∧ Rest3 off cs cs') ∧ Kept w w' (fun k => k = g)

theorem below_step2 {w0 w w1 : World} (h : Below w0.heap.size w0 w) (k : Below w.heap.size w w1) : Below w0.heap.size w0 w1 := below_step h k
def FormPost (w0 w : World) (g off : Nat) (cs : Array Value) (b : List Int) (a : Nat) (q : Nat × Nat × Int) (e : Ending) (w' : World) : Prop :=
  e = .returned (.tuple #[.int .u64 (q.1 : Int), .int .i64 (q.2.1 : Int)]) ∧ RfPost w0 w g off cs b a q.2.2 w'
theorem uint_at (w : World) (A : Option Addr) (n c : Nat) (l : List Int) (hn : n = l.length) (hC : Kd.C (Kd.int .u8) w A l.length l) (hc : l.length ≤ c) (hb : Byt l) (hl : l.length ≤ 140737488355328) :
    Calls Tryd.prog 70 #[.slice A n c] w fun e w' => e = .returned (.tuple #[.int .u64 ((num l).1 : Int), .int .i64 ((num l).2.1 : Int), .int .i64 (num l).2.2]) ∧ Drawn0 w w' := by
  subst hn
  exact custodyref05_Uint.calls 20 A c l _ _ _ w hC hc (uint_ok 20 l hb hl (by omega))

set_option maxHeartbeats 2000000 in
set_option maxRecDepth 100000 in
theorem form_calls (w0 w : World) (g off : Nat) (cs : Array Value) (b : List Int) (a : Nat) (e : Int) (h : Rf w0 w g off cs b a e) (hb : Byt b) (hl : b.length ≤ 140737488351232) :
    Calls Tryd.prog 78 #[.pointer (some ⟨g, off, none⟩)] w (FormPost w0 w g off cs b a (pk (b.drop a) e)) := by
  have hr0 := h
  obtain ⟨hbk, hg, hB, ha, A, c, hc, h3, hC⟩ := h
  have k0 : w.cell? ⟨g, off, none⟩ = some (.slice A b.length c) := (blk_cell hbk off).trans h3.c0
  have k1 : w.cell? ⟨g, off + 1, none⟩ = some (.int .i64 a) := (blk_cell hbk (off + 1)).trans h3.c1
  have k2 : w.cell? ⟨g, off + 2, none⟩ = some (.int .i64 e) := (blk_cell hbk (off + 2)).trans h3.c2
  by_cases c1 : e = 0
  · subst c1
    obtain ⟨A', hsl, hrd, -⟩ := cut_bytes A c b a ha hc
    obtain ⟨n, hn⟩ : ∃ n, b.length = n := ⟨_, rfl⟩
    obtain ⟨n', hn'⟩ : ∃ n', (b.drop a).length = n' := ⟨_, rfl⟩
    have hcall := uint_at w.drew A' n' (c - a) (b.drop a) hn'.symm (hrd _ (Kd.C_below hC (below_drew hB))) (by rw [List.length_drop]; omega) (hb.drop a) (by rw [List.length_drop]; omega)
    rw [hn, hn'] at hsl
    rw [hn] at k0
    have epk : pk (b.drop a) 0 = num (b.drop a) := if_neg (by simp)
    rw [epk]
    generalize num (b.drop a) = q at *
    obtain ⟨x, m, e2⟩ := q
    have HCALL := Lib.hid hcall
    have HR := Lib.hid hr0
    have HBk := Aside0.mk hbk
    have hf2 := blk_frozen hbk (off + 2)
    obtain ⟨cc, hcc⟩ : ∃ cc, c - a = cc := ⟨_, rfl⟩
    rw [hcc] at hsl HCALL
    clear hcall hr0 hbk hB hrd hcc hn hn' hb hl hC h3 hc ha epk
    go_enter Tryd.func78, Tryd.ntmps78
    go_wp2_with fail
    refine start_ (n := 17) (S := fun w' => w'.cell? ⟨g, off, none⟩ = some (.slice A n c) ∧ w'.cell? ⟨g, off + 1, none⟩ = some (.int .i64 a)) (ds := []) #[false, false, false, false, false, false, false, false, false, false, false, false, false, false, false, false, false] (by kernel_rfl) rfl rfl ⟨k0, k1⟩ (fun hHeld => ?_)
    refine pure_ (i := 0) (N := some 13) (v := ?_) (a' := ?_) #[true, false, false, false, false, false, false, false, false, false, false, false, false, false, false, false, false] rfl rfl (by kernel_rfl) (fun _ _ _ h => h) (Or.inl ⟨by rfl, ?_⟩) ?_ ?_
    rotate_left
    · intro w'
      go_simp
      with_reducible rfl
    rotate_left
    · simp only [Act.put, List.setIfInBounds_toArray, List.set_cons_zero, List.set_cons_succ, i64_w, i32_w]
      rfl
    refine pure_ (i := 1) (N := some 14) (v := ?_) (a' := ?_) #[true, true, false, false, false, false, false, false, false, false, false, false, false, false, false, false, false] rfl rfl (by kernel_rfl) (fun _ _ _ h => h) (Or.inl ⟨by rfl, ?_⟩) ?_ ?_
    rotate_left
    · intro w'
      go_simp
      with_reducible rfl
    rotate_left
    · simp only [Act.put, List.setIfInBounds_toArray, List.set_cons_zero, List.set_cons_succ, i64_w, i32_w]
      rfl
    refine pure_ (i := 2) (N := some 15) (v := ?_) (a' := ?_) #[true, true, true, false, false, false, false, false, false, false, false, false, false, false, false, false, false] rfl rfl (by kernel_rfl) (fun _ _ _ h => h) (Or.inl ⟨by rfl, ?_⟩) ?_ ?_
    rotate_left
    · intro w'
      go_simp
      with_reducible rfl
    rotate_left
    · simp only [Act.put, List.setIfInBounds_toArray, List.set_cons_zero, List.set_cons_succ, i64_w, i32_w]
      rfl
    refine pure_ (i := 4) (N := some 17) (v := ?_) (a' := ?_) #[true, true, true, false, true, false, false, false, false, false, false, false, false, false, false, false, false] rfl rfl (by kernel_rfl) (fun _ _ _ h => h) (Or.inl ⟨by rfl, ?_⟩) ?_ ?_
    rotate_left
    · intro w'
      go_simp
      with_reducible rfl
    rotate_left
    · simp only [Act.put, List.setIfInBounds_toArray, List.set_cons_zero, List.set_cons_succ, i64_w, i32_w]
      rfl
    refine pure_ (i := 5) (N := some 18) (v := ?_) (a' := ?_) #[true, true, true, false, true, true, false, false, false, false, false, false, false, false, false, false, false] rfl rfl (by kernel_rfl) (fun _ _ _ h => h) (Or.inl ⟨by rfl, ?_⟩) ?_ ?_
    rotate_left
    · intro w'
      go_simp
      with_reducible rfl
    rotate_left
    · simp only [Act.put, List.setIfInBounds_toArray, List.set_cons_zero, List.set_cons_succ, i64_w, i32_w]
      rfl
    refine pure_ (i := 6) (N := some 19) (v := ?_) (a' := ?_) #[true, true, true, false, true, true, true, false, false, false, false, false, false, false, false, false, false] rfl rfl (by kernel_rfl) (fun _ _ _ h => h) (Or.inl ⟨by rfl, ?_⟩) ?_ ?_
    rotate_left
    · intro w'
      go_simp
      with_reducible rfl
    rotate_left
    · simp only [Act.put, List.setIfInBounds_toArray, List.set_cons_zero, List.set_cons_succ, i64_w, i32_w]
      rfl
    refine take_ (i := 3) (N := some 16) (v := ?_) (a' := ?_) #[true, true, true, true, true, true, true, false, false, false, false, false, false, false, false, false, false] rfl rfl (by kernel_rfl) (fun _ _ _ h => h) (Or.inl ⟨by rfl, ?_⟩) hHeld ?_ ?_
    rotate_left
    · rintro w' ⟨s0, s1⟩
      go_simp
      with_reducible rfl
    rotate_left
    · simp only [Act.put, List.setIfInBounds_toArray, List.set_cons_zero, List.set_cons_succ, i64_w, i32_w]
      rfl
    refine take_ (i := 7) (N := some 20) (v := ?_) (a' := ?_) #[true, true, true, true, true, true, true, true, false, false, false, false, false, false, false, false, false] rfl rfl (by kernel_rfl) (fun _ _ _ h => h) (Or.inl ⟨by rfl, ?_⟩) hHeld ?_ ?_
    rotate_left
    · rintro w' ⟨s0, s1⟩
      go_simp
      with_reducible rfl
    rotate_left
    · simp only [Act.put, List.setIfInBounds_toArray, List.set_cons_zero, List.set_cons_succ, i64_w, i32_w]
      rfl
    refine pure_ (i := 8) (N := some 21) (v := ?_) (a' := ?_) #[true, true, true, true, true, true, true, true, true, false, false, false, false, false, false, false, false] rfl rfl (by kernel_rfl) (fun _ _ _ h => h) (Or.inl ⟨by rfl, ?_⟩) ?_ ?_
    rotate_left
    · intro w'
      go_simp
      with_reducible rfl
    rotate_left
    · simp only [Act.put, List.setIfInBounds_toArray, List.set_cons_zero, List.set_cons_succ, i64_w, i32_w]
      rfl
    refine one_ (i := 9) (N := some 22) #[true, true, true, true, true, true, true, true, true, true, false, false, false, false, false, false, false] rfl rfl (by kernel_rfl) (by decide) (fun K hK => ?_)
    refine goes_ Tryd.func70 (by kernel_rfl) rfl #[.slice A' n' cc] (by rfl) rfl rfl (by simp only [List.map_toArray, List.map_cons, List.map_nil]; rfl) ?_
    with_reducible refine (HCALL.out).mono ?_
    rintro e w3 ⟨rfl, ⟨k, rfl⟩⟩
    refine ⟨_, rfl, ?_⟩
    refine hK.out _ _ ⟨k0, k1⟩ (fun hHeld => ?_)
    clear hK K
    refine norm_ (a' := ?_) ?_ ?_
    rotate_left
    · show Act.put _ (some 22) _ = _
      simp only [Act.put, List.setIfInBounds_toArray, List.set_cons_zero, List.set_cons_succ, i64_w, i32_w]
      rfl
    refine pure_ (i := 10) (N := some 12) (v := ?_) (a' := ?_) #[true, true, true, true, true, true, true, true, true, true, true, false, false, false, false, false, false] rfl rfl (by kernel_rfl) (fun _ _ _ h => h) (Or.inl ⟨by rfl, ?_⟩) ?_ ?_
    rotate_left
    · intro w'
      go_simp
      with_reducible rfl
    rotate_left
    · simp only [Act.put, List.setIfInBounds_toArray, List.set_cons_zero, List.set_cons_succ, i64_w, i32_w]
      rfl
    refine pure_ (i := 11) (N := some 23) (v := ?_) (a' := ?_) #[true, true, true, true, true, true, true, true, true, true, true, true, false, false, false, false, false] rfl rfl (by kernel_rfl) (fun _ _ _ h => h) (Or.inl ⟨by rfl, ?_⟩) ?_ ?_
    rotate_left
    · intro w'
      go_simp
      with_reducible rfl
    rotate_left
    · simp only [Act.put, List.setIfInBounds_toArray, List.set_cons_zero, List.set_cons_succ, i64_w, i32_w]
      rfl
    refine pure_ (i := 12) (N := some 24) (v := ?_) (a' := ?_) #[true, true, true, true, true, true, true, true, true, true, true, true, true, false, false, false, false] rfl rfl (by kernel_rfl) (fun _ _ _ h => h) (Or.inl ⟨by rfl, ?_⟩) ?_ ?_
    rotate_left
    · intro w'
      go_simp
      with_reducible rfl
    rotate_left
    · simp only [Act.put, List.setIfInBounds_toArray, List.set_cons_zero, List.set_cons_succ, i64_w, i32_w]
      rfl
    refine pure_ (i := 13) (N := some 25) (v := ?_) (a' := ?_) #[true, true, true, true, true, true, true, true, true, true, true, true, true, true, false, false, false] rfl rfl (by kernel_rfl) (fun _ _ _ h => h) (Or.inl ⟨by rfl, ?_⟩) ?_ ?_
    rotate_left
    · intro w'
      go_simp
      with_reducible rfl
    rotate_left
    · simp only [Act.put, List.setIfInBounds_toArray, List.set_cons_zero, List.set_cons_succ, i64_w, i32_w]
      rfl
    refine pure_ (i := 14) (N := some 4) (v := ?_) (a' := ?_) #[true, true, true, true, true, true, true, true, true, true, true, true, true, true, true, false, false] rfl rfl (by kernel_rfl) (fun _ _ _ h => h) (Or.inl ⟨by rfl, ?_⟩) ?_ ?_
    rotate_left
    · intro w'
      go_simp
      with_reducible rfl
    rotate_left
    · simp only [Act.put, List.setIfInBounds_toArray, List.set_cons_zero, List.set_cons_succ, i64_w, i32_w]
      rfl
    refine pure_ (i := 15) (N := some 5) (v := ?_) (a' := ?_) #[true, true, true, true, true, true, true, true, true, true, true, true, true, true, true, true, false] rfl rfl (by kernel_rfl) (fun _ _ _ h => h) (Or.inl ⟨by rfl, ?_⟩) ?_ ?_
    rotate_left
    · intro w'
      go_simp
      with_reducible rfl
    rotate_left
    · simp only [Act.put, List.setIfInBounds_toArray, List.set_cons_zero, List.set_cons_succ, i64_w, i32_w]
      rfl
    refine pure_ (i := 16) (N := some 6) (v := ?_) (a' := ?_) #[true, true, true, true, true, true, true, true, true, true, true, true, true, true, true, true, true] rfl rfl (by kernel_rfl) (fun _ _ _ h => h) (Or.inl ⟨by rfl, ?_⟩) ?_ ?_
    rotate_left
    · intro w'
      go_simp
      with_reducible rfl
    rotate_left
    · simp only [Act.put, List.setIfInBounds_toArray, List.set_cons_zero, List.set_cons_succ, i64_w, i32_w]
      rfl
    refine done_ (by kernel_rfl) ?_
    have hkk : (w.drew.drewN k).heap[g]? = some (.cells cs 95 (0, 0)) := HBk.out
    have hBD : Below w.heap.size w (w.drew.drewN k) := pw_below_drewN (below_drew (Below.refl _ _)) k
    have hKD : Kept w (w.drew.drewN k) (fun k => k = g) := ((Kept.refl w _).drewN 1).drewN k
    have k3 : (w.drew.drewN k).cell? ⟨g, off + 2, none⟩ = some (.int .i64 0) := k2
    clear hf2 k0 k1 k2 HBk
    generalize w.drew.drewN k = w3 at *
    have hf3 := blk_frozen hkk (off + 2)
    have HK := Aside0.mk hkk
    have HBD := Aside0.mk hBD
    have HKD := Aside0.mk hKD
    clear hkk hBD hKD
    go_wp2
    refine bodyPost_ret (results_list (rs := [.tmp 2, .tmp 3]) rfl (by simp) (.tmp (.tmp .nil))) rfl ?_
    obtain ⟨hbk, hg, hB, ha, A0, c0, hc, h3, hC⟩ := HR.out
    exact ⟨rfl, ⟨_, ⟨blk_set HK.out (off + 2) _, hg, (below_step2 hB HBD.out).setCell hg _, ha, A0, c0, hc, (h3.setE e2).1, hC⟩, (h3.setE e2).2⟩, HKD.out.setCell (p := ⟨g, _, none⟩) (.inl rfl) _⟩
  · have epk : pk (b.drop a) e = (0, 0, e) := if_pos c1
    have HR := Lib.hid hr0
    rw [epk]
    have b1 : (e == 0) = false := by simp [c1]
    clear hr0 hbk hg hB ha hc h3 hC hb hl epk
    go_enter Tryd.func78, Tryd.ntmps78
    go_wp2
    refine bodyPost_ret (results_list (rs := [.tmp 2, .tmp 3]) rfl (by simp) (.tmp (.tmp .nil))) rfl ?_
    exact ⟨rfl, ⟨cs, HR.out, Rest3.refl _ _⟩, Kept.refl _ _⟩

/-- Behind a call that moves the reader to where l' lies. -/
def MovePost (w0 w : World) (g off : Nat) (cs : Array Value) (b l' : List Int) (e' : Int) (w' : World) : Prop := ∃ a', b.drop a' = l' ∧ RfPost w0 w g off cs b a' e' w'
theorem RfPost.of_kept {w0 w w1 : World} {g off : Nat} {cs : Array Value} {b : List Int} {a : Nat} {e : Int} (h : RfPost w0 w g off cs b a e w1) : ∃ cs1, Rf w0 w1 g off cs1 b a e ∧ Rest3 off cs cs1 ∧ Kept w w1 (fun k => k = g) := by
  obtain ⟨⟨cs1, h1, h2⟩, h3⟩ := h
  exact ⟨cs1, h1, h2, h3⟩
/-- A store of the error, of the place. -/
theorem Rf.storeE {w0 w : World} {g off : Nat} {cs : Array Value} {b : List Int} {a : Nat} {e : Int} (h : Rf w0 w g off cs b a e) (e' : Int) :
    ∃ cs', Rf w0 (w.setCell ⟨g, off + 2, none⟩ (.int .i64 e')) g off cs' b a e' ∧ Rest3 off cs cs' ∧ Kept w (w.setCell ⟨g, off + 2, none⟩ (.int .i64 e')) (fun k => k = g) := by
  obtain ⟨hbk, hg, hB, ha, A0, c0, hc, h3, hC⟩ := h
  exact ⟨_, ⟨blk_set hbk (off + 2) _, hg, hB.setCell hg _, ha, A0, c0, hc, (h3.setE e').1, hC⟩, (h3.setE e').2, (Kept.refl w (fun k => k = g)).setCell (p := ⟨g, _, none⟩) (.inl rfl) _⟩
theorem Rf.storeA {w0 w : World} {g off : Nat} {cs : Array Value} {b : List Int} {a : Nat} {e : Int} (h : Rf w0 w g off cs b a e) (a' : Nat) (ha' : a' ≤ b.length) :
    ∃ cs', Rf w0 (w.setCell ⟨g, off + 1, none⟩ (.int .i64 a')) g off cs' b a' e ∧ Rest3 off cs cs' ∧ Kept w (w.setCell ⟨g, off + 1, none⟩ (.int .i64 a')) (fun k => k = g) := by
  obtain ⟨hbk, hg, hB, ha, A0, c0, hc, h3, hC⟩ := h
  exact ⟨_, ⟨blk_set hbk (off + 1) _, hg, hB.setCell hg _, ha', A0, c0, hc, (h3.setA a').1, hC⟩, (h3.setA a').2, (Kept.refl w (fun k => k = g)).setCell (p := ⟨g, _, none⟩) (.inl rfl) _⟩
theorem Rf.cells {w0 w : World} {g off : Nat} {cs : Array Value} {b : List Int} {a : Nat} {e : Int} (h : Rf w0 w g off cs b a e) :
    ∃ A c, w.cell? ⟨g, off, none⟩ = some (.slice A b.length c) ∧ w.cell? ⟨g, off + 1, none⟩ = some (.int .i64 a) ∧ w.cell? ⟨g, off + 2, none⟩ = some (.int .i64 e) ∧ w.frozen? ⟨g, off + 1, none⟩ = false ∧ w.frozen? ⟨g, off + 2, none⟩ = false ∧ b.length ≤ c ∧ Kd.C (Kd.int .u8) w A b.length b := by
  obtain ⟨hbk, hg, hB, ha, A0, c0, hc, h3, hC⟩ := h
  exact ⟨A0, c0, (blk_cell hbk off).trans h3.c0, (blk_cell hbk (off + 1)).trans h3.c1, (blk_cell hbk (off + 2)).trans h3.c2, blk_frozen hbk _, blk_frozen hbk _, hc, Kd.C_below hC hB⟩
theorem Rf.drawn {w0 w : World} {g off : Nat} {cs : Array Value} {b : List Int} {a : Nat} {e : Int} (h : Rf w0 w g off cs b a e) {w' : World} (hh : w'.heap = w.heap) (hd : Below w.heap.size w w') : Rf w0 w' g off cs b a e := by
  obtain ⟨hbk, hg, hB, ha, A0, c0, hc, h3, hC⟩ := h
  exact ⟨by rw [hh]; exact hbk, hg, below_step hB hd, ha, A0, c0, hc, h3, hC⟩

set_option maxHeartbeats 2000000 in
set_option maxRecDepth 100000 in
theorem RefUint (w0 w : World) (g off : Nat) (cs : Array Value) (b : List Int) (a : Nat) (e : Int) (most : Nat) (h : Rf w0 w g off cs b a e) (hb : Byt b) (hl : b.length ≤ 140737488351232) :
    Calls Tryd.prog 67 #[.pointer (some ⟨g, off, none⟩), .int .u64 most] w fun e1 w' => e1 = .returned (.int .u64 ((stU most (b.drop a) e).1 : Int)) ∧ MovePost w0 w g off cs b (stU most (b.drop a) e).2.1 (stU most (b.drop a) e).2.2 w' := by
  have hf := form_calls w0 w g off cs b a e h hb hl
  obtain ⟨b1, b2, b3, b4⟩ := pk_bounds (hb.drop a) e
  have ha := h.2.2.2.1
  rw [List.length_drop] at b2
  unfold stU
  have hdd : ∀ m, (b.drop a).drop m = b.drop (a + m) := fun m => List.drop_drop
  have hd0 : (b.drop a).drop 0 = b.drop a := List.drop_zero
  generalize pk (b.drop a) e = q at *
  obtain ⟨x, m, e2⟩ := q
  dsimp only at *
  rw [hdd]
  obtain ⟨r, hr⟩ : ∃ r, (if most < x then (0, b.drop a, 5) else (x, b.drop (a + m), e2)) = r := ⟨_, rfl⟩
  rw [hr]
  have HRr := Lib.hid hr
  have HF := Lib.hid hf
  clear hf h hb hr
  go_enter Tryd.func67, Tryd.ntmps67
  go_wp2_with fail
  refine HF.out.mono ?_
  rintro e1 w1 ⟨rfl, hp⟩
  obtain ⟨cs1, hr, hrest, hk⟩ := hp.of_kept
  obtain ⟨A1, c1, k0, k1, k2, f1, f2, -, -⟩ := hr.cells
  have HR := Lib.hid hr
  have HRest := Lib.hid hrest
  have HK := Aside0.mk hk
  clear hp hr hrest hk HF k0
  by_cases ce : e2 = 0
  · subst ce
    by_cases cm : most < x
    · have hxx : decide ((most : Int) < x) = true := by simp; omega
      obtain ⟨cs2, hr2, hrest2, hk2⟩ := HR.out.storeE 5
      have HR2 := Lib.hid hr2
      have HRest2 := Lib.hid hrest2
      have HK2 := Aside0.mk hk2
      have hr := HRr.out
      rw [if_pos cm] at hr
      clear b1 b2 b3 b4 hr2 hrest2 hk2 hdd hd0
      go_wp2
      go_ret
      subst hr
      exact ⟨rfl, a, rfl, ⟨cs2, HR2.out, HRest.out.trans HRest2.out⟩, HK.out.then_ HK2.out (fun _ h => .inl h)⟩
    · have hxx : decide ((most : Int) < x) = false := by simp; omega
      obtain ⟨cs2, hr2, hrest2, hk2⟩ := HR.out.storeA (a + m) (by omega)
      rw [show ((a + m : Nat) : Int) = (a : Int) + m by omega] at hr2 hk2
      have HR2 := Lib.hid hr2
      have HRest2 := Lib.hid hrest2
      have HK2 := Aside0.mk hk2
      have hr := HRr.out
      rw [if_neg cm] at hr
      clear b1 b4 hr2 hrest2 hk2 hdd hd0
      go_wp2
      go_ret
      subst hr
      exact ⟨rfl, a + m, rfl, ⟨cs2, HR2.out, HRest.out.trans HRest2.out⟩, HK.out.then_ HK2.out (fun _ h => .inl h)⟩
  · obtain ⟨rfl, rfl⟩ := b4 ce
    have be : (e2 == 0) = false := by simp [ce]
    have hr := HRr.out
    rw [if_neg (by omega)] at hr
    clear b1 b2 b3 b4
    go_wp2
    go_ret
    subst hr
    exact ⟨rfl, a + 0, rfl, ⟨cs1, HR.out, HRest.out⟩, HK.out⟩
end Go.Proofs.YtnnhcnmggfhkeaaDoor.Wk

/- The walks of the document's reader: Int, Text, Left, End. -/
namespace Go.Proofs.YtnnhcnmggfhkeaaDoor.Wk
open Go.RowKit Go.Proofs.YtnnhcnmggfhkeaaDoorW.PrintWords Go.Proofs.YtnnhcnmggfhkeaaDoorW.PrintLast Go.Proofs.YtnnhcnmggfhkeaaDoorW.PrintMore Go.Proofs.YtnnhcnmggfhkeaaDoor.PWireKnown
set_option linter.unusedVariables false
set_option linter.unusedSimpArgs false

set_option maxHeartbeats 2000000 in
set_option maxRecDepth 100000 in
theorem RefInt (w0 w : World) (g off : Nat) (cs : Array Value) (b : List Int) (a : Nat) (e : Int) (h : Rf w0 w g off cs b a e) (hb : Byt b) (hl : b.length ≤ 140737488351232) :
    Calls Tryd.prog 68 #[.pointer (some ⟨g, off, none⟩)] w fun e1 w' => e1 = .returned (.int .i64 (stI (b.drop a) e).1) ∧ MovePost w0 w g off cs b (stI (b.drop a) e).2.1 (stI (b.drop a) e).2.2 w' := by
  have hf := form_calls w0 w g off cs b a e h hb hl
  obtain ⟨b1, b2, b3, b4⟩ := pk_bounds (hb.drop a) e
  have ha := h.2.2.2.1
  rw [List.length_drop] at b2
  unfold stI
  have hdd : ∀ m, (b.drop a).drop m = b.drop (a + m) := fun m => List.drop_drop
  generalize pk (b.drop a) e = q at *
  obtain ⟨x, m, e2⟩ := q
  dsimp only at *
  rw [hdd]
  have HF := Lib.hid hf
  have hu := unfolded_ok x b1
  have HU := Lib.hid hu
  clear hf h hb hu
  go_enter Tryd.func68, Tryd.ntmps68
  go_wp2_with fail
  refine HF.out.mono ?_
  rintro e1 w1 ⟨rfl, hp⟩
  obtain ⟨cs1, hr, hrest, hk⟩ := hp.of_kept
  obtain ⟨A1, c1, k0, k1, k2, f1, f2, -, -⟩ := hr.cells
  have HR := Lib.hid hr
  have HRest := Lib.hid hrest
  have HK := Aside0.mk hk
  clear hp hr hrest hk HF k0
  by_cases ce : e2 = 0
  · subst ce
    obtain ⟨cs2, hr2, hrest2, hk2⟩ := HR.out.storeA (a + m) (by omega)
    rw [show ((a + m : Nat) : Int) = (a : Int) + m by omega] at hr2 hk2
    have HR2 := Lib.hid hr2
    have HRest2 := Lib.hid hrest2
    have HK2 := Aside0.mk hk2
    clear b1 b4 hr2 hrest2 hk2 hdd
    go_wp2_with fail
    refine (custodyref05_Unfolded.calls _ _ _ HU.out).mono ?_
    rintro e1 w2 ⟨rfl, ⟨k, rfl⟩⟩
    go_wp2
    go_ret
    exact ⟨rfl, a + m, rfl, ⟨cs2, HR2.out.drawn rfl (pw_below_drewN (Below.refl _ _) k), HRest.out.trans HRest2.out⟩, (HK.out.then_ HK2.out (fun _ h => .inl h)).drewN k⟩
  · obtain ⟨rfl, rfl⟩ := b4 ce
    have be : (e2 == 0) = false := by simp [ce]
    clear b1 b2 b3 b4
    go_wp2
    go_ret
    exact ⟨rfl, a + 0, rfl, ⟨cs1, HR.out, HRest.out⟩, HK.out⟩

theorem sums2 (a m x : Nat) (h : a + m + x ≤ 140737488351232) : ((a + m : Nat) : Int) = wrap64 ((a : Int) + m) ∧ wrap64 ((a : Int) + m) + (x : Int) = wrap64 (wrap64 ((a : Int) + m) + wrap64 (x : Int)) := by
  have e1 : wrap64 ((a : Int) + m) = (a : Int) + m := wrap64_id (by omega) (by omega)
  have e2 : wrap64 (x : Int) = (x : Int) := wrap64_id (by omega) (by omega)
  have e3 : wrap64 ((a : Int) + m + x) = (a : Int) + m + x := wrap64_id (by omega) (by omega)
  rw [e1, e2, e3]
  exact ⟨by omega, rfl⟩
theorem text_of (w : World) (A : Option Addr) (c : Nat) (l : List Int) (m k : Nat) (hm : m + k ≤ l.length) (hc : l.length ≤ c) (hC : (Kd.int .u8).C w A l.length l) :
    ∃ A2 c2, (∀ W : World, (Instr.slice 29 (.slice A l.length c) (some (.int .i64 (m : Int))) (some (.int .i64 ((m : Int) + (k : Int)))) none).run Tryd.prog W = .ok (.slice A2 k c2) W) ∧
      (convert 29 9 (.slice A2 k c2)).run Tryd.prog w = .ok (.string (strOfNums ((l.drop m).take k))) w := by
  obtain ⟨A2, h4, h5⟩ := mid_text A c l m k hm hc
  exact ⟨A2, _, h4, h5 w hC⟩
set_option maxHeartbeats 4000000 in
set_option maxRecDepth 100000 in
theorem RefText (w0 w : World) (g off : Nat) (cs : Array Value) (b : List Int) (a : Nat) (e : Int) (most : Int) (hmo : -9223372036854775808 ≤ most ∧ most ≤ 9223372036854775807) (h : Rf w0 w g off cs b a e) (hb : Byt b) (hl : b.length ≤ 140737488351232) :
    Calls Tryd.prog 69 #[.pointer (some ⟨g, off, none⟩), .int .i64 most] w fun e1 w' => e1 = .returned (.string (stT most.toNat (b.drop a) e).1) ∧ MovePost w0 w g off cs b (stT most.toNat (b.drop a) e).2.1 (stT most.toNat (b.drop a) e).2.2 w' := by
  have hf := form_calls w0 w g off cs b a e h hb hl
  obtain ⟨b1, b2, b3, b4⟩ := pk_bounds (hb.drop a) e
  have ha := h.2.2.2.1
  rw [List.length_drop] at b2
  unfold stT
  have hdd : ∀ m, (b.drop a).drop m = b.drop (a + m) := fun m => List.drop_drop
  have hd0 : (b.drop a).take 0 = [] := List.take_zero
  generalize pk (b.drop a) e = q at *
  obtain ⟨x, m, e2⟩ := q
  dsimp only at *
  rw [hdd, hdd, List.length_drop]
  obtain ⟨mx, hmx⟩ : ∃ mx : Nat, most.toNat = mx := ⟨_, rfl⟩
  rw [hmx]
  obtain ⟨r, hr⟩ : ∃ r, (if mx < x then (⟨#[]⟩, b.drop a, 5) else if b.length - a - m < x then (⟨#[]⟩, b.drop a, 2) else (strOfNums ((b.drop (a + m)).take x), b.drop (a + (m + x)), e2)) = r := ⟨_, rfl⟩
  rw [hr]
  have HRr := Lib.hid hr
  have HF := Lib.hid hf
  clear hf h hb hr
  go_enter Tryd.func69, Tryd.ntmps69
  go_wp2_with fail
  refine HF.out.mono ?_
  rintro e1 w1 ⟨rfl, hp⟩
  obtain ⟨cs1, hr, hrest, hk⟩ := hp.of_kept
  obtain ⟨A1, c1, k0, k1, k2, f1, f2, hc1, hC1⟩ := hr.cells
  have HR := Lib.hid hr
  have HRest := Lib.hid hrest
  have HK := Aside0.mk hk
  have HC1 := Aside0.mk hC1
  clear hp hr hrest hk HF hC1
  by_cases ce : e2 = 0
  · subst ce
    by_cases cm : mx < x
    · have hxx : decide ((mx : Int) < x) = true := by simp; omega
      obtain ⟨cs2, hr2, hrest2, hk2⟩ := HR.out.storeE 5
      have HR2 := Lib.hid hr2
      have HRest2 := Lib.hid hrest2
      have HK2 := Aside0.mk hk2
      have hr := HRr.out
      rw [if_pos cm] at hr
      clear b1 b2 b3 b4 hr2 hrest2 hk2 hdd hd0
      by_cases cn : most < 0
      · have bn : decide (most < 0) = true := by simp [cn]
        obtain rfl : mx = 0 := by omega
        clear hmx
        go_wp2
        go_ret
        subst hr
        exact ⟨rfl, a, rfl, ⟨cs2, HR2.out, HRest.out.trans HRest2.out⟩, HK.out.then_ HK2.out (fun _ h => .inl h)⟩
      · have bn : decide (most < 0) = false := by simp; omega
        obtain rfl : most = (mx : Int) := by omega
        clear hmx
        go_wp2
        go_ret
        subst hr
        exact ⟨rfl, a, rfl, ⟨cs2, HR2.out, HRest.out.trans HRest2.out⟩, HK.out.then_ HK2.out (fun _ h => .inl h)⟩
    · have hxx : decide ((mx : Int) < x) = false := by simp; omega
      have hr := HRr.out
      rw [if_neg cm] at hr
      obtain ⟨n, hn⟩ : ∃ n, b.length = n := ⟨_, rfl⟩
      have HN := Lib.hid hn
      by_cases cl : b.length - a - m < x
      · rw [if_pos cl] at hr
        rw [hn] at k0 b2 ha cl hc1
        have e1 : wrap64 ((n : Int) - a) = (n : Int) - a := wrap64_id (by omega) (by omega)
        have e2 : wrap64 ((n : Int) - a - m) = (n : Int) - a - m := wrap64_id (by omega) (by omega)
        have hq : decide (IntKind.u64.wrap (wrap64 (wrap64 ((n : Int) - a) - m)) < (x : Int)) = true := by rw [e1, e2, u64_wrap]; exact decide_eq_true (by omega)
        clear e1 e2 hn hl hdd hd0 b4 cl
        by_cases cn : most < 0
        · have bn : decide (most < 0) = true := by simp [cn]
          obtain rfl : mx = 0 := by omega
          clear hmx
          go_wp2_with fail
          refine start_ (n := 15) (S := fun w' => w'.cell? ⟨g, off, none⟩ = some (.slice A1 n c1) ∧ w'.cell? ⟨g, off + 1, none⟩ = some (.int .i64 a)) (ds := []) #[false, false, false, false, false, false, false, false, false, false, false, false, false, false, false] (by kernel_rfl) rfl rfl ⟨k0, k1⟩ (fun hHeld => ?_)
          refine pure_ (i := 0) (N := some 27) (v := ?_) (a' := ?_) #[true, false, false, false, false, false, false, false, false, false, false, false, false, false, false] rfl rfl (by kernel_rfl) (fun _ _ _ h => h) (Or.inl ⟨by rfl, ?_⟩) ?_ ?_
          rotate_left
          · intro w'
            go_simp
            with_reducible rfl
          rotate_left
          · simp only [Act.put, List.setIfInBounds_toArray, List.set_cons_zero, List.set_cons_succ, i64_w, i32_w]
            rfl
          refine pure_ (i := 1) (N := some 28) (v := ?_) (a' := ?_) #[true, true, false, false, false, false, false, false, false, false, false, false, false, false, false] rfl rfl (by kernel_rfl) (fun _ _ _ h => h) (Or.inl ⟨by rfl, ?_⟩) ?_ ?_
          rotate_left
          · intro w'
            go_simp
            with_reducible rfl
          rotate_left
          · simp only [Act.put, List.setIfInBounds_toArray, List.set_cons_zero, List.set_cons_succ, i64_w, i32_w]
            rfl
          refine pure_ (i := 2) (N := some 29) (v := ?_) (a' := ?_) #[true, true, true, false, false, false, false, false, false, false, false, false, false, false, false] rfl rfl (by kernel_rfl) (fun _ _ _ h => h) (Or.inl ⟨by rfl, ?_⟩) ?_ ?_
          rotate_left
          · intro w'
            go_simp
            with_reducible rfl
          rotate_left
          · simp only [Act.put, List.setIfInBounds_toArray, List.set_cons_zero, List.set_cons_succ, i64_w, i32_w]
            rfl
          refine pure_ (i := 3) (N := some 30) (v := ?_) (a' := ?_) #[true, true, true, true, false, false, false, false, false, false, false, false, false, false, false] rfl rfl (by kernel_rfl) (fun _ _ _ h => h) (Or.inl ⟨by rfl, ?_⟩) ?_ ?_
          rotate_left
          · intro w'
            go_simp
            with_reducible rfl
          rotate_left
          · simp only [Act.put, List.setIfInBounds_toArray, List.set_cons_zero, List.set_cons_succ, i64_w, i32_w]
            rfl
          refine pure_ (i := 6) (N := some 33) (v := ?_) (a' := ?_) #[true, true, true, true, false, false, true, false, false, false, false, false, false, false, false] rfl rfl (by kernel_rfl) (fun _ _ _ h => h) (Or.inl ⟨by rfl, ?_⟩) ?_ ?_
          rotate_left
          · intro w'
            go_simp
            with_reducible rfl
          rotate_left
          · simp only [Act.put, List.setIfInBounds_toArray, List.set_cons_zero, List.set_cons_succ, i64_w, i32_w]
            rfl
          refine pure_ (i := 7) (N := some 34) (v := ?_) (a' := ?_) #[true, true, true, true, false, false, true, true, false, false, false, false, false, false, false] rfl rfl (by kernel_rfl) (fun _ _ _ h => h) (Or.inl ⟨by rfl, ?_⟩) ?_ ?_
          rotate_left
          · intro w'
            go_simp
            with_reducible rfl
          rotate_left
          · simp only [Act.put, List.setIfInBounds_toArray, List.set_cons_zero, List.set_cons_succ, i64_w, i32_w]
            rfl
          refine pure_ (i := 8) (N := some 35) (v := ?_) (a' := ?_) #[true, true, true, true, false, false, true, true, true, false, false, false, false, false, false] rfl rfl (by kernel_rfl) (fun _ _ _ h => h) (Or.inl ⟨by rfl, ?_⟩) ?_ ?_
          rotate_left
          · intro w'
            go_simp
            with_reducible rfl
          rotate_left
          · simp only [Act.put, List.setIfInBounds_toArray, List.set_cons_zero, List.set_cons_succ, i64_w, i32_w]
            rfl
          refine pure_ (i := 11) (N := some 38) (v := ?_) (a' := ?_) #[true, true, true, true, false, false, true, true, true, false, false, true, false, false, false] rfl rfl (by kernel_rfl) (fun _ _ _ h => h) (Or.inl ⟨by rfl, ?_⟩) ?_ ?_
          rotate_left
          · intro w'
            go_simp
            with_reducible rfl
          rotate_left
          · simp only [Act.put, List.setIfInBounds_toArray, List.set_cons_zero, List.set_cons_succ, i64_w, i32_w]
            rfl
          refine take_ (i := 4) (N := some 31) (v := ?_) (a' := ?_) #[true, true, true, true, true, false, true, true, true, false, false, true, false, false, false] rfl rfl (by kernel_rfl) (fun _ _ _ h => h) (Or.inl ⟨by rfl, ?_⟩) hHeld ?_ ?_
          rotate_left
          · rintro w' ⟨s0, s1⟩
            go_simp
            with_reducible rfl
          rotate_left
          · simp only [Act.put, List.setIfInBounds_toArray, List.set_cons_zero, List.set_cons_succ, i64_w, i32_w]
            rfl
          refine pure_ (i := 5) (N := some 32) (v := ?_) (a' := ?_) #[true, true, true, true, true, true, true, true, true, false, false, true, false, false, false] rfl rfl (by kernel_rfl) (fun _ _ _ h => h) (Or.inl ⟨by rfl, ?_⟩) ?_ ?_
          rotate_left
          · intro w'
            go_simp
            with_reducible rfl
          rotate_left
          · simp only [Act.put, List.setIfInBounds_toArray, List.set_cons_zero, List.set_cons_succ, i64_w, i32_w]
            rfl
          refine take_ (i := 9) (N := some 36) (v := ?_) (a' := ?_) #[true, true, true, true, true, true, true, true, true, true, false, true, false, false, false] rfl rfl (by kernel_rfl) (fun _ _ _ h => h) (Or.inl ⟨by rfl, ?_⟩) hHeld ?_ ?_
          rotate_left
          · rintro w' ⟨s0, s1⟩
            go_simp
            with_reducible rfl
          rotate_left
          · simp only [Act.put, List.setIfInBounds_toArray, List.set_cons_zero, List.set_cons_succ, i64_w, i32_w]
            rfl
          refine pure_ (i := 10) (N := some 37) (v := ?_) (a' := ?_) #[true, true, true, true, true, true, true, true, true, true, true, true, false, false, false] rfl rfl (by kernel_rfl) (fun _ _ _ h => h) (Or.inl ⟨by rfl, ?_⟩) ?_ ?_
          rotate_left
          · intro w'
            go_simp
            with_reducible rfl
          rotate_left
          · simp only [Act.put, List.setIfInBounds_toArray, List.set_cons_zero, List.set_cons_succ, i64_w, i32_w]
            rfl
          refine pure_ (i := 12) (N := some 39) (v := ?_) (a' := ?_) #[true, true, true, true, true, true, true, true, true, true, true, true, true, false, false] rfl rfl (by kernel_rfl) (fun _ _ _ h => h) (Or.inl ⟨by rfl, ?_⟩) ?_ ?_
          rotate_left
          · intro w'
            go_simp
            with_reducible rfl
          rotate_left
          · simp only [Act.put, List.setIfInBounds_toArray, List.set_cons_zero, List.set_cons_succ, i64_w, i32_w]
            rfl
          refine pure_ (i := 13) (N := some 40) (v := ?_) (a' := ?_) #[true, true, true, true, true, true, true, true, true, true, true, true, true, true, false] rfl rfl (by kernel_rfl) (fun _ _ _ h => h) (Or.inl ⟨by rfl, ?_⟩) ?_ ?_
          rotate_left
          · intro w'
            go_simp
            with_reducible rfl
          rotate_left
          · simp only [Act.put, List.setIfInBounds_toArray, List.set_cons_zero, List.set_cons_succ, i64_w, i32_w]
            rfl
          refine pure_ (i := 14) (N := some 41) (v := ?_) (a' := ?_) #[true, true, true, true, true, true, true, true, true, true, true, true, true, true, true] rfl rfl (by kernel_rfl) (fun _ _ _ h => h) (Or.inl ⟨by rfl, ?_⟩) ?_ ?_
          rotate_left
          · intro w'
            go_simp
            with_reducible rfl
          rotate_left
          · simp only [Act.put, List.setIfInBounds_toArray, List.set_cons_zero, List.set_cons_succ, i64_w, i32_w]
            rfl
          refine done_ (by kernel_rfl) ?_
          have k2b : w1.drew.cell? ⟨g, off + 2, none⟩ = some (.int .i64 0) := k2
          have f2b : w1.drew.frozen? ⟨g, off + 2, none⟩ = false := f2
          obtain ⟨cs2, hr2, hrest2, hk2⟩ := (HR.out.drawn (w' := w1.drew) rfl (below_drew (Below.refl _ _))).storeE 2
          have HR2 := Lib.hid hr2
          have HRest2 := Lib.hid hrest2
          have HK2 := Aside0.mk (Kept.then_ ((Kept.refl w1 (fun k => k = g)).drewN 1) hk2 (fun _ h => .inl h))
          clear hr2 hrest2 hk2 k0 k1 k2 f1 f2
          go_wp2
          go_ret
          subst hr
          exact ⟨rfl, a, rfl, ⟨cs2, HR2.out, HRest.out.trans HRest2.out⟩, HK.out.then_ HK2.out (fun _ h => .inl h)⟩
        · have bn : decide (most < 0) = false := by simp; omega
          obtain rfl : most = (mx : Int) := by omega
          clear hmx
          go_wp2_with fail
          refine start_ (n := 15) (S := fun w' => w'.cell? ⟨g, off, none⟩ = some (.slice A1 n c1) ∧ w'.cell? ⟨g, off + 1, none⟩ = some (.int .i64 a)) (ds := []) #[false, false, false, false, false, false, false, false, false, false, false, false, false, false, false] (by kernel_rfl) rfl rfl ⟨k0, k1⟩ (fun hHeld => ?_)
          refine pure_ (i := 0) (N := some 27) (v := ?_) (a' := ?_) #[true, false, false, false, false, false, false, false, false, false, false, false, false, false, false] rfl rfl (by kernel_rfl) (fun _ _ _ h => h) (Or.inl ⟨by rfl, ?_⟩) ?_ ?_
          rotate_left
          · intro w'
            go_simp
            with_reducible rfl
          rotate_left
          · simp only [Act.put, List.setIfInBounds_toArray, List.set_cons_zero, List.set_cons_succ, i64_w, i32_w]
            rfl
          refine pure_ (i := 1) (N := some 28) (v := ?_) (a' := ?_) #[true, true, false, false, false, false, false, false, false, false, false, false, false, false, false] rfl rfl (by kernel_rfl) (fun _ _ _ h => h) (Or.inl ⟨by rfl, ?_⟩) ?_ ?_
          rotate_left
          · intro w'
            go_simp
            with_reducible rfl
          rotate_left
          · simp only [Act.put, List.setIfInBounds_toArray, List.set_cons_zero, List.set_cons_succ, i64_w, i32_w]
            rfl
          refine pure_ (i := 2) (N := some 29) (v := ?_) (a' := ?_) #[true, true, true, false, false, false, false, false, false, false, false, false, false, false, false] rfl rfl (by kernel_rfl) (fun _ _ _ h => h) (Or.inl ⟨by rfl, ?_⟩) ?_ ?_
          rotate_left
          · intro w'
            go_simp
            with_reducible rfl
          rotate_left
          · simp only [Act.put, List.setIfInBounds_toArray, List.set_cons_zero, List.set_cons_succ, i64_w, i32_w]
            rfl
          refine pure_ (i := 3) (N := some 30) (v := ?_) (a' := ?_) #[true, true, true, true, false, false, false, false, false, false, false, false, false, false, false] rfl rfl (by kernel_rfl) (fun _ _ _ h => h) (Or.inl ⟨by rfl, ?_⟩) ?_ ?_
          rotate_left
          · intro w'
            go_simp
            with_reducible rfl
          rotate_left
          · simp only [Act.put, List.setIfInBounds_toArray, List.set_cons_zero, List.set_cons_succ, i64_w, i32_w]
            rfl
          refine pure_ (i := 6) (N := some 33) (v := ?_) (a' := ?_) #[true, true, true, true, false, false, true, false, false, false, false, false, false, false, false] rfl rfl (by kernel_rfl) (fun _ _ _ h => h) (Or.inl ⟨by rfl, ?_⟩) ?_ ?_
          rotate_left
          · intro w'
            go_simp
            with_reducible rfl
          rotate_left
          · simp only [Act.put, List.setIfInBounds_toArray, List.set_cons_zero, List.set_cons_succ, i64_w, i32_w]
            rfl
          refine pure_ (i := 7) (N := some 34) (v := ?_) (a' := ?_) #[true, true, true, true, false, false, true, true, false, false, false, false, false, false, false] rfl rfl (by kernel_rfl) (fun _ _ _ h => h) (Or.inl ⟨by rfl, ?_⟩) ?_ ?_
          rotate_left
          · intro w'
            go_simp
            with_reducible rfl
          rotate_left
          · simp only [Act.put, List.setIfInBounds_toArray, List.set_cons_zero, List.set_cons_succ, i64_w, i32_w]
            rfl
          refine pure_ (i := 8) (N := some 35) (v := ?_) (a' := ?_) #[true, true, true, true, false, false, true, true, true, false, false, false, false, false, false] rfl rfl (by kernel_rfl) (fun _ _ _ h => h) (Or.inl ⟨by rfl, ?_⟩) ?_ ?_
          rotate_left
          · intro w'
            go_simp
            with_reducible rfl
          rotate_left
          · simp only [Act.put, List.setIfInBounds_toArray, List.set_cons_zero, List.set_cons_succ, i64_w, i32_w]
            rfl
          refine pure_ (i := 11) (N := some 38) (v := ?_) (a' := ?_) #[true, true, true, true, false, false, true, true, true, false, false, true, false, false, false] rfl rfl (by kernel_rfl) (fun _ _ _ h => h) (Or.inl ⟨by rfl, ?_⟩) ?_ ?_
          rotate_left
          · intro w'
            go_simp
            with_reducible rfl
          rotate_left
          · simp only [Act.put, List.setIfInBounds_toArray, List.set_cons_zero, List.set_cons_succ, i64_w, i32_w]
            rfl
          refine take_ (i := 4) (N := some 31) (v := ?_) (a' := ?_) #[true, true, true, true, true, false, true, true, true, false, false, true, false, false, false] rfl rfl (by kernel_rfl) (fun _ _ _ h => h) (Or.inl ⟨by rfl, ?_⟩) hHeld ?_ ?_
          rotate_left
          · rintro w' ⟨s0, s1⟩
            go_simp
            with_reducible rfl
          rotate_left
          · simp only [Act.put, List.setIfInBounds_toArray, List.set_cons_zero, List.set_cons_succ, i64_w, i32_w]
            rfl
          refine pure_ (i := 5) (N := some 32) (v := ?_) (a' := ?_) #[true, true, true, true, true, true, true, true, true, false, false, true, false, false, false] rfl rfl (by kernel_rfl) (fun _ _ _ h => h) (Or.inl ⟨by rfl, ?_⟩) ?_ ?_
          rotate_left
          · intro w'
            go_simp
            with_reducible rfl
          rotate_left
          · simp only [Act.put, List.setIfInBounds_toArray, List.set_cons_zero, List.set_cons_succ, i64_w, i32_w]
            rfl
          refine take_ (i := 9) (N := some 36) (v := ?_) (a' := ?_) #[true, true, true, true, true, true, true, true, true, true, false, true, false, false, false] rfl rfl (by kernel_rfl) (fun _ _ _ h => h) (Or.inl ⟨by rfl, ?_⟩) hHeld ?_ ?_
          rotate_left
          · rintro w' ⟨s0, s1⟩
            go_simp
            with_reducible rfl
          rotate_left
          · simp only [Act.put, List.setIfInBounds_toArray, List.set_cons_zero, List.set_cons_succ, i64_w, i32_w]
            rfl
          refine pure_ (i := 10) (N := some 37) (v := ?_) (a' := ?_) #[true, true, true, true, true, true, true, true, true, true, true, true, false, false, false] rfl rfl (by kernel_rfl) (fun _ _ _ h => h) (Or.inl ⟨by rfl, ?_⟩) ?_ ?_
          rotate_left
          · intro w'
            go_simp
            with_reducible rfl
          rotate_left
          · simp only [Act.put, List.setIfInBounds_toArray, List.set_cons_zero, List.set_cons_succ, i64_w, i32_w]
            rfl
          refine pure_ (i := 12) (N := some 39) (v := ?_) (a' := ?_) #[true, true, true, true, true, true, true, true, true, true, true, true, true, false, false] rfl rfl (by kernel_rfl) (fun _ _ _ h => h) (Or.inl ⟨by rfl, ?_⟩) ?_ ?_
          rotate_left
          · intro w'
            go_simp
            with_reducible rfl
          rotate_left
          · simp only [Act.put, List.setIfInBounds_toArray, List.set_cons_zero, List.set_cons_succ, i64_w, i32_w]
            rfl
          refine pure_ (i := 13) (N := some 40) (v := ?_) (a' := ?_) #[true, true, true, true, true, true, true, true, true, true, true, true, true, true, false] rfl rfl (by kernel_rfl) (fun _ _ _ h => h) (Or.inl ⟨by rfl, ?_⟩) ?_ ?_
          rotate_left
          · intro w'
            go_simp
            with_reducible rfl
          rotate_left
          · simp only [Act.put, List.setIfInBounds_toArray, List.set_cons_zero, List.set_cons_succ, i64_w, i32_w]
            rfl
          refine pure_ (i := 14) (N := some 41) (v := ?_) (a' := ?_) #[true, true, true, true, true, true, true, true, true, true, true, true, true, true, true] rfl rfl (by kernel_rfl) (fun _ _ _ h => h) (Or.inl ⟨by rfl, ?_⟩) ?_ ?_
          rotate_left
          · intro w'
            go_simp
            with_reducible rfl
          rotate_left
          · simp only [Act.put, List.setIfInBounds_toArray, List.set_cons_zero, List.set_cons_succ, i64_w, i32_w]
            rfl
          refine done_ (by kernel_rfl) ?_
          have k2b : w1.drew.cell? ⟨g, off + 2, none⟩ = some (.int .i64 0) := k2
          have f2b : w1.drew.frozen? ⟨g, off + 2, none⟩ = false := f2
          obtain ⟨cs2, hr2, hrest2, hk2⟩ := (HR.out.drawn (w' := w1.drew) rfl (below_drew (Below.refl _ _))).storeE 2
          have HR2 := Lib.hid hr2
          have HRest2 := Lib.hid hrest2
          have HK2 := Aside0.mk (Kept.then_ ((Kept.refl w1 (fun k => k = g)).drewN 1) hk2 (fun _ h => .inl h))
          clear hr2 hrest2 hk2 k0 k1 k2 f1 f2
          go_wp2
          go_ret
          subst hr
          exact ⟨rfl, a, rfl, ⟨cs2, HR2.out, HRest.out.trans HRest2.out⟩, HK.out.then_ HK2.out (fun _ h => .inl h)⟩
      · rw [if_neg cl] at hr
        have hmx2 : a + m + x ≤ b.length := by omega
        obtain ⟨A2, c2, hsl, -⟩ := text_of w1 A1 c1 b (a + m) x hmx2 hc1 HC1.out
        have hcv : ∀ W : World, W.heap = w1.heap → Below w1.heap.size w1 W → (convert 29 9 (.slice A2 x c2)).run Tryd.prog W = .ok (.string (strOfNums ((b.drop (a + m)).take x))) W := by
          intro W _ hW
          obtain ⟨A2', c2', hsl', hcv'⟩ := text_of W A1 c1 b (a + m) x hmx2 hc1 (Kd.C_below HC1.out hW)
          have h1 := (hsl W).symm.trans (hsl' W)
          simp only [Result.ok.injEq, Value.slice.injEq, and_true, true_and] at h1
          rw [h1.1, h1.2]
          exact hcv'
        have HFin := Aside0.mk (show a + (m + x) ≤ b.length by omega)
        rw [hn] at k0 b2 ha cl hc1 hsl hmx2 hl
        have e1 : wrap64 ((n : Int) - a) = (n : Int) - a := wrap64_id (by omega) (by omega)
        have e2 : wrap64 ((n : Int) - a - m) = (n : Int) - a - m := wrap64_id (by omega) (by omega)
        have hq : decide (IntKind.u64.wrap (wrap64 (wrap64 ((n : Int) - a) - m)) < (x : Int)) = false := by rw [e1, e2, u64_wrap]; exact decide_eq_false (by omega)
        obtain ⟨e3, e4⟩ := sums2 a m x (by omega)
        rw [e3, e4] at hsl
        clear e1 e2 e3 e4 hn hdd hd0 b4 cl hc1
        by_cases cn : most < 0
        · have bn : decide (most < 0) = true := by simp [cn]
          obtain rfl : mx = 0 := by omega
          clear hmx
          go_wp2_with fail
          refine start_ (n := 15) (S := fun w' => w'.cell? ⟨g, off, none⟩ = some (.slice A1 n c1) ∧ w'.cell? ⟨g, off + 1, none⟩ = some (.int .i64 a)) (ds := []) #[false, false, false, false, false, false, false, false, false, false, false, false, false, false, false] (by kernel_rfl) rfl rfl ⟨k0, k1⟩ (fun hHeld => ?_)
          refine pure_ (i := 0) (N := some 27) (v := ?_) (a' := ?_) #[true, false, false, false, false, false, false, false, false, false, false, false, false, false, false] rfl rfl (by kernel_rfl) (fun _ _ _ h => h) (Or.inl ⟨by rfl, ?_⟩) ?_ ?_
          rotate_left
          · intro w'
            go_simp
            with_reducible rfl
          rotate_left
          · simp only [Act.put, List.setIfInBounds_toArray, List.set_cons_zero, List.set_cons_succ, i64_w, i32_w]
            rfl
          refine pure_ (i := 1) (N := some 28) (v := ?_) (a' := ?_) #[true, true, false, false, false, false, false, false, false, false, false, false, false, false, false] rfl rfl (by kernel_rfl) (fun _ _ _ h => h) (Or.inl ⟨by rfl, ?_⟩) ?_ ?_
          rotate_left
          · intro w'
            go_simp
            with_reducible rfl
          rotate_left
          · simp only [Act.put, List.setIfInBounds_toArray, List.set_cons_zero, List.set_cons_succ, i64_w, i32_w]
            rfl
          refine pure_ (i := 2) (N := some 29) (v := ?_) (a' := ?_) #[true, true, true, false, false, false, false, false, false, false, false, false, false, false, false] rfl rfl (by kernel_rfl) (fun _ _ _ h => h) (Or.inl ⟨by rfl, ?_⟩) ?_ ?_
          rotate_left
          · intro w'
            go_simp
            with_reducible rfl
          rotate_left
          · simp only [Act.put, List.setIfInBounds_toArray, List.set_cons_zero, List.set_cons_succ, i64_w, i32_w]
            rfl
          refine pure_ (i := 3) (N := some 30) (v := ?_) (a' := ?_) #[true, true, true, true, false, false, false, false, false, false, false, false, false, false, false] rfl rfl (by kernel_rfl) (fun _ _ _ h => h) (Or.inl ⟨by rfl, ?_⟩) ?_ ?_
          rotate_left
          · intro w'
            go_simp
            with_reducible rfl
          rotate_left
          · simp only [Act.put, List.setIfInBounds_toArray, List.set_cons_zero, List.set_cons_succ, i64_w, i32_w]
            rfl
          refine pure_ (i := 6) (N := some 33) (v := ?_) (a' := ?_) #[true, true, true, true, false, false, true, false, false, false, false, false, false, false, false] rfl rfl (by kernel_rfl) (fun _ _ _ h => h) (Or.inl ⟨by rfl, ?_⟩) ?_ ?_
          rotate_left
          · intro w'
            go_simp
            with_reducible rfl
          rotate_left
          · simp only [Act.put, List.setIfInBounds_toArray, List.set_cons_zero, List.set_cons_succ, i64_w, i32_w]
            rfl
          refine pure_ (i := 7) (N := some 34) (v := ?_) (a' := ?_) #[true, true, true, true, false, false, true, true, false, false, false, false, false, false, false] rfl rfl (by kernel_rfl) (fun _ _ _ h => h) (Or.inl ⟨by rfl, ?_⟩) ?_ ?_
          rotate_left
          · intro w'
            go_simp
            with_reducible rfl
          rotate_left
          · simp only [Act.put, List.setIfInBounds_toArray, List.set_cons_zero, List.set_cons_succ, i64_w, i32_w]
            rfl
          refine pure_ (i := 8) (N := some 35) (v := ?_) (a' := ?_) #[true, true, true, true, false, false, true, true, true, false, false, false, false, false, false] rfl rfl (by kernel_rfl) (fun _ _ _ h => h) (Or.inl ⟨by rfl, ?_⟩) ?_ ?_
          rotate_left
          · intro w'
            go_simp
            with_reducible rfl
          rotate_left
          · simp only [Act.put, List.setIfInBounds_toArray, List.set_cons_zero, List.set_cons_succ, i64_w, i32_w]
            rfl
          refine pure_ (i := 11) (N := some 38) (v := ?_) (a' := ?_) #[true, true, true, true, false, false, true, true, true, false, false, true, false, false, false] rfl rfl (by kernel_rfl) (fun _ _ _ h => h) (Or.inl ⟨by rfl, ?_⟩) ?_ ?_
          rotate_left
          · intro w'
            go_simp
            with_reducible rfl
          rotate_left
          · simp only [Act.put, List.setIfInBounds_toArray, List.set_cons_zero, List.set_cons_succ, i64_w, i32_w]
            rfl
          refine take_ (i := 4) (N := some 31) (v := ?_) (a' := ?_) #[true, true, true, true, true, false, true, true, true, false, false, true, false, false, false] rfl rfl (by kernel_rfl) (fun _ _ _ h => h) (Or.inl ⟨by rfl, ?_⟩) hHeld ?_ ?_
          rotate_left
          · rintro w' ⟨s0, s1⟩
            go_simp
            with_reducible rfl
          rotate_left
          · simp only [Act.put, List.setIfInBounds_toArray, List.set_cons_zero, List.set_cons_succ, i64_w, i32_w]
            rfl
          refine pure_ (i := 5) (N := some 32) (v := ?_) (a' := ?_) #[true, true, true, true, true, true, true, true, true, false, false, true, false, false, false] rfl rfl (by kernel_rfl) (fun _ _ _ h => h) (Or.inl ⟨by rfl, ?_⟩) ?_ ?_
          rotate_left
          · intro w'
            go_simp
            with_reducible rfl
          rotate_left
          · simp only [Act.put, List.setIfInBounds_toArray, List.set_cons_zero, List.set_cons_succ, i64_w, i32_w]
            rfl
          refine take_ (i := 9) (N := some 36) (v := ?_) (a' := ?_) #[true, true, true, true, true, true, true, true, true, true, false, true, false, false, false] rfl rfl (by kernel_rfl) (fun _ _ _ h => h) (Or.inl ⟨by rfl, ?_⟩) hHeld ?_ ?_
          rotate_left
          · rintro w' ⟨s0, s1⟩
            go_simp
            with_reducible rfl
          rotate_left
          · simp only [Act.put, List.setIfInBounds_toArray, List.set_cons_zero, List.set_cons_succ, i64_w, i32_w]
            rfl
          refine pure_ (i := 10) (N := some 37) (v := ?_) (a' := ?_) #[true, true, true, true, true, true, true, true, true, true, true, true, false, false, false] rfl rfl (by kernel_rfl) (fun _ _ _ h => h) (Or.inl ⟨by rfl, ?_⟩) ?_ ?_
          rotate_left
          · intro w'
            go_simp
            with_reducible rfl
          rotate_left
          · simp only [Act.put, List.setIfInBounds_toArray, List.set_cons_zero, List.set_cons_succ, i64_w, i32_w]
            rfl
          refine pure_ (i := 12) (N := some 39) (v := ?_) (a' := ?_) #[true, true, true, true, true, true, true, true, true, true, true, true, true, false, false] rfl rfl (by kernel_rfl) (fun _ _ _ h => h) (Or.inl ⟨by rfl, ?_⟩) ?_ ?_
          rotate_left
          · intro w'
            go_simp
            with_reducible rfl
          rotate_left
          · simp only [Act.put, List.setIfInBounds_toArray, List.set_cons_zero, List.set_cons_succ, i64_w, i32_w]
            rfl
          refine pure_ (i := 13) (N := some 40) (v := ?_) (a' := ?_) #[true, true, true, true, true, true, true, true, true, true, true, true, true, true, false] rfl rfl (by kernel_rfl) (fun _ _ _ h => h) (Or.inl ⟨by rfl, ?_⟩) ?_ ?_
          rotate_left
          · intro w'
            go_simp
            with_reducible rfl
          rotate_left
          · simp only [Act.put, List.setIfInBounds_toArray, List.set_cons_zero, List.set_cons_succ, i64_w, i32_w]
            rfl
          refine pure_ (i := 14) (N := some 41) (v := ?_) (a' := ?_) #[true, true, true, true, true, true, true, true, true, true, true, true, true, true, true] rfl rfl (by kernel_rfl) (fun _ _ _ h => h) (Or.inl ⟨by rfl, ?_⟩) ?_ ?_
          rotate_left
          · intro w'
            go_simp
            with_reducible rfl
          rotate_left
          · simp only [Act.put, List.setIfInBounds_toArray, List.set_cons_zero, List.set_cons_succ, i64_w, i32_w]
            rfl
          refine done_ (by kernel_rfl) ?_
          have k0b : w1.drew.cell? ⟨g, off, none⟩ = some (.slice A1 n c1) := k0
          have k1b : w1.drew.cell? ⟨g, off + 1, none⟩ = some (.int .i64 a) := k1
          have hcv2 : (convert 29 9 (.slice A2 x c2)).run Tryd.prog w1.drew.drew = .ok (.string (strOfNums ((b.drop (a + m)).take x))) w1.drew.drew := hcv w1.drew.drew rfl (below_drew (below_drew (Below.refl _ _)))
          have HRb := Lib.hid (HR.out.drawn (w' := w1.drew.drew) rfl (below_drew (below_drew (Below.refl _ _))))
          have HKb := Aside0.mk (show Kept w1 w1.drew.drew (fun k => k = g) from ((Kept.refl w1 (fun k => k = g)).drewN 1).drewN 1)
          have k1c : w1.drew.drew.cell? ⟨g, off + 1, none⟩ = some (.int .i64 a) := k1
          have f1c : w1.drew.drew.frozen? ⟨g, off + 1, none⟩ = false := f1
          clear k0 k1 k2 f1 f2 hcv
          change Exit.then _ _ _ _ w1.drew
          generalize w1.drew = w2 at *
          go_wp2_with fail
          refine start_ (n := 22) (S := fun w' => w'.cell? ⟨g, off, none⟩ = some (.slice A1 n c1) ∧ w'.cell? ⟨g, off + 1, none⟩ = some (.int .i64 a)) (ds := []) #[false, false, false, false, false, false, false, false, false, false, false, false, false, false, false, false, false, false, false, false, false, false] (by kernel_rfl) rfl rfl ⟨k0b, k1b⟩ (fun hHeld => ?_)
          refine pure_ (i := 0) (N := some 45) (v := ?_) (a' := ?_) #[true, false, false, false, false, false, false, false, false, false, false, false, false, false, false, false, false, false, false, false, false, false] rfl rfl (by kernel_rfl) (fun _ _ _ h => h) (Or.inl ⟨by rfl, ?_⟩) ?_ ?_
          rotate_left
          · intro w'
            go_simp
            with_reducible rfl
          rotate_left
          · simp only [Act.put, List.setIfInBounds_toArray, List.set_cons_zero, List.set_cons_succ, i64_w, i32_w]
            rfl
          refine pure_ (i := 1) (N := some 46) (v := ?_) (a' := ?_) #[true, true, false, false, false, false, false, false, false, false, false, false, false, false, false, false, false, false, false, false, false, false] rfl rfl (by kernel_rfl) (fun _ _ _ h => h) (Or.inl ⟨by rfl, ?_⟩) ?_ ?_
          rotate_left
          · intro w'
            go_simp
            with_reducible rfl
          rotate_left
          · simp only [Act.put, List.setIfInBounds_toArray, List.set_cons_zero, List.set_cons_succ, i64_w, i32_w]
            rfl
          refine pure_ (i := 2) (N := some 47) (v := ?_) (a' := ?_) #[true, true, true, false, false, false, false, false, false, false, false, false, false, false, false, false, false, false, false, false, false, false] rfl rfl (by kernel_rfl) (fun _ _ _ h => h) (Or.inl ⟨by rfl, ?_⟩) ?_ ?_
          rotate_left
          · intro w'
            go_simp
            with_reducible rfl
          rotate_left
          · simp only [Act.put, List.setIfInBounds_toArray, List.set_cons_zero, List.set_cons_succ, i64_w, i32_w]
            rfl
          refine pure_ (i := 4) (N := some 49) (v := ?_) (a' := ?_) #[true, true, true, false, true, false, false, false, false, false, false, false, false, false, false, false, false, false, false, false, false, false] rfl rfl (by kernel_rfl) (fun _ _ _ h => h) (Or.inl ⟨by rfl, ?_⟩) ?_ ?_
          rotate_left
          · intro w'
            go_simp
            with_reducible rfl
          rotate_left
          · simp only [Act.put, List.setIfInBounds_toArray, List.set_cons_zero, List.set_cons_succ, i64_w, i32_w]
            rfl
          refine pure_ (i := 5) (N := some 50) (v := ?_) (a' := ?_) #[true, true, true, false, true, true, false, false, false, false, false, false, false, false, false, false, false, false, false, false, false, false] rfl rfl (by kernel_rfl) (fun _ _ _ h => h) (Or.inl ⟨by rfl, ?_⟩) ?_ ?_
          rotate_left
          · intro w'
            go_simp
            with_reducible rfl
          rotate_left
          · simp only [Act.put, List.setIfInBounds_toArray, List.set_cons_zero, List.set_cons_succ, i64_w, i32_w]
            rfl
          refine pure_ (i := 6) (N := some 51) (v := ?_) (a' := ?_) #[true, true, true, false, true, true, true, false, false, false, false, false, false, false, false, false, false, false, false, false, false, false] rfl rfl (by kernel_rfl) (fun _ _ _ h => h) (Or.inl ⟨by rfl, ?_⟩) ?_ ?_
          rotate_left
          · intro w'
            go_simp
            with_reducible rfl
          rotate_left
          · simp only [Act.put, List.setIfInBounds_toArray, List.set_cons_zero, List.set_cons_succ, i64_w, i32_w]
            rfl
          refine pure_ (i := 8) (N := some 53) (v := ?_) (a' := ?_) #[true, true, true, false, true, true, true, false, true, false, false, false, false, false, false, false, false, false, false, false, false, false] rfl rfl (by kernel_rfl) (fun _ _ _ h => h) (Or.inl ⟨by rfl, ?_⟩) ?_ ?_
          rotate_left
          · intro w'
            go_simp
            with_reducible rfl
          rotate_left
          · simp only [Act.put, List.setIfInBounds_toArray, List.set_cons_zero, List.set_cons_succ, i64_w, i32_w]
            rfl
          refine pure_ (i := 10) (N := some 55) (v := ?_) (a' := ?_) #[true, true, true, false, true, true, true, false, true, false, true, false, false, false, false, false, false, false, false, false, false, false] rfl rfl (by kernel_rfl) (fun _ _ _ h => h) (Or.inl ⟨by rfl, ?_⟩) ?_ ?_
          rotate_left
          · intro w'
            go_simp
            with_reducible rfl
          rotate_left
          · simp only [Act.put, List.setIfInBounds_toArray, List.set_cons_zero, List.set_cons_succ, i64_w, i32_w]
            rfl
          refine pure_ (i := 11) (N := some 56) (v := ?_) (a' := ?_) #[true, true, true, false, true, true, true, false, true, false, true, true, false, false, false, false, false, false, false, false, false, false] rfl rfl (by kernel_rfl) (fun _ _ _ h => h) (Or.inl ⟨by rfl, ?_⟩) ?_ ?_
          rotate_left
          · intro w'
            go_simp
            with_reducible rfl
          rotate_left
          · simp only [Act.put, List.setIfInBounds_toArray, List.set_cons_zero, List.set_cons_succ, i64_w, i32_w]
            rfl
          refine pure_ (i := 12) (N := some 57) (v := ?_) (a' := ?_) #[true, true, true, false, true, true, true, false, true, false, true, true, true, false, false, false, false, false, false, false, false, false] rfl rfl (by kernel_rfl) (fun _ _ _ h => h) (Or.inl ⟨by rfl, ?_⟩) ?_ ?_
          rotate_left
          · intro w'
            go_simp
            with_reducible rfl
          rotate_left
          · simp only [Act.put, List.setIfInBounds_toArray, List.set_cons_zero, List.set_cons_succ, i64_w, i32_w]
            rfl
          refine pure_ (i := 14) (N := some 59) (v := ?_) (a' := ?_) #[true, true, true, false, true, true, true, false, true, false, true, true, true, false, true, false, false, false, false, false, false, false] rfl rfl (by kernel_rfl) (fun _ _ _ h => h) (Or.inl ⟨by rfl, ?_⟩) ?_ ?_
          rotate_left
          · intro w'
            go_simp
            with_reducible rfl
          rotate_left
          · simp only [Act.put, List.setIfInBounds_toArray, List.set_cons_zero, List.set_cons_succ, i64_w, i32_w]
            rfl
          refine pure_ (i := 16) (N := some 61) (v := ?_) (a' := ?_) #[true, true, true, false, true, true, true, false, true, false, true, true, true, false, true, false, true, false, false, false, false, false] rfl rfl (by kernel_rfl) (fun _ _ _ h => h) (Or.inl ⟨by rfl, ?_⟩) ?_ ?_
          rotate_left
          · intro w'
            go_simp
            with_reducible rfl
          rotate_left
          · simp only [Act.put, List.setIfInBounds_toArray, List.set_cons_zero, List.set_cons_succ, i64_w, i32_w]
            rfl
          refine pure_ (i := 17) (N := some 62) (v := ?_) (a' := ?_) #[true, true, true, false, true, true, true, false, true, false, true, true, true, false, true, false, true, true, false, false, false, false] rfl rfl (by kernel_rfl) (fun _ _ _ h => h) (Or.inl ⟨by rfl, ?_⟩) ?_ ?_
          rotate_left
          · intro w'
            go_simp
            with_reducible rfl
          rotate_left
          · simp only [Act.put, List.setIfInBounds_toArray, List.set_cons_zero, List.set_cons_succ, i64_w, i32_w]
            rfl
          refine take_ (i := 3) (N := some 48) (v := ?_) (a' := ?_) #[true, true, true, true, true, true, true, false, true, false, true, true, true, false, true, false, true, true, false, false, false, false] rfl rfl (by kernel_rfl) (fun _ _ _ h => h) (Or.inl ⟨by rfl, ?_⟩) hHeld ?_ ?_
          rotate_left
          · rintro w' ⟨s0, s1⟩
            go_simp
            with_reducible rfl
          rotate_left
          · simp only [Act.put, List.setIfInBounds_toArray, List.set_cons_zero, List.set_cons_succ, i64_w, i32_w]
            rfl
          refine take_ (i := 7) (N := some 52) (v := ?_) (a' := ?_) #[true, true, true, true, true, true, true, true, true, false, true, true, true, false, true, false, true, true, false, false, false, false] rfl rfl (by kernel_rfl) (fun _ _ _ h => h) (Or.inl ⟨by rfl, ?_⟩) hHeld ?_ ?_
          rotate_left
          · rintro w' ⟨s0, s1⟩
            go_simp
            with_reducible rfl
          rotate_left
          · simp only [Act.put, List.setIfInBounds_toArray, List.set_cons_zero, List.set_cons_succ, i64_w, i32_w]
            rfl
          refine pure_ (i := 9) (N := some 54) (v := ?_) (a' := ?_) #[true, true, true, true, true, true, true, true, true, true, true, true, true, false, true, false, true, true, false, false, false, false] rfl rfl (by kernel_rfl) (fun _ _ _ h => h) (Or.inl ⟨by rfl, ?_⟩) ?_ ?_
          rotate_left
          · intro w'
            go_simp
            with_reducible rfl
          rotate_left
          · simp only [Act.put, List.setIfInBounds_toArray, List.set_cons_zero, List.set_cons_succ, i64_w, i32_w]
            rfl
          refine take_ (i := 13) (N := some 58) (v := ?_) (a' := ?_) #[true, true, true, true, true, true, true, true, true, true, true, true, true, true, true, false, true, true, false, false, false, false] rfl rfl (by kernel_rfl) (fun _ _ _ h => h) (Or.inl ⟨by rfl, ?_⟩) hHeld ?_ ?_
          rotate_left
          · rintro w' ⟨s0, s1⟩
            go_simp
            with_reducible rfl
          rotate_left
          · simp only [Act.put, List.setIfInBounds_toArray, List.set_cons_zero, List.set_cons_succ, i64_w, i32_w]
            rfl
          refine pure_ (i := 15) (N := some 60) (v := ?_) (a' := ?_) #[true, true, true, true, true, true, true, true, true, true, true, true, true, true, true, true, true, true, false, false, false, false] rfl rfl (by kernel_rfl) (fun _ _ _ h => h) (Or.inl ⟨by rfl, ?_⟩) ?_ ?_
          rotate_left
          · intro w'
            go_simp
            with_reducible rfl
          rotate_left
          · simp only [Act.put, List.setIfInBounds_toArray, List.set_cons_zero, List.set_cons_succ, i64_w, i32_w]
            rfl
          refine pure_ (i := 18) (N := some 63) (v := ?_) (a' := ?_) #[true, true, true, true, true, true, true, true, true, true, true, true, true, true, true, true, true, true, true, false, false, false] rfl rfl (by kernel_rfl) (fun _ _ _ h => h) (Or.inl ⟨by rfl, ?_⟩) ?_ ?_
          rotate_left
          · intro w'
            go_simp
            with_reducible rfl
          rotate_left
          · simp only [Act.put, List.setIfInBounds_toArray, List.set_cons_zero, List.set_cons_succ, i64_w, i32_w]
            rfl
          refine pure_ (i := 19) (N := some 64) (v := ?_) (a' := ?_) #[true, true, true, true, true, true, true, true, true, true, true, true, true, true, true, true, true, true, true, true, false, false] rfl rfl (by kernel_rfl) (fun _ _ _ h => h) (Or.inl ⟨by rfl, ?_⟩) ?_ ?_
          rotate_left
          · intro w'
            go_simp
            with_reducible rfl
          rotate_left
          · simp only [Act.put, List.setIfInBounds_toArray, List.set_cons_zero, List.set_cons_succ, i64_w, i32_w]
            rfl
          refine one_ (i := 20) (N := some 65) #[true, true, true, true, true, true, true, true, true, true, true, true, true, true, true, true, true, true, true, true, true, false] rfl rfl (by kernel_rfl) (by decide) (fun K hK => ?_)
          refine value_ (w1 := ?_) (v := ?_) (by rfl) rfl ?_ ?_
          rotate_left 2
          · go_simp
            constructor
            · rfl
            · rfl
          refine hK.out _ _ ⟨k0b, k1b⟩ (fun hHeld => ?_)
          clear hK K
          refine norm_ (a' := ?_) ?_ ?_
          rotate_left
          · show Act.put _ (some 65) _ = _
            simp only [Act.put, List.setIfInBounds_toArray, List.set_cons_zero, List.set_cons_succ, i64_w, i32_w]
            rfl
          refine pure_ (i := 21) (N := some 7) (v := ?_) (a' := ?_) #[true, true, true, true, true, true, true, true, true, true, true, true, true, true, true, true, true, true, true, true, true, true] rfl rfl (by kernel_rfl) (fun _ _ _ h => h) (Or.inl ⟨by rfl, ?_⟩) ?_ ?_
          rotate_left
          · intro w'
            go_simp
            with_reducible rfl
          rotate_left
          · simp only [Act.put, List.setIfInBounds_toArray, List.set_cons_zero, List.set_cons_succ, i64_w, i32_w]
            rfl
          refine done_ (by kernel_rfl) ?_
          clear hsl hcv2 k0b k1b
          obtain ⟨cs2, hr2, hrest2, hk2⟩ := HRb.out.storeA (a + (m + x)) HFin.out
          rw [show ((a + (m + x) : Nat) : Int) = (a : Int) + m + x by omega] at hr2 hk2
          have HR2 := Lib.hid hr2
          have HRest2 := Lib.hid hrest2
          have HK2 := Aside0.mk (Kept.then_ HKb.out hk2 (fun _ h => .inl h))
          clear hr2 hrest2 hk2
          go_wp2
          go_ret
          subst hr
          exact ⟨rfl, a + (m + x), rfl, ⟨cs2, HR2.out, HRest.out.trans HRest2.out⟩, HK.out.then_ HK2.out (fun _ h => .inl h)⟩
        · have bn : decide (most < 0) = false := by simp; omega
          obtain rfl : most = (mx : Int) := by omega
          clear hmx
          go_wp2_with fail
          refine start_ (n := 15) (S := fun w' => w'.cell? ⟨g, off, none⟩ = some (.slice A1 n c1) ∧ w'.cell? ⟨g, off + 1, none⟩ = some (.int .i64 a)) (ds := []) #[false, false, false, false, false, false, false, false, false, false, false, false, false, false, false] (by kernel_rfl) rfl rfl ⟨k0, k1⟩ (fun hHeld => ?_)
          refine pure_ (i := 0) (N := some 27) (v := ?_) (a' := ?_) #[true, false, false, false, false, false, false, false, false, false, false, false, false, false, false] rfl rfl (by kernel_rfl) (fun _ _ _ h => h) (Or.inl ⟨by rfl, ?_⟩) ?_ ?_
          rotate_left
          · intro w'
            go_simp
            with_reducible rfl
          rotate_left
          · simp only [Act.put, List.setIfInBounds_toArray, List.set_cons_zero, List.set_cons_succ, i64_w, i32_w]
            rfl
          refine pure_ (i := 1) (N := some 28) (v := ?_) (a' := ?_) #[true, true, false, false, false, false, false, false, false, false, false, false, false, false, false] rfl rfl (by kernel_rfl) (fun _ _ _ h => h) (Or.inl ⟨by rfl, ?_⟩) ?_ ?_
          rotate_left
          · intro w'
            go_simp
            with_reducible rfl
          rotate_left
          · simp only [Act.put, List.setIfInBounds_toArray, List.set_cons_zero, List.set_cons_succ, i64_w, i32_w]
            rfl
          refine pure_ (i := 2) (N := some 29) (v := ?_) (a' := ?_) #[true, true, true, false, false, false, false, false, false, false, false, false, false, false, false] rfl rfl (by kernel_rfl) (fun _ _ _ h => h) (Or.inl ⟨by rfl, ?_⟩) ?_ ?_
          rotate_left
          · intro w'
            go_simp
            with_reducible rfl
          rotate_left
          · simp only [Act.put, List.setIfInBounds_toArray, List.set_cons_zero, List.set_cons_succ, i64_w, i32_w]
            rfl
          refine pure_ (i := 3) (N := some 30) (v := ?_) (a' := ?_) #[true, true, true, true, false, false, false, false, false, false, false, false, false, false, false] rfl rfl (by kernel_rfl) (fun _ _ _ h => h) (Or.inl ⟨by rfl, ?_⟩) ?_ ?_
          rotate_left
          · intro w'
            go_simp
            with_reducible rfl
          rotate_left
          · simp only [Act.put, List.setIfInBounds_toArray, List.set_cons_zero, List.set_cons_succ, i64_w, i32_w]
            rfl
          refine pure_ (i := 6) (N := some 33) (v := ?_) (a' := ?_) #[true, true, true, true, false, false, true, false, false, false, false, false, false, false, false] rfl rfl (by kernel_rfl) (fun _ _ _ h => h) (Or.inl ⟨by rfl, ?_⟩) ?_ ?_
          rotate_left
          · intro w'
            go_simp
            with_reducible rfl
          rotate_left
          · simp only [Act.put, List.setIfInBounds_toArray, List.set_cons_zero, List.set_cons_succ, i64_w, i32_w]
            rfl
          refine pure_ (i := 7) (N := some 34) (v := ?_) (a' := ?_) #[true, true, true, true, false, false, true, true, false, false, false, false, false, false, false] rfl rfl (by kernel_rfl) (fun _ _ _ h => h) (Or.inl ⟨by rfl, ?_⟩) ?_ ?_
          rotate_left
          · intro w'
            go_simp
            with_reducible rfl
          rotate_left
          · simp only [Act.put, List.setIfInBounds_toArray, List.set_cons_zero, List.set_cons_succ, i64_w, i32_w]
            rfl
          refine pure_ (i := 8) (N := some 35) (v := ?_) (a' := ?_) #[true, true, true, true, false, false, true, true, true, false, false, false, false, false, false] rfl rfl (by kernel_rfl) (fun _ _ _ h => h) (Or.inl ⟨by rfl, ?_⟩) ?_ ?_
          rotate_left
          · intro w'
            go_simp
            with_reducible rfl
          rotate_left
          · simp only [Act.put, List.setIfInBounds_toArray, List.set_cons_zero, List.set_cons_succ, i64_w, i32_w]
            rfl
          refine pure_ (i := 11) (N := some 38) (v := ?_) (a' := ?_) #[true, true, true, true, false, false, true, true, true, false, false, true, false, false, false] rfl rfl (by kernel_rfl) (fun _ _ _ h => h) (Or.inl ⟨by rfl, ?_⟩) ?_ ?_
          rotate_left
          · intro w'
            go_simp
            with_reducible rfl
          rotate_left
          · simp only [Act.put, List.setIfInBounds_toArray, List.set_cons_zero, List.set_cons_succ, i64_w, i32_w]
            rfl
          refine take_ (i := 4) (N := some 31) (v := ?_) (a' := ?_) #[true, true, true, true, true, false, true, true, true, false, false, true, false, false, false] rfl rfl (by kernel_rfl) (fun _ _ _ h => h) (Or.inl ⟨by rfl, ?_⟩) hHeld ?_ ?_
          rotate_left
          · rintro w' ⟨s0, s1⟩
            go_simp
            with_reducible rfl
          rotate_left
          · simp only [Act.put, List.setIfInBounds_toArray, List.set_cons_zero, List.set_cons_succ, i64_w, i32_w]
            rfl
          refine pure_ (i := 5) (N := some 32) (v := ?_) (a' := ?_) #[true, true, true, true, true, true, true, true, true, false, false, true, false, false, false] rfl rfl (by kernel_rfl) (fun _ _ _ h => h) (Or.inl ⟨by rfl, ?_⟩) ?_ ?_
          rotate_left
          · intro w'
            go_simp
            with_reducible rfl
          rotate_left
          · simp only [Act.put, List.setIfInBounds_toArray, List.set_cons_zero, List.set_cons_succ, i64_w, i32_w]
            rfl
          refine take_ (i := 9) (N := some 36) (v := ?_) (a' := ?_) #[true, true, true, true, true, true, true, true, true, true, false, true, false, false, false] rfl rfl (by kernel_rfl) (fun _ _ _ h => h) (Or.inl ⟨by rfl, ?_⟩) hHeld ?_ ?_
          rotate_left
          · rintro w' ⟨s0, s1⟩
            go_simp
            with_reducible rfl
          rotate_left
          · simp only [Act.put, List.setIfInBounds_toArray, List.set_cons_zero, List.set_cons_succ, i64_w, i32_w]
            rfl
          refine pure_ (i := 10) (N := some 37) (v := ?_) (a' := ?_) #[true, true, true, true, true, true, true, true, true, true, true, true, false, false, false] rfl rfl (by kernel_rfl) (fun _ _ _ h => h) (Or.inl ⟨by rfl, ?_⟩) ?_ ?_
          rotate_left
          · intro w'
            go_simp
            with_reducible rfl
          rotate_left
          · simp only [Act.put, List.setIfInBounds_toArray, List.set_cons_zero, List.set_cons_succ, i64_w, i32_w]
            rfl
          refine pure_ (i := 12) (N := some 39) (v := ?_) (a' := ?_) #[true, true, true, true, true, true, true, true, true, true, true, true, true, false, false] rfl rfl (by kernel_rfl) (fun _ _ _ h => h) (Or.inl ⟨by rfl, ?_⟩) ?_ ?_
          rotate_left
          · intro w'
            go_simp
            with_reducible rfl
          rotate_left
          · simp only [Act.put, List.setIfInBounds_toArray, List.set_cons_zero, List.set_cons_succ, i64_w, i32_w]
            rfl
          refine pure_ (i := 13) (N := some 40) (v := ?_) (a' := ?_) #[true, true, true, true, true, true, true, true, true, true, true, true, true, true, false] rfl rfl (by kernel_rfl) (fun _ _ _ h => h) (Or.inl ⟨by rfl, ?_⟩) ?_ ?_
          rotate_left
          · intro w'
            go_simp
            with_reducible rfl
          rotate_left
          · simp only [Act.put, List.setIfInBounds_toArray, List.set_cons_zero, List.set_cons_succ, i64_w, i32_w]
            rfl
          refine pure_ (i := 14) (N := some 41) (v := ?_) (a' := ?_) #[true, true, true, true, true, true, true, true, true, true, true, true, true, true, true] rfl rfl (by kernel_rfl) (fun _ _ _ h => h) (Or.inl ⟨by rfl, ?_⟩) ?_ ?_
          rotate_left
          · intro w'
            go_simp
            with_reducible rfl
          rotate_left
          · simp only [Act.put, List.setIfInBounds_toArray, List.set_cons_zero, List.set_cons_succ, i64_w, i32_w]
            rfl
          refine done_ (by kernel_rfl) ?_
          have k0b : w1.drew.cell? ⟨g, off, none⟩ = some (.slice A1 n c1) := k0
          have k1b : w1.drew.cell? ⟨g, off + 1, none⟩ = some (.int .i64 a) := k1
          have hcv2 : (convert 29 9 (.slice A2 x c2)).run Tryd.prog w1.drew.drew = .ok (.string (strOfNums ((b.drop (a + m)).take x))) w1.drew.drew := hcv w1.drew.drew rfl (below_drew (below_drew (Below.refl _ _)))
          have HRb := Lib.hid (HR.out.drawn (w' := w1.drew.drew) rfl (below_drew (below_drew (Below.refl _ _))))
          have HKb := Aside0.mk (show Kept w1 w1.drew.drew (fun k => k = g) from ((Kept.refl w1 (fun k => k = g)).drewN 1).drewN 1)
          have k1c : w1.drew.drew.cell? ⟨g, off + 1, none⟩ = some (.int .i64 a) := k1
          have f1c : w1.drew.drew.frozen? ⟨g, off + 1, none⟩ = false := f1
          clear k0 k1 k2 f1 f2 hcv
          change Exit.then _ _ _ _ w1.drew
          generalize w1.drew = w2 at *
          go_wp2_with fail
          refine start_ (n := 22) (S := fun w' => w'.cell? ⟨g, off, none⟩ = some (.slice A1 n c1) ∧ w'.cell? ⟨g, off + 1, none⟩ = some (.int .i64 a)) (ds := []) #[false, false, false, false, false, false, false, false, false, false, false, false, false, false, false, false, false, false, false, false, false, false] (by kernel_rfl) rfl rfl ⟨k0b, k1b⟩ (fun hHeld => ?_)
          refine pure_ (i := 0) (N := some 45) (v := ?_) (a' := ?_) #[true, false, false, false, false, false, false, false, false, false, false, false, false, false, false, false, false, false, false, false, false, false] rfl rfl (by kernel_rfl) (fun _ _ _ h => h) (Or.inl ⟨by rfl, ?_⟩) ?_ ?_
          rotate_left
          · intro w'
            go_simp
            with_reducible rfl
          rotate_left
          · simp only [Act.put, List.setIfInBounds_toArray, List.set_cons_zero, List.set_cons_succ, i64_w, i32_w]
            rfl
          refine pure_ (i := 1) (N := some 46) (v := ?_) (a' := ?_) #[true, true, false, false, false, false, false, false, false, false, false, false, false, false, false, false, false, false, false, false, false, false] rfl rfl (by kernel_rfl) (fun _ _ _ h => h) (Or.inl ⟨by rfl, ?_⟩) ?_ ?_
          rotate_left
          · intro w'
            go_simp
            with_reducible rfl
          rotate_left
          · simp only [Act.put, List.setIfInBounds_toArray, List.set_cons_zero, List.set_cons_succ, i64_w, i32_w]
            rfl
          refine pure_ (i := 2) (N := some 47) (v := ?_) (a' := ?_) #[true, true, true, false, false, false, false, false, false, false, false, false, false, false, false, false, false, false, false, false, false, false] rfl rfl (by kernel_rfl) (fun _ _ _ h => h) (Or.inl ⟨by rfl, ?_⟩) ?_ ?_
          rotate_left
          · intro w'
            go_simp
            with_reducible rfl
          rotate_left
          · simp only [Act.put, List.setIfInBounds_toArray, List.set_cons_zero, List.set_cons_succ, i64_w, i32_w]
            rfl
          refine pure_ (i := 4) (N := some 49) (v := ?_) (a' := ?_) #[true, true, true, false, true, false, false, false, false, false, false, false, false, false, false, false, false, false, false, false, false, false] rfl rfl (by kernel_rfl) (fun _ _ _ h => h) (Or.inl ⟨by rfl, ?_⟩) ?_ ?_
          rotate_left
          · intro w'
            go_simp
            with_reducible rfl
          rotate_left
          · simp only [Act.put, List.setIfInBounds_toArray, List.set_cons_zero, List.set_cons_succ, i64_w, i32_w]
            rfl
          refine pure_ (i := 5) (N := some 50) (v := ?_) (a' := ?_) #[true, true, true, false, true, true, false, false, false, false, false, false, false, false, false, false, false, false, false, false, false, false] rfl rfl (by kernel_rfl) (fun _ _ _ h => h) (Or.inl ⟨by rfl, ?_⟩) ?_ ?_
          rotate_left
          · intro w'
            go_simp
            with_reducible rfl
          rotate_left
          · simp only [Act.put, List.setIfInBounds_toArray, List.set_cons_zero, List.set_cons_succ, i64_w, i32_w]
            rfl
          refine pure_ (i := 6) (N := some 51) (v := ?_) (a' := ?_) #[true, true, true, false, true, true, true, false, false, false, false, false, false, false, false, false, false, false, false, false, false, false] rfl rfl (by kernel_rfl) (fun _ _ _ h => h) (Or.inl ⟨by rfl, ?_⟩) ?_ ?_
          rotate_left
          · intro w'
            go_simp
            with_reducible rfl
          rotate_left
          · simp only [Act.put, List.setIfInBounds_toArray, List.set_cons_zero, List.set_cons_succ, i64_w, i32_w]
            rfl
          refine pure_ (i := 8) (N := some 53) (v := ?_) (a' := ?_) #[true, true, true, false, true, true, true, false, true, false, false, false, false, false, false, false, false, false, false, false, false, false] rfl rfl (by kernel_rfl) (fun _ _ _ h => h) (Or.inl ⟨by rfl, ?_⟩) ?_ ?_
          rotate_left
          · intro w'
            go_simp
            with_reducible rfl
          rotate_left
          · simp only [Act.put, List.setIfInBounds_toArray, List.set_cons_zero, List.set_cons_succ, i64_w, i32_w]
            rfl
          refine pure_ (i := 10) (N := some 55) (v := ?_) (a' := ?_) #[true, true, true, false, true, true, true, false, true, false, true, false, false, false, false, false, false, false, false, false, false, false] rfl rfl (by kernel_rfl) (fun _ _ _ h => h) (Or.inl ⟨by rfl, ?_⟩) ?_ ?_
          rotate_left
          · intro w'
            go_simp
            with_reducible rfl
          rotate_left
          · simp only [Act.put, List.setIfInBounds_toArray, List.set_cons_zero, List.set_cons_succ, i64_w, i32_w]
            rfl
          refine pure_ (i := 11) (N := some 56) (v := ?_) (a' := ?_) #[true, true, true, false, true, true, true, false, true, false, true, true, false, false, false, false, false, false, false, false, false, false] rfl rfl (by kernel_rfl) (fun _ _ _ h => h) (Or.inl ⟨by rfl, ?_⟩) ?_ ?_
          rotate_left
          · intro w'
            go_simp
            with_reducible rfl
          rotate_left
          · simp only [Act.put, List.setIfInBounds_toArray, List.set_cons_zero, List.set_cons_succ, i64_w, i32_w]
            rfl
          refine pure_ (i := 12) (N := some 57) (v := ?_) (a' := ?_) #[true, true, true, false, true, true, true, false, true, false, true, true, true, false, false, false, false, false, false, false, false, false] rfl rfl (by kernel_rfl) (fun _ _ _ h => h) (Or.inl ⟨by rfl, ?_⟩) ?_ ?_
          rotate_left
          · intro w'
            go_simp
            with_reducible rfl
          rotate_left
          · simp only [Act.put, List.setIfInBounds_toArray, List.set_cons_zero, List.set_cons_succ, i64_w, i32_w]
            rfl
          refine pure_ (i := 14) (N := some 59) (v := ?_) (a' := ?_) #[true, true, true, false, true, true, true, false, true, false, true, true, true, false, true, false, false, false, false, false, false, false] rfl rfl (by kernel_rfl) (fun _ _ _ h => h) (Or.inl ⟨by rfl, ?_⟩) ?_ ?_
          rotate_left
          · intro w'
            go_simp
            with_reducible rfl
          rotate_left
          · simp only [Act.put, List.setIfInBounds_toArray, List.set_cons_zero, List.set_cons_succ, i64_w, i32_w]
            rfl
          refine pure_ (i := 16) (N := some 61) (v := ?_) (a' := ?_) #[true, true, true, false, true, true, true, false, true, false, true, true, true, false, true, false, true, false, false, false, false, false] rfl rfl (by kernel_rfl) (fun _ _ _ h => h) (Or.inl ⟨by rfl, ?_⟩) ?_ ?_
          rotate_left
          · intro w'
            go_simp
            with_reducible rfl
          rotate_left
          · simp only [Act.put, List.setIfInBounds_toArray, List.set_cons_zero, List.set_cons_succ, i64_w, i32_w]
            rfl
          refine pure_ (i := 17) (N := some 62) (v := ?_) (a' := ?_) #[true, true, true, false, true, true, true, false, true, false, true, true, true, false, true, false, true, true, false, false, false, false] rfl rfl (by kernel_rfl) (fun _ _ _ h => h) (Or.inl ⟨by rfl, ?_⟩) ?_ ?_
          rotate_left
          · intro w'
            go_simp
            with_reducible rfl
          rotate_left
          · simp only [Act.put, List.setIfInBounds_toArray, List.set_cons_zero, List.set_cons_succ, i64_w, i32_w]
            rfl
          refine take_ (i := 3) (N := some 48) (v := ?_) (a' := ?_) #[true, true, true, true, true, true, true, false, true, false, true, true, true, false, true, false, true, true, false, false, false, false] rfl rfl (by kernel_rfl) (fun _ _ _ h => h) (Or.inl ⟨by rfl, ?_⟩) hHeld ?_ ?_
          rotate_left
          · rintro w' ⟨s0, s1⟩
            go_simp
            with_reducible rfl
          rotate_left
          · simp only [Act.put, List.setIfInBounds_toArray, List.set_cons_zero, List.set_cons_succ, i64_w, i32_w]
            rfl
          refine take_ (i := 7) (N := some 52) (v := ?_) (a' := ?_) #[true, true, true, true, true, true, true, true, true, false, true, true, true, false, true, false, true, true, false, false, false, false] rfl rfl (by kernel_rfl) (fun _ _ _ h => h) (Or.inl ⟨by rfl, ?_⟩) hHeld ?_ ?_
          rotate_left
          · rintro w' ⟨s0, s1⟩
            go_simp
            with_reducible rfl
          rotate_left
          · simp only [Act.put, List.setIfInBounds_toArray, List.set_cons_zero, List.set_cons_succ, i64_w, i32_w]
            rfl
          refine pure_ (i := 9) (N := some 54) (v := ?_) (a' := ?_) #[true, true, true, true, true, true, true, true, true, true, true, true, true, false, true, false, true, true, false, false, false, false] rfl rfl (by kernel_rfl) (fun _ _ _ h => h) (Or.inl ⟨by rfl, ?_⟩) ?_ ?_
          rotate_left
          · intro w'
            go_simp
            with_reducible rfl
          rotate_left
          · simp only [Act.put, List.setIfInBounds_toArray, List.set_cons_zero, List.set_cons_succ, i64_w, i32_w]
            rfl
          refine take_ (i := 13) (N := some 58) (v := ?_) (a' := ?_) #[true, true, true, true, true, true, true, true, true, true, true, true, true, true, true, false, true, true, false, false, false, false] rfl rfl (by kernel_rfl) (fun _ _ _ h => h) (Or.inl ⟨by rfl, ?_⟩) hHeld ?_ ?_
          rotate_left
          · rintro w' ⟨s0, s1⟩
            go_simp
            with_reducible rfl
          rotate_left
          · simp only [Act.put, List.setIfInBounds_toArray, List.set_cons_zero, List.set_cons_succ, i64_w, i32_w]
            rfl
          refine pure_ (i := 15) (N := some 60) (v := ?_) (a' := ?_) #[true, true, true, true, true, true, true, true, true, true, true, true, true, true, true, true, true, true, false, false, false, false] rfl rfl (by kernel_rfl) (fun _ _ _ h => h) (Or.inl ⟨by rfl, ?_⟩) ?_ ?_
          rotate_left
          · intro w'
            go_simp
            with_reducible rfl
          rotate_left
          · simp only [Act.put, List.setIfInBounds_toArray, List.set_cons_zero, List.set_cons_succ, i64_w, i32_w]
            rfl
          refine pure_ (i := 18) (N := some 63) (v := ?_) (a' := ?_) #[true, true, true, true, true, true, true, true, true, true, true, true, true, true, true, true, true, true, true, false, false, false] rfl rfl (by kernel_rfl) (fun _ _ _ h => h) (Or.inl ⟨by rfl, ?_⟩) ?_ ?_
          rotate_left
          · intro w'
            go_simp
            with_reducible rfl
          rotate_left
          · simp only [Act.put, List.setIfInBounds_toArray, List.set_cons_zero, List.set_cons_succ, i64_w, i32_w]
            rfl
          refine pure_ (i := 19) (N := some 64) (v := ?_) (a' := ?_) #[true, true, true, true, true, true, true, true, true, true, true, true, true, true, true, true, true, true, true, true, false, false] rfl rfl (by kernel_rfl) (fun _ _ _ h => h) (Or.inl ⟨by rfl, ?_⟩) ?_ ?_
          rotate_left
          · intro w'
            go_simp
            with_reducible rfl
          rotate_left
          · simp only [Act.put, List.setIfInBounds_toArray, List.set_cons_zero, List.set_cons_succ, i64_w, i32_w]
            rfl
          refine one_ (i := 20) (N := some 65) #[true, true, true, true, true, true, true, true, true, true, true, true, true, true, true, true, true, true, true, true, true, false] rfl rfl (by kernel_rfl) (by decide) (fun K hK => ?_)
          refine value_ (w1 := ?_) (v := ?_) (by rfl) rfl ?_ ?_
          rotate_left 2
          · go_simp
            constructor
            · rfl
            · rfl
          refine hK.out _ _ ⟨k0b, k1b⟩ (fun hHeld => ?_)
          clear hK K
          refine norm_ (a' := ?_) ?_ ?_
          rotate_left
          · show Act.put _ (some 65) _ = _
            simp only [Act.put, List.setIfInBounds_toArray, List.set_cons_zero, List.set_cons_succ, i64_w, i32_w]
            rfl
          refine pure_ (i := 21) (N := some 7) (v := ?_) (a' := ?_) #[true, true, true, true, true, true, true, true, true, true, true, true, true, true, true, true, true, true, true, true, true, true] rfl rfl (by kernel_rfl) (fun _ _ _ h => h) (Or.inl ⟨by rfl, ?_⟩) ?_ ?_
          rotate_left
          · intro w'
            go_simp
            with_reducible rfl
          rotate_left
          · simp only [Act.put, List.setIfInBounds_toArray, List.set_cons_zero, List.set_cons_succ, i64_w, i32_w]
            rfl
          refine done_ (by kernel_rfl) ?_
          clear hsl hcv2 k0b k1b
          obtain ⟨cs2, hr2, hrest2, hk2⟩ := HRb.out.storeA (a + (m + x)) HFin.out
          rw [show ((a + (m + x) : Nat) : Int) = (a : Int) + m + x by omega] at hr2 hk2
          have HR2 := Lib.hid hr2
          have HRest2 := Lib.hid hrest2
          have HK2 := Aside0.mk (Kept.then_ HKb.out hk2 (fun _ h => .inl h))
          clear hr2 hrest2 hk2
          go_wp2
          go_ret
          subst hr
          exact ⟨rfl, a + (m + x), rfl, ⟨cs2, HR2.out, HRest.out.trans HRest2.out⟩, HK.out.then_ HK2.out (fun _ h => .inl h)⟩
  · obtain ⟨rfl, rfl⟩ := b4 ce
    have be : (e2 == 0) = false := by simp [ce]
    have hr := HRr.out
    rw [if_neg (by omega), if_neg (by omega)] at hr
    clear b1 b2 b3 b4
    go_wp2
    go_ret
    subst hr
    refine ⟨?_, a + (0 + 0), rfl, ⟨cs1, HR.out, HRest.out⟩, HK.out⟩
    rw [List.take_zero]
    rfl

set_option maxHeartbeats 2000000 in
theorem RefLeft (w0 w : World) (g off : Nat) (cs : Array Value) (b : List Int) (a : Nat) (e : Int) (h : Rf w0 w g off cs b a e) (hl : b.length ≤ 140737488351232) :
    Calls Tryd.prog 48 #[.pointer (some ⟨g, off, none⟩)] w fun e1 w' => e1 = .returned (.int .i64 (b.drop a).length) ∧ Drawn0 w w' := by
  obtain ⟨A1, c1, k0, k1, k2, f1, f2, hc1, hC1⟩ := h.cells
  have ha := h.2.2.2.1
  have hlen : (((b.drop a).length : Nat) : Int) = (b.length : Int) - a := by rw [List.length_drop]; omega
  rw [hlen]
  generalize b.length = n at *
  clear h hlen hC1
  go_enter Tryd.func48, Tryd.ntmps48
  go_wp2_with fail
  refine start_ (n := 11) (S := fun w' => w'.cell? ⟨g, off, none⟩ = some (.slice A1 n c1) ∧ w'.cell? ⟨g, off + 1, none⟩ = some (.int .i64 a)) (ds := []) #[false, false, false, false, false, false, false, false, false, false, false] (by kernel_rfl) rfl rfl ⟨k0, k1⟩ (fun hHeld => ?_)
  refine pure_ (i := 0) (N := some 3) (v := ?_) (a' := ?_) #[true, false, false, false, false, false, false, false, false, false, false] rfl rfl (by kernel_rfl) (fun _ _ _ h => h) (Or.inl ⟨by rfl, ?_⟩) ?_ ?_
  rotate_left
  · intro w'
    go_simp
    with_reducible rfl
  rotate_left
  · simp only [Act.put, List.setIfInBounds_toArray, List.set_cons_zero, List.set_cons_succ, i64_w, i32_w]
    rfl
  refine pure_ (i := 1) (N := some 4) (v := ?_) (a' := ?_) #[true, true, false, false, false, false, false, false, false, false, false] rfl rfl (by kernel_rfl) (fun _ _ _ h => h) (Or.inl ⟨by rfl, ?_⟩) ?_ ?_
  rotate_left
  · intro w'
    go_simp
    with_reducible rfl
  rotate_left
  · simp only [Act.put, List.setIfInBounds_toArray, List.set_cons_zero, List.set_cons_succ, i64_w, i32_w]
    rfl
  refine pure_ (i := 2) (N := some 5) (v := ?_) (a' := ?_) #[true, true, true, false, false, false, false, false, false, false, false] rfl rfl (by kernel_rfl) (fun _ _ _ h => h) (Or.inl ⟨by rfl, ?_⟩) ?_ ?_
  rotate_left
  · intro w'
    go_simp
    with_reducible rfl
  rotate_left
  · simp only [Act.put, List.setIfInBounds_toArray, List.set_cons_zero, List.set_cons_succ, i64_w, i32_w]
    rfl
  refine pure_ (i := 5) (N := some 8) (v := ?_) (a' := ?_) #[true, true, true, false, false, true, false, false, false, false, false] rfl rfl (by kernel_rfl) (fun _ _ _ h => h) (Or.inl ⟨by rfl, ?_⟩) ?_ ?_
  rotate_left
  · intro w'
    go_simp
    with_reducible rfl
  rotate_left
  · simp only [Act.put, List.setIfInBounds_toArray, List.set_cons_zero, List.set_cons_succ, i64_w, i32_w]
    rfl
  refine pure_ (i := 6) (N := some 9) (v := ?_) (a' := ?_) #[true, true, true, false, false, true, true, false, false, false, false] rfl rfl (by kernel_rfl) (fun _ _ _ h => h) (Or.inl ⟨by rfl, ?_⟩) ?_ ?_
  rotate_left
  · intro w'
    go_simp
    with_reducible rfl
  rotate_left
  · simp only [Act.put, List.setIfInBounds_toArray, List.set_cons_zero, List.set_cons_succ, i64_w, i32_w]
    rfl
  refine pure_ (i := 7) (N := some 10) (v := ?_) (a' := ?_) #[true, true, true, false, false, true, true, true, false, false, false] rfl rfl (by kernel_rfl) (fun _ _ _ h => h) (Or.inl ⟨by rfl, ?_⟩) ?_ ?_
  rotate_left
  · intro w'
    go_simp
    with_reducible rfl
  rotate_left
  · simp only [Act.put, List.setIfInBounds_toArray, List.set_cons_zero, List.set_cons_succ, i64_w, i32_w]
    rfl
  refine take_ (i := 3) (N := some 6) (v := ?_) (a' := ?_) #[true, true, true, true, false, true, true, true, false, false, false] rfl rfl (by kernel_rfl) (fun _ _ _ h => h) (Or.inl ⟨by rfl, ?_⟩) hHeld ?_ ?_
  rotate_left
  · rintro w' ⟨s0, s1⟩
    go_simp
    with_reducible rfl
  rotate_left
  · simp only [Act.put, List.setIfInBounds_toArray, List.set_cons_zero, List.set_cons_succ, i64_w, i32_w]
    rfl
  refine pure_ (i := 4) (N := some 7) (v := ?_) (a' := ?_) #[true, true, true, true, true, true, true, true, false, false, false] rfl rfl (by kernel_rfl) (fun _ _ _ h => h) (Or.inl ⟨by rfl, ?_⟩) ?_ ?_
  rotate_left
  · intro w'
    go_simp
    with_reducible rfl
  rotate_left
  · simp only [Act.put, List.setIfInBounds_toArray, List.set_cons_zero, List.set_cons_succ, i64_w, i32_w]
    rfl
  refine take_ (i := 8) (N := some 11) (v := ?_) (a' := ?_) #[true, true, true, true, true, true, true, true, true, false, false] rfl rfl (by kernel_rfl) (fun _ _ _ h => h) (Or.inl ⟨by rfl, ?_⟩) hHeld ?_ ?_
  rotate_left
  · rintro w' ⟨s0, s1⟩
    go_simp
    with_reducible rfl
  rotate_left
  · simp only [Act.put, List.setIfInBounds_toArray, List.set_cons_zero, List.set_cons_succ, i64_w, i32_w]
    rfl
  refine pure_ (i := 9) (N := some 12) (v := ?_) (a' := ?_) #[true, true, true, true, true, true, true, true, true, true, false] rfl rfl (by kernel_rfl) (fun _ _ _ h => h) (Or.inl ⟨by rfl, ?_⟩) ?_ ?_
  rotate_left
  · intro w'
    go_simp
    with_reducible rfl
  rotate_left
  · simp only [Act.put, List.setIfInBounds_toArray, List.set_cons_zero, List.set_cons_succ, i64_w, i32_w]
    rfl
  refine pure_ (i := 10) (N := some 2) (v := ?_) (a' := ?_) #[true, true, true, true, true, true, true, true, true, true, true] rfl rfl (by kernel_rfl) (fun _ _ _ h => h) (Or.inl ⟨by rfl, ?_⟩) ?_ ?_
  rotate_left
  · intro w'
    go_simp
    with_reducible rfl
  rotate_left
  · simp only [Act.put, List.setIfInBounds_toArray, List.set_cons_zero, List.set_cons_succ, i64_w, i32_w]
    rfl
  refine done_ (by kernel_rfl) ?_
  have hw : wrap64 ((n : Int) - a) = (n : Int) - a := wrap64_id (by omega) (by omega)
  go_wp2
  go_ret
  exact ⟨congrArg (fun z => Ending.returned (.int .i64 z)) hw, ⟨⟨1, rfl⟩⟩⟩
set_option maxHeartbeats 2000000 in
theorem RefEnd (w0 w : World) (g off : Nat) (cs : Array Value) (b : List Int) (a : Nat) (e : Int) (h : Rf w0 w g off cs b a e) (hl : b.length ≤ 140737488351232) :
    Calls Tryd.prog 50 #[.pointer (some ⟨g, off, none⟩)] w fun e1 w' => e1 = .returned (.int .i64 (endE (b.drop a) e)) ∧ Drawn0 w w' := by
  obtain ⟨A1, c1, k0, k1, k2, f1, f2, hc1, hC1⟩ := h.cells
  have hleft := fun w' hh hd => RefLeft w0 w' g off cs b a e (h.drawn hh hd) hl
  have HL := Lib.hid hleft
  unfold endE
  generalize (b.drop a).length = n at *
  clear h hleft hC1
  by_cases ce : e = 0
  · subst ce
    by_cases cn : 0 < n
    · have bn : decide ((0 : Int) < n) = true := by simp; omega
      rw [if_pos ⟨rfl, cn⟩]
      go_enter Tryd.func50, Tryd.ntmps50
      go_wp2_with fail
      refine (HL.out _ rfl (Below.refl _ _)).mono ?_
      rintro e1 w1 ⟨rfl, ⟨k, rfl⟩⟩
      go_wp2
      go_ret
      exact ⟨rfl, ⟨⟨_, rfl⟩⟩⟩
    · have bn : decide ((0 : Int) < n) = false := by simp; omega
      rw [if_neg (by omega)]
      go_enter Tryd.func50, Tryd.ntmps50
      go_wp2_with fail
      refine (HL.out _ rfl (Below.refl _ _)).mono ?_
      rintro e1 w1 ⟨rfl, ⟨k, rfl⟩⟩
      go_wp2
      go_ret
      exact ⟨rfl, ⟨⟨_, rfl⟩⟩⟩
  · have be : (e == 0) = false := by simp [ce]
    rw [if_neg (fun h => ce h.1)]
    go_enter Tryd.func50, Tryd.ntmps50
    go_wp2
    go_ret
    exact ⟨rfl, Drawn0.refl _⟩
end Go.Proofs.YtnnhcnmggfhkeaaDoor.Wk

/- The walks of the law's number, ask and tell. -/
namespace Go.Proofs.YtnnhcnmggfhkeaaDoor.Wk
open Go.RowKit Go.Proofs.YtnnhcnmggfhkeaaDoorW.PrintWords Go.Proofs.YtnnhcnmggfhkeaaDoorW.PrintLast Go.Proofs.YtnnhcnmggfhkeaaDoorW.PrintMore Go.Proofs.YtnnhcnmggfhkeaaDoor.PWireKnown
set_option linter.unusedVariables false
set_option linter.unusedSimpArgs false

set_option maxHeartbeats 1000000 in
theorem number_Eo {E : Value} {c : Int} (h : Eo E c) (w : World) (hg : w.cell? ⟨0, 0, none⟩ = some handle) :
    Calls Tryd.prog 49 #[E] w fun e w' => e = .returned (.int .i64 c) ∧ Below w.heap.size w w' := by
  have H1 := Lib.hid (Num_Eo h)
  have H2 := Lib.hid (fun w' hg' => Plain_Eo h c w' hg')
  have HG := Lib.hid hg
  have hs := h.shape
  clear h hg
  rcases hs with rfl | ⟨t, u, rfl⟩
  all_goals
    go_enter Tryd.func49, Tryd.ntmps49
    go_wp2_with fail
    refine (H1.out _).mono ?_
    rintro e w1 ⟨rfl, hb1⟩
    have hg1 := (hb1.cell (World.block_lt_of_cell? w _ HG.out)).trans HG.out
    have HB1 := Aside0.mk hb1
    have HG1 := Lib.hid hg1
    clear hb1 hg1
    go_wp2_with fail
    refine (H2.out _ HG1.out).mono ?_
    rintro e w2 ⟨rfl, hb2⟩
    have HB2 := Aside0.mk (below_step HB1.out hb2)
    have bb : (c == c) = true := by simp
    rw [bb]
    clear hb2
    go_wp2
    go_ret
    exact ⟨rfl, HB2.out⟩

/-- What a call answers, and the reader behind it. -/
structure Gt where
  x : Int
  s : ByteArray
  n : Int
  l : List Int
  e : Int
def Gt.val (q : Gt) : Value := .agg #[.int .u64 q.x, .string q.s, .int .i64 q.n]
def stG (kind : Int) (X : Nat) (N : Int) (l : List Int) (e : Int) : Gt :=
  if kind = 0 then ⟨((stU X l e).1 : Int), ⟨#[]⟩, 0, (stU X l e).2.1, (stU X l e).2.2⟩ else
  if kind = 1 then ⟨IntKind.u64.wrap (stI l e).1, ⟨#[]⟩, 0, (stI l e).2.1, (stI l e).2.2⟩ else
  if kind = 2 then ⟨0, (stT N.toNat l e).1, 0, (stT N.toNat l e).2.1, (stT N.toNat l e).2.2⟩ else
  if kind = 3 then ⟨(l.length : Int), ⟨#[]⟩, 0, l, e⟩ else
  if kind = 4 then ⟨0, ⟨#[]⟩, e, l, e⟩ else ⟨0, ⟨#[]⟩, endE l e, l, e⟩
theorem Rd.below {w0 w w' : World} {g : Nat} {l : List Int} {e : Int} (h : Rd w0 w g l e) (hb : Below w.heap.size w w') : Rd w0 w' g l e := by
  obtain ⟨A, c, E, hbk, hg, hc, hne, hC, hE⟩ := h
  exact ⟨A, c, E, blk_below hbk hb, hg, hc, hne, Kd.C_below hC hb, hE⟩
theorem Rd.lower {w0 v w : World} {g : Nat} {l : List Int} {e : Int} (h : Rd v w g l e) (hv : w0.heap.size ≤ v.heap.size) : Rd w0 w g l e := by
  obtain ⟨A, c, E, hbk, hg, hc, hne, hC, hE⟩ := h
  exact ⟨A, c, E, hbk, by omega, hc, fun ad ha => by have := hne ad ha; omega, hC, hE⟩
theorem C_same {k : IntKind} {w w' : World} {A : Option Addr} {n : Nat} {xs : List Int} (h : (Kd.int k).C w A n xs) (hs : ∀ ad, A = some ad → w'.heap[ad.block]? = w.heap[ad.block]?) : (Kd.int k).C w' A n xs :=
  ⟨h.1, h.2.1, fun hn => by
    obtain ⟨ad, e, hc⟩ := h.2.2 hn
    refine ⟨ad, e, fun j p hp => ?_⟩
    obtain ⟨c, hl, hr, hcell⟩ := hc j p hp
    refine ⟨c, hl, hr, fun i' u' hu => ?_⟩
    have e3 : (ad.add (j * (Kd.int k).sz + i')).block = ad.block := by unfold Addr.add; split <;> rfl
    rw [World.cell?_of_block (w := w) (by rw [e3]; exact hs ad e)]
    exact hcell i' u' hu⟩
/-- What is written below the reader's own blocks does not touch it. -/
theorem Rd.since {w0 w w' : World} {g : Nat} {l : List Int} {e : Int} (h : Rd w0 w g l e) (hk : Kept w w' (fun k => k < w0.heap.size)) : Rd w0 w' g l e := by
  obtain ⟨A, c, E, hbk, hg, hc, hne, hC, hE⟩ := h
  have hl := blk_lt hbk
  exact ⟨A, c, E, blk_kept hbk hk (by omega), hg, hc, hne, C_same hC (fun ad ha => hk.2 _ (by have := hne ad ha; omega) (by have := hne ad ha; omega)), hE⟩
/-- The other reader's call does not touch it. -/
theorem Rd.apart {w0 w w' : World} {g g2 : Nat} {l : List Int} {e : Int} (h : Rd w0 w g l e) (hk : Kept w w' (fun k => k = g2)) (h2 : g2 < w0.heap.size ∨ g < g2) : Rd w0 w' g l e := by
  obtain ⟨A, c, E, hbk, hg, hc, hne, hC, hE⟩ := h
  have hl := blk_lt hbk
  exact ⟨A, c, E, blk_kept hbk hk (by omega), hg, hc, hne, C_same hC (fun ad ha => hk.2 _ (by have := hne ad ha; omega) (by have := hne ad ha; omega)), hE⟩
theorem Rd.lt {w0 w : World} {g : Nat} {l : List Int} {e : Int} (h : Rd w0 w g l e) : g < w.heap.size := by
  obtain ⟨A, c, E, hbk, _⟩ := h
  exact blk_lt hbk
def AskPost (w0 w : World) (g : Nat) (q : Gt) (e : Ending) (w' : World) : Prop := e = .returned q.val ∧ Rd w0 w' g q.l q.e ∧ Below w0.heap.size w0 w' ∧ Kept w w' (fun k => k = g)

theorem Rd.other {w0 w : World} {g B i : Nat} {l : List Int} {e : Int} (h : Rd w0 w g l e) (hB : g < B) (u : Value) : Rd w0 (w.setCell ⟨B, i, none⟩ u) g l e := by
  obtain ⟨A, c, E, hbk, hg, hc, hne, hC, hE⟩ := h
  refine ⟨A, c, E, ?_, hg, hc, hne, C_setCell hC (fun ad ha => by have := (hne ad ha).2; omega), hE⟩
  rw [Below.heap_setCell _ _ _ _ (by show g ≠ B; omega)]
  exact hbk
/-- The answer is laid down in a block of its own. -/
theorem got_end {w0 w w1 : World} {g B : Nat} {l : List Int} {e : Int} {u0 u1 u2 : Value} {T : TypeId} (hn : w1.heap[B]? = some (.cells #[u0, u1, u2] T (0, 0))) (v0 v1 v2 : Value) (hgB : g < B) (hwB : w.heap.size ≤ B)
    (h1 : Rd w0 w1 g l e) (h2 : Below w0.heap.size w0 w1) (hk : Kept w w1 (fun k => k = g)) :
    (((w1.setCell ⟨B, 0, none⟩ v0).setCell ⟨B, 1, none⟩ v1).setCell ⟨B, 2, none⟩ v2).heap[B]? = some (.cells #[v0, v1, v2] T (0, 0)) ∧
    Rd w0 (((w1.setCell ⟨B, 0, none⟩ v0).setCell ⟨B, 1, none⟩ v1).setCell ⟨B, 2, none⟩ v2) g l e ∧
    Below w0.heap.size w0 (((w1.setCell ⟨B, 0, none⟩ v0).setCell ⟨B, 1, none⟩ v1).setCell ⟨B, 2, none⟩ v2) ∧
    Kept w (((w1.setCell ⟨B, 0, none⟩ v0).setCell ⟨B, 1, none⟩ v1).setCell ⟨B, 2, none⟩ v2) (fun k => k = g) := by
  have hg : w0.heap.size ≤ B := by obtain ⟨_, _, _, _, hg, _⟩ := h1; omega
  refine ⟨?_, ((h1.other hgB _).other hgB _).other hgB _, ((h2.setCell hg _).setCell hg _).setCell hg _, ((hk.setCell (p := ⟨B, _, none⟩) (.inr hwB) _).setCell (p := ⟨B, _, none⟩) (.inr hwB) _).setCell (p := ⟨B, _, none⟩) (.inr hwB) _⟩
  rw [blk_set (blk_set (blk_set hn 0 v0) 1 v1) 2 v2]
  rfl
end Go.Proofs.YtnnhcnmggfhkeaaDoor.Wk

/- The walk of the law's ask. -/
namespace Go.Proofs.YtnnhcnmggfhkeaaDoor.Wk
open Go.RowKit Go.Proofs.YtnnhcnmggfhkeaaDoorW.PrintWords Go.Proofs.YtnnhcnmggfhkeaaDoorW.PrintLast Go.Proofs.YtnnhcnmggfhkeaaDoorW.PrintMore Go.Proofs.YtnnhcnmggfhkeaaDoor.PWireKnown
set_option linter.unusedVariables false
set_option linter.unusedSimpArgs false

set_option maxHeartbeats 8000000 in
set_option maxRecDepth 100000 in
theorem ask_calls (w0 w : World) (g : Nat) (on kind : Int) (X : Nat) (N : Int) (l : List Int) (e : Int) (hN : -9223372036854775808 ≤ N ∧ N ≤ 9223372036854775807) (hB : Below w0.heap.size w0 w) (h : Rd w0 w g l e) (hb : Byt l) (hl : l.length ≤ 140737488351232)
    (hg0 : w.cell? ⟨0, 0, none⟩ = some handle) :
    Calls Tryd.prog 46 #[.pointer (some ⟨g, 0, none⟩), .agg #[.int .i64 on, .int .i64 kind, .int .u64 X, .int .i64 N]] w (AskPost w0 w g (stG kind X N l e)) := by
  have hlt := h.lt
  have HB := Lib.hid hB
  have HR := Lib.hid h
  have HG := Lib.hid hg0
  clear hB h hg0
  unfold stG
  by_cases k0 : kind = 0
  · subst k0
    rw [if_pos rfl]
    go_enter Tryd.func46, Tryd.ntmps46
    go_wp2_with fail
    have hB2 := (HB.out.alloc HB.out.size (.cells #[.int .i64 on, .int .i64 0, .int .u64 X, .int .i64 N] 59)).alloc (by simpa using Nat.le_succ_of_le HB.out.size) (.cells #[.int .u64 0, .string ⟨#[]⟩, .int .i64 0] 97)
    have hb2 := below_alloc (below_alloc (Below.refl w.heap.size w) (.cells #[.int .i64 on, .int .i64 0, .int .u64 X, .int .i64 N] 59)) (.cells #[.int .u64 0, .string ⟨#[]⟩, .int .i64 0] 97)
    have hn0 : ((w.alloc (.cells #[.int .i64 on, .int .i64 0, .int .u64 X, .int .i64 N] 59)).alloc (.cells #[.int .u64 0, .string ⟨#[]⟩, .int .i64 0] 97)).heap[w.heap.size + 1]? = some (.cells #[.int .u64 0, .string ⟨#[]⟩, .int .i64 0] 97) := by simpa using heap_alloc_new (w.alloc (.cells #[.int .i64 on, .int .i64 0, .int .u64 X, .int .i64 N] 59)) (.cells #[.int .u64 0, .string ⟨#[]⟩, .int .i64 0] 97)
    have hR2 := HR.out.below hb2
    generalize (w.alloc (.cells #[.int .i64 on, .int .i64 0, .int .u64 X, .int .i64 N] 59)).alloc (.cells #[.int .u64 0, .string ⟨#[]⟩, .int .i64 0] 97) = W2 at *
    refine (Reader_Uint w0 W2 g X l e hB2 hR2 hb (by omega)).mono ?_
    rintro e1 w1 ⟨rfl, h1, h2, h3⟩
    have hn := blk_kept hn0 h3 (by omega)
    have hk := Kept.then_ (Kept.of_below hb2 (fun k => k = g)) h3 (fun _ h => .inl h)
    have H1 := Lib.hid h1
    have H2 := Lib.hid h2
    have HK := Lib.hid hk
    clear h1 h2 h3 hk hR2
    obtain ⟨B, hB⟩ : ∃ B, w.heap.size + 1 = B := ⟨_, rfl⟩
    rw [hB] at hn ⊢
    have f0 := blk_frozen hn 0
    have f1 := blk_frozen hn 1
    have f2 := blk_frozen hn 2
    have c0 : w1.cell? ⟨B, 0, none⟩ = some (.int .u64 0) := (blk_cell hn 0).trans rfl
    have c1 : w1.cell? ⟨B, 1, none⟩ = some (.string ⟨#[]⟩) := (blk_cell hn 1).trans rfl
    have c2 : w1.cell? ⟨B, 2, none⟩ = some (.int .i64 0) := (blk_cell hn 2).trans rfl
    have HN := Lib.hid hn
    have HBB := Aside0.mk (show w.heap.size < B by omega)
    clear hn hn0 hB hb2 hB2
    go_wp2
    have hfin := got_end HN.out (.int .u64 ((stU X l e).1 : Int)) (.string ⟨#[]⟩) (.int .i64 0) (Nat.lt_trans hlt HBB.out) (Nat.le_of_lt HBB.out) H1.out H2.out HK.out
    refine bodyPost_ret (results_cell_row rfl _ _ B 97 #[.int .u64 ((stU X l e).1 : Int), .string ⟨#[]⟩, .int .i64 0] (0, 0) _ rfl hfin.1 Tryd.underlying97 rfl (by kernel_rfl)) rfl ?_
    exact ⟨rfl, hfin.2.1, hfin.2.2.1, hfin.2.2.2⟩
  by_cases k1 : kind = 1
  · subst k1
    rw [if_neg (by decide)]
    rw [if_pos rfl]
    go_enter Tryd.func46, Tryd.ntmps46
    go_wp2_with fail
    have hB2 := (HB.out.alloc HB.out.size (.cells #[.int .i64 on, .int .i64 1, .int .u64 X, .int .i64 N] 59)).alloc (by simpa using Nat.le_succ_of_le HB.out.size) (.cells #[.int .u64 0, .string ⟨#[]⟩, .int .i64 0] 97)
    have hb2 := below_alloc (below_alloc (Below.refl w.heap.size w) (.cells #[.int .i64 on, .int .i64 1, .int .u64 X, .int .i64 N] 59)) (.cells #[.int .u64 0, .string ⟨#[]⟩, .int .i64 0] 97)
    have hn0 : ((w.alloc (.cells #[.int .i64 on, .int .i64 1, .int .u64 X, .int .i64 N] 59)).alloc (.cells #[.int .u64 0, .string ⟨#[]⟩, .int .i64 0] 97)).heap[w.heap.size + 1]? = some (.cells #[.int .u64 0, .string ⟨#[]⟩, .int .i64 0] 97) := by simpa using heap_alloc_new (w.alloc (.cells #[.int .i64 on, .int .i64 1, .int .u64 X, .int .i64 N] 59)) (.cells #[.int .u64 0, .string ⟨#[]⟩, .int .i64 0] 97)
    have hR2 := HR.out.below hb2
    generalize (w.alloc (.cells #[.int .i64 on, .int .i64 1, .int .u64 X, .int .i64 N] 59)).alloc (.cells #[.int .u64 0, .string ⟨#[]⟩, .int .i64 0] 97) = W2 at *
    refine (Reader_Int w0 W2 g l e hB2 hR2 hb (by omega)).mono ?_
    rintro e1 w1 ⟨rfl, h1, h2, h3⟩
    have hn := blk_kept hn0 h3 (by omega)
    have hk := Kept.then_ (Kept.of_below hb2 (fun k => k = g)) h3 (fun _ h => .inl h)
    have H1 := Lib.hid h1
    have H2 := Lib.hid h2
    have HK := Lib.hid hk
    clear h1 h2 h3 hk hR2
    obtain ⟨B, hB⟩ : ∃ B, w.heap.size + 1 = B := ⟨_, rfl⟩
    rw [hB] at hn ⊢
    have f0 := blk_frozen hn 0
    have f1 := blk_frozen hn 1
    have f2 := blk_frozen hn 2
    have c0 : w1.cell? ⟨B, 0, none⟩ = some (.int .u64 0) := (blk_cell hn 0).trans rfl
    have c1 : w1.cell? ⟨B, 1, none⟩ = some (.string ⟨#[]⟩) := (blk_cell hn 1).trans rfl
    have c2 : w1.cell? ⟨B, 2, none⟩ = some (.int .i64 0) := (blk_cell hn 2).trans rfl
    have HN := Lib.hid hn
    have HBB := Aside0.mk (show w.heap.size < B by omega)
    clear hn hn0 hB hb2 hB2
    go_wp2
    have hfin := got_end HN.out (.int .u64 (IntKind.u64.wrap (stI l e).1)) (.string ⟨#[]⟩) (.int .i64 0) (Nat.lt_trans hlt HBB.out) (Nat.le_of_lt HBB.out) H1.out H2.out HK.out
    refine bodyPost_ret (results_cell_row rfl _ _ B 97 #[.int .u64 (IntKind.u64.wrap (stI l e).1), .string ⟨#[]⟩, .int .i64 0] (0, 0) _ rfl hfin.1 Tryd.underlying97 rfl (by kernel_rfl)) rfl ?_
    exact ⟨rfl, hfin.2.1, hfin.2.2.1, hfin.2.2.2⟩
  by_cases k2 : kind = 2
  · subst k2
    rw [if_neg (by decide)]
    rw [if_neg (by decide)]
    rw [if_pos rfl]
    go_enter Tryd.func46, Tryd.ntmps46
    go_wp2_with fail
    have hB2 := (HB.out.alloc HB.out.size (.cells #[.int .i64 on, .int .i64 2, .int .u64 X, .int .i64 N] 59)).alloc (by simpa using Nat.le_succ_of_le HB.out.size) (.cells #[.int .u64 0, .string ⟨#[]⟩, .int .i64 0] 97)
    have hb2 := below_alloc (below_alloc (Below.refl w.heap.size w) (.cells #[.int .i64 on, .int .i64 2, .int .u64 X, .int .i64 N] 59)) (.cells #[.int .u64 0, .string ⟨#[]⟩, .int .i64 0] 97)
    have hn0 : ((w.alloc (.cells #[.int .i64 on, .int .i64 2, .int .u64 X, .int .i64 N] 59)).alloc (.cells #[.int .u64 0, .string ⟨#[]⟩, .int .i64 0] 97)).heap[w.heap.size + 1]? = some (.cells #[.int .u64 0, .string ⟨#[]⟩, .int .i64 0] 97) := by simpa using heap_alloc_new (w.alloc (.cells #[.int .i64 on, .int .i64 2, .int .u64 X, .int .i64 N] 59)) (.cells #[.int .u64 0, .string ⟨#[]⟩, .int .i64 0] 97)
    have hR2 := HR.out.below hb2
    generalize (w.alloc (.cells #[.int .i64 on, .int .i64 2, .int .u64 X, .int .i64 N] 59)).alloc (.cells #[.int .u64 0, .string ⟨#[]⟩, .int .i64 0] 97) = W2 at *
    refine (Reader_Text w0 W2 g N l e hN hB2 hR2 hb (by omega)).mono ?_
    rintro e1 w1 ⟨rfl, h1, h2, h3⟩
    have hn := blk_kept hn0 h3 (by omega)
    have hk := Kept.then_ (Kept.of_below hb2 (fun k => k = g)) h3 (fun _ h => .inl h)
    have H1 := Lib.hid h1
    have H2 := Lib.hid h2
    have HK := Lib.hid hk
    clear h1 h2 h3 hk hR2
    obtain ⟨B, hB⟩ : ∃ B, w.heap.size + 1 = B := ⟨_, rfl⟩
    rw [hB] at hn ⊢
    have f0 := blk_frozen hn 0
    have f1 := blk_frozen hn 1
    have f2 := blk_frozen hn 2
    have c0 : w1.cell? ⟨B, 0, none⟩ = some (.int .u64 0) := (blk_cell hn 0).trans rfl
    have c1 : w1.cell? ⟨B, 1, none⟩ = some (.string ⟨#[]⟩) := (blk_cell hn 1).trans rfl
    have c2 : w1.cell? ⟨B, 2, none⟩ = some (.int .i64 0) := (blk_cell hn 2).trans rfl
    have HN := Lib.hid hn
    have HBB := Aside0.mk (show w.heap.size < B by omega)
    clear hn hn0 hB hb2 hB2
    go_wp2
    have hfin := got_end HN.out (.int .u64 0) (.string (stT N.toNat l e).1) (.int .i64 0) (Nat.lt_trans hlt HBB.out) (Nat.le_of_lt HBB.out) H1.out H2.out HK.out
    refine bodyPost_ret (results_cell_row rfl _ _ B 97 #[.int .u64 0, .string (stT N.toNat l e).1, .int .i64 0] (0, 0) _ rfl hfin.1 Tryd.underlying97 rfl (by kernel_rfl)) rfl ?_
    exact ⟨rfl, hfin.2.1, hfin.2.2.1, hfin.2.2.2⟩
  by_cases k3 : kind = 3
  · subst k3
    rw [if_neg (by decide)]
    rw [if_neg (by decide)]
    rw [if_neg (by decide)]
    rw [if_pos rfl]
    go_enter Tryd.func46, Tryd.ntmps46
    go_wp2_with fail
    have hB2 := (HB.out.alloc HB.out.size (.cells #[.int .i64 on, .int .i64 3, .int .u64 X, .int .i64 N] 59)).alloc (by simpa using Nat.le_succ_of_le HB.out.size) (.cells #[.int .u64 0, .string ⟨#[]⟩, .int .i64 0] 97)
    have hb2 := below_alloc (below_alloc (Below.refl w.heap.size w) (.cells #[.int .i64 on, .int .i64 3, .int .u64 X, .int .i64 N] 59)) (.cells #[.int .u64 0, .string ⟨#[]⟩, .int .i64 0] 97)
    have hn0 : ((w.alloc (.cells #[.int .i64 on, .int .i64 3, .int .u64 X, .int .i64 N] 59)).alloc (.cells #[.int .u64 0, .string ⟨#[]⟩, .int .i64 0] 97)).heap[w.heap.size + 1]? = some (.cells #[.int .u64 0, .string ⟨#[]⟩, .int .i64 0] 97) := by simpa using heap_alloc_new (w.alloc (.cells #[.int .i64 on, .int .i64 3, .int .u64 X, .int .i64 N] 59)) (.cells #[.int .u64 0, .string ⟨#[]⟩, .int .i64 0] 97)
    have hR2 := HR.out.below hb2
    generalize (w.alloc (.cells #[.int .i64 on, .int .i64 3, .int .u64 X, .int .i64 N] 59)).alloc (.cells #[.int .u64 0, .string ⟨#[]⟩, .int .i64 0] 97) = W2 at *
    refine (Left_any w0 W2 g l e hR2).mono ?_
    rintro e1 w1 ⟨rfl, hw⟩
    have hw' := hw.symm
    clear hw
    subst hw'
    have hn := hn0
    have H1 := Lib.hid hR2
    have H2 := Lib.hid hB2
    have HK := Lib.hid (Kept.of_below hb2 (fun k => k = g))
    clear hR2
    obtain ⟨B, hB⟩ : ∃ B, w.heap.size + 1 = B := ⟨_, rfl⟩
    rw [hB] at hn ⊢
    have f0 := blk_frozen hn 0
    have f1 := blk_frozen hn 1
    have f2 := blk_frozen hn 2
    have c0 : w1.cell? ⟨B, 0, none⟩ = some (.int .u64 0) := (blk_cell hn 0).trans rfl
    have c1 : w1.cell? ⟨B, 1, none⟩ = some (.string ⟨#[]⟩) := (blk_cell hn 1).trans rfl
    have c2 : w1.cell? ⟨B, 2, none⟩ = some (.int .i64 0) := (blk_cell hn 2).trans rfl
    have HN := Lib.hid hn
    have HBB := Aside0.mk (show w.heap.size < B by omega)
    clear hn hn0 hB hb2 hB2
    go_wp2
    have hfin := got_end HN.out (.int .u64 (l.length : Int)) (.string ⟨#[]⟩) (.int .i64 0) (Nat.lt_trans hlt HBB.out) (Nat.le_of_lt HBB.out) H1.out H2.out HK.out
    refine bodyPost_ret (results_cell_row rfl _ _ B 97 #[.int .u64 (l.length : Int), .string ⟨#[]⟩, .int .i64 0] (0, 0) _ rfl hfin.1 Tryd.underlying97 rfl (by kernel_rfl)) rfl ?_
    exact ⟨rfl, hfin.2.1, hfin.2.2.1, hfin.2.2.2⟩
  by_cases k4 : kind = 4
  · subst k4
    rw [if_neg (by decide)]
    rw [if_neg (by decide)]
    rw [if_neg (by decide)]
    rw [if_neg (by decide)]
    rw [if_pos rfl]
    go_enter Tryd.func46, Tryd.ntmps46
    go_wp2_with fail
    have hB2 := (HB.out.alloc HB.out.size (.cells #[.int .i64 on, .int .i64 4, .int .u64 X, .int .i64 N] 59)).alloc (by simpa using Nat.le_succ_of_le HB.out.size) (.cells #[.int .u64 0, .string ⟨#[]⟩, .int .i64 0] 97)
    have hb2 := below_alloc (below_alloc (Below.refl w.heap.size w) (.cells #[.int .i64 on, .int .i64 4, .int .u64 X, .int .i64 N] 59)) (.cells #[.int .u64 0, .string ⟨#[]⟩, .int .i64 0] 97)
    have hn0 : ((w.alloc (.cells #[.int .i64 on, .int .i64 4, .int .u64 X, .int .i64 N] 59)).alloc (.cells #[.int .u64 0, .string ⟨#[]⟩, .int .i64 0] 97)).heap[w.heap.size + 1]? = some (.cells #[.int .u64 0, .string ⟨#[]⟩, .int .i64 0] 97) := by simpa using heap_alloc_new (w.alloc (.cells #[.int .i64 on, .int .i64 4, .int .u64 X, .int .i64 N] 59)) (.cells #[.int .u64 0, .string ⟨#[]⟩, .int .i64 0] 97)
    have hR2 := HR.out.below hb2
    generalize (w.alloc (.cells #[.int .i64 on, .int .i64 4, .int .u64 X, .int .i64 N] 59)).alloc (.cells #[.int .u64 0, .string ⟨#[]⟩, .int .i64 0] 97) = W2 at *
    have hg2 := (hb2.cell (World.block_lt_of_cell? w _ HG.out)).trans HG.out
    have hnum : ∀ E, Eo E e → Calls Tryd.prog 49 #[E] W2 fun z w' => z = .returned (.int .i64 e) ∧ Below W2.heap.size W2 w' := fun E hE => number_Eo hE W2 hg2
    have HNum := Lib.hid hnum
    refine (Err_any w0 W2 g l e hR2).mono ?_
    rintro e1 w3 ⟨E, rfl, hE, rfl⟩
    have hn2 := HNum.out E hE
    have HN2 := Lib.hid hn2
    rcases hE.shape with rfl | ⟨t, u, rfl⟩
    · clear hnum hE hn2 HNum
      go_wp2_with fail
      refine HN2.out.mono ?_
      rintro e1 w1 ⟨rfl, hb3⟩
      have hn := blk_below hn0 hb3
      have H1 := Lib.hid (hR2.below hb3)
      have H2 := Lib.hid (below_step hB2 hb3)
      have HK := Lib.hid (Kept.of_below (below_step hb2 hb3) (fun k => k = g))
      clear hR2 hb3 HN2
      obtain ⟨B, hB⟩ : ∃ B, w.heap.size + 1 = B := ⟨_, rfl⟩
      rw [hB] at hn ⊢
      have f0 := blk_frozen hn 0
      have f1 := blk_frozen hn 1
      have f2 := blk_frozen hn 2
      have c0 : w1.cell? ⟨B, 0, none⟩ = some (.int .u64 0) := (blk_cell hn 0).trans rfl
      have c1 : w1.cell? ⟨B, 1, none⟩ = some (.string ⟨#[]⟩) := (blk_cell hn 1).trans rfl
      have c2 : w1.cell? ⟨B, 2, none⟩ = some (.int .i64 0) := (blk_cell hn 2).trans rfl
      have HN := Lib.hid hn
      have HBB := Aside0.mk (show w.heap.size < B by omega)
      clear hn hn0 hB hb2 hB2
      go_wp2
      have hfin := got_end HN.out (.int .u64 0) (.string ⟨#[]⟩) (.int .i64 e) (Nat.lt_trans hlt HBB.out) (Nat.le_of_lt HBB.out) H1.out H2.out HK.out
      refine bodyPost_ret (results_cell_row rfl _ _ B 97 #[.int .u64 0, .string ⟨#[]⟩, .int .i64 e] (0, 0) _ rfl hfin.1 Tryd.underlying97 rfl (by kernel_rfl)) rfl ?_
      exact ⟨rfl, hfin.2.1, hfin.2.2.1, hfin.2.2.2⟩
    · clear hnum hE hn2 HNum
      go_wp2_with fail
      refine HN2.out.mono ?_
      rintro e1 w1 ⟨rfl, hb3⟩
      have hn := blk_below hn0 hb3
      have H1 := Lib.hid (hR2.below hb3)
      have H2 := Lib.hid (below_step hB2 hb3)
      have HK := Lib.hid (Kept.of_below (below_step hb2 hb3) (fun k => k = g))
      clear hR2 hb3 HN2
      obtain ⟨B, hB⟩ : ∃ B, w.heap.size + 1 = B := ⟨_, rfl⟩
      rw [hB] at hn ⊢
      have f0 := blk_frozen hn 0
      have f1 := blk_frozen hn 1
      have f2 := blk_frozen hn 2
      have c0 : w1.cell? ⟨B, 0, none⟩ = some (.int .u64 0) := (blk_cell hn 0).trans rfl
      have c1 : w1.cell? ⟨B, 1, none⟩ = some (.string ⟨#[]⟩) := (blk_cell hn 1).trans rfl
      have c2 : w1.cell? ⟨B, 2, none⟩ = some (.int .i64 0) := (blk_cell hn 2).trans rfl
      have HN := Lib.hid hn
      have HBB := Aside0.mk (show w.heap.size < B by omega)
      clear hn hn0 hB hb2 hB2
      go_wp2
      have hfin := got_end HN.out (.int .u64 0) (.string ⟨#[]⟩) (.int .i64 e) (Nat.lt_trans hlt HBB.out) (Nat.le_of_lt HBB.out) H1.out H2.out HK.out
      refine bodyPost_ret (results_cell_row rfl _ _ B 97 #[.int .u64 0, .string ⟨#[]⟩, .int .i64 e] (0, 0) _ rfl hfin.1 Tryd.underlying97 rfl (by kernel_rfl)) rfl ?_
      exact ⟨rfl, hfin.2.1, hfin.2.2.1, hfin.2.2.2⟩
  · rw [if_neg k0, if_neg k1, if_neg k2, if_neg k3, if_neg k4]
    have q0 : (kind == 0) = false := by simp [k0]
    have q1 : (kind == 1) = false := by simp [k1]
    have q2 : (kind == 2) = false := by simp [k2]
    have q3 : (kind == 3) = false := by simp [k3]
    have q4 : (kind == 4) = false := by simp [k4]
    clear k0 k1 k2 k3 k4
    go_enter Tryd.func46, Tryd.ntmps46
    go_wp2_with fail
    have hB2 := (HB.out.alloc HB.out.size (.cells #[.int .i64 on, .int .i64 kind, .int .u64 X, .int .i64 N] 59)).alloc (by simpa using Nat.le_succ_of_le HB.out.size) (.cells #[.int .u64 0, .string ⟨#[]⟩, .int .i64 0] 97)
    have hb2 := below_alloc (below_alloc (Below.refl w.heap.size w) (.cells #[.int .i64 on, .int .i64 kind, .int .u64 X, .int .i64 N] 59)) (.cells #[.int .u64 0, .string ⟨#[]⟩, .int .i64 0] 97)
    have hn0 : ((w.alloc (.cells #[.int .i64 on, .int .i64 kind, .int .u64 X, .int .i64 N] 59)).alloc (.cells #[.int .u64 0, .string ⟨#[]⟩, .int .i64 0] 97)).heap[w.heap.size + 1]? = some (.cells #[.int .u64 0, .string ⟨#[]⟩, .int .i64 0] 97) := by simpa using heap_alloc_new (w.alloc (.cells #[.int .i64 on, .int .i64 kind, .int .u64 X, .int .i64 N] 59)) (.cells #[.int .u64 0, .string ⟨#[]⟩, .int .i64 0] 97)
    have hR2 := HR.out.below hb2
    generalize (w.alloc (.cells #[.int .i64 on, .int .i64 kind, .int .u64 X, .int .i64 N] 59)).alloc (.cells #[.int .u64 0, .string ⟨#[]⟩, .int .i64 0] 97) = W2 at *
    have hg2 := (hb2.cell (World.block_lt_of_cell? w _ HG.out)).trans HG.out
    have hnum : ∀ E, Eo E (endE l e) → Calls Tryd.prog 49 #[E] W2 fun z w' => z = .returned (.int .i64 (endE l e)) ∧ Below W2.heap.size W2 w' := fun E hE => number_Eo hE W2 hg2
    have HNum := Lib.hid hnum
    refine (End_any w0 W2 g l e hR2).mono ?_
    rintro e1 w3 ⟨E, rfl, hE, rfl⟩
    have hn2 := HNum.out E hE
    have HN2 := Lib.hid hn2
    rcases hE.shape with rfl | ⟨t, u, rfl⟩
    · clear hnum hE hn2 HNum
      go_wp2_with fail
      refine HN2.out.mono ?_
      rintro e1 w1 ⟨rfl, hb3⟩
      have hn := blk_below hn0 hb3
      have H1 := Lib.hid (hR2.below hb3)
      have H2 := Lib.hid (below_step hB2 hb3)
      have HK := Lib.hid (Kept.of_below (below_step hb2 hb3) (fun k => k = g))
      clear hR2 hb3 HN2
      obtain ⟨B, hB⟩ : ∃ B, w.heap.size + 1 = B := ⟨_, rfl⟩
      rw [hB] at hn ⊢
      have f0 := blk_frozen hn 0
      have f1 := blk_frozen hn 1
      have f2 := blk_frozen hn 2
      have c0 : w1.cell? ⟨B, 0, none⟩ = some (.int .u64 0) := (blk_cell hn 0).trans rfl
      have c1 : w1.cell? ⟨B, 1, none⟩ = some (.string ⟨#[]⟩) := (blk_cell hn 1).trans rfl
      have c2 : w1.cell? ⟨B, 2, none⟩ = some (.int .i64 0) := (blk_cell hn 2).trans rfl
      have HN := Lib.hid hn
      have HBB := Aside0.mk (show w.heap.size < B by omega)
      clear hn hn0 hB hb2 hB2
      go_wp2
      have hfin := got_end HN.out (.int .u64 0) (.string ⟨#[]⟩) (.int .i64 (endE l e)) (Nat.lt_trans hlt HBB.out) (Nat.le_of_lt HBB.out) H1.out H2.out HK.out
      refine bodyPost_ret (results_cell_row rfl _ _ B 97 #[.int .u64 0, .string ⟨#[]⟩, .int .i64 (endE l e)] (0, 0) _ rfl hfin.1 Tryd.underlying97 rfl (by kernel_rfl)) rfl ?_
      exact ⟨rfl, hfin.2.1, hfin.2.2.1, hfin.2.2.2⟩
    · clear hnum hE hn2 HNum
      go_wp2_with fail
      refine HN2.out.mono ?_
      rintro e1 w1 ⟨rfl, hb3⟩
      have hn := blk_below hn0 hb3
      have H1 := Lib.hid (hR2.below hb3)
      have H2 := Lib.hid (below_step hB2 hb3)
      have HK := Lib.hid (Kept.of_below (below_step hb2 hb3) (fun k => k = g))
      clear hR2 hb3 HN2
      obtain ⟨B, hB⟩ : ∃ B, w.heap.size + 1 = B := ⟨_, rfl⟩
      rw [hB] at hn ⊢
      have f0 := blk_frozen hn 0
      have f1 := blk_frozen hn 1
      have f2 := blk_frozen hn 2
      have c0 : w1.cell? ⟨B, 0, none⟩ = some (.int .u64 0) := (blk_cell hn 0).trans rfl
      have c1 : w1.cell? ⟨B, 1, none⟩ = some (.string ⟨#[]⟩) := (blk_cell hn 1).trans rfl
      have c2 : w1.cell? ⟨B, 2, none⟩ = some (.int .i64 0) := (blk_cell hn 2).trans rfl
      have HN := Lib.hid hn
      have HBB := Aside0.mk (show w.heap.size < B by omega)
      clear hn hn0 hB hb2 hB2
      go_wp2
      have hfin := got_end HN.out (.int .u64 0) (.string ⟨#[]⟩) (.int .i64 (endE l e)) (Nat.lt_trans hlt HBB.out) (Nat.le_of_lt HBB.out) H1.out H2.out HK.out
      refine bodyPost_ret (results_cell_row rfl _ _ B 97 #[.int .u64 0, .string ⟨#[]⟩, .int .i64 (endE l e)] (0, 0) _ rfl hfin.1 Tryd.underlying97 rfl (by kernel_rfl)) rfl ?_
      exact ⟨rfl, hfin.2.1, hfin.2.2.1, hfin.2.2.2⟩
end Go.Proofs.YtnnhcnmggfhkeaaDoor.Wk

/- The walk of the law's tell. -/
namespace Go.Proofs.YtnnhcnmggfhkeaaDoor.Wk
open Go.RowKit Go.Proofs.YtnnhcnmggfhkeaaDoorW.PrintWords Go.Proofs.YtnnhcnmggfhkeaaDoorW.PrintLast Go.Proofs.YtnnhcnmggfhkeaaDoorW.PrintMore Go.Proofs.YtnnhcnmggfhkeaaDoor.PWireKnown
set_option linter.unusedVariables false
set_option linter.unusedSimpArgs false

theorem Rf.below {w0 w w' : World} {g off : Nat} {cs : Array Value} {b : List Int} {a : Nat} {e : Int} (h : Rf w0 w g off cs b a e) (hb : Below w.heap.size w w') : Rf w0 w' g off cs b a e := by
  obtain ⟨hbk, hg, hB, ha, A0, c0, hc, h3, hC⟩ := h
  exact ⟨blk_below hbk hb, hg, below_step hB hb, ha, A0, c0, hc, h3, hC⟩
theorem Rf.stays {w0 w w' : World} {g off : Nat} {cs : Array Value} {b : List Int} {a : Nat} {e : Int} (h : Rf w0 w g off cs b a e) (hb : Below w.heap.size w w') : MovePost w0 w g off cs b (b.drop a) e w' :=
  ⟨a, rfl, ⟨cs, h.below hb, Rest3.refl _ _⟩, Kept.of_below hb _⟩
theorem Rf.lt {w0 w : World} {g off : Nat} {cs : Array Value} {b : List Int} {a : Nat} {e : Int} (h : Rf w0 w g off cs b a e) : g < w.heap.size := blk_lt h.1
theorem MovePost.kept {w0 w w' : World} {g off : Nat} {cs : Array Value} {b l' : List Int} {e' : Int} (h : MovePost w0 w g off cs b l' e' w') : Kept w w' (fun k => k = g) := by
  obtain ⟨a, _, _, hk⟩ := h
  exact hk
theorem MovePost.since {w0 w v w' : World} {g off : Nat} {cs : Array Value} {b l' : List Int} {e' : Int} (h : MovePost w0 v g off cs b l' e' w') (hb : Below w.heap.size w v) : MovePost w0 w g off cs b l' e' w' := by
  obtain ⟨a, h1, h2, hk⟩ := h
  exact ⟨a, h1, h2, Kept.then_ (Kept.of_below hb (fun k => k = g)) hk (fun _ h => .inl h)⟩
theorem tell_end {w0 w w1 : World} {g off B : Nat} {cs : Array Value} {b l' : List Int} {e' : Int} {u0 u1 u2 : Value} {T : TypeId} (hn : w1.heap[B]? = some (.cells #[u0, u1, u2] T (0, 0))) (v0 v1 v2 : Value) (hgB : g < B) (hwB : w.heap.size ≤ B)
    (h1 : MovePost w0 w g off cs b l' e' w1) :
    (((w1.setCell ⟨B, 0, none⟩ v0).setCell ⟨B, 1, none⟩ v1).setCell ⟨B, 2, none⟩ v2).heap[B]? = some (.cells #[v0, v1, v2] T (0, 0)) ∧
    MovePost w0 w g off cs b l' e' (((w1.setCell ⟨B, 0, none⟩ v0).setCell ⟨B, 1, none⟩ v1).setCell ⟨B, 2, none⟩ v2) := by
  obtain ⟨a, ha, ⟨cs', hr, hrest⟩, hk⟩ := h1
  refine ⟨?_, a, ha, ⟨cs', ?_, hrest⟩, ((hk.setCell (p := ⟨B, _, none⟩) (.inr hwB) _).setCell (p := ⟨B, _, none⟩) (.inr hwB) _).setCell (p := ⟨B, _, none⟩) (.inr hwB) _⟩
  · rw [blk_set (blk_set (blk_set hn 0 v0) 1 v1) 2 v2]
    rfl
  · obtain ⟨hbk, hg, hB, ha, A0, c0, hc, h3, hC⟩ := hr
    refine ⟨?_, hg, ((hB.setCell (Nat.le_trans hg (Nat.le_of_lt hgB)) _).setCell (Nat.le_trans hg (Nat.le_of_lt hgB)) _).setCell (Nat.le_trans hg (Nat.le_of_lt hgB)) _, ha, A0, c0, hc, h3, hC⟩
    rw [Below.heap_setCell _ _ _ _ (by show g ≠ B; omega), Below.heap_setCell _ _ _ _ (by show g ≠ B; omega), Below.heap_setCell _ _ _ _ (by show g ≠ B; omega)]
    exact hbk
def TellPost (w0 w : World) (g off : Nat) (cs : Array Value) (b : List Int) (q : Gt) (e : Ending) (w' : World) : Prop := e = .returned q.val ∧ MovePost w0 w g off cs b q.l q.e w'
set_option maxHeartbeats 8000000 in
set_option maxRecDepth 100000 in
theorem tell_calls (w0 w : World) (g off : Nat) (cs : Array Value) (on kind : Int) (X : Nat) (N : Int) (b : List Int) (a : Nat) (e : Int) (hN : -9223372036854775808 ≤ N ∧ N ≤ 9223372036854775807) (h : Rf w0 w g off cs b a e) (hb : Byt b) (hl : b.length ≤ 140737488351232) :
    Calls Tryd.prog 47 #[.pointer (some ⟨g, off, none⟩), .agg #[.int .i64 on, .int .i64 kind, .int .u64 X, .int .i64 N]] w (TellPost w0 w g off cs b (stG kind X N (b.drop a) e)) := by
  have hlt := h.lt
  have HR := Lib.hid h
  clear h
  unfold stG
  by_cases k0 : kind = 0
  · subst k0
    rw [if_pos rfl]
    go_enter Tryd.func47, Tryd.ntmps47
    go_wp2_with fail
    have hb2 := below_alloc (below_alloc (Below.refl w.heap.size w) (.cells #[.int .i64 on, .int .i64 0, .int .u64 X, .int .i64 N] 59)) (.cells #[.int .u64 0, .string ⟨#[]⟩, .int .i64 0] 97)
    have hn0 : ((w.alloc (.cells #[.int .i64 on, .int .i64 0, .int .u64 X, .int .i64 N] 59)).alloc (.cells #[.int .u64 0, .string ⟨#[]⟩, .int .i64 0] 97)).heap[w.heap.size + 1]? = some (.cells #[.int .u64 0, .string ⟨#[]⟩, .int .i64 0] 97) := by simpa using heap_alloc_new (w.alloc (.cells #[.int .i64 on, .int .i64 0, .int .u64 X, .int .i64 N] 59)) (.cells #[.int .u64 0, .string ⟨#[]⟩, .int .i64 0] 97)
    have hR2 := HR.out.below hb2
    generalize (w.alloc (.cells #[.int .i64 on, .int .i64 0, .int .u64 X, .int .i64 N] 59)).alloc (.cells #[.int .u64 0, .string ⟨#[]⟩, .int .i64 0] 97) = W2 at *
    refine (RefUint w0 W2 g off cs b a e X hR2 hb hl).mono ?_
    rintro e1 w1 ⟨rfl, h1⟩
    have hn := blk_kept hn0 h1.kept (by omega)
    have HM := Lib.hid (h1.since hb2)
    clear h1 hR2
    obtain ⟨B, hB⟩ : ∃ B, w.heap.size + 1 = B := ⟨_, rfl⟩
    rw [hB] at hn ⊢
    have f0 := blk_frozen hn 0
    have f1 := blk_frozen hn 1
    have f2 := blk_frozen hn 2
    have c0 : w1.cell? ⟨B, 0, none⟩ = some (.int .u64 0) := (blk_cell hn 0).trans rfl
    have c1 : w1.cell? ⟨B, 1, none⟩ = some (.string ⟨#[]⟩) := (blk_cell hn 1).trans rfl
    have c2 : w1.cell? ⟨B, 2, none⟩ = some (.int .i64 0) := (blk_cell hn 2).trans rfl
    have HN := Lib.hid hn
    have HBB := Aside0.mk (show w.heap.size < B by omega)
    clear hn hn0 hB hb2
    go_wp2
    have hfin := tell_end HN.out (.int .u64 ((stU X (b.drop a) e).1 : Int)) (.string ⟨#[]⟩) (.int .i64 0) (Nat.lt_trans hlt HBB.out) (Nat.le_of_lt HBB.out) HM.out
    refine bodyPost_ret (results_cell_row rfl _ _ B 97 #[.int .u64 ((stU X (b.drop a) e).1 : Int), .string ⟨#[]⟩, .int .i64 0] (0, 0) _ rfl hfin.1 Tryd.underlying97 rfl (by kernel_rfl)) rfl ?_
    exact ⟨rfl, hfin.2⟩
  by_cases k1 : kind = 1
  · subst k1
    rw [if_neg (by decide)]
    rw [if_pos rfl]
    go_enter Tryd.func47, Tryd.ntmps47
    go_wp2_with fail
    have hb2 := below_alloc (below_alloc (Below.refl w.heap.size w) (.cells #[.int .i64 on, .int .i64 1, .int .u64 X, .int .i64 N] 59)) (.cells #[.int .u64 0, .string ⟨#[]⟩, .int .i64 0] 97)
    have hn0 : ((w.alloc (.cells #[.int .i64 on, .int .i64 1, .int .u64 X, .int .i64 N] 59)).alloc (.cells #[.int .u64 0, .string ⟨#[]⟩, .int .i64 0] 97)).heap[w.heap.size + 1]? = some (.cells #[.int .u64 0, .string ⟨#[]⟩, .int .i64 0] 97) := by simpa using heap_alloc_new (w.alloc (.cells #[.int .i64 on, .int .i64 1, .int .u64 X, .int .i64 N] 59)) (.cells #[.int .u64 0, .string ⟨#[]⟩, .int .i64 0] 97)
    have hR2 := HR.out.below hb2
    generalize (w.alloc (.cells #[.int .i64 on, .int .i64 1, .int .u64 X, .int .i64 N] 59)).alloc (.cells #[.int .u64 0, .string ⟨#[]⟩, .int .i64 0] 97) = W2 at *
    refine (RefInt w0 W2 g off cs b a e hR2 hb hl).mono ?_
    rintro e1 w1 ⟨rfl, h1⟩
    have hn := blk_kept hn0 h1.kept (by omega)
    have HM := Lib.hid (h1.since hb2)
    clear h1 hR2
    obtain ⟨B, hB⟩ : ∃ B, w.heap.size + 1 = B := ⟨_, rfl⟩
    rw [hB] at hn ⊢
    have f0 := blk_frozen hn 0
    have f1 := blk_frozen hn 1
    have f2 := blk_frozen hn 2
    have c0 : w1.cell? ⟨B, 0, none⟩ = some (.int .u64 0) := (blk_cell hn 0).trans rfl
    have c1 : w1.cell? ⟨B, 1, none⟩ = some (.string ⟨#[]⟩) := (blk_cell hn 1).trans rfl
    have c2 : w1.cell? ⟨B, 2, none⟩ = some (.int .i64 0) := (blk_cell hn 2).trans rfl
    have HN := Lib.hid hn
    have HBB := Aside0.mk (show w.heap.size < B by omega)
    clear hn hn0 hB hb2
    go_wp2
    have hfin := tell_end HN.out (.int .u64 (IntKind.u64.wrap (stI (b.drop a) e).1)) (.string ⟨#[]⟩) (.int .i64 0) (Nat.lt_trans hlt HBB.out) (Nat.le_of_lt HBB.out) HM.out
    refine bodyPost_ret (results_cell_row rfl _ _ B 97 #[.int .u64 (IntKind.u64.wrap (stI (b.drop a) e).1), .string ⟨#[]⟩, .int .i64 0] (0, 0) _ rfl hfin.1 Tryd.underlying97 rfl (by kernel_rfl)) rfl ?_
    exact ⟨rfl, hfin.2⟩
  by_cases k2 : kind = 2
  · subst k2
    rw [if_neg (by decide)]
    rw [if_neg (by decide)]
    rw [if_pos rfl]
    go_enter Tryd.func47, Tryd.ntmps47
    go_wp2_with fail
    have hb2 := below_alloc (below_alloc (Below.refl w.heap.size w) (.cells #[.int .i64 on, .int .i64 2, .int .u64 X, .int .i64 N] 59)) (.cells #[.int .u64 0, .string ⟨#[]⟩, .int .i64 0] 97)
    have hn0 : ((w.alloc (.cells #[.int .i64 on, .int .i64 2, .int .u64 X, .int .i64 N] 59)).alloc (.cells #[.int .u64 0, .string ⟨#[]⟩, .int .i64 0] 97)).heap[w.heap.size + 1]? = some (.cells #[.int .u64 0, .string ⟨#[]⟩, .int .i64 0] 97) := by simpa using heap_alloc_new (w.alloc (.cells #[.int .i64 on, .int .i64 2, .int .u64 X, .int .i64 N] 59)) (.cells #[.int .u64 0, .string ⟨#[]⟩, .int .i64 0] 97)
    have hR2 := HR.out.below hb2
    generalize (w.alloc (.cells #[.int .i64 on, .int .i64 2, .int .u64 X, .int .i64 N] 59)).alloc (.cells #[.int .u64 0, .string ⟨#[]⟩, .int .i64 0] 97) = W2 at *
    refine (RefText w0 W2 g off cs b a e N hN hR2 hb hl).mono ?_
    rintro e1 w1 ⟨rfl, h1⟩
    have hn := blk_kept hn0 h1.kept (by omega)
    have HM := Lib.hid (h1.since hb2)
    clear h1 hR2
    obtain ⟨B, hB⟩ : ∃ B, w.heap.size + 1 = B := ⟨_, rfl⟩
    rw [hB] at hn ⊢
    have f0 := blk_frozen hn 0
    have f1 := blk_frozen hn 1
    have f2 := blk_frozen hn 2
    have c0 : w1.cell? ⟨B, 0, none⟩ = some (.int .u64 0) := (blk_cell hn 0).trans rfl
    have c1 : w1.cell? ⟨B, 1, none⟩ = some (.string ⟨#[]⟩) := (blk_cell hn 1).trans rfl
    have c2 : w1.cell? ⟨B, 2, none⟩ = some (.int .i64 0) := (blk_cell hn 2).trans rfl
    have HN := Lib.hid hn
    have HBB := Aside0.mk (show w.heap.size < B by omega)
    clear hn hn0 hB hb2
    go_wp2
    have hfin := tell_end HN.out (.int .u64 0) (.string (stT N.toNat (b.drop a) e).1) (.int .i64 0) (Nat.lt_trans hlt HBB.out) (Nat.le_of_lt HBB.out) HM.out
    refine bodyPost_ret (results_cell_row rfl _ _ B 97 #[.int .u64 0, .string (stT N.toNat (b.drop a) e).1, .int .i64 0] (0, 0) _ rfl hfin.1 Tryd.underlying97 rfl (by kernel_rfl)) rfl ?_
    exact ⟨rfl, hfin.2⟩
  by_cases k3 : kind = 3
  · subst k3
    rw [if_neg (by decide)]
    rw [if_neg (by decide)]
    rw [if_neg (by decide)]
    rw [if_pos rfl]
    go_enter Tryd.func47, Tryd.ntmps47
    go_wp2_with fail
    have hb2 := below_alloc (below_alloc (Below.refl w.heap.size w) (.cells #[.int .i64 on, .int .i64 3, .int .u64 X, .int .i64 N] 59)) (.cells #[.int .u64 0, .string ⟨#[]⟩, .int .i64 0] 97)
    have hn0 : ((w.alloc (.cells #[.int .i64 on, .int .i64 3, .int .u64 X, .int .i64 N] 59)).alloc (.cells #[.int .u64 0, .string ⟨#[]⟩, .int .i64 0] 97)).heap[w.heap.size + 1]? = some (.cells #[.int .u64 0, .string ⟨#[]⟩, .int .i64 0] 97) := by simpa using heap_alloc_new (w.alloc (.cells #[.int .i64 on, .int .i64 3, .int .u64 X, .int .i64 N] 59)) (.cells #[.int .u64 0, .string ⟨#[]⟩, .int .i64 0] 97)
    have hR2 := HR.out.below hb2
    generalize (w.alloc (.cells #[.int .i64 on, .int .i64 3, .int .u64 X, .int .i64 N] 59)).alloc (.cells #[.int .u64 0, .string ⟨#[]⟩, .int .i64 0] 97) = W2 at *
    refine (RefLeft w0 W2 g off cs b a e hR2 hl).mono ?_
    rintro e1 w1 ⟨rfl, hd⟩
    have hn := blk_below hn0 (Drawn0.below hd)
    have HM := Lib.hid ((hR2.stays (Drawn0.below hd)).since hb2)
    have hll : (b.drop a).length ≤ 140737488351232 := by rw [List.length_drop]; omega
    clear hd hR2
    generalize b.drop a = lr at *
    obtain ⟨B, hB⟩ : ∃ B, w.heap.size + 1 = B := ⟨_, rfl⟩
    rw [hB] at hn ⊢
    have f0 := blk_frozen hn 0
    have f1 := blk_frozen hn 1
    have f2 := blk_frozen hn 2
    have c0 : w1.cell? ⟨B, 0, none⟩ = some (.int .u64 0) := (blk_cell hn 0).trans rfl
    have c1 : w1.cell? ⟨B, 1, none⟩ = some (.string ⟨#[]⟩) := (blk_cell hn 1).trans rfl
    have c2 : w1.cell? ⟨B, 2, none⟩ = some (.int .i64 0) := (blk_cell hn 2).trans rfl
    have HN := Lib.hid hn
    have HBB := Aside0.mk (show w.heap.size < B by omega)
    clear hn hn0 hB hb2
    go_wp2
    have hfin := tell_end HN.out (.int .u64 (lr.length : Int)) (.string ⟨#[]⟩) (.int .i64 0) (Nat.lt_trans hlt HBB.out) (Nat.le_of_lt HBB.out) HM.out
    refine bodyPost_ret (results_cell_row rfl _ _ B 97 #[.int .u64 (lr.length : Int), .string ⟨#[]⟩, .int .i64 0] (0, 0) _ rfl hfin.1 Tryd.underlying97 rfl (by kernel_rfl)) rfl ?_
    exact ⟨rfl, hfin.2⟩
  by_cases k4 : kind = 4
  · subst k4
    rw [if_neg (by decide)]
    rw [if_neg (by decide)]
    rw [if_neg (by decide)]
    rw [if_neg (by decide)]
    rw [if_pos rfl]
    go_enter Tryd.func47, Tryd.ntmps47
    obtain ⟨A1, d1, -, -, k2, -, -, -, -⟩ := HR.out.cells
    have k2' := (World.cell?_alloc_lt (w.alloc (.cells #[.int .i64 on, .int .i64 4, .int .u64 X, .int .i64 N] 59)) (.cells #[.int .u64 0, .string ⟨#[]⟩, .int .i64 0] 97) ⟨g, off + 2, none⟩ (by simp; omega)).trans ((World.cell?_alloc_lt w (.cells #[.int .i64 on, .int .i64 4, .int .u64 X, .int .i64 N] 59) ⟨g, off + 2, none⟩ hlt).trans k2)
    have hb2 := below_alloc (below_alloc (Below.refl w.heap.size w) (.cells #[.int .i64 on, .int .i64 4, .int .u64 X, .int .i64 N] 59)) (.cells #[.int .u64 0, .string ⟨#[]⟩, .int .i64 e] 97)
    have hn0 : ((w.alloc (.cells #[.int .i64 on, .int .i64 4, .int .u64 X, .int .i64 N] 59)).alloc (.cells #[.int .u64 0, .string ⟨#[]⟩, .int .i64 e] 97)).heap[w.heap.size + 1]? = some (.cells #[.int .u64 0, .string ⟨#[]⟩, .int .i64 e] 97) := by simpa using heap_alloc_new (w.alloc (.cells #[.int .i64 on, .int .i64 4, .int .u64 X, .int .i64 N] 59)) (.cells #[.int .u64 0, .string ⟨#[]⟩, .int .i64 e] 97)
    have HM := Lib.hid ((HR.out.below hb2).stays (Below.refl _ _) |>.since hb2)
    have HN := Lib.hid hn0
    clear hn0 hb2 k2
    go_wp2
    refine bodyPost_ret (results_cell_row rfl _ _ (w.heap.size + 1) 97 #[.int .u64 0, .string ⟨#[]⟩, .int .i64 e] (0, 0) _ rfl HN.out Tryd.underlying97 rfl (by kernel_rfl)) rfl ?_
    exact ⟨rfl, HM.out⟩
  · rw [if_neg k0, if_neg k1, if_neg k2, if_neg k3, if_neg k4]
    have q0 : (kind == 0) = false := by simp [k0]
    have q1 : (kind == 1) = false := by simp [k1]
    have q2 : (kind == 2) = false := by simp [k2]
    have q3 : (kind == 3) = false := by simp [k3]
    have q4 : (kind == 4) = false := by simp [k4]
    clear k0 k1 k2 k3 k4
    go_enter Tryd.func47, Tryd.ntmps47
    go_wp2_with fail
    have hb2 := below_alloc (below_alloc (Below.refl w.heap.size w) (.cells #[.int .i64 on, .int .i64 kind, .int .u64 X, .int .i64 N] 59)) (.cells #[.int .u64 0, .string ⟨#[]⟩, .int .i64 0] 97)
    have hn0 : ((w.alloc (.cells #[.int .i64 on, .int .i64 kind, .int .u64 X, .int .i64 N] 59)).alloc (.cells #[.int .u64 0, .string ⟨#[]⟩, .int .i64 0] 97)).heap[w.heap.size + 1]? = some (.cells #[.int .u64 0, .string ⟨#[]⟩, .int .i64 0] 97) := by simpa using heap_alloc_new (w.alloc (.cells #[.int .i64 on, .int .i64 kind, .int .u64 X, .int .i64 N] 59)) (.cells #[.int .u64 0, .string ⟨#[]⟩, .int .i64 0] 97)
    have hR2 := HR.out.below hb2
    generalize (w.alloc (.cells #[.int .i64 on, .int .i64 kind, .int .u64 X, .int .i64 N] 59)).alloc (.cells #[.int .u64 0, .string ⟨#[]⟩, .int .i64 0] 97) = W2 at *
    refine (RefEnd w0 W2 g off cs b a e hR2 hl).mono ?_
    rintro e1 w1 ⟨rfl, hd⟩
    have hn := blk_below hn0 (Drawn0.below hd)
    have HM := Lib.hid ((hR2.stays (Drawn0.below hd)).since hb2)
    clear hd hR2
    obtain ⟨B, hB⟩ : ∃ B, w.heap.size + 1 = B := ⟨_, rfl⟩
    rw [hB] at hn ⊢
    have f0 := blk_frozen hn 0
    have f1 := blk_frozen hn 1
    have f2 := blk_frozen hn 2
    have c0 : w1.cell? ⟨B, 0, none⟩ = some (.int .u64 0) := (blk_cell hn 0).trans rfl
    have c1 : w1.cell? ⟨B, 1, none⟩ = some (.string ⟨#[]⟩) := (blk_cell hn 1).trans rfl
    have c2 : w1.cell? ⟨B, 2, none⟩ = some (.int .i64 0) := (blk_cell hn 2).trans rfl
    have HN := Lib.hid hn
    have HBB := Aside0.mk (show w.heap.size < B by omega)
    clear hn hn0 hB hb2
    go_wp2
    have hfin := tell_end HN.out (.int .u64 0) (.string ⟨#[]⟩) (.int .i64 (endE (b.drop a) e)) (Nat.lt_trans hlt HBB.out) (Nat.le_of_lt HBB.out) HM.out
    refine bodyPost_ret (results_cell_row rfl _ _ B 97 #[.int .u64 0, .string ⟨#[]⟩, .int .i64 (endE (b.drop a) e)] (0, 0) _ rfl hfin.1 Tryd.underlying97 rfl (by kernel_rfl)) rfl ?_
    exact ⟨rfl, hfin.2⟩
end Go.Proofs.YtnnhcnmggfhkeaaDoor.Wk

/- The walks of works, LentBytes, KeptBytes. -/
namespace Go.Proofs.YtnnhcnmggfhkeaaDoor.Wk
open Go.RowKit Go.Proofs.YtnnhcnmggfhkeaaDoorW.PrintWords Go.Proofs.YtnnhcnmggfhkeaaDoorW.PrintLast Go.Proofs.YtnnhcnmggfhkeaaDoorW.PrintMore Go.Proofs.YtnnhcnmggfhkeaaDoor.PWireKnown
set_option linter.unusedVariables false
set_option linter.unusedSimpArgs false

theorem stU_enc (x most : Nat) (hx : x < 2 ^ 64) (hm : x ≤ most) (rest : List Int) : stU most (enc x ++ rest) 0 = (x, rest, 0) := by
  have hp : pk (enc x ++ rest) 0 = (x, (enc x).length, 0) := by
    unfold pk
    rw [if_neg (by simp)]
    exact num_enc x hx rest
  unfold stU
  rw [hp]
  dsimp only
  rw [if_neg (by omega), List.drop_left]
set_option maxHeartbeats 4000000 in
set_option maxRecDepth 100000 in
theorem works_calls (w : World) : Calls Tryd.prog 37 #[] w fun e w' => e = .returned (.bool true) ∧ Below w.heap.size w w' := by
  have he := enc_length 300 (by decide)
  have he3 : (enc 300).length = 3 := by decide
  have hby := enc_byt 300 (by decide)
  have hst := stU_enc 300 300 (by decide) (Nat.le_refl _) []
  rw [List.append_nil] at hst
  have HE3 := Lib.hid he3
  have HBy := Lib.hid hby
  have HSt := Lib.hid hst
  clear he he3 hby hst
  go_enter Tryd.func37, Tryd.ntmps37
  go_wp2_with fail
  refine (NewWriter_any w _ (Below.refl _ _)).mono ?_
  rintro e w1 ⟨g, rfl, hW1, hB1, -⟩
  have HW1 := Lib.hid hW1
  have HB1 := Aside0.mk hB1
  clear hW1 hB1
  go_wp2_with fail
  refine (Writer_Uint w w1 g [] 300 HB1.out HW1.out (by decide) (by decide)).mono ?_
  rintro e w2 ⟨rfl, hW2, hB2⟩
  have HW2 := Lib.hid hW2
  have HB2 := Aside0.mk hB2
  rw [List.nil_append] at HW2
  clear hW2 hB2 HW1 HB1
  go_wp2_with fail
  refine (Done_any w w2 g (enc 300) HB2.out HW2.out (by rw [HE3.out]; decide)).mono ?_
  rintro e w3 ⟨v3, rfl, hR3, hB3, -⟩
  obtain ⟨A3, c3, rfl, hc3, hC3⟩ := Kd.R_reads hR3
  have HB3 := Aside0.mk hB3
  have HC3 := Aside0.mk hC3
  clear hR3 hB3 hC3 hc3 HW2 HB2
  go_wp2_with fail
  refine (NewReader_any w w3 A3 c3 (enc 300) HB3.out HC3.out (by rw [HE3.out]; decide)).mono ?_
  rintro e w4 ⟨g4, rfl, hR4, hB4, -, -⟩
  have HR4 := Lib.hid hR4
  have HB4 := Aside0.mk hB4
  clear hR4 hB4 HB3 HC3
  go_wp2_with fail
  refine (Left_any w w4 g4 (enc 300) 0 HR4.out).mono ?_
  rintro e w5 ⟨rfl, rfl⟩
  rw [HE3.out]
  go_wp2_with fail
  refine (Reader_Uint w w4 g4 300 (enc 300) 0 HB4.out HR4.out HBy.out (by rw [HE3.out]; decide)).mono ?_
  rintro e w5 ⟨rfl, hR5, hB5, -⟩
  rw [HSt.out] at hR5 ⊢
  have HR5 := Lib.hid hR5
  have HB5 := Aside0.mk hB5
  clear hR5 hB5 HR4 HB4
  go_wp2_with fail
  refine (End_any w w5 g4 [] 0 HR5.out).mono ?_
  rintro e w6 ⟨E, rfl, hE, rfl⟩
  have hE0 : Eo E 0 := hE
  obtain rfl := Eo.zero hE0
  clear hE0
  clear hE
  go_wp2
  go_ret
  exact ⟨rfl, HB5.out⟩

section
variable {P : Program}
theorem cut_to (t e : TypeId) (kh : IntKind) {i : TypeInfo} (ht : P.underlying t = some (.slice e)) (hi : P.info? e = some i) (A : Option Addr) (n c : Nat) (j : Int) (h0 : 0 ≤ j) (hc : j ≤ c) :
    ∀ W : World, (Instr.slice t (.slice A n c) none (some (.int kh j)) none).run P W = .ok (.slice A j.toNat c) W := by
  intro W
  have hel : P.elem t = e := by simp [Program.elem, ht]
  have hu : P.underlying t = some (.slice (P.elem t)) := by rw [hel]; exact ht
  have ha : (A.map fun x => x.add 0) = A := by cases A <;> simp [Addr.add]
  rw [run_slice_h W t A n c hu kh j h0 (by omega), hel]
  simp [sizeOf, typeInfo, hi, sliced, Result.andThen, ha]
end
/-- A lent list lies there: the list itself, behind it its marks. -/
def Lent (w : World) (A : Option Addr) (n c : Nat) (l : List Int) : Prop := n = l.length ∧ l.length + 16 ≤ c ∧ Kd.C (Kd.int .u8) w A (full l).length (full l)
theorem Lent.reads {w : World} {A : Option Addr} {n c : Nat} {l : List Int} (h : Lent w A n c l) : Kd.C (Kd.int .u8) w A l.length l := by
  have h1 := Kd.C_take (m := l.length) h.2.2 (by rw [full_len]; omega)
  rw [full_take] at h1
  exact h1
theorem Lent.below {w w' : World} {A : Option Addr} {n c : Nat} {l : List Int} (h : Lent w A n c l) (hb : Below w.heap.size w w') : Lent w' A n c l := ⟨h.1, h.2.1, Kd.C_below h.2.2 hb⟩
/-- A block of bytes of its own. -/
def Own (w : World) (A : Option Addr) (base n : Nat) : Prop := ∃ g arr t, A = some ⟨g, 0, none⟩ ∧ base ≤ g ∧ w.heap[g]? = some (.cells arr t (0, 0)) ∧ ∀ i, i < n → ∃ x, arr[i]? = some (.int .u8 x)
theorem Own.of_R {w : World} {base e : Nat} {ok : Nat → Prop} {A : Option Addr} {n c : Nat} {xs : List Int} (h : Kd.R (Kd.int .u8) e w base ok (.slice A n c) xs) (h0 : 0 < xs.length) : Own w A base xs.length := by
  have ho := Kd.own_of_R (enc := Value.int .u8) (h1 := fun _ => rfl) h
  rcases ho.2 with ⟨he, hn⟩ | ⟨g, cap, cur, he, hbase, hg, hcells, hrest⟩
  · omega
  · cases he
    refine ⟨g, cur, e, rfl, hbase, hg, fun i hi => ?_⟩
    have hC := (Kd.R_reads' h).2.2
    obtain ⟨ad, hA, hc⟩ := Kd.at_int hC i (by omega) (by omega)
    cases hA
    have ea : (⟨g, 0, none⟩ : Addr).add (i : Int).toNat = ⟨g, i, none⟩ := by
      rw [Int.toNat_natCast]
      simp [Addr.add]
      intro h
      exact h.symm
    rw [ea, blk_cell hg i] at hc
    exact ⟨_, hc⟩
set_option maxHeartbeats 1000000 in
theorem Lent_calls (w : World) (l : List Int) (A : Option Addr) (c : Nat) (hC : Kd.C (Kd.int .u8) w A l.length l) (hc : l.length ≤ c) (hl : l.length ≤ 140737488351232) :
    Calls Tryd.prog 44 #[.slice A l.length c] w fun e w' => ∃ A' n' c', e = .returned (.slice A' n' c') ∧ Lent w' A' n' c' l ∧ Own w' A' w.heap.size (l.length + 16) ∧ Below w.heap.size w w' := by
  go_enter Tryd.func44, Tryd.ntmps44
  go_wp2_with fail
  refine (custodykit_FullBytes.calls _ A c l (full l) w hC hc (full_ok (l.length + 21) l hl (by omega))).mono ?_
  rintro e w1 ⟨v, rfl, hN, hB⟩
  obtain ⟨A1, c1, rfl, hc1, hr⟩ := Kd.R_reads hN
  have hfl := full_len l
  have ho := Own.of_R hN (by omega)
  rw [hfl] at ho
  obtain ⟨i0, hi0, _, hsz, _⟩ := info_parts info5
  have hcut := cut_to (P := Tryd.prog) 29 5 .i64 Tryd.underlying29 hi0 A1 (full l).length c1 (l.length : Int) (by omega) (by omega)
  have HR := Aside0.mk hr
  have HB := Aside0.mk hB
  have HO := Lib.hid ho
  have HC1 := Lib.hid hc1
  have HF := Lib.hid hfl
  clear hr hB hN hc1 hfl hi0 hsz ho
  go_wp2
  go_ret
  exact ⟨_, _, _, rfl, ⟨by omega, by have := HC1.out; have := HF.out; omega, HR.out⟩, HO.out, HB.out⟩

set_option maxHeartbeats 1000000 in
theorem Kept_calls (w : World) (l : List Int) (A B : Option Addr) (n c cB : Nat) (h : Lent w A n c l) (hC : Kd.C (Kd.int .u8) w B l.length l) (hcB : l.length ≤ cB) (hl : l.length ≤ 140737488351232) :
    Calls Tryd.prog 45 #[.slice A n c, .slice B l.length cB] w fun e w' => e = .returned (.bool true) ∧ Drawn0 w w' := by
  obtain ⟨rfl, hcap, hA⟩ := h
  obtain ⟨i0, hi0, _, hsz, _⟩ := info_parts info5
  have hcut := cut_to (P := Tryd.prog) 29 5 .i64 Tryd.underlying29 hi0 A l.length c ((l.length : Int) + 16) (by omega) (by omega)
  rw [show ((l.length : Int) + 16).toNat = (full l).length by rw [full_len]; omega] at hcut
  have hfl : (full l).length ≤ c := by rw [full_len]; omega
  have hk := custodykit_KeptFullBytes.calls (l.length + 17) A c (full l) B cB l true w hA hfl hC hcB (keptFull_ok _ l hl (by omega))
  have HK := Lib.hid hk
  have b0 : ((l.length : Int) != (l.length : Int)) = false := by simp
  obtain ⟨nf, hnf⟩ : ∃ nf, (full l).length = nf := ⟨_, rfl⟩
  rw [hnf] at hcut HK
  clear hA hC hi0 hsz hk hfl hnf
  go_enter Tryd.func45, Tryd.ntmps45
  go_wp2_with fail
  refine HK.out.mono ?_
  rintro e w1 ⟨rfl, ⟨k, rfl⟩⟩
  go_wp2
  go_ret
  exact ⟨rfl, ⟨⟨k, rfl⟩⟩⟩
end Go.Proofs.YtnnhcnmggfhkeaaDoor.Wk

/- Two readers of the program's and two of the document's, in turns: what stays, what moves. -/
namespace Go.Proofs.YtnnhcnmggfhkeaaDoor.Wk
open Go.RowKit Go.Proofs.YtnnhcnmggfhkeaaDoorW.PrintWords Go.Proofs.YtnnhcnmggfhkeaaDoorW.PrintLast Go.Proofs.YtnnhcnmggfhkeaaDoorW.PrintMore Go.Proofs.YtnnhcnmggfhkeaaDoor.PWireKnown
set_option linter.unusedVariables false
set_option linter.unusedSimpArgs false

/-- The world's first lo blocks. -/
def base (w : World) (lo : Nat) : World := { w with heap := w.heap.extract 0 lo }
theorem base_size (w : World) (lo : Nat) (h : lo ≤ w.heap.size) : (base w lo).heap.size = lo := by simp [base]; omega
theorem base_below (w : World) (lo : Nat) (h : lo ≤ w.heap.size) : Below (base w lo).heap.size (base w lo) w := by
  rw [base_size w lo h]
  refine ⟨rfl, rfl, rfl, by rw [base_size w lo h]; exact h, fun k hk => ?_⟩
  show w.heap[k]? = (w.heap.extract 0 lo)[k]?
  rw [Array.getElem?_extract]
  simp [hk]
  omega
theorem below_base {w0 w w' : World} {lo : Nat} (h : lo ≤ w.heap.size) (h0 : w0.heap.size ≤ lo) (hb : Below w0.heap.size w0 w) (hk : Below (base w lo).heap.size (base w lo) w') : Below w0.heap.size w0 w' := by
  have hs := base_size w lo h
  have hbb := base_below w lo h
  refine ⟨hk.os.trans hb.os, ?_, hk.output.trans hb.output, by have := hk.size; omega, fun k hk0 => ?_⟩
  · exact hk.tape.trans hb.tape
  · rw [hk.block k (by omega), ← hbb.block k (by omega)]
    exact hb.block k hk0
/-- A reader whose own blocks are lo or above. -/
def Rdn (lo : Nat) (w : World) (g : Nat) (l : List Int) (e : Int) : Prop := ∀ v : World, v.heap.size = lo → Rd v w g l e
theorem Rd.n {w0 w : World} {g : Nat} {l : List Int} {e : Int} (h : Rd w0 w g l e) : Rdn w0.heap.size w g l e := fun v hv => h.lower (by omega)
theorem Rdn.base {lo : Nat} {w : World} {g : Nat} {l : List Int} {e : Int} (h : Rdn lo w g l e) (hw : lo ≤ w.heap.size) : Rd (base w lo) w g l e := h _ (base_size w lo hw)
theorem Rdn.apart {lo : Nat} {w w' : World} {g g2 : Nat} {l : List Int} {e : Int} (h : Rdn lo w g l e) (hk : Kept w w' (fun k => k = g2)) (h2 : g2 < lo ∨ g < g2) : Rdn lo w' g l e :=
  fun v hv => (h v hv).apart hk (by omega)
theorem Rdn.below {lo : Nat} {w w' : World} {g : Nat} {l : List Int} {e : Int} (h : Rdn lo w g l e) (hb : Below w.heap.size w w') : Rdn lo w' g l e := fun v hv => (h v hv).below hb
theorem Rdn.since {lo : Nat} {w w' : World} {g : Nat} {l : List Int} {e : Int} (h : Rdn lo w g l e) (hk : Kept w w' (fun k => k < lo)) : Rdn lo w' g l e := fun v hv => (h v hv).since (hk.mono (fun k hk => by omega))
theorem Rf.kept {w0 w w' : World} {g off : Nat} {cs : Array Value} {b : List Int} {a : Nat} {e : Int} (h : Rf w0 w g off cs b a e) (hB : Below w0.heap.size w0 w') {g2 : Nat} (hk : Kept w w' (fun k => k = g2)) (hne : g ≠ g2) : Rf w0 w' g off cs b a e := by
  obtain ⟨hbk, hg, hB0, ha, A0, c0, hc, h3, hC⟩ := h
  exact ⟨blk_kept hbk hk hne, hg, hB, ha, A0, c0, hc, h3, hC⟩

/-- What holds between the calls. -/
structure RInv (w : World) (G g1 g2 R lo1 lo2 : Nat) (a b : List Int) (a0 a1 : Nat) (e0 e1 : Int) (cs : Array Value) (w' : World) : Prop where
  below : Below w.heap.size w w'
  rs : w'.heap[R]? = some (.cells #[.pointer (some ⟨g1, 0, none⟩), .pointer (some ⟨g2, 0, none⟩)] 92 (0, 0))
  r1 : Rdn lo1 w' g1 (a.drop a0) e0
  r2 : Rdn lo2 w' g2 (b.drop a1) e1
  f1 : Rf w w' G 0 cs a a0 e0
  f2 : Rf w w' G 3 cs b a1 e1
structure Ord (w : World) (G g1 g2 R lo1 lo2 : Nat) : Prop where
  h0 : w.heap.size ≤ lo1
  h1 : lo1 ≤ g1
  h2 : g1 < lo2
  h3 : lo2 ≤ g2
  h4 : g2 < R
  h5 : R < G
theorem RInv.still {w : World} {G g1 g2 R lo1 lo2 : Nat} {a b : List Int} {a0 a1 : Nat} {e0 e1 : Int} {cs : Array Value} {w1 w2 : World} (h : RInv w G g1 g2 R lo1 lo2 a b a0 a1 e0 e1 cs w1) (hb : Below w1.heap.size w1 w2) : RInv w G g1 g2 R lo1 lo2 a b a0 a1 e0 e1 cs w2 :=
  ⟨below_step h.below hb, blk_below h.rs hb, h.r1.below hb, h.r2.below hb, h.f1.below hb, h.f2.below hb⟩
/-- Behind the program's answer of the first reader; of the second. -/
structure RMid (w : World) (G g1 g2 R lo1 lo2 : Nat) (a b : List Int) (a0 a1 : Nat) (e0 e1 : Int) (l0 l1 : List Int) (d0 d1 : Int) (cs : Array Value) (w' : World) : Prop where
  below : Below w.heap.size w w'
  rs : w'.heap[R]? = some (.cells #[.pointer (some ⟨g1, 0, none⟩), .pointer (some ⟨g2, 0, none⟩)] 92 (0, 0))
  r1 : Rdn lo1 w' g1 l0 d0
  r2 : Rdn lo2 w' g2 l1 d1
  f1 : Rf w w' G 0 cs a a0 e0
  f2 : Rf w w' G 3 cs b a1 e1
theorem RInv.asked1 {w : World} {G g1 g2 R lo1 lo2 : Nat} {a b : List Int} {a0 a1 : Nat} {e0 e1 : Int} {cs : Array Value} {w1 w2 : World} (h : RInv w G g1 g2 R lo1 lo2 a b a0 a1 e0 e1 cs w1) (o : Ord w G g1 g2 R lo1 lo2)
    {l' : List Int} {d' : Int} (hr : Rd (base w1 lo1) w2 g1 l' d') (hB : Below (base w1 lo1).heap.size (base w1 lo1) w2) (hk : Kept w1 w2 (fun k => k = g1)) : RMid w G g1 g2 R lo1 lo2 a b a0 a1 e0 e1 l' (b.drop a1) d' e1 cs w2 := by
  have hG := h.f1.lt
  obtain ⟨o0, o1, o2, o3, o4, o5⟩ := o
  have hlo : lo1 ≤ w1.heap.size := by omega
  have hb2 := below_base hlo o0 h.below hB
  refine ⟨hb2, blk_kept h.rs hk (by omega), fun v hv => hr.lower (by rw [base_size _ _ hlo]; omega), h.r2.apart hk (.inl o2), h.f1.kept hb2 hk (by omega), h.f2.kept hb2 hk (by omega)⟩
theorem RInv.asked2 {w : World} {G g1 g2 R lo1 lo2 : Nat} {a b : List Int} {a0 a1 : Nat} {e0 e1 : Int} {cs : Array Value} {w1 w2 : World} (h : RInv w G g1 g2 R lo1 lo2 a b a0 a1 e0 e1 cs w1) (o : Ord w G g1 g2 R lo1 lo2)
    {l' : List Int} {d' : Int} (hr : Rd (base w1 lo2) w2 g2 l' d') (hB : Below (base w1 lo2).heap.size (base w1 lo2) w2) (hk : Kept w1 w2 (fun k => k = g2)) : RMid w G g1 g2 R lo1 lo2 a b a0 a1 e0 e1 (a.drop a0) l' e0 d' cs w2 := by
  have hG := h.f1.lt
  obtain ⟨o0, o1, o2, o3, o4, o5⟩ := o
  have hlo : lo2 ≤ w1.heap.size := by omega
  have hb2 := below_base hlo (by omega) h.below hB
  refine ⟨hb2, blk_kept h.rs hk (by omega), h.r1.apart hk (.inr (by omega)), fun v hv => hr.lower (by rw [base_size _ _ hlo]; omega), h.f1.kept hb2 hk (by omega), h.f2.kept hb2 hk (by omega)⟩
def RSome (w : World) (G g1 g2 R lo1 lo2 : Nat) (a b : List Int) (w' : World) : Prop := ∃ a0 a1 e0 e1 cs, RInv w G g1 g2 R lo1 lo2 a b a0 a1 e0 e1 cs w'
theorem RMid.told1 {w : World} {G g1 g2 R lo1 lo2 : Nat} {a b : List Int} {a0 a1 : Nat} {e0 e1 : Int} {l' : List Int} {d' : Int} {cs : Array Value} {w1 w2 : World} (h : RMid w G g1 g2 R lo1 lo2 a b a0 a1 e0 e1 l' (b.drop a1) d' e1 cs w1) (o : Ord w G g1 g2 R lo1 lo2)
    (hm : MovePost w w1 G 0 cs a l' d' w2) : RSome w G g1 g2 R lo1 lo2 a b w2 := by
  obtain ⟨o0, o1, o2, o3, o4, o5⟩ := o
  obtain ⟨a', rfl, ⟨cs', hf, hrest⟩, hk⟩ := hm
  have hf2 : Rf w w2 G 3 cs' b a1 e1 := by
    obtain ⟨hbk, hg, hB0, ha, A0, c0, hc, h3, hC⟩ := h.f2
    exact ⟨hf.1, hg, hf.2.2.1, ha, A0, c0, hc, h3.other hrest (by omega), hC⟩
  exact ⟨a', a1, d', e1, cs', ⟨hf.2.2.1, blk_kept h.rs hk (by omega), h.r1.apart hk (.inr (by omega)), h.r2.apart hk (.inr (by omega)), hf, hf2⟩⟩
theorem RMid.told2 {w : World} {G g1 g2 R lo1 lo2 : Nat} {a b : List Int} {a0 a1 : Nat} {e0 e1 : Int} {l' : List Int} {d' : Int} {cs : Array Value} {w1 w2 : World} (h : RMid w G g1 g2 R lo1 lo2 a b a0 a1 e0 e1 (a.drop a0) l' e0 d' cs w1) (o : Ord w G g1 g2 R lo1 lo2)
    (hm : MovePost w w1 G 3 cs b l' d' w2) : RSome w G g1 g2 R lo1 lo2 a b w2 := by
  obtain ⟨o0, o1, o2, o3, o4, o5⟩ := o
  obtain ⟨a', rfl, ⟨cs', hf, hrest⟩, hk⟩ := hm
  have hf1 : Rf w w2 G 0 cs' a a0 e0 := by
    obtain ⟨hbk, hg, hB0, ha, A0, c0, hc, h3, hC⟩ := h.f1
    exact ⟨hf.1, hg, hf.2.2.1, ha, A0, c0, hc, h3.other hrest (by omega), hC⟩
  exact ⟨a0, a', e0, d', cs', ⟨hf.2.2.1, blk_kept h.rs hk (by omega), h.r1.apart hk (.inr (by omega)), h.r2.apart hk (.inr (by omega)), hf1, hf⟩⟩
end Go.Proofs.YtnnhcnmggfhkeaaDoor.Wk


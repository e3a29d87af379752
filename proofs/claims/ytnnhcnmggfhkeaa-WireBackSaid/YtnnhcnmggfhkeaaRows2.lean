/- The walks of lay, works and vast. -/
import Derived.Test.YtnnhcnmggfhkeaaReader
import Derived.RegionTactic
import Derived.ChangeAlike
import Derived.BigRegion
namespace Go.Proofs.Ytnnhcnmggfhkeaa.Wb
open Go.RowKit Go.Proofs.YtnnhcnmggfhkeaaW.PrintWords Go.Proofs.YtnnhcnmggfhkeaaW.PrintLast Go.Proofs.YtnnhcnmggfhkeaaW.PrintMore
set_option linter.unusedVariables false

/-! #### struct type 30 -/
structure S30 where
  f0 : Int
  f1 : Int
  f2 : Int
  f3 : ByteArray
def z30 : S30 := ⟨(0 : Int), (0 : Int), (0 : Int), (⟨#[]⟩ : ByteArray)⟩
def k30 : Kd S30 := Kd.iso (Kd.pair (Kd.int .i64) (Kd.pair (Kd.int .i64) (Kd.pair (Kd.int .u64) Kd.string))) (fun x : S30 => (x.f0, x.f1, x.f2, x.f3))
theorem k30_open {w : World} {x : S30} {cs : List Value} (h : k30.K w x cs) : cs = [.int .i64 x.f0, .int .i64 x.f1, .int .u64 x.f2, .string x.f3] := by
  obtain ⟨_, _, rfl, rfl, ⟨_, _, rfl, rfl, ⟨_, _, rfl, rfl, rfl⟩⟩⟩ := h
  exact rfl
theorem k30_openM {w : World} {base : Nat} {ok : Nat → Prop} {x : S30} {cs : List Value} (h : k30.M w base ok x cs) : cs = [.int .i64 x.f0, .int .i64 x.f1, .int .u64 x.f2, .string x.f3] := by
  obtain ⟨_, _, rfl, rfl, ⟨_, _, rfl, rfl, ⟨_, _, rfl, rfl, rfl⟩⟩⟩ := h
  exact rfl
theorem k30_mk (w : World) (x : S30)  : k30.K w x [.int .i64 x.f0, .int .i64 x.f1, .int .u64 x.f2, .string x.f3] := ⟨[.int .i64 x.f0], [.int .i64 x.f1, .int .u64 x.f2, .string x.f3], rfl, rfl, ⟨[.int .i64 x.f1], [.int .u64 x.f2, .string x.f3], rfl, rfl, ⟨[.int .u64 x.f2], [.string x.f3], rfl, rfl, rfl⟩⟩⟩
theorem k30_mkM (w : World) (base : Nat) (ok : Nat → Prop) (x : S30)  : k30.M w base ok x [.int .i64 x.f0, .int .i64 x.f1, .int .u64 x.f2, .string x.f3] := ⟨[.int .i64 x.f0], [.int .i64 x.f1, .int .u64 x.f2, .string x.f3], rfl, rfl, ⟨[.int .i64 x.f1], [.int .u64 x.f2, .string x.f3], rfl, rfl, ⟨[.int .u64 x.f2], [.string x.f3], rfl, rfl, rfl⟩⟩⟩
def rd_T30 (xs : List S30) (i : Int) : S30 := xs.getD i.toNat z30
theorem at_T30 {w : World} {A : Option Addr} {n : Nat} {xs : List S30} (h : Kd.C k30 w A n xs) (i : Int) (h0 : 0 ≤ i) (h1 : i < n) : ∃ ad , A = some ad ∧ w.cell? (ad.add (i.toNat * 4)) = some (.int .i64 (rd_T30 xs i).f0) ∧ w.cell? ⟨(ad.add (i.toNat * 4)).block, (ad.add (i.toNat * 4)).off + 1, none⟩ = some (.int .i64 (rd_T30 xs i).f1) ∧ w.cell? ⟨(ad.add (i.toNat * 4)).block, (ad.add (i.toNat * 4)).off + 2, none⟩ = some (.int .u64 (rd_T30 xs i).f2) ∧ w.cell? ⟨(ad.add (i.toNat * 4)).block, (ad.add (i.toNat * 4)).off + 3, none⟩ = some (.string (rd_T30 xs i).f3) := by
  obtain ⟨ad, c, e, _, hK, hc0⟩ := Kd.C_get h z30 i h0 h1
  have hc : ∀ j u, c[j]? = some u → w.cell? (ad.add (i.toNat * 4 + j)) = some u := hc0
  obtain rfl := k30_open hK
  exact ⟨ad, e, hc 0 _ rfl, by rw [← add_field _ _ 1 (by omega)]; exact hc 1 _ rfl, by rw [← add_field _ _ 2 (by omega)]; exact hc 2 _ rfl, by rw [← add_field _ _ 3 (by omega)]; exact hc 3 _ rfl⟩


/-- What a call writes. -/
def form (p : S30) : List Int :=
  if p.f1 = 0 then enc p.f2.toNat else if p.f1 = 1 then enc (zz (wrap64 p.f2)) else if p.f1 = 2 then enc p.f3.size ++ bytesOf p.f3 else []
def OkPut (p : S30) : Prop := 0 ≤ p.f2 ∧ p.f2 ≤ 18446744073709551615 ∧ p.f3.size ≤ 140737488351232

theorem wrap64_bd (x : Int) : -9223372036854775808 ≤ wrap64 x ∧ wrap64 x ≤ 9223372036854775807 := by unfold wrap64; omega

set_option maxHeartbeats 2000000 in
theorem lay_any (w0 w : World) (g : Nat) (l : List Int) (p : S30) (hp : OkPut p) (hB : Below w0.heap.size w0 w) (h : Wr w0 w g l) (hl : l.length + 9 + p.f3.size < 140737488355328) :
    Calls Try.prog 7 #[.pointer (some ⟨g, 0, none⟩), .agg #[.int .i64 p.f0, .int .i64 p.f1, .int .u64 p.f2, .string p.f3]] w fun e w' => e = .returned (.tuple #[]) ∧ Wr w0 w' g (l ++ form p) ∧ Below w0.heap.size w0 w' := by
  obtain ⟨hp0, hp1, hp2⟩ := hp
  have hW : ∀ o, Wr w0 (w.alloc o) g l := fun o => by
    obtain ⟨v, hb, hg, hR⟩ := h
    exact ⟨v, blk_alloc hb o, hg, Kd.R_alloc hR o⟩
  have HW := Lib.hid hW
  have HB := Aside0.mk hB
  clear hW h hB
  by_cases c0 : p.f1 = 0
  · have HF : Hid (form p = enc p.f2.toNat) := by unfold form Hid; rw [if_pos c0]
    have b0 : (p.f1 == 0) = true := by simp [c0]
    obtain ⟨x, hx⟩ := Int.eq_ofNat_of_zero_le hp0
    have HX := Lib.hid hx
    clear c0 hx
    go_enter Try.func7, Try.ntmps7
    go_wp2_with fail
    rw [HX.out]
    refine (Writer_Uint w0 _ g l x (below_alloc HB.out _) (HW.out _) (by have := HX.out; omega) (by omega)).mono ?_
    rintro e w1 ⟨rfl, h1, h2⟩
    have H1 := Aside0.mk h1
    have H2 := Aside0.mk h2
    clear h1 h2
    go_wp2
    go_end0
    exact ⟨rfl, by rw [HF.out, HX.out]; exact H1.out, H2.out⟩
  · have b0 : (p.f1 == 0) = false := by simp [c0]
    have z0 : ¬ p.f1 = 0 := c0
    by_cases c1 : p.f1 = 1
    · have HF : Hid (form p = enc (zz (wrap64 p.f2))) := by unfold form Hid; rw [if_neg c0, if_pos c1]
      have b1 : (p.f1 == 1) = true := by simp [c1]
      clear c0 c1 z0
      go_enter Try.func7, Try.ntmps7
      go_wp2_with fail
      refine (Writer_Int w0 _ g l (wrap64 p.f2) (below_alloc HB.out _) (HW.out _) (wrap64_bd _) (by omega)).mono ?_
      rintro e w1 ⟨rfl, h1, h2⟩
      have H1 := Aside0.mk h1
      have H2 := Aside0.mk h2
      clear h1 h2
      go_wp2
      go_end0
      exact ⟨rfl, by rw [HF.out]; exact H1.out, H2.out⟩
    · have b1 : (p.f1 == 1) = false := by simp [c1]
      by_cases c2 : p.f1 = 2
      · have HF : Hid (form p = enc p.f3.size ++ bytesOf p.f3) := by unfold form Hid; rw [if_neg c0, if_neg c1, if_pos c2]
        have b2 : (p.f1 == 2) = true := by simp [c2]
        clear c0 c1 c2 z0
        go_enter Try.func7, Try.ntmps7
        go_wp2_with fail
        refine (Writer_Text w0 _ g l p.f3 (below_alloc HB.out _) (HW.out _) hp2 (by omega)).mono ?_
        rintro e w1 ⟨rfl, h1, h2⟩
        have H1 := Aside0.mk h1
        have H2 := Aside0.mk h2
        clear h1 h2
        go_wp2
        go_end0
        exact ⟨rfl, by rw [HF.out, ← List.append_assoc]; exact H1.out, H2.out⟩
      · have HF : Hid (form p = []) := by unfold form Hid; rw [if_neg c0, if_neg c1, if_neg c2]
        have b2 : (p.f1 == 2) = false := by simp [c2]
        clear c0 c1 c2 z0
        go_enter Try.func7, Try.ntmps7
        go_wp2
        go_end0
        exact ⟨rfl, by rw [HF.out, List.append_nil]; exact HW.out _, below_alloc HB.out _⟩

set_option maxHeartbeats 2000000 in
theorem works_any (w0 w : World) (hB : Below w0.heap.size w0 w) :
    Calls Try.prog 5 #[] w fun e w' => e = .returned (.bool true) ∧ Below w0.heap.size w0 w' ∧ Below w.heap.size w w' := by
  go_enter Try.func5, Try.ntmps5
  go_wp2_with fail
  refine (NewWriter_any w w (Below.refl _ _)).mono ?_
  rintro e w1 ⟨g, rfl, h1, h2, h3⟩
  have H1 := Aside0.mk h1
  have H2 := Aside0.mk h2
  clear h1 h2 h3
  go_wp2_with fail
  refine (Writer_Uint w _ g [] 300 H2.out H1.out (by omega) (by simp)).mono ?_
  rintro e w2 ⟨rfl, h1, h2⟩
  replace H1 := Aside0.mk h1
  replace H2 := Aside0.mk h2
  clear h1 h2
  have e300 : [] ++ enc 300 = [249, 1, 44] := by decide +kernel
  rw [e300] at H1
  clear e300
  go_wp2_with fail
  refine (Done_any w _ g _ H2.out H1.out (by simp)).mono ?_
  rintro e w3 ⟨v, rfl, h1, h2, h3⟩
  obtain ⟨A, c, rfl, h4, h5⟩ := Kd.R_reads h1
  have H5 := Aside0.mk h5
  have H3 := Aside0.mk h2
  clear h1 h2 h3 h4 h5
  go_wp2_with fail
  refine (NewReader_any w _ A c [249, 1, 44] H3.out H5.out (by simp)).mono ?_
  rintro e w4 ⟨g2, rfl, h1, h2, h3⟩
  have H6 := Aside0.mk h1
  have H7 := Aside0.mk h2
  clear h1 h2 h3
  go_wp2_with fail
  refine (Left_any w _ g2 _ H6.out).mono ?_
  rintro e w5 ⟨rfl, rfl⟩
  go_wp2_with fail
  have e300 : [249, 1, 44] = enc 300 ++ [] := by decide +kernel
  refine (Reader_Uint w _ g2 300 [] H7.out (by rw [← e300]; exact H6.out) (by omega) (by decide +kernel)).mono ?_
  rintro e w5 ⟨rfl, h1, h2, h3⟩
  have H8 := Aside0.mk h1
  have H9 := Aside0.mk h2
  clear h1 h2 h3 e300
  go_wp2_with fail
  refine (End_nil w _ g2 H8.out).mono ?_
  rintro e w6 ⟨rfl, rfl⟩
  go_wp2
  go_ret
  exact ⟨rfl, below_then hB hB.size H9.out, H9.out⟩

/-- How many bytes the texts have. -/
def texts (l : List S30) : Nat := (l.map (fun p => p.f3.size)).sum

theorem texts_snoc (l : List S30) (i : Int) (h0 : 0 ≤ i) (h1 : i < l.length) : texts (l.take (i + 1).toNat) = texts (l.take i.toNat) + (rd_T30 l i).f3.size := by
  obtain ⟨n, rfl⟩ := Int.eq_ofNat_of_zero_le h0
  have hn : n < l.length := by omega
  have e : ((n : Int) + 1).toNat = n + 1 := by omega
  rw [e, Int.toNat_natCast, List.take_succ_eq_append_getElem hn]
  unfold texts
  rw [List.map_append, List.sum_append]
  simp [rd_T30, List.getElem?_eq_getElem hn]
theorem rd_mem (l : List S30) (i : Int) (h0 : 0 ≤ i) (h1 : i < l.length) : rd_T30 l i ∈ l := by
  have hn : i.toNat < l.length := by omega
  simp [rd_T30, List.getElem?_eq_getElem hn]
theorem pick_two (x : Int) : ∃ r, custodykit_Pick.f x 2 = some r ∧ (r = 0 ∨ r = 1) := by
  unfold custodykit_Pick.f
  rw [if_neg (by omega), if_neg (by omega)]
  have := Int.tmod_lt_of_pos x (show (0 : Int) < 2 by omega)
  have h2 : -2 < Int.tmod x 2 := by
    have h3 := Int.lt_tmod_of_pos x (show (0 : Int) < 2 by omega)
    omega
  split
  · exact ⟨_, rfl, by rw [wrap64_id (by omega) (by omega)]; omega⟩
  · exact ⟨_, rfl, by omega⟩

def VastPost (l : List S30) (w : World) (e : Ending) (w' : World) : Prop := ∃ b, e = .returned (.bool b) ∧ (b = false → texts l ≤ 33554432) ∧ Below w.heap.size w w'
set_option maxHeartbeats 4000000 in
set_option maxRecDepth 100000 in
theorem vast_any (w : World) (A : Option Addr) (c : Nat) (l : List S30) (hC : Kd.C k30 w A l.length l) (hl : l.length * 40 ≤ 140737488351232) (hp : ∀ p ∈ l, OkPut p) :
    Calls Try.prog 6 #[.slice A l.length c] w (VastPost l w) := by
  have HC := Aside0.mk hC
  have HP := Lib.hid hp
  clear hC hp
  have hu30 := Try.underlying30
  obtain ⟨B, hBd⟩ : ∃ B, w.heap.size = B := ⟨_, rfl⟩
  go_enter Try.func6, Try.ntmps6
  go_wp2_with fail
  go_loopw [3, 5] (fun v3 v5 wr => ∃ s i a b : Int, v3 = .int .i64 s ∧ v5 = .int .i64 i ∧ 0 ≤ i ∧ i ≤ l.length ∧ Aside0 ((texts (l.take i.toNat) : Int) ≤ s) ∧ 0 ≤ s ∧ s ≤ 1125899906842624 ∧ 0 ≤ a ∧ a ≤ s + 16 * i ∧ 0 ≤ b ∧ b ≤ s + 16 * i ∧
    Aside0 (wr.heap[w.heap.size]? = some (.cells #[.int .i64 a, .int .i64 b] 49 (0, 0))) ∧ Aside0 (Below w.heap.size w wr)) (fun _ v5 _ => l.length - (intOf v5).toNat)
  case atStart => exact ⟨0, 0, 0, 0, rfl, rfl, by omega, by omega, ⟨by simp [texts]⟩, by omega, by omega, by omega, by omega, by omega, by omega, ⟨by simpa using heap_alloc_new w _⟩, ⟨below_alloc (Below.refl _ _) _⟩⟩
  case round =>
    obtain ⟨s, i, a, b, rfl, rfl, hi0, hi1, HT, hs0, hs1, ha0, ha1, hb0, hb1, Hblk, HB⟩ := hrel
    by_cases hlt : i < l.length
    · have blt : decide (i < (l.length : Int)) = true := by simp; omega
      by_cases hsz : s ≤ 33554432
      · have bsz : decide (s ≤ 33554432) = true := by simp; omega
        obtain ⟨ad, rfl, hx0, hx1, hx2, hx3⟩ := at_T30 HC.out i hi0 hlt
        replace hx0 := (HB.out.cell (World.block_lt_of_cell? w _ hx0)).trans hx0
        replace hx1 := (HB.out.cell (World.block_lt_of_cell? w _ hx1)).trans hx1
        replace hx2 := (HB.out.cell (World.block_lt_of_cell? w _ hx2)).trans hx2
        replace hx3 := (HB.out.cell (World.block_lt_of_cell? w _ hx3)).trans hx3
        have hok := (HP.out _ (rd_mem l i hi0 hlt)).2.2
        have hsn := texts_snoc l i hi0 hlt
        obtain ⟨r, hr, hr01⟩ := pick_two (rd_T30 l i).f0
        generalize rd_T30 l i = p at *
        have HSn := Lib.hid hsn
        have HPk := Lib.hid hr
        clear hsn hr
        go_wp2_with fail
        refine (custodykit_Pick.calls _ _ r _ HPk.out).mono ?_
        rintro e w1 ⟨rfl, hD⟩
        obtain ⟨nd, hw1⟩ := hD.out
        clear hD
        have hB1 : Below w.heap.size w w1 := by subst hw1; exact pw_below_drewN (below_alloc HB.out _) _
        have hp1 : w1.heap[wr.heap.size]? = some (.cells #[.int .i64 p.f0, .int .i64 p.f1, .int .u64 p.f2, .string p.f3] 30 (0, 0)) := by subst hw1; simpa using heap_alloc_new wr _
        have hq1 : w1.heap[B]? = some (.cells #[.int .i64 a, .int .i64 b] 49 (0, 0)) := by subst hw1; rw [← hBd]; exact blk_alloc Hblk.out _
        have hy0 : w1.cell? ⟨wr.heap.size, 0, none⟩ = some (.int .i64 p.f0) := (blk_cell hp1 0).trans rfl
        have hy1 : w1.cell? ⟨wr.heap.size, 1, none⟩ = some (.int .i64 p.f1) := (blk_cell hp1 1).trans rfl
        have hy3 : w1.cell? ⟨wr.heap.size, 3, none⟩ = some (.string p.f3) := (blk_cell hp1 3).trans rfl
        have hz0 : w1.cell? ⟨B, 0, none⟩ = some (.int .i64 a) := (blk_cell hq1 0).trans rfl
        have hz1 : w1.cell? ⟨B, 1, none⟩ = some (.int .i64 b) := (blk_cell hq1 1).trans rfl
        have hf0 := blk_frozen hq1 0
        have hf1 := blk_frozen hq1 1
        have hne : B ≠ wr.heap.size := fun h => by rw [h, hp1] at hq1; cases hq1
        have HB1 := Aside0.mk hB1
        have Hp1 := Aside0.mk hp1
        have Hq1 := Aside0.mk hq1
        have HBd := Lib.hid hBd
        clear hB1 hp1 hq1 hx0 hx1 hx2 hx3 hBd
        generalize wr.heap.size = g1 at *
        clear hw1
        rcases hr01 with rfl | rfl
        · go_wp2_with fail
          go_region
          go_wp2
          all_goals
            have hS := HSn.out
            have hT := HT.out
            refine ⟨⟨_, _, a + p.f3.size + 16, b, rfl, rfl, by omega, by omega, ⟨by omega⟩, by omega, by omega, by omega, by omega, by omega, by omega, ⟨?_⟩, ⟨?_⟩⟩, by simp [intOf]; omega⟩
            · rw [HBd.out]
              exact blk_set Hq1.out 0 _
            · exact (HB1.out.setCell (Nat.le_of_eq HBd.out) _).drew
        · go_wp2_with fail
          go_region
          go_wp2
          all_goals
            have hS := HSn.out
            have hT := HT.out
            refine ⟨⟨_, _, a, b + p.f3.size + 16, rfl, rfl, by omega, by omega, ⟨by omega⟩, by omega, by omega, by omega, by omega, by omega, by omega, ⟨?_⟩, ⟨?_⟩⟩, by simp [intOf]; omega⟩
            · rw [HBd.out]
              exact blk_set Hq1.out 1 _
            · exact (HB1.out.setCell (Nat.le_of_eq HBd.out) _).drew
      · have bsz : decide (s ≤ 33554432) = false := by simp; omega
        have bsz2 : decide (33554432 < s) = true := by simp; omega
        go_wp2
        go_ret
        exact ⟨_, rfl, (fun h => by cases h), HB.out⟩
    · have blt : decide (i < (l.length : Int)) = false := by simp; omega
      have hi : i.toNat = l.length := by omega
      have hT := HT.out
      rw [hi, List.take_length] at hT
      have HT2 := Aside0.mk hT
      clear hT hi
      go_wp2
      go_ret
      refine ⟨_, rfl, fun h => ?_, HB.out⟩
      have := HT2.out
      simp at h
      omega
end Go.Proofs.Ytnnhcnmggfhkeaa.Wb

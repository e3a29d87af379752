/- The walk of WireReads. -/
import Derived.Test.YtnnhcnmggfhkeaaDoorWkM3
namespace Go.Proofs.YtnnhcnmggfhkeaaDoor.Wk
open Go.RowKit Go.Proofs.YtnnhcnmggfhkeaaDoorW.PrintWords Go.Proofs.YtnnhcnmggfhkeaaDoorW.PrintLast Go.Proofs.YtnnhcnmggfhkeaaDoorW.PrintMore Go.Proofs.YtnnhcnmggfhkeaaDoor.PWireKnown
set_option linter.unusedVariables false
set_option linter.unusedSimpArgs false

structure G4 where
  on : Int
  kind : Int
  X : Nat
  N : Int
/-- A row of calls lies there. -/
def Gets (w : World) (A : Option Addr) (S : List G4) : Prop := ∀ i q, S[i]? = some q → ∃ ad, A = some ad ∧ w.cell? (ad.add (i * 4)) = some (.int .i64 q.on) ∧ w.cell? ⟨(ad.add (i * 4)).block, (ad.add (i * 4)).off + 1, none⟩ = some (.int .i64 q.kind) ∧ w.cell? ⟨(ad.add (i * 4)).block, (ad.add (i * 4)).off + 2, none⟩ = some (.int .u64 q.X) ∧ w.cell? ⟨(ad.add (i * 4)).block, (ad.add (i * 4)).off + 3, none⟩ = some (.int .i64 q.N) ∧ -9223372036854775808 ≤ q.N ∧ q.N ≤ 9223372036854775807
theorem Gets.below {w w' : World} {A : Option Addr} {S : List G4} (h : Gets w A S) (hb : Below w.heap.size w w') : Gets w' A S := by
  intro i q hq
  obtain ⟨ad, rfl, h0, h1, h2, h3, h4⟩ := h i q hq
  exact ⟨ad, rfl, (hb.cell (World.block_lt_of_cell? w _ h0)).trans h0, (hb.cell (World.block_lt_of_cell? w _ h1)).trans h1, (hb.cell (World.block_lt_of_cell? w _ h2)).trans h2, (hb.cell (World.block_lt_of_cell? w _ h3)).trans h3, h4⟩
theorem Gets.at_ {w : World} {A : Option Addr} {S : List G4} (h : Gets w A S) (i : Nat) (q : G4) (hq : S[i]? = some q) :
    ∃ ad, A = some ad ∧ (∀ W, Below w.heap.size w W → W.cell? (ad.add (i * 4)) = some (.int .i64 q.on) ∧ W.cell? ⟨(ad.add (i * 4)).block, (ad.add (i * 4)).off + 1, none⟩ = some (.int .i64 q.kind) ∧ W.cell? ⟨(ad.add (i * 4)).block, (ad.add (i * 4)).off + 2, none⟩ = some (.int .u64 q.X) ∧ W.cell? ⟨(ad.add (i * 4)).block, (ad.add (i * 4)).off + 3, none⟩ = some (.int .i64 q.N)) ∧ (-9223372036854775808 ≤ q.N ∧ q.N ≤ 9223372036854775807) := by
  obtain ⟨ad, rfl, h0, h1, h2, h3, h4, h5⟩ := h i q hq
  exact ⟨ad, rfl, fun W hb => ⟨(hb.cell (World.block_lt_of_cell? w _ h0)).trans h0, (hb.cell (World.block_lt_of_cell? w _ h1)).trans h1, (hb.cell (World.block_lt_of_cell? w _ h2)).trans h2, (hb.cell (World.block_lt_of_cell? w _ h3)).trans h3⟩, h4, h5⟩
theorem Rdn.at_ {lo : Nat} {w : World} {g : Nat} {l : List Int} {e : Int} (h : Rdn lo w g l e) (v : World) (hv : v.heap.size = lo) : Rd v w g l e := h v hv
theorem tmod2 (x : Int) : x.tmod 2 = -1 ∨ x.tmod 2 = 0 ∨ x.tmod 2 = 1 := by
  rcases Int.le_total 0 x with h | h
  · rw [Int.tmod_eq_emod_of_nonneg h]
    omega
  · obtain ⟨y, rfl⟩ : ∃ y, x = -y := ⟨-x, by omega⟩
    rw [Int.neg_tmod, Int.tmod_eq_emod_of_nonneg (by omega)]
    omega
theorem pick2 (x : Int) : custodykit_Pick.f x 2 = some 0 ∨ custodykit_Pick.f x 2 = some 1 := by
  unfold custodykit_Pick.f
  rw [if_neg (by omega), if_neg (by omega)]
  by_cases h : x.tmod 2 < 0
  · rw [if_pos h]
    right
    have h2 : x.tmod 2 = -1 := by have := tmod2 x; omega
    rw [h2]
    congr 1
    unfold wrap64
    omega
  · rw [if_neg h]
    have h2 : x.tmod 2 = 0 ∨ x.tmod 2 = 1 := by have := tmod2 x; omega
    rcases h2 with h2 | h2 <;> rw [h2] <;> simp
theorem Own.below {w w' : World} {A : Option Addr} {b n : Nat} (h : Own w A b n) (hb : Below w.heap.size w w') : Own w' A b n := by
  obtain ⟨g, arr, t, rfl, h1, h2, h3⟩ := h
  exact ⟨g, arr, t, rfl, h1, blk_below h2 hb, h3⟩
/-- One byte is written. -/
theorem Own.step {w : World} {A : Option Addr} {b n : Nat} (h : Own w A b n) (i : Nat) (hi : i < n) (x : Int) :
    ∃ g y, A = some ⟨g, 0, none⟩ ∧ b ≤ g ∧ w.cell? ⟨g, i, none⟩ = some (.int .u8 y) ∧ w.frozen? ⟨g, i, none⟩ = false ∧ Own (w.setCell ⟨g, i, none⟩ (.int .u8 x)) A b n := by
  obtain ⟨g, arr, t, rfl, h1, h2, h3⟩ := h
  obtain ⟨y, hy⟩ := h3 i hi
  refine ⟨g, y, rfl, h1, (blk_cell h2 i).trans hy, blk_frozen h2 i, g, _, t, rfl, h1, blk_set h2 i _, fun j hj => ?_⟩
  rw [Array.getElem?_setIfInBounds]
  split
  · split
    · exact ⟨x, rfl⟩
    · rename_i h4 h5
      subst h4
      rw [Array.getElem?_eq_none (by omega)] at hy
      cases hy
  · exact h3 j hj
theorem Own.block {w : World} {A : Option Addr} {b n : Nat} (h : Own w A b n) {g : Nat} (hg : A = some ⟨g, 0, none⟩) : b ≤ g ∧ g < w.heap.size := by
  obtain ⟨g', arr, t, h0, h1, h2, h3⟩ := h
  rw [hg] at h0
  cases h0
  exact ⟨h1, blk_lt h2⟩
/-- While the handed-in list is written over. -/
structure Over (w v : World) (A : Option Addr) (b n top : Nat) (w' : World) : Prop where
  below : Below w.heap.size w w'
  kept : Kept v w' (fun k => k < top)
  own : Own w' A b n
theorem Over.step {w v : World} {A : Option Addr} {b n top : Nat} {w' : World} (h : Over w v A b n top w') (hb : w.heap.size ≤ b) (g i : Nat) (hA : A = some ⟨g, 0, none⟩) (ht : g < top) (x : Int) (ho : Own (w'.setCell ⟨g, i, none⟩ (.int .u8 x)) A b n) : Over w v A b n top (w'.setCell ⟨g, i, none⟩ (.int .u8 x)) :=
  ⟨h.below.setCell (by have := (h.own.block hA).1; show w.heap.size ≤ g; omega) _, h.kept.setCell (p := ⟨g, _, none⟩) (.inl ht) _, ho⟩

set_option maxHeartbeats 8000000 in
set_option maxRecDepth 100000 in
theorem WireReads_calls (w : World) (A B S : Option Addr) (cA cB cS : Nat) (a b : List Int) (scr : List G4) (hCa : Kd.C (Kd.int .u8) w A a.length a) (hca : a.length ≤ cA) (hba : Byt a) (hla : a.length ≤ 140737488351232)
    (hCb : Kd.C (Kd.int .u8) w B b.length b) (hcb : b.length ≤ cB) (hbb : Byt b) (hlb : b.length ≤ 140737488351232) (hS : Gets w S scr) (hls : scr.length ≤ 1000000) (hg0 : w.cell? ⟨0, 0, none⟩ = some handle) :
    Calls Tryd.prog 25 #[.slice A a.length cA, .slice B b.length cB, .slice S scr.length cS] w fun e w' => e = .returned (.bool true) ∧ Below w.heap.size w w' := by
  have HCa := Aside0.mk hCa
  have HCb := Aside0.mk hCb
  have HS := Lib.hid hS
  have HG := Lib.hid hg0
  have HBa := Aside0.mk hba
  have HBb := Aside0.mk hbb
  clear hCa hCb hS hg0 hba hbb
  go_enter Tryd.func25, Tryd.ntmps25
  go_wp2_with fail
  refine (works_calls w).mono ?_
  rintro e w1 ⟨rfl, hB1⟩
  have HB1 := Aside0.mk hB1
  clear hB1
  go_wp2_with fail
  refine (Lent_calls w1 a A cA (Kd.C_below HCa.out HB1.out) hca hla).mono ?_
  rintro e w2 ⟨A1, n1, c1, rfl, hL1, hO1, hB2⟩
  have HL1 := Lib.hid hL1
  have HO1 := Lib.hid hO1
  have HB2 := Aside0.mk (below_step HB1.out hB2)
  have Hs1 := Aside0.mk HB1.out.size
  have hlt1 : ∀ g, A1 = some ⟨g, 0, none⟩ → g < w2.heap.size := fun g hg => (hO1.block hg).2
  have Hlt1 := Lib.hid hlt1
  clear hlt1
  clear hL1 hO1 hB2
  go_wp2_with fail
  refine (Lent_calls w2 b B cB (Kd.C_below HCb.out HB2.out) hcb hlb).mono ?_
  rintro e w3 ⟨A2, n2, c2, rfl, hL2, hO2, hB3⟩
  obtain rfl := HL1.out.1
  obtain rfl := hL2.1
  have HL1' := Lib.hid (HL1.out.below hB3)
  have HO1' := Lib.hid (HO1.out.below hB3)
  have HL2 := Lib.hid hL2
  have HO2 := Lib.hid hO2
  have Hs2 := Aside0.mk HB2.out.size
  have hlt2 : ∀ g, A2 = some ⟨g, 0, none⟩ → g < w3.heap.size := fun g hg => (hO2.block hg).2
  have Hlt2 := Lib.hid hlt2
  have Hs3 := Aside0.mk hB3.size
  clear hlt2
  have HB3 := Aside0.mk (below_step HB2.out hB3)
  clear hL2 hO2 hB3 HL1 HO1
  go_wp2_with fail
  refine (NewReader_any w3 w3 A1 c1 a (Below.refl _ _) HL1'.out.reads (by omega)).mono ?_
  rintro e w4 ⟨g1, rfl, hR1, hB4, -, hg1⟩
  have HR1 := Lib.hid hR1.n
  have HR1l := Aside0.mk hR1.lt
  have HB4 := Aside0.mk hB4
  clear hR1 hB4
  go_wp2_with fail
  refine (NewReader_any w4 w4 A2 c2 b (Below.refl _ _) (HL2.out.below HB4.out).reads (by omega)).mono ?_
  rintro e w5 ⟨g2, rfl, hR2, hB5, -, hg2⟩
  have HR2 := Lib.hid hR2.n
  have HR2l := Aside0.mk hR2.lt
  have HR1' := Lib.hid (HR1.out.below hB5)
  have HB5 := Aside0.mk hB5
  clear hR2 hB5 HR1
  have hbk := heap_alloc_new w5 (.cells #[.pointer (some ⟨g1, 0, none⟩), .pointer (some ⟨g2, 0, none⟩)] 92)
  have hb6 := below_alloc (Below.refl w5.heap.size w5) (.cells #[.pointer (some ⟨g1, 0, none⟩), .pointer (some ⟨g2, 0, none⟩)] 92)
  have HBk := Aside0.mk hbk
  have HB6 := Aside0.mk hb6
  clear hbk hb6
  go_wp2_with fail
  generalize w5.alloc (.cells #[.pointer (some ⟨g1, 0, none⟩), .pointer (some ⟨g2, 0, none⟩)] 92) = w6 at *
  obtain ⟨R, hR⟩ : ∃ R, w5.heap.size = R := ⟨_, rfl⟩
  have hO1a := HO1'.out.below (below_step HB4.out (below_step HB5.out HB6.out))
  have hO2a := HO2.out.below (below_step HB4.out (below_step HB5.out HB6.out))
  have hL1a := HL1'.out.below (below_step HB4.out (below_step HB5.out HB6.out))
  have hL2a := HL2.out.below (below_step HB4.out (below_step HB5.out HB6.out))
  have hBt := below_step HB3.out (below_step HB4.out (below_step HB5.out HB6.out))
  have hR1a := HR1'.out.below HB6.out
  have hR2a := HR2.out.below HB6.out
  have hl3 := HB4.out.size
  have hl6 := HB6.out.size
  have ord0 : w3.heap.size ≤ g1 ∧ g1 < w4.heap.size ∧ w4.heap.size ≤ g2 ∧ g2 < R ∧ R < w6.heap.size := ⟨hg1, HR1l.out, hg2, by have := HR2l.out; omega, by have := blk_lt HBk.out; omega⟩
  have HBk' := Aside0.mk HBk.out
  rw [hR] at HBk'
  rw [hR]
  have HOa := Lib.hid hO1a
  have HOb := Lib.hid hO2a
  have HLa := Lib.hid hL1a
  have HLb := Lib.hid hL2a
  have HBt := Aside0.mk hBt
  have HRa := Lib.hid hR1a
  have HRb := Lib.hid hR2a
  have HOrd := Lib.hid ord0
  clear hR hO1a hO2a hL1a hL2a hBt hR1a hR2a HO1' HO2 HL1' HL2 HR1' HR2 HR1l HR2l HBk HB6 HB5 HB4 hl3 hl6 ord0 hg1 hg2
  refine (Kept_calls w6 a A1 A a.length c1 cA HLa.out (Kd.C_below HCa.out HBt.out) hca hla).mono ?_
  rintro e w7 ⟨rfl, ⟨k7, rfl⟩⟩
  go_wp2_with fail
  have hd7 : Below w6.heap.size w6 (w6.drewN k7) := pw_below_drewN (Below.refl _ _) k7
  refine (Kept_calls (w6.drewN k7) b A2 B b.length c2 cB (HLb.out.below hd7) (Kd.C_below HCb.out (below_step HBt.out hd7)) hcb hlb).mono ?_
  rintro e w8 ⟨rfl, ⟨k8, rfl⟩⟩
  have hd8 : Below w6.heap.size w6 (w6.drewN (k7 + k8)) := pw_below_drewN (Below.refl _ _) (k7 + k8)
  go_wp2_with fail
  have hOc := HOa.out.below hd8
  have hOd := HOb.out.below hd8
  have hov : Over w (w6.drewN (k7 + k8)) A1 w1.heap.size (a.length + 16) w2.heap.size (w6.drewN (k7 + k8)) := ⟨below_step HBt.out hd8, Kept.refl _ _, hOc⟩
  have hRc := HRa.out.below hd8
  have hRd := HRb.out.below hd8
  have hbk8 := blk_below HBk'.out hd8
  have hs8 : (w6.drewN (k7 + k8)).heap.size = w6.heap.size := rfl
  have HOv := Lib.hid hov
  have HOd := Lib.hid hOd
  have HRc := Lib.hid hRc
  have HRd := Lib.hid hRd
  have HBk8 := Aside0.mk hbk8
  have HS8 := Lib.hid hs8
  clear hd7 hd8 hOc hOd hov hRc hRd hbk8 hs8 HOa HOb HLa HLb HRa HRb HBk' HBt
  generalize w6.drewN (k7 + k8) = w9 at *
  go_loopw [10] (fun v10 wr => ∃ i : Nat, v10 = .int .i64 i ∧ i ≤ a.length ∧ Hid (Over w w9 A1 w1.heap.size (a.length + 16) w2.heap.size wr)) (fun v10 _ => a.length - (intOf v10).toNat)
  case atStart => exact ⟨0, rfl, Nat.zero_le _, HOv⟩
  case round =>
    obtain ⟨i, rfl, hi, HO⟩ := hrel
    by_cases hlt : i < a.length
    · have blt : decide ((i : Int) < (a.length : Int)) = true := by simp; omega
      obtain ⟨gO, y, hA, hbO, hcell, hfr, hnew⟩ := HO.out.own.step i (by omega) 7
      have hgt := Hlt1.out gO hA
      have hst := HO.out.step Hs1.out gO i hA hgt 7 hnew
      have HSt := Lib.hid hst
      clear hst hnew
      subst hA
      go_wp2_with fail
      refine ⟨⟨i + 1, by rw [show ((i : Int) + 1) = ((i + 1 : Nat) : Int) by omega], by omega, HSt⟩, ?_⟩
      rw [show ((i : Int) + 1) = ((i + 1 : Nat) : Int) by omega]
      show a.length - ((i + 1 : Nat) : Int).toNat < a.length - (i : Int).toNat
      omega
    · have blt : decide ((i : Int) < (a.length : Int)) = false := by simp; omega
      have h23 := Hs3.out
      have hk := HO.out.kept
      have hw := HO.out.below
      have hRc := HRc.out.since (hk.mono (fun k hk => by have := hk; omega))
      have hRd := HRd.out.since (hk.mono (fun k hk => by have := hk; have := HOrd.out; omega))
      have hbk := blk_kept HBk8.out hk (by have := HOrd.out; omega)
      have hOd : Own wr A2 w2.heap.size (b.length + 16) := by
        obtain ⟨g, arr, t, h1, h2, h3, h4⟩ := HOd.out
        exact ⟨g, arr, t, h1, h2, blk_kept h3 hk (by omega), h4⟩
      have hs9 : R < wr.heap.size := blk_lt hbk
      have hov2 : Over w wr A2 w2.heap.size (b.length + 16) w3.heap.size wr := ⟨hw, Kept.refl _ _, hOd⟩
      have HOv2 := Lib.hid hov2
      have HRc2 := Lib.hid hRc
      have HRd2 := Lib.hid hRd
      have HBk2 := Aside0.mk hbk
      clear hk hw hRc hRd hbk hOd hov2 HO HOd HRc HRd HBk8 h23 hs9
      go_wp2_with fail
      generalize wr = wx at *
      go_loopw [11] (fun v11 wr2 => ∃ i : Nat, v11 = .int .i64 i ∧ i ≤ b.length ∧ Hid (Over w wx A2 w2.heap.size (b.length + 16) w3.heap.size wr2)) (fun v11 _ => b.length - (intOf v11).toNat)
      case atStart => exact ⟨0, rfl, Nat.zero_le _, HOv2⟩
      case round =>
        obtain ⟨i2, rfl, hi2, HO2⟩ := hrel
        by_cases hlt2 : i2 < b.length
        · have blt2 : decide ((i2 : Int) < (b.length : Int)) = true := by simp; omega
          obtain ⟨gO, y, hA, hbO, hcell, hfr, hnew⟩ := HO2.out.own.step i2 (by omega) 9
          have hgt := Hlt2.out gO hA
          have hst := HO2.out.step Hs2.out gO i2 hA hgt 9 hnew
          have HSt := Lib.hid hst
          clear hst hnew
          subst hA
          go_wp2_with fail
          refine ⟨⟨i2 + 1, by rw [show ((i2 : Int) + 1) = ((i2 + 1 : Nat) : Int) by omega], by omega, HSt⟩, ?_⟩
          rw [show ((i2 : Int) + 1) = ((i2 + 1 : Nat) : Int) by omega]
          show b.length - ((i2 + 1 : Nat) : Int).toNat < b.length - (i2 : Int).toNat
          omega
        · have blt2 : decide ((i2 : Int) < (b.length : Int)) = false := by simp; omega
          have hk := HO2.out.kept
          have hw := HO2.out.below
          have hRa := HRc2.out.since hk
          have hRb := HRd2.out.since (hk.mono (fun k hk => by have := hk; have := HOrd.out; omega))
          have hbk := blk_kept HBk2.out hk (by have := HOrd.out; omega)
          have hRl := blk_lt hbk
          let cs : Array Value := #[.slice A a.length cA, .int .i64 0, .int .i64 0, .slice B b.length cB, .int .i64 0, .int .i64 0]
          have hb2 := below_alloc (Below.refl wr.heap.size wr) (.cells cs 95)
          have hwG := below_step hw hb2
          have hG : (wr.alloc (.cells cs 95)).heap[wr.heap.size]? = some (.cells cs 95 (0, 0)) := by simpa using heap_alloc_new wr _
          have hi0 : RInv w wr.heap.size g1 g2 R w3.heap.size w4.heap.size a b 0 0 0 0 cs (wr.alloc (.cells cs 95)) :=
            ⟨hwG, blk_below hbk hb2, by rw [List.drop_zero]; exact hRa.below hb2, by rw [List.drop_zero]; exact hRb.below hb2,
             ⟨hG, hw.size, hwG, Nat.zero_le _, A, cA, hca, ⟨rfl, rfl, rfl⟩, HCa.out⟩, ⟨hG, hw.size, hwG, Nat.zero_le _, B, cB, hcb, ⟨rfl, rfl, rfl⟩, HCb.out⟩⟩
          have ho : Ord w wr.heap.size g1 g2 R w3.heap.size w4.heap.size := ⟨HB3.out.size, HOrd.out.1, HOrd.out.2.1, HOrd.out.2.2.1, HOrd.out.2.2.2.1, hRl⟩
          have HI0 := Lib.hid (show RSome w wr.heap.size g1 g2 R w3.heap.size w4.heap.size a b (wr.alloc (.cells #[.slice A a.length cA, .int .i64 0, .int .i64 0, .slice B b.length cB, .int .i64 0, .int .i64 0] 95)) from ⟨0, 0, 0, 0, cs, hi0⟩)
          have HO := Lib.hid ho
          clear hk hw hRa hRb hbk hRl hb2 hwG hG hi0 ho HO2 HOv2 HRc2 HRd2 HBk2 HOv HOrd HS8 Hs1 Hs2 Hs3 Hlt1 Hlt2
          clear cs
          go_wp2_with fail
          generalize wr.alloc (.cells #[.slice A a.length cA, .int .i64 0, .int .i64 0, .slice B b.length cB, .int .i64 0, .int .i64 0] 95) = wG at *
          obtain ⟨G, hG⟩ : ∃ G, wr.heap.size = G := ⟨_, rfl⟩
          rw [hG] at HI0 HO ⊢
          obtain ⟨lo1, hlo1⟩ : ∃ z, w3.heap.size = z := ⟨_, rfl⟩
          obtain ⟨lo2, hlo2⟩ : ∃ z, w4.heap.size = z := ⟨_, rfl⟩
          rw [hlo1, hlo2] at HI0 HO
          clear hG hlo1 hlo2 HB1 HB2 HB3
          go_loopw [13] (fun v13 wr3 => ∃ i : Nat, v13 = .int .i64 i ∧ i ≤ scr.length ∧ Hid (RSome w G g1 g2 R lo1 lo2 a b wr3)) (fun v13 _ => scr.length - (intOf v13).toNat)
          case atStart => exact ⟨0, rfl, Nat.zero_le _, HI0⟩
          case round =>
            clear HI0
            obtain ⟨i3, rfl, hi3, HI⟩ := hrel
            by_cases hlt3 : i3 < scr.length
            · have blt3 : decide ((i3 : Int) < (scr.length : Int)) = true := by simp; omega
              obtain ⟨q, hq⟩ : ∃ q, scr[i3]? = some q := ⟨scr[i3], List.getElem?_eq_getElem hlt3⟩
              obtain ⟨ad, hSA, hQ, hN⟩ := HS.out.at_ i3 q hq
              subst hSA
              obtain ⟨a0, a1, e0, e1, cs, hiv0⟩ := HI.out
              obtain ⟨m1, m2, m3, m4⟩ := hQ wr hiv0.below
              have HQ := Lib.hid hQ
              have HIv0 := Lib.hid hiv0
              clear hQ HI hq hiv0
              rcases pick2 q.on with hp | hp
              · have HP := Lib.hid hp
                clear hp
                go_wp2_with fail
                refine (custodykit_Pick.calls q.on 2 0 _ HP.out).mono ?_
                rintro e wP ⟨rfl, hd⟩
                have hiv := (HIv0.out.still (Drawn0.below hd)).still (below_drew (Below.refl wP.heap.size wP))
                have hgW := (hiv.below.cell (World.block_lt_of_cell? w _ HG.out)).trans HG.out
                obtain ⟨s1, s2, s3, s4⟩ := HQ.out wP.drew hiv.below
                have hGlt := hiv.f1.lt
                have hlo1 : lo1 ≤ wP.drew.heap.size := by have := HO.out.h1; have := HO.out.h2; have := HO.out.h3; have := HO.out.h4; have := HO.out.h5; omega
                have hlo2 : lo2 ≤ wP.drew.heap.size := by have := HO.out.h3; have := HO.out.h4; have := HO.out.h5; omega
                clear hd m1 m2 m3 m4 HIv0 hGlt
                go_wp2_with fail
                have hask := ask_calls (base wP.drew lo1) wP.drew g1 q.on q.kind q.X q.N (a.drop a0) e0 hN (base_below _ _ hlo1) (hiv.r1.base hlo1) (HBa.out.drop _) (by rw [List.length_drop]; omega) hgW
                have htell := fun W (h : Rf w W G 0 cs a a0 e0) => tell_calls w W G 0 cs q.on q.kind q.X q.N a a0 e0 hN h HBa.out hla
                generalize stG q.kind q.X q.N (a.drop a0) e0 = q1 at hask htell
                obtain ⟨x1, x2, x3, x4, x5⟩ := q1
                have hask2 : Calls Tryd.prog 46 #[.pointer (some ⟨g1, 0, none⟩), .agg #[.int .i64 q.on, .int .i64 q.kind, .int .u64 q.X, .int .i64 q.N]] wP.drew fun e w' => e = .returned (.agg #[.int .u64 x1, .string x2, .int .i64 x3]) ∧ Rd (base wP.drew lo1) w' g1 x4 x5 ∧ Below (base wP.drew lo1).heap.size (base wP.drew lo1) w' ∧ Kept wP.drew w' (fun k => k = g1) := hask
                have htell2 : ∀ W, Rf w W G 0 cs a a0 e0 → Calls Tryd.prog 47 #[.pointer (some ⟨G, 0, none⟩), .agg #[.int .i64 q.on, .int .i64 q.kind, .int .u64 q.X, .int .i64 q.N]] W fun e w' => e = .returned (.agg #[.int .u64 x1, .string x2, .int .i64 x3]) ∧ MovePost w W G 0 cs a x4 x5 w' := htell
                have HAsk := Lib.hid hask2
                have HTell := Lib.hid htell2
                have s0 := (blk_cell hiv.rs 0).trans rfl
                have HIv := Lib.hid hiv
                clear hask htell hask2 htell2 hiv hlo1 hlo2 hgW
                refine start_ (n := 16) (S := fun w' => w'.cell? ⟨R, 0, none⟩ = some (.pointer (some ⟨g1, 0, none⟩)) ∧ w'.cell? (ad.add (i3 * 4)) = some (.int .i64 q.on) ∧ w'.cell? ⟨(ad.add (i3 * 4)).block, (ad.add (i3 * 4)).off + 1, none⟩ = some (.int .i64 q.kind) ∧ w'.cell? ⟨(ad.add (i3 * 4)).block, (ad.add (i3 * 4)).off + 2, none⟩ = some (.int .u64 q.X) ∧ w'.cell? ⟨(ad.add (i3 * 4)).block, (ad.add (i3 * 4)).off + 3, none⟩ = some (.int .i64 q.N)) (ds := []) #[false, false, false, false, false, false, false, false, false, false, false, false, false, false, false, false] (by kernel_rfl) rfl rfl ⟨s0, s1, s2, s3, s4⟩ (fun hHeld => ?_)
                refine pure_ (i := 0) (N := some 82) (v := ?_) (a' := ?_) #[true, false, false, false, false, false, false, false, false, false, false, false, false, false, false, false] rfl rfl (by kernel_rfl) (fun _ _ _ h => h) (Or.inl ⟨by rfl, ?_⟩) ?_ ?_
                rotate_left
                · intro w'
                  go_simp
                  with_reducible rfl
                rotate_left
                · simp only [Act.put, List.setIfInBounds_toArray, List.set_cons_zero, List.set_cons_succ, i64_w, i32_w]
                  rfl
                refine pure_ (i := 1) (N := some 83) (v := ?_) (a' := ?_) #[true, true, false, false, false, false, false, false, false, false, false, false, false, false, false, false] rfl rfl (by kernel_rfl) (fun _ _ _ h => h) (Or.inl ⟨by rfl, ?_⟩) ?_ ?_
                rotate_left
                · intro w'
                  go_simp
                  with_reducible rfl
                rotate_left
                · simp only [Act.put, List.setIfInBounds_toArray, List.set_cons_zero, List.set_cons_succ, i64_w, i32_w]
                  rfl
                refine pure_ (i := 3) (N := some 85) (v := ?_) (a' := ?_) #[true, true, false, true, false, false, false, false, false, false, false, false, false, false, false, false] rfl rfl (by kernel_rfl) (fun _ _ _ h => h) (Or.inl ⟨by rfl, ?_⟩) ?_ ?_
                rotate_left
                · intro w'
                  go_simp
                  with_reducible rfl
                rotate_left
                · simp only [Act.put, List.setIfInBounds_toArray, List.set_cons_zero, List.set_cons_succ, i64_w, i32_w]
                  rfl
                refine pure_ (i := 4) (N := some 86) (v := ?_) (a' := ?_) #[true, true, false, true, true, false, false, false, false, false, false, false, false, false, false, false] rfl rfl (by kernel_rfl) (fun _ _ _ h => h) (Or.inl ⟨by rfl, ?_⟩) ?_ ?_
                rotate_left
                · intro w'
                  go_simp
                  with_reducible rfl
                rotate_left
                · simp only [Act.put, List.setIfInBounds_toArray, List.set_cons_zero, List.set_cons_succ, i64_w, i32_w]
                  rfl
                refine pure_ (i := 5) (N := some 87) (v := ?_) (a' := ?_) #[true, true, false, true, true, true, false, false, false, false, false, false, false, false, false, false] rfl rfl (by kernel_rfl) (fun _ _ _ h => h) (Or.inl ⟨by rfl, ?_⟩) ?_ ?_
                rotate_left
                · intro w'
                  go_simp
                  with_reducible rfl
                rotate_left
                · simp only [Act.put, List.setIfInBounds_toArray, List.set_cons_zero, List.set_cons_succ, i64_w, i32_w]
                  rfl
                refine pure_ (i := 8) (N := some 90) (v := ?_) (a' := ?_) #[true, true, false, true, true, true, false, false, true, false, false, false, false, false, false, false] rfl rfl (by kernel_rfl) (fun _ _ _ h => h) (Or.inl ⟨by rfl, ?_⟩) ?_ ?_
                rotate_left
                · intro w'
                  go_simp
                  with_reducible rfl
                rotate_left
                · simp only [Act.put, List.setIfInBounds_toArray, List.set_cons_zero, List.set_cons_succ, i64_w, i32_w]
                  rfl
                refine pure_ (i := 9) (N := some 91) (v := ?_) (a' := ?_) #[true, true, false, true, true, true, false, false, true, true, false, false, false, false, false, false] rfl rfl (by kernel_rfl) (fun _ _ _ h => h) (Or.inl ⟨by rfl, ?_⟩) ?_ ?_
                rotate_left
                · intro w'
                  go_simp
                  with_reducible rfl
                rotate_left
                · simp only [Act.put, List.setIfInBounds_toArray, List.set_cons_zero, List.set_cons_succ, i64_w, i32_w]
                  rfl
                refine pure_ (i := 10) (N := some 92) (v := ?_) (a' := ?_) #[true, true, false, true, true, true, false, false, true, true, true, false, false, false, false, false] rfl rfl (by kernel_rfl) (fun _ _ _ h => h) (Or.inl ⟨by rfl, ?_⟩) ?_ ?_
                rotate_left
                · intro w'
                  go_simp
                  with_reducible rfl
                rotate_left
                · simp only [Act.put, List.setIfInBounds_toArray, List.set_cons_zero, List.set_cons_succ, i64_w, i32_w]
                  rfl
                refine pure_ (i := 11) (N := some 93) (v := ?_) (a' := ?_) #[true, true, false, true, true, true, false, false, true, true, true, true, false, false, false, false] rfl rfl (by kernel_rfl) (fun _ _ _ h => h) (Or.inl ⟨by rfl, ?_⟩) ?_ ?_
                rotate_left
                · intro w'
                  go_simp
                  with_reducible rfl
                rotate_left
                · simp only [Act.put, List.setIfInBounds_toArray, List.set_cons_zero, List.set_cons_succ, i64_w, i32_w]
                  rfl
                refine pure_ (i := 12) (N := some 94) (v := ?_) (a' := ?_) #[true, true, false, true, true, true, false, false, true, true, true, true, true, false, false, false] rfl rfl (by kernel_rfl) (fun _ _ _ h => h) (Or.inl ⟨by rfl, ?_⟩) ?_ ?_
                rotate_left
                · intro w'
                  go_simp
                  with_reducible rfl
                rotate_left
                · simp only [Act.put, List.setIfInBounds_toArray, List.set_cons_zero, List.set_cons_succ, i64_w, i32_w]
                  rfl
                refine take_ (i := 2) (N := some 84) (v := ?_) (a' := ?_) #[true, true, true, true, true, true, false, false, true, true, true, true, true, false, false, false] rfl rfl (by kernel_rfl) (fun _ _ _ h => h) (Or.inl ⟨by rfl, ?_⟩) hHeld ?_ ?_
                rotate_left
                · rintro w' ⟨s0, s1, s2, s3, s4⟩
                  go_simp
                  with_reducible rfl
                rotate_left
                · simp only [Act.put, List.setIfInBounds_toArray, List.set_cons_zero, List.set_cons_succ, i64_w, i32_w]
                  rfl
                refine take_ (i := 6) (N := some 88) (v := ?_) (a' := ?_) #[true, true, true, true, true, true, true, false, true, true, true, true, true, false, false, false] rfl rfl (by kernel_rfl) (fun _ _ _ h => h) (Or.inl ⟨by rfl, ?_⟩) hHeld ?_ ?_
                rotate_left
                · rintro w' ⟨s0, s1, s2, s3, s4⟩
                  go_simp
                  with_reducible rfl
                rotate_left
                · simp only [Act.put, List.setIfInBounds_toArray, List.set_cons_zero, List.set_cons_succ, i64_w, i32_w]
                  rfl
                refine take_ (i := 13) (N := some 95) (v := ?_) (a' := ?_) #[true, true, true, true, true, true, true, false, true, true, true, true, true, true, false, false] rfl rfl (by kernel_rfl) (fun _ _ _ h => h) (Or.inl ⟨by rfl, ?_⟩) hHeld ?_ ?_
                rotate_left
                · rintro w' ⟨s0, s1, s2, s3, s4⟩
                  go_simp
                  with_reducible rfl
                rotate_left
                · simp only [Act.put, List.setIfInBounds_toArray, List.set_cons_zero, List.set_cons_succ, i64_w, i32_w]
                  rfl
                refine one_ (i := 7) (N := some 89) #[true, true, true, true, true, true, true, true, true, true, true, true, true, true, false, false] rfl rfl (by kernel_rfl) (by decide) (fun K hK => ?_)
                refine goes_ Tryd.func46 (by kernel_rfl) rfl #[.pointer (some ⟨g1, 0, none⟩), .agg #[.int .i64 q.on, .int .i64 q.kind, .int .u64 q.X, .int .i64 q.N]] (by rfl) rfl rfl (by simp only [List.map_toArray, List.map_cons, List.map_nil]; rfl) ?_
                with_reducible refine (HAsk.out).mono ?_
                rintro e w10 ⟨rfl, hr, hB, hk⟩
                refine ⟨_, rfl, ?_⟩
                have hmid := HIv.out.asked1 HO.out hr hB hk
                have HMid := Lib.hid hmid
                have t0 := (blk_cell hmid.rs 0).trans rfl
                obtain ⟨t1, t2, t3, t4⟩ := HQ.out w10 hmid.below
                clear hr hB hk hmid
                refine hK.out _ _ ⟨t0, t1, t2, t3, t4⟩ (fun hHeld => ?_)
                clear hK K
                refine norm_ (a' := ?_) ?_ ?_
                rotate_left
                · show Act.put _ (some 89) _ = _
                  simp only [Act.put, List.setIfInBounds_toArray, List.set_cons_zero, List.set_cons_succ, i64_w, i32_w]
                  rfl
                refine one_ (i := 14) (N := some 96) #[true, true, true, true, true, true, true, true, true, true, true, true, true, true, true, false] rfl rfl (by kernel_rfl) (by decide) (fun K hK => ?_)
                refine goes_ Tryd.func47 (by kernel_rfl) rfl #[.pointer (some ⟨G, 0, none⟩), .agg #[.int .i64 q.on, .int .i64 q.kind, .int .u64 q.X, .int .i64 q.N]] (by rfl) rfl rfl (by simp only [List.map_toArray, List.map_cons, List.map_nil]; rfl) ?_
                with_reducible refine (HTell.out _ HMid.out.f1).mono ?_
                rintro e w11 ⟨rfl, hm⟩
                refine ⟨_, rfl, ?_⟩
                have hsome := HMid.out.told1 HO.out hm
                have HSome := Lib.hid hsome
                obtain ⟨z0, z1, z2, z3, zc, hz⟩ := hsome
                have u0 := (blk_cell hz.rs 0).trans rfl
                obtain ⟨u1, u2, u3, u4⟩ := HQ.out w11 hz.below
                clear hm hz
                refine hK.out _ _ ⟨u0, u1, u2, u3, u4⟩ (fun hHeld => ?_)
                clear hK K
                refine norm_ (a' := ?_) ?_ ?_
                rotate_left
                · show Act.put _ (some 96) _ = _
                  simp only [Act.put, List.setIfInBounds_toArray, List.set_cons_zero, List.set_cons_succ, i64_w, i32_w]
                  rfl
                refine pure_ (i := 15) (N := some 97) (v := ?_) (a' := ?_) #[true, true, true, true, true, true, true, true, true, true, true, true, true, true, true, true] rfl rfl (by kernel_rfl) (fun _ _ _ h => h) (Or.inl ⟨by rfl, ?_⟩) ?_ ?_
                rotate_left
                · intro w'
                  go_simp
                  with_reducible rfl
                rotate_left
                · simp only [Act.put, List.setIfInBounds_toArray, List.set_cons_zero, List.set_cons_succ, i64_w, i32_w]
                  rfl
                refine done_ (by kernel_rfl) ?_
                go_wp2_with fail
                refine ⟨⟨i3 + 1, by rw [show ((i3 : Int) + 1) = ((i3 + 1 : Nat) : Int) by omega], by omega, HSome⟩, ?_⟩
                rw [show ((i3 : Int) + 1) = ((i3 + 1 : Nat) : Int) by omega]
                show scr.length - ((i3 + 1 : Nat) : Int).toNat < scr.length - (i3 : Int).toNat
                omega
              · have HP := Lib.hid hp
                clear hp
                go_wp2_with fail
                refine (custodykit_Pick.calls q.on 2 1 _ HP.out).mono ?_
                rintro e wP ⟨rfl, hd⟩
                have hiv := (HIv0.out.still (Drawn0.below hd)).still (below_drew (Below.refl wP.heap.size wP))
                have hgW := (hiv.below.cell (World.block_lt_of_cell? w _ HG.out)).trans HG.out
                obtain ⟨s1, s2, s3, s4⟩ := HQ.out wP.drew hiv.below
                have hGlt := hiv.f1.lt
                have hlo1 : lo1 ≤ wP.drew.heap.size := by have := HO.out.h1; have := HO.out.h2; have := HO.out.h3; have := HO.out.h4; have := HO.out.h5; omega
                have hlo2 : lo2 ≤ wP.drew.heap.size := by have := HO.out.h3; have := HO.out.h4; have := HO.out.h5; omega
                clear hd m1 m2 m3 m4 HIv0 hGlt
                go_wp2_with fail
                have hask := ask_calls (base wP.drew lo2) wP.drew g2 q.on q.kind q.X q.N (b.drop a1) e1 hN (base_below _ _ hlo2) (hiv.r2.base hlo2) (HBb.out.drop _) (by rw [List.length_drop]; omega) hgW
                have htell := fun W (h : Rf w W G 3 cs b a1 e1) => tell_calls w W G 3 cs q.on q.kind q.X q.N b a1 e1 hN h HBb.out hlb
                generalize stG q.kind q.X q.N (b.drop a1) e1 = q1 at hask htell
                obtain ⟨x1, x2, x3, x4, x5⟩ := q1
                have hask2 : Calls Tryd.prog 46 #[.pointer (some ⟨g2, 0, none⟩), .agg #[.int .i64 q.on, .int .i64 q.kind, .int .u64 q.X, .int .i64 q.N]] wP.drew fun e w' => e = .returned (.agg #[.int .u64 x1, .string x2, .int .i64 x3]) ∧ Rd (base wP.drew lo2) w' g2 x4 x5 ∧ Below (base wP.drew lo2).heap.size (base wP.drew lo2) w' ∧ Kept wP.drew w' (fun k => k = g2) := hask
                have htell2 : ∀ W, Rf w W G 3 cs b a1 e1 → Calls Tryd.prog 47 #[.pointer (some ⟨G, 3, none⟩), .agg #[.int .i64 q.on, .int .i64 q.kind, .int .u64 q.X, .int .i64 q.N]] W fun e w' => e = .returned (.agg #[.int .u64 x1, .string x2, .int .i64 x3]) ∧ MovePost w W G 3 cs b x4 x5 w' := htell
                have HAsk := Lib.hid hask2
                have HTell := Lib.hid htell2
                have s0 := (blk_cell hiv.rs 1).trans rfl
                have HIv := Lib.hid hiv
                clear hask htell hask2 htell2 hiv hlo1 hlo2 hgW
                refine start_ (n := 16) (S := fun w' => w'.cell? ⟨R, 1, none⟩ = some (.pointer (some ⟨g2, 0, none⟩)) ∧ w'.cell? (ad.add (i3 * 4)) = some (.int .i64 q.on) ∧ w'.cell? ⟨(ad.add (i3 * 4)).block, (ad.add (i3 * 4)).off + 1, none⟩ = some (.int .i64 q.kind) ∧ w'.cell? ⟨(ad.add (i3 * 4)).block, (ad.add (i3 * 4)).off + 2, none⟩ = some (.int .u64 q.X) ∧ w'.cell? ⟨(ad.add (i3 * 4)).block, (ad.add (i3 * 4)).off + 3, none⟩ = some (.int .i64 q.N)) (ds := []) #[false, false, false, false, false, false, false, false, false, false, false, false, false, false, false, false] (by kernel_rfl) rfl rfl ⟨s0, s1, s2, s3, s4⟩ (fun hHeld => ?_)
                refine pure_ (i := 0) (N := some 82) (v := ?_) (a' := ?_) #[true, false, false, false, false, false, false, false, false, false, false, false, false, false, false, false] rfl rfl (by kernel_rfl) (fun _ _ _ h => h) (Or.inl ⟨by rfl, ?_⟩) ?_ ?_
                rotate_left
                · intro w'
                  go_simp
                  with_reducible rfl
                rotate_left
                · simp only [Act.put, List.setIfInBounds_toArray, List.set_cons_zero, List.set_cons_succ, i64_w, i32_w]
                  rfl
                refine pure_ (i := 1) (N := some 83) (v := ?_) (a' := ?_) #[true, true, false, false, false, false, false, false, false, false, false, false, false, false, false, false] rfl rfl (by kernel_rfl) (fun _ _ _ h => h) (Or.inl ⟨by rfl, ?_⟩) ?_ ?_
                rotate_left
                · intro w'
                  go_simp
                  with_reducible rfl
                rotate_left
                · simp only [Act.put, List.setIfInBounds_toArray, List.set_cons_zero, List.set_cons_succ, i64_w, i32_w]
                  rfl
                refine pure_ (i := 3) (N := some 85) (v := ?_) (a' := ?_) #[true, true, false, true, false, false, false, false, false, false, false, false, false, false, false, false] rfl rfl (by kernel_rfl) (fun _ _ _ h => h) (Or.inl ⟨by rfl, ?_⟩) ?_ ?_
                rotate_left
                · intro w'
                  go_simp
                  with_reducible rfl
                rotate_left
                · simp only [Act.put, List.setIfInBounds_toArray, List.set_cons_zero, List.set_cons_succ, i64_w, i32_w]
                  rfl
                refine pure_ (i := 4) (N := some 86) (v := ?_) (a' := ?_) #[true, true, false, true, true, false, false, false, false, false, false, false, false, false, false, false] rfl rfl (by kernel_rfl) (fun _ _ _ h => h) (Or.inl ⟨by rfl, ?_⟩) ?_ ?_
                rotate_left
                · intro w'
                  go_simp
                  with_reducible rfl
                rotate_left
                · simp only [Act.put, List.setIfInBounds_toArray, List.set_cons_zero, List.set_cons_succ, i64_w, i32_w]
                  rfl
                refine pure_ (i := 5) (N := some 87) (v := ?_) (a' := ?_) #[true, true, false, true, true, true, false, false, false, false, false, false, false, false, false, false] rfl rfl (by kernel_rfl) (fun _ _ _ h => h) (Or.inl ⟨by rfl, ?_⟩) ?_ ?_
                rotate_left
                · intro w'
                  go_simp
                  with_reducible rfl
                rotate_left
                · simp only [Act.put, List.setIfInBounds_toArray, List.set_cons_zero, List.set_cons_succ, i64_w, i32_w]
                  rfl
                refine pure_ (i := 8) (N := some 90) (v := ?_) (a' := ?_) #[true, true, false, true, true, true, false, false, true, false, false, false, false, false, false, false] rfl rfl (by kernel_rfl) (fun _ _ _ h => h) (Or.inl ⟨by rfl, ?_⟩) ?_ ?_
                rotate_left
                · intro w'
                  go_simp
                  with_reducible rfl
                rotate_left
                · simp only [Act.put, List.setIfInBounds_toArray, List.set_cons_zero, List.set_cons_succ, i64_w, i32_w]
                  rfl
                refine pure_ (i := 9) (N := some 91) (v := ?_) (a' := ?_) #[true, true, false, true, true, true, false, false, true, true, false, false, false, false, false, false] rfl rfl (by kernel_rfl) (fun _ _ _ h => h) (Or.inl ⟨by rfl, ?_⟩) ?_ ?_
                rotate_left
                · intro w'
                  go_simp
                  with_reducible rfl
                rotate_left
                · simp only [Act.put, List.setIfInBounds_toArray, List.set_cons_zero, List.set_cons_succ, i64_w, i32_w]
                  rfl
                refine pure_ (i := 10) (N := some 92) (v := ?_) (a' := ?_) #[true, true, false, true, true, true, false, false, true, true, true, false, false, false, false, false] rfl rfl (by kernel_rfl) (fun _ _ _ h => h) (Or.inl ⟨by rfl, ?_⟩) ?_ ?_
                rotate_left
                · intro w'
                  go_simp
                  with_reducible rfl
                rotate_left
                · simp only [Act.put, List.setIfInBounds_toArray, List.set_cons_zero, List.set_cons_succ, i64_w, i32_w]
                  rfl
                refine pure_ (i := 11) (N := some 93) (v := ?_) (a' := ?_) #[true, true, false, true, true, true, false, false, true, true, true, true, false, false, false, false] rfl rfl (by kernel_rfl) (fun _ _ _ h => h) (Or.inl ⟨by rfl, ?_⟩) ?_ ?_
                rotate_left
                · intro w'
                  go_simp
                  with_reducible rfl
                rotate_left
                · simp only [Act.put, List.setIfInBounds_toArray, List.set_cons_zero, List.set_cons_succ, i64_w, i32_w]
                  rfl
                refine pure_ (i := 12) (N := some 94) (v := ?_) (a' := ?_) #[true, true, false, true, true, true, false, false, true, true, true, true, true, false, false, false] rfl rfl (by kernel_rfl) (fun _ _ _ h => h) (Or.inl ⟨by rfl, ?_⟩) ?_ ?_
                rotate_left
                · intro w'
                  go_simp
                  with_reducible rfl
                rotate_left
                · simp only [Act.put, List.setIfInBounds_toArray, List.set_cons_zero, List.set_cons_succ, i64_w, i32_w]
                  rfl
                refine take_ (i := 2) (N := some 84) (v := ?_) (a' := ?_) #[true, true, true, true, true, true, false, false, true, true, true, true, true, false, false, false] rfl rfl (by kernel_rfl) (fun _ _ _ h => h) (Or.inl ⟨by rfl, ?_⟩) hHeld ?_ ?_
                rotate_left
                · rintro w' ⟨s0, s1, s2, s3, s4⟩
                  go_simp
                  with_reducible rfl
                rotate_left
                · simp only [Act.put, List.setIfInBounds_toArray, List.set_cons_zero, List.set_cons_succ, i64_w, i32_w]
                  rfl
                refine take_ (i := 6) (N := some 88) (v := ?_) (a' := ?_) #[true, true, true, true, true, true, true, false, true, true, true, true, true, false, false, false] rfl rfl (by kernel_rfl) (fun _ _ _ h => h) (Or.inl ⟨by rfl, ?_⟩) hHeld ?_ ?_
                rotate_left
                · rintro w' ⟨s0, s1, s2, s3, s4⟩
                  go_simp
                  with_reducible rfl
                rotate_left
                · simp only [Act.put, List.setIfInBounds_toArray, List.set_cons_zero, List.set_cons_succ, i64_w, i32_w]
                  rfl
                refine take_ (i := 13) (N := some 95) (v := ?_) (a' := ?_) #[true, true, true, true, true, true, true, false, true, true, true, true, true, true, false, false] rfl rfl (by kernel_rfl) (fun _ _ _ h => h) (Or.inl ⟨by rfl, ?_⟩) hHeld ?_ ?_
                rotate_left
                · rintro w' ⟨s0, s1, s2, s3, s4⟩
                  go_simp
                  with_reducible rfl
                rotate_left
                · simp only [Act.put, List.setIfInBounds_toArray, List.set_cons_zero, List.set_cons_succ, i64_w, i32_w]
                  rfl
                refine one_ (i := 7) (N := some 89) #[true, true, true, true, true, true, true, true, true, true, true, true, true, true, false, false] rfl rfl (by kernel_rfl) (by decide) (fun K hK => ?_)
                refine goes_ Tryd.func46 (by kernel_rfl) rfl #[.pointer (some ⟨g2, 0, none⟩), .agg #[.int .i64 q.on, .int .i64 q.kind, .int .u64 q.X, .int .i64 q.N]] (by rfl) rfl rfl (by simp only [List.map_toArray, List.map_cons, List.map_nil]; rfl) ?_
                with_reducible refine (HAsk.out).mono ?_
                rintro e w10 ⟨rfl, hr, hB, hk⟩
                refine ⟨_, rfl, ?_⟩
                have hmid := HIv.out.asked2 HO.out hr hB hk
                have HMid := Lib.hid hmid
                have t0 := (blk_cell hmid.rs 1).trans rfl
                obtain ⟨t1, t2, t3, t4⟩ := HQ.out w10 hmid.below
                clear hr hB hk hmid
                refine hK.out _ _ ⟨t0, t1, t2, t3, t4⟩ (fun hHeld => ?_)
                clear hK K
                refine norm_ (a' := ?_) ?_ ?_
                rotate_left
                · show Act.put _ (some 89) _ = _
                  simp only [Act.put, List.setIfInBounds_toArray, List.set_cons_zero, List.set_cons_succ, i64_w, i32_w]
                  rfl
                refine one_ (i := 14) (N := some 96) #[true, true, true, true, true, true, true, true, true, true, true, true, true, true, true, false] rfl rfl (by kernel_rfl) (by decide) (fun K hK => ?_)
                refine goes_ Tryd.func47 (by kernel_rfl) rfl #[.pointer (some ⟨G, 3, none⟩), .agg #[.int .i64 q.on, .int .i64 q.kind, .int .u64 q.X, .int .i64 q.N]] (by rfl) rfl rfl (by simp only [List.map_toArray, List.map_cons, List.map_nil]; rfl) ?_
                with_reducible refine (HTell.out _ HMid.out.f2).mono ?_
                rintro e w11 ⟨rfl, hm⟩
                refine ⟨_, rfl, ?_⟩
                have hsome := HMid.out.told2 HO.out hm
                have HSome := Lib.hid hsome
                obtain ⟨z0, z1, z2, z3, zc, hz⟩ := hsome
                have u0 := (blk_cell hz.rs 1).trans rfl
                obtain ⟨u1, u2, u3, u4⟩ := HQ.out w11 hz.below
                clear hm hz
                refine hK.out _ _ ⟨u0, u1, u2, u3, u4⟩ (fun hHeld => ?_)
                clear hK K
                refine norm_ (a' := ?_) ?_ ?_
                rotate_left
                · show Act.put _ (some 96) _ = _
                  simp only [Act.put, List.setIfInBounds_toArray, List.set_cons_zero, List.set_cons_succ, i64_w, i32_w]
                  rfl
                refine pure_ (i := 15) (N := some 97) (v := ?_) (a' := ?_) #[true, true, true, true, true, true, true, true, true, true, true, true, true, true, true, true] rfl rfl (by kernel_rfl) (fun _ _ _ h => h) (Or.inl ⟨by rfl, ?_⟩) ?_ ?_
                rotate_left
                · intro w'
                  go_simp
                  with_reducible rfl
                rotate_left
                · simp only [Act.put, List.setIfInBounds_toArray, List.set_cons_zero, List.set_cons_succ, i64_w, i32_w]
                  rfl
                refine done_ (by kernel_rfl) ?_
                go_wp2_with fail
                refine ⟨⟨i3 + 1, by rw [show ((i3 : Int) + 1) = ((i3 + 1 : Nat) : Int) by omega], by omega, HSome⟩, ?_⟩
                rw [show ((i3 : Int) + 1) = ((i3 + 1 : Nat) : Int) by omega]
                show scr.length - ((i3 + 1 : Nat) : Int).toNat < scr.length - (i3 : Int).toNat
                omega
            · have blt3 : decide ((i3 : Int) < (scr.length : Int)) = false := by simp; omega
              clear HS
              generalize wr = wz at *
              go_wp2_with fail
              go_loopw [15] (fun v15 wr4 => ∃ i : Nat, v15 = .int .i64 i ∧ i ≤ 2 ∧ Hid (RSome w G g1 g2 R lo1 lo2 a b wr4)) (fun v15 _ => 2 - (intOf v15).toNat)
              case atStart => exact ⟨0, rfl, Nat.zero_le _, HI⟩
              case round =>
                clear HI
                obtain ⟨i4, rfl, hi4, HI⟩ := hrel
                obtain ⟨a0, a1, e0, e1, cs, hiv0⟩ := HI.out
                have hGlt := hiv0.f1.lt
                have hlo1 : lo1 ≤ wr.heap.size := by have := HO.out.h1; have := HO.out.h2; have := HO.out.h3; have := HO.out.h4; have := HO.out.h5; omega
                have hlo2 : lo2 ≤ wr.heap.size := by have := HO.out.h3; have := HO.out.h4; have := HO.out.h5; omega
                by_cases hlt4 : i4 < 2
                · have HV0 := Lib.hid (hiv0.still (below_drew (Below.refl wr.heap.size wr)))
                  clear hiv0 HI hGlt
                  have h01 : i4 = 0 ∨ i4 = 1 := by omega
                  rcases h01 with rfl | rfl
                  · go_wp2_with fail
                    obtain ⟨v0, hv0⟩ : ∃ v : World, v.heap.size = lo1 := ⟨base wr.drew lo1, base_size _ _ (by show lo1 ≤ wr.heap.size; omega)⟩
                    have p0 : wr.drew.cell? ⟨R, 0, none⟩ = some (.pointer (some ⟨g1, 0, none⟩)) := (blk_cell HV0.out.rs 0).trans rfl
                    obtain ⟨-, -, -, -, r0, -, -, -, -⟩ := HV0.out.f1.cells
                    refine start_ (n := 37) (S := fun w' => w'.cell? ⟨R, 0, none⟩ = some (.pointer (some ⟨g1, 0, none⟩)) ∧ w'.cell? ⟨G, 2, none⟩ = some (.int .i64 e0)) (ds := []) #[false, false, false, false, false, false, false, false, false, false, false, false, false, false, false, false, false, false, false, false, false, false, false, false, false, false, false, false, false, false, false, false, false, false, false, false, false] (by kernel_rfl) rfl rfl ⟨p0, r0⟩ (fun hHeld => ?_)
                    refine pure_ (i := 0) (N := some 102) (v := ?_) (a' := ?_) #[true, false, false, false, false, false, false, false, false, false, false, false, false, false, false, false, false, false, false, false, false, false, false, false, false, false, false, false, false, false, false, false, false, false, false, false, false] rfl rfl (by kernel_rfl) (fun _ _ _ h => h) (Or.inl ⟨by rfl, ?_⟩) ?_ ?_
                    rotate_left
                    · intro w'
                      go_simp
                      with_reducible rfl
                    rotate_left
                    · simp only [Act.put, List.setIfInBounds_toArray, List.set_cons_zero, List.set_cons_succ, i64_w, i32_w]
                      rfl
                    refine pure_ (i := 1) (N := some 103) (v := ?_) (a' := ?_) #[true, true, false, false, false, false, false, false, false, false, false, false, false, false, false, false, false, false, false, false, false, false, false, false, false, false, false, false, false, false, false, false, false, false, false, false, false] rfl rfl (by kernel_rfl) (fun _ _ _ h => h) (Or.inl ⟨by rfl, ?_⟩) ?_ ?_
                    rotate_left
                    · intro w'
                      go_simp
                      with_reducible rfl
                    rotate_left
                    · simp only [Act.put, List.setIfInBounds_toArray, List.set_cons_zero, List.set_cons_succ, i64_w, i32_w]
                      rfl
                    refine pure_ (i := 6) (N := some 108) (v := ?_) (a' := ?_) #[true, true, false, false, false, false, true, false, false, false, false, false, false, false, false, false, false, false, false, false, false, false, false, false, false, false, false, false, false, false, false, false, false, false, false, false, false] rfl rfl (by kernel_rfl) (fun _ _ _ h => h) (Or.inl ⟨by rfl, ?_⟩) ?_ ?_
                    rotate_left
                    · intro w'
                      go_simp
                      with_reducible rfl
                    rotate_left
                    · simp only [Act.put, List.setIfInBounds_toArray, List.set_cons_zero, List.set_cons_succ, i64_w, i32_w]
                      rfl
                    refine pure_ (i := 7) (N := some 109) (v := ?_) (a' := ?_) #[true, true, false, false, false, false, true, true, false, false, false, false, false, false, false, false, false, false, false, false, false, false, false, false, false, false, false, false, false, false, false, false, false, false, false, false, false] rfl rfl (by kernel_rfl) (fun _ _ _ h => h) (Or.inl ⟨by rfl, ?_⟩) ?_ ?_
                    rotate_left
                    · intro w'
                      go_simp
                      with_reducible rfl
                    rotate_left
                    · simp only [Act.put, List.setIfInBounds_toArray, List.set_cons_zero, List.set_cons_succ, i64_w, i32_w]
                      rfl
                    refine take_ (i := 2) (N := some 104) (v := ?_) (a' := ?_) #[true, true, true, false, false, false, true, true, false, false, false, false, false, false, false, false, false, false, false, false, false, false, false, false, false, false, false, false, false, false, false, false, false, false, false, false, false] rfl rfl (by kernel_rfl) (fun _ _ _ h => h) (Or.inl ⟨by rfl, ?_⟩) hHeld ?_ ?_
                    rotate_left
                    · rintro w' ⟨s0, s1⟩
                      go_simp
                      with_reducible rfl
                    rotate_left
                    · simp only [Act.put, List.setIfInBounds_toArray, List.set_cons_zero, List.set_cons_succ, i64_w, i32_w]
                      rfl
                    refine pure_ (i := 3) (N := some 105) (v := ?_) (a' := ?_) #[true, true, true, true, false, false, true, true, false, false, false, false, false, false, false, false, false, false, false, false, false, false, false, false, false, false, false, false, false, false, false, false, false, false, false, false, false] rfl rfl (by kernel_rfl) (fun _ _ _ h => h) (Or.inl ⟨by rfl, ?_⟩) ?_ ?_
                    rotate_left
                    · intro w'
                      go_simp
                      with_reducible rfl
                    rotate_left
                    · simp only [Act.put, List.setIfInBounds_toArray, List.set_cons_zero, List.set_cons_succ, i64_w, i32_w]
                      rfl
                    refine pure_ (i := 4) (N := some 106) (v := ?_) (a' := ?_) #[true, true, true, true, true, false, true, true, false, false, false, false, false, false, false, false, false, false, false, false, false, false, false, false, false, false, false, false, false, false, false, false, false, false, false, false, false] rfl rfl (by kernel_rfl) (fun _ _ _ h => h) (Or.inl ⟨by rfl, ?_⟩) ?_ ?_
                    rotate_left
                    · intro w'
                      go_simp
                      with_reducible rfl
                    rotate_left
                    · simp only [Act.put, List.setIfInBounds_toArray, List.set_cons_zero, List.set_cons_succ, i64_w, i32_w]
                      rfl
                    refine one_ (i := 5) (N := some 107) #[true, true, true, true, true, true, true, true, false, false, false, false, false, false, false, false, false, false, false, false, false, false, false, false, false, false, false, false, false, false, false, false, false, false, false, false, false] rfl rfl (by kernel_rfl) (by decide) (fun K hK => ?_)
                    refine goes_ Tryd.func18 (by kernel_rfl) rfl #[.pointer (some ⟨g1, 0, none⟩)] (by rfl) rfl rfl (by simp only [List.map_toArray, List.map_cons, List.map_nil]; rfl) ?_
                    with_reducible refine (Left_any _ _ g1 _ _ (HV0.out.r1.at_ v0 hv0)).mono ?_
                    rintro e y1 ⟨rfl, hw⟩
                    refine ⟨_, rfl, ?_⟩
                    have hw' := hw.symm
                    clear hw
                    subst hw'
                    have HV1 := Lib.hid (HV0.out.still (Below.refl _ _))
                    have p1 := (blk_cell HV1.out.rs 0).trans rfl
                    obtain ⟨-, -, -, -, r1, -, -, -, -⟩ := HV1.out.f1.cells
                    have hG1 := (HV1.out.below.cell (World.block_lt_of_cell? w _ HG.out)).trans HG.out
                    refine hK.out _ _ ⟨p1, r1⟩ (fun hHeld => ?_)
                    clear hK K
                    refine norm_ (a' := ?_) ?_ ?_
                    rotate_left
                    · show Act.put _ (some 107) _ = _
                      simp only [Act.put, List.setIfInBounds_toArray, List.set_cons_zero, List.set_cons_succ, i64_w, i32_w]
                      rfl
                    refine one_ (i := 8) (N := some 110) #[true, true, true, true, true, true, true, true, true, false, false, false, false, false, false, false, false, false, false, false, false, false, false, false, false, false, false, false, false, false, false, false, false, false, false, false, false] rfl rfl (by kernel_rfl) (by decide) (fun K hK => ?_)
                    refine goes_ Tryd.func48 (by kernel_rfl) rfl #[.pointer (some ⟨G, 0, none⟩)] (by rfl) rfl rfl (by simp only [List.map_toArray, List.map_cons, List.map_nil]; rfl) ?_
                    with_reducible refine (RefLeft w _ G 0 cs a a0 e0 HV1.out.f1 hla).mono ?_
                    rintro e y2 ⟨rfl, hd⟩
                    refine ⟨_, rfl, ?_⟩
                    have HV2 := Lib.hid (HV1.out.still (Drawn0.below hd))
                    have p2 := (blk_cell HV2.out.rs 0).trans rfl
                    obtain ⟨-, -, -, -, r2, -, -, -, -⟩ := HV2.out.f1.cells
                    have hG2 := (HV2.out.below.cell (World.block_lt_of_cell? w _ HG.out)).trans HG.out
                    clear hd
                    refine hK.out _ _ ⟨p2, r2⟩ (fun hHeld => ?_)
                    clear hK K
                    refine norm_ (a' := ?_) ?_ ?_
                    rotate_left
                    · show Act.put _ (some 110) _ = _
                      simp only [Act.put, List.setIfInBounds_toArray, List.set_cons_zero, List.set_cons_succ, i64_w, i32_w]
                      rfl
                    refine pure_ (i := 9) (N := some 111) (v := ?_) (a' := ?_) #[true, true, true, true, true, true, true, true, true, true, false, false, false, false, false, false, false, false, false, false, false, false, false, false, false, false, false, false, false, false, false, false, false, false, false, false, false] rfl rfl (by kernel_rfl) (fun _ _ _ h => h) (Or.inl ⟨by rfl, ?_⟩) ?_ ?_
                    rotate_left
                    · intro w'
                      go_simp
                      with_reducible rfl
                    rotate_left
                    · simp only [Act.put, List.setIfInBounds_toArray, List.set_cons_zero, List.set_cons_succ, i64_w, i32_w]
                      rfl
                    refine pure_ (i := 10) (N := some 112) (v := ?_) (a' := ?_) #[true, true, true, true, true, true, true, true, true, true, true, false, false, false, false, false, false, false, false, false, false, false, false, false, false, false, false, false, false, false, false, false, false, false, false, false, false] rfl rfl (by kernel_rfl) (fun _ _ _ h => h) (Or.inl ⟨by rfl, ?_⟩) ?_ ?_
                    rotate_left
                    · intro w'
                      go_simp
                      with_reducible rfl
                    rotate_left
                    · simp only [Act.put, List.setIfInBounds_toArray, List.set_cons_zero, List.set_cons_succ, i64_w, i32_w]
                      rfl
                    refine pure_ (i := 11) (N := some 113) (v := ?_) (a' := ?_) #[true, true, true, true, true, true, true, true, true, true, true, true, false, false, false, false, false, false, false, false, false, false, false, false, false, false, false, false, false, false, false, false, false, false, false, false, false] rfl rfl (by kernel_rfl) (fun _ _ _ h => h) (Or.inl ⟨by rfl, ?_⟩) ?_ ?_
                    rotate_left
                    · intro w'
                      go_simp
                      with_reducible rfl
                    rotate_left
                    · simp only [Act.put, List.setIfInBounds_toArray, List.set_cons_zero, List.set_cons_succ, i64_w, i32_w]
                      rfl
                    refine pure_ (i := 12) (N := some 114) (v := ?_) (a' := ?_) #[true, true, true, true, true, true, true, true, true, true, true, true, true, false, false, false, false, false, false, false, false, false, false, false, false, false, false, false, false, false, false, false, false, false, false, false, false] rfl rfl (by kernel_rfl) (fun _ _ _ h => h) (Or.inl ⟨by rfl, ?_⟩) ?_ ?_
                    rotate_left
                    · intro w'
                      go_simp
                      with_reducible rfl
                    rotate_left
                    · simp only [Act.put, List.setIfInBounds_toArray, List.set_cons_zero, List.set_cons_succ, i64_w, i32_w]
                      rfl
                    refine pure_ (i := 18) (N := some 120) (v := ?_) (a' := ?_) #[true, true, true, true, true, true, true, true, true, true, true, true, true, false, false, false, false, false, true, false, false, false, false, false, false, false, false, false, false, false, false, false, false, false, false, false, false] rfl rfl (by kernel_rfl) (fun _ _ _ h => h) (Or.inl ⟨by rfl, ?_⟩) ?_ ?_
                    rotate_left
                    · intro w'
                      go_simp
                      with_reducible rfl
                    rotate_left
                    · simp only [Act.put, List.setIfInBounds_toArray, List.set_cons_zero, List.set_cons_succ, i64_w, i32_w]
                      rfl
                    refine pure_ (i := 19) (N := some 121) (v := ?_) (a' := ?_) #[true, true, true, true, true, true, true, true, true, true, true, true, true, false, false, false, false, false, true, true, false, false, false, false, false, false, false, false, false, false, false, false, false, false, false, false, false] rfl rfl (by kernel_rfl) (fun _ _ _ h => h) (Or.inl ⟨by rfl, ?_⟩) ?_ ?_
                    rotate_left
                    · intro w'
                      go_simp
                      with_reducible rfl
                    rotate_left
                    · simp only [Act.put, List.setIfInBounds_toArray, List.set_cons_zero, List.set_cons_succ, i64_w, i32_w]
                      rfl
                    refine pure_ (i := 20) (N := some 122) (v := ?_) (a' := ?_) #[true, true, true, true, true, true, true, true, true, true, true, true, true, false, false, false, false, false, true, true, true, false, false, false, false, false, false, false, false, false, false, false, false, false, false, false, false] rfl rfl (by kernel_rfl) (fun _ _ _ h => h) (Or.inl ⟨by rfl, ?_⟩) ?_ ?_
                    rotate_left
                    · intro w'
                      go_simp
                      with_reducible rfl
                    rotate_left
                    · simp only [Act.put, List.setIfInBounds_toArray, List.set_cons_zero, List.set_cons_succ, i64_w, i32_w]
                      rfl
                    refine take_ (i := 13) (N := some 115) (v := ?_) (a' := ?_) #[true, true, true, true, true, true, true, true, true, true, true, true, true, true, false, false, false, false, true, true, true, false, false, false, false, false, false, false, false, false, false, false, false, false, false, false, false] rfl rfl (by kernel_rfl) (fun _ _ _ h => h) (Or.inl ⟨by rfl, ?_⟩) hHeld ?_ ?_
                    rotate_left
                    · rintro w' ⟨s0, s1⟩
                      go_simp
                      with_reducible rfl
                    rotate_left
                    · simp only [Act.put, List.setIfInBounds_toArray, List.set_cons_zero, List.set_cons_succ, i64_w, i32_w]
                      rfl
                    refine pure_ (i := 14) (N := some 116) (v := ?_) (a' := ?_) #[true, true, true, true, true, true, true, true, true, true, true, true, true, true, true, false, false, false, true, true, true, false, false, false, false, false, false, false, false, false, false, false, false, false, false, false, false] rfl rfl (by kernel_rfl) (fun _ _ _ h => h) (Or.inl ⟨by rfl, ?_⟩) ?_ ?_
                    rotate_left
                    · intro w'
                      go_simp
                      with_reducible rfl
                    rotate_left
                    · simp only [Act.put, List.setIfInBounds_toArray, List.set_cons_zero, List.set_cons_succ, i64_w, i32_w]
                      rfl
                    refine pure_ (i := 15) (N := some 117) (v := ?_) (a' := ?_) #[true, true, true, true, true, true, true, true, true, true, true, true, true, true, true, true, false, false, true, true, true, false, false, false, false, false, false, false, false, false, false, false, false, false, false, false, false] rfl rfl (by kernel_rfl) (fun _ _ _ h => h) (Or.inl ⟨by rfl, ?_⟩) ?_ ?_
                    rotate_left
                    · intro w'
                      go_simp
                      with_reducible rfl
                    rotate_left
                    · simp only [Act.put, List.setIfInBounds_toArray, List.set_cons_zero, List.set_cons_succ, i64_w, i32_w]
                      rfl
                    refine take_ (i := 21) (N := some 123) (v := ?_) (a' := ?_) #[true, true, true, true, true, true, true, true, true, true, true, true, true, true, true, true, false, false, true, true, true, true, false, false, false, false, false, false, false, false, false, false, false, false, false, false, false] rfl rfl (by kernel_rfl) (fun _ _ _ h => h) (Or.inl ⟨by rfl, ?_⟩) hHeld ?_ ?_
                    rotate_left
                    · rintro w' ⟨s0, s1⟩
                      go_simp
                      with_reducible rfl
                    rotate_left
                    · simp only [Act.put, List.setIfInBounds_toArray, List.set_cons_zero, List.set_cons_succ, i64_w, i32_w]
                      rfl
                    refine one_ (i := 16) (N := some 118) #[true, true, true, true, true, true, true, true, true, true, true, true, true, true, true, true, true, false, true, true, true, true, false, false, false, false, false, false, false, false, false, false, false, false, false, false, false] rfl rfl (by kernel_rfl) (by decide) (fun K hK => ?_)
                    refine goes_ Tryd.func16 (by kernel_rfl) rfl #[.pointer (some ⟨g1, 0, none⟩)] (by rfl) rfl rfl (by simp only [List.map_toArray, List.map_cons, List.map_nil]; rfl) ?_
                    with_reducible refine (Err_any _ _ g1 _ _ (HV2.out.r1.at_ v0 hv0)).mono ?_
                    rintro e y3 ⟨E1, rfl, hE1, hw⟩
                    refine ⟨_, rfl, ?_⟩
                    have hw' := hw.symm
                    clear hw
                    subst hw'
                    have HV3 := Lib.hid (HV2.out.still (Below.refl _ _))
                    have p3 := (blk_cell HV3.out.rs 0).trans rfl
                    obtain ⟨-, -, -, -, r3, -, -, -, -⟩ := HV3.out.f1.cells
                    have hG3 := (HV3.out.below.cell (World.block_lt_of_cell? w _ HG.out)).trans HG.out
                    refine hK.out _ _ ⟨p3, r3⟩ (fun hHeld => ?_)
                    clear hK K
                    refine norm_ (a' := ?_) ?_ ?_
                    rotate_left
                    · show Act.put _ (some 118) _ = _
                      simp only [Act.put, List.setIfInBounds_toArray, List.set_cons_zero, List.set_cons_succ, i64_w, i32_w]
                      rfl
                    refine one_ (i := 17) (N := some 119) #[true, true, true, true, true, true, true, true, true, true, true, true, true, true, true, true, true, true, true, true, true, true, false, false, false, false, false, false, false, false, false, false, false, false, false, false, false] rfl rfl (by kernel_rfl) (by decide) (fun K hK => ?_)
                    refine goes_ Tryd.func49 (by kernel_rfl) rfl #[E1] (by rfl) rfl rfl (by simp only [List.map_toArray, List.map_cons, List.map_nil]; rfl) ?_
                    with_reducible refine (number_Eo hE1 _ hG3).mono ?_
                    rintro e y4 ⟨rfl, hb⟩
                    refine ⟨_, rfl, ?_⟩
                    have HV4 := Lib.hid (HV3.out.still hb)
                    have p4 := (blk_cell HV4.out.rs 0).trans rfl
                    obtain ⟨-, -, -, -, r4, -, -, -, -⟩ := HV4.out.f1.cells
                    have hG4 := (HV4.out.below.cell (World.block_lt_of_cell? w _ HG.out)).trans HG.out
                    clear hb
                    refine hK.out _ _ ⟨p4, r4⟩ (fun hHeld => ?_)
                    clear hK K
                    refine norm_ (a' := ?_) ?_ ?_
                    rotate_left
                    · show Act.put _ (some 119) _ = _
                      simp only [Act.put, List.setIfInBounds_toArray, List.set_cons_zero, List.set_cons_succ, i64_w, i32_w]
                      rfl
                    refine pure_ (i := 22) (N := some 124) (v := ?_) (a' := ?_) #[true, true, true, true, true, true, true, true, true, true, true, true, true, true, true, true, true, true, true, true, true, true, true, false, false, false, false, false, false, false, false, false, false, false, false, false, false] rfl rfl (by kernel_rfl) (fun _ _ _ h => h) (Or.inl ⟨by rfl, ?_⟩) ?_ ?_
                    rotate_left
                    · intro w'
                      go_simp
                      with_reducible rfl
                    rotate_left
                    · simp only [Act.put, List.setIfInBounds_toArray, List.set_cons_zero, List.set_cons_succ, i64_w, i32_w]
                      rfl
                    refine pure_ (i := 23) (N := some 125) (v := ?_) (a' := ?_) #[true, true, true, true, true, true, true, true, true, true, true, true, true, true, true, true, true, true, true, true, true, true, true, true, false, false, false, false, false, false, false, false, false, false, false, false, false] rfl rfl (by kernel_rfl) (fun _ _ _ h => h) (Or.inl ⟨by rfl, ?_⟩) ?_ ?_
                    rotate_left
                    · intro w'
                      go_simp
                      with_reducible rfl
                    rotate_left
                    · simp only [Act.put, List.setIfInBounds_toArray, List.set_cons_zero, List.set_cons_succ, i64_w, i32_w]
                      rfl
                    refine pure_ (i := 24) (N := some 126) (v := ?_) (a' := ?_) #[true, true, true, true, true, true, true, true, true, true, true, true, true, true, true, true, true, true, true, true, true, true, true, true, true, false, false, false, false, false, false, false, false, false, false, false, false] rfl rfl (by kernel_rfl) (fun _ _ _ h => h) (Or.inl ⟨by rfl, ?_⟩) ?_ ?_
                    rotate_left
                    · intro w'
                      go_simp
                      with_reducible rfl
                    rotate_left
                    · simp only [Act.put, List.setIfInBounds_toArray, List.set_cons_zero, List.set_cons_succ, i64_w, i32_w]
                      rfl
                    refine pure_ (i := 25) (N := some 127) (v := ?_) (a' := ?_) #[true, true, true, true, true, true, true, true, true, true, true, true, true, true, true, true, true, true, true, true, true, true, true, true, true, true, false, false, false, false, false, false, false, false, false, false, false] rfl rfl (by kernel_rfl) (fun _ _ _ h => h) (Or.inl ⟨by rfl, ?_⟩) ?_ ?_
                    rotate_left
                    · intro w'
                      go_simp
                      with_reducible rfl
                    rotate_left
                    · simp only [Act.put, List.setIfInBounds_toArray, List.set_cons_zero, List.set_cons_succ, i64_w, i32_w]
                      rfl
                    refine pure_ (i := 26) (N := some 128) (v := ?_) (a' := ?_) #[true, true, true, true, true, true, true, true, true, true, true, true, true, true, true, true, true, true, true, true, true, true, true, true, true, true, true, false, false, false, false, false, false, false, false, false, false] rfl rfl (by kernel_rfl) (fun _ _ _ h => h) (Or.inl ⟨by rfl, ?_⟩) ?_ ?_
                    rotate_left
                    · intro w'
                      go_simp
                      with_reducible rfl
                    rotate_left
                    · simp only [Act.put, List.setIfInBounds_toArray, List.set_cons_zero, List.set_cons_succ, i64_w, i32_w]
                      rfl
                    refine pure_ (i := 32) (N := some 134) (v := ?_) (a' := ?_) #[true, true, true, true, true, true, true, true, true, true, true, true, true, true, true, true, true, true, true, true, true, true, true, true, true, true, true, false, false, false, false, false, true, false, false, false, false] rfl rfl (by kernel_rfl) (fun _ _ _ h => h) (Or.inl ⟨by rfl, ?_⟩) ?_ ?_
                    rotate_left
                    · intro w'
                      go_simp
                      with_reducible rfl
                    rotate_left
                    · simp only [Act.put, List.setIfInBounds_toArray, List.set_cons_zero, List.set_cons_succ, i64_w, i32_w]
                      rfl
                    refine pure_ (i := 33) (N := some 135) (v := ?_) (a' := ?_) #[true, true, true, true, true, true, true, true, true, true, true, true, true, true, true, true, true, true, true, true, true, true, true, true, true, true, true, false, false, false, false, false, true, true, false, false, false] rfl rfl (by kernel_rfl) (fun _ _ _ h => h) (Or.inl ⟨by rfl, ?_⟩) ?_ ?_
                    rotate_left
                    · intro w'
                      go_simp
                      with_reducible rfl
                    rotate_left
                    · simp only [Act.put, List.setIfInBounds_toArray, List.set_cons_zero, List.set_cons_succ, i64_w, i32_w]
                      rfl
                    refine take_ (i := 27) (N := some 129) (v := ?_) (a' := ?_) #[true, true, true, true, true, true, true, true, true, true, true, true, true, true, true, true, true, true, true, true, true, true, true, true, true, true, true, true, false, false, false, false, true, true, false, false, false] rfl rfl (by kernel_rfl) (fun _ _ _ h => h) (Or.inl ⟨by rfl, ?_⟩) hHeld ?_ ?_
                    rotate_left
                    · rintro w' ⟨s0, s1⟩
                      go_simp
                      with_reducible rfl
                    rotate_left
                    · simp only [Act.put, List.setIfInBounds_toArray, List.set_cons_zero, List.set_cons_succ, i64_w, i32_w]
                      rfl
                    refine pure_ (i := 28) (N := some 130) (v := ?_) (a' := ?_) #[true, true, true, true, true, true, true, true, true, true, true, true, true, true, true, true, true, true, true, true, true, true, true, true, true, true, true, true, true, false, false, false, true, true, false, false, false] rfl rfl (by kernel_rfl) (fun _ _ _ h => h) (Or.inl ⟨by rfl, ?_⟩) ?_ ?_
                    rotate_left
                    · intro w'
                      go_simp
                      with_reducible rfl
                    rotate_left
                    · simp only [Act.put, List.setIfInBounds_toArray, List.set_cons_zero, List.set_cons_succ, i64_w, i32_w]
                      rfl
                    refine pure_ (i := 29) (N := some 131) (v := ?_) (a' := ?_) #[true, true, true, true, true, true, true, true, true, true, true, true, true, true, true, true, true, true, true, true, true, true, true, true, true, true, true, true, true, true, false, false, true, true, false, false, false] rfl rfl (by kernel_rfl) (fun _ _ _ h => h) (Or.inl ⟨by rfl, ?_⟩) ?_ ?_
                    rotate_left
                    · intro w'
                      go_simp
                      with_reducible rfl
                    rotate_left
                    · simp only [Act.put, List.setIfInBounds_toArray, List.set_cons_zero, List.set_cons_succ, i64_w, i32_w]
                      rfl
                    refine one_ (i := 30) (N := some 132) #[true, true, true, true, true, true, true, true, true, true, true, true, true, true, true, true, true, true, true, true, true, true, true, true, true, true, true, true, true, true, true, false, true, true, false, false, false] rfl rfl (by kernel_rfl) (by decide) (fun K hK => ?_)
                    refine goes_ Tryd.func15 (by kernel_rfl) rfl #[.pointer (some ⟨g1, 0, none⟩)] (by rfl) rfl rfl (by simp only [List.map_toArray, List.map_cons, List.map_nil]; rfl) ?_
                    with_reducible refine (End_any _ _ g1 _ _ (HV4.out.r1.at_ v0 hv0)).mono ?_
                    rintro e y5 ⟨E2, rfl, hE2, hw⟩
                    refine ⟨_, rfl, ?_⟩
                    have hw' := hw.symm
                    clear hw
                    subst hw'
                    have HV5 := Lib.hid (HV4.out.still (Below.refl _ _))
                    have p5 := (blk_cell HV5.out.rs 0).trans rfl
                    obtain ⟨-, -, -, -, r5, -, -, -, -⟩ := HV5.out.f1.cells
                    have hG5 := (HV5.out.below.cell (World.block_lt_of_cell? w _ HG.out)).trans HG.out
                    refine hK.out _ _ ⟨p5, r5⟩ (fun hHeld => ?_)
                    clear hK K
                    refine norm_ (a' := ?_) ?_ ?_
                    rotate_left
                    · show Act.put _ (some 132) _ = _
                      simp only [Act.put, List.setIfInBounds_toArray, List.set_cons_zero, List.set_cons_succ, i64_w, i32_w]
                      rfl
                    refine one_ (i := 31) (N := some 133) #[true, true, true, true, true, true, true, true, true, true, true, true, true, true, true, true, true, true, true, true, true, true, true, true, true, true, true, true, true, true, true, true, true, true, false, false, false] rfl rfl (by kernel_rfl) (by decide) (fun K hK => ?_)
                    refine goes_ Tryd.func49 (by kernel_rfl) rfl #[E2] (by rfl) rfl rfl (by simp only [List.map_toArray, List.map_cons, List.map_nil]; rfl) ?_
                    with_reducible refine (number_Eo hE2 _ hG5).mono ?_
                    rintro e y6 ⟨rfl, hb⟩
                    refine ⟨_, rfl, ?_⟩
                    have HV6 := Lib.hid (HV5.out.still hb)
                    have p6 := (blk_cell HV6.out.rs 0).trans rfl
                    obtain ⟨-, -, -, -, r6, -, -, -, -⟩ := HV6.out.f1.cells
                    have hG6 := (HV6.out.below.cell (World.block_lt_of_cell? w _ HG.out)).trans HG.out
                    clear hb
                    refine hK.out _ _ ⟨p6, r6⟩ (fun hHeld => ?_)
                    clear hK K
                    refine norm_ (a' := ?_) ?_ ?_
                    rotate_left
                    · show Act.put _ (some 133) _ = _
                      simp only [Act.put, List.setIfInBounds_toArray, List.set_cons_zero, List.set_cons_succ, i64_w, i32_w]
                      rfl
                    refine one_ (i := 34) (N := some 136) #[true, true, true, true, true, true, true, true, true, true, true, true, true, true, true, true, true, true, true, true, true, true, true, true, true, true, true, true, true, true, true, true, true, true, true, false, false] rfl rfl (by kernel_rfl) (by decide) (fun K hK => ?_)
                    refine goes_ Tryd.func50 (by kernel_rfl) rfl #[.pointer (some ⟨G, 0, none⟩)] (by rfl) rfl rfl (by simp only [List.map_toArray, List.map_cons, List.map_nil]; rfl) ?_
                    with_reducible refine (RefEnd w _ G 0 cs a a0 e0 HV6.out.f1 hla).mono ?_
                    rintro e y7 ⟨rfl, hd⟩
                    refine ⟨_, rfl, ?_⟩
                    have HV7 := Lib.hid (HV6.out.still (Drawn0.below hd))
                    have p7 := (blk_cell HV7.out.rs 0).trans rfl
                    obtain ⟨-, -, -, -, r7, -, -, -, -⟩ := HV7.out.f1.cells
                    have hG7 := (HV7.out.below.cell (World.block_lt_of_cell? w _ HG.out)).trans HG.out
                    clear hd
                    refine hK.out _ _ ⟨p7, r7⟩ (fun hHeld => ?_)
                    clear hK K
                    refine norm_ (a' := ?_) ?_ ?_
                    rotate_left
                    · show Act.put _ (some 136) _ = _
                      simp only [Act.put, List.setIfInBounds_toArray, List.set_cons_zero, List.set_cons_succ, i64_w, i32_w]
                      rfl
                    refine pure_ (i := 35) (N := some 137) (v := ?_) (a' := ?_) #[true, true, true, true, true, true, true, true, true, true, true, true, true, true, true, true, true, true, true, true, true, true, true, true, true, true, true, true, true, true, true, true, true, true, true, true, false] rfl rfl (by kernel_rfl) (fun _ _ _ h => h) (Or.inl ⟨by rfl, ?_⟩) ?_ ?_
                    rotate_left
                    · intro w'
                      go_simp
                      with_reducible rfl
                    rotate_left
                    · simp only [Act.put, List.setIfInBounds_toArray, List.set_cons_zero, List.set_cons_succ, i64_w, i32_w]
                      rfl
                    refine pure_ (i := 36) (N := some 138) (v := ?_) (a' := ?_) #[true, true, true, true, true, true, true, true, true, true, true, true, true, true, true, true, true, true, true, true, true, true, true, true, true, true, true, true, true, true, true, true, true, true, true, true, true] rfl rfl (by kernel_rfl) (fun _ _ _ h => h) (Or.inl ⟨by rfl, ?_⟩) ?_ ?_
                    rotate_left
                    · intro w'
                      go_simp
                      with_reducible rfl
                    rotate_left
                    · simp only [Act.put, List.setIfInBounds_toArray, List.set_cons_zero, List.set_cons_succ, i64_w, i32_w]
                      rfl
                    refine done_ (by kernel_rfl) ?_
                    go_wp2_with fail
                    refine ⟨⟨0 + 1, rfl, by omega, Lib.hid ⟨a0, a1, e0, e1, cs, HV7.out⟩⟩, ?_⟩
                    show 2 - ((0 + 1 : Nat) : Int).toNat < 2 - ((0 : Nat) : Int).toNat
                    decide
                  · go_wp2_with fail
                    obtain ⟨v0, hv0⟩ : ∃ v : World, v.heap.size = lo2 := ⟨base wr.drew lo2, base_size _ _ (by show lo2 ≤ wr.heap.size; omega)⟩
                    have p0 : wr.drew.cell? ⟨R, 1, none⟩ = some (.pointer (some ⟨g2, 0, none⟩)) := (blk_cell HV0.out.rs 1).trans rfl
                    obtain ⟨-, -, -, -, r0, -, -, -, -⟩ := HV0.out.f2.cells
                    refine start_ (n := 37) (S := fun w' => w'.cell? ⟨R, 1, none⟩ = some (.pointer (some ⟨g2, 0, none⟩)) ∧ w'.cell? ⟨G, 5, none⟩ = some (.int .i64 e1)) (ds := []) #[false, false, false, false, false, false, false, false, false, false, false, false, false, false, false, false, false, false, false, false, false, false, false, false, false, false, false, false, false, false, false, false, false, false, false, false, false] (by kernel_rfl) rfl rfl ⟨p0, r0⟩ (fun hHeld => ?_)
                    refine pure_ (i := 0) (N := some 102) (v := ?_) (a' := ?_) #[true, false, false, false, false, false, false, false, false, false, false, false, false, false, false, false, false, false, false, false, false, false, false, false, false, false, false, false, false, false, false, false, false, false, false, false, false] rfl rfl (by kernel_rfl) (fun _ _ _ h => h) (Or.inl ⟨by rfl, ?_⟩) ?_ ?_
                    rotate_left
                    · intro w'
                      go_simp
                      with_reducible rfl
                    rotate_left
                    · simp only [Act.put, List.setIfInBounds_toArray, List.set_cons_zero, List.set_cons_succ, i64_w, i32_w]
                      rfl
                    refine pure_ (i := 1) (N := some 103) (v := ?_) (a' := ?_) #[true, true, false, false, false, false, false, false, false, false, false, false, false, false, false, false, false, false, false, false, false, false, false, false, false, false, false, false, false, false, false, false, false, false, false, false, false] rfl rfl (by kernel_rfl) (fun _ _ _ h => h) (Or.inl ⟨by rfl, ?_⟩) ?_ ?_
                    rotate_left
                    · intro w'
                      go_simp
                      with_reducible rfl
                    rotate_left
                    · simp only [Act.put, List.setIfInBounds_toArray, List.set_cons_zero, List.set_cons_succ, i64_w, i32_w]
                      rfl
                    refine pure_ (i := 6) (N := some 108) (v := ?_) (a' := ?_) #[true, true, false, false, false, false, true, false, false, false, false, false, false, false, false, false, false, false, false, false, false, false, false, false, false, false, false, false, false, false, false, false, false, false, false, false, false] rfl rfl (by kernel_rfl) (fun _ _ _ h => h) (Or.inl ⟨by rfl, ?_⟩) ?_ ?_
                    rotate_left
                    · intro w'
                      go_simp
                      with_reducible rfl
                    rotate_left
                    · simp only [Act.put, List.setIfInBounds_toArray, List.set_cons_zero, List.set_cons_succ, i64_w, i32_w]
                      rfl
                    refine pure_ (i := 7) (N := some 109) (v := ?_) (a' := ?_) #[true, true, false, false, false, false, true, true, false, false, false, false, false, false, false, false, false, false, false, false, false, false, false, false, false, false, false, false, false, false, false, false, false, false, false, false, false] rfl rfl (by kernel_rfl) (fun _ _ _ h => h) (Or.inl ⟨by rfl, ?_⟩) ?_ ?_
                    rotate_left
                    · intro w'
                      go_simp
                      with_reducible rfl
                    rotate_left
                    · simp only [Act.put, List.setIfInBounds_toArray, List.set_cons_zero, List.set_cons_succ, i64_w, i32_w]
                      rfl
                    refine take_ (i := 2) (N := some 104) (v := ?_) (a' := ?_) #[true, true, true, false, false, false, true, true, false, false, false, false, false, false, false, false, false, false, false, false, false, false, false, false, false, false, false, false, false, false, false, false, false, false, false, false, false] rfl rfl (by kernel_rfl) (fun _ _ _ h => h) (Or.inl ⟨by rfl, ?_⟩) hHeld ?_ ?_
                    rotate_left
                    · rintro w' ⟨s0, s1⟩
                      go_simp
                      with_reducible rfl
                    rotate_left
                    · simp only [Act.put, List.setIfInBounds_toArray, List.set_cons_zero, List.set_cons_succ, i64_w, i32_w]
                      rfl
                    refine pure_ (i := 3) (N := some 105) (v := ?_) (a' := ?_) #[true, true, true, true, false, false, true, true, false, false, false, false, false, false, false, false, false, false, false, false, false, false, false, false, false, false, false, false, false, false, false, false, false, false, false, false, false] rfl rfl (by kernel_rfl) (fun _ _ _ h => h) (Or.inl ⟨by rfl, ?_⟩) ?_ ?_
                    rotate_left
                    · intro w'
                      go_simp
                      with_reducible rfl
                    rotate_left
                    · simp only [Act.put, List.setIfInBounds_toArray, List.set_cons_zero, List.set_cons_succ, i64_w, i32_w]
                      rfl
                    refine pure_ (i := 4) (N := some 106) (v := ?_) (a' := ?_) #[true, true, true, true, true, false, true, true, false, false, false, false, false, false, false, false, false, false, false, false, false, false, false, false, false, false, false, false, false, false, false, false, false, false, false, false, false] rfl rfl (by kernel_rfl) (fun _ _ _ h => h) (Or.inl ⟨by rfl, ?_⟩) ?_ ?_
                    rotate_left
                    · intro w'
                      go_simp
                      with_reducible rfl
                    rotate_left
                    · simp only [Act.put, List.setIfInBounds_toArray, List.set_cons_zero, List.set_cons_succ, i64_w, i32_w]
                      rfl
                    refine one_ (i := 5) (N := some 107) #[true, true, true, true, true, true, true, true, false, false, false, false, false, false, false, false, false, false, false, false, false, false, false, false, false, false, false, false, false, false, false, false, false, false, false, false, false] rfl rfl (by kernel_rfl) (by decide) (fun K hK => ?_)
                    refine goes_ Tryd.func18 (by kernel_rfl) rfl #[.pointer (some ⟨g2, 0, none⟩)] (by rfl) rfl rfl (by simp only [List.map_toArray, List.map_cons, List.map_nil]; rfl) ?_
                    with_reducible refine (Left_any _ _ g2 _ _ (HV0.out.r2.at_ v0 hv0)).mono ?_
                    rintro e y1 ⟨rfl, hw⟩
                    refine ⟨_, rfl, ?_⟩
                    have hw' := hw.symm
                    clear hw
                    subst hw'
                    have HV1 := Lib.hid (HV0.out.still (Below.refl _ _))
                    have p1 := (blk_cell HV1.out.rs 1).trans rfl
                    obtain ⟨-, -, -, -, r1, -, -, -, -⟩ := HV1.out.f2.cells
                    have hG1 := (HV1.out.below.cell (World.block_lt_of_cell? w _ HG.out)).trans HG.out
                    refine hK.out _ _ ⟨p1, r1⟩ (fun hHeld => ?_)
                    clear hK K
                    refine norm_ (a' := ?_) ?_ ?_
                    rotate_left
                    · show Act.put _ (some 107) _ = _
                      simp only [Act.put, List.setIfInBounds_toArray, List.set_cons_zero, List.set_cons_succ, i64_w, i32_w]
                      rfl
                    refine one_ (i := 8) (N := some 110) #[true, true, true, true, true, true, true, true, true, false, false, false, false, false, false, false, false, false, false, false, false, false, false, false, false, false, false, false, false, false, false, false, false, false, false, false, false] rfl rfl (by kernel_rfl) (by decide) (fun K hK => ?_)
                    refine goes_ Tryd.func48 (by kernel_rfl) rfl #[.pointer (some ⟨G, 3, none⟩)] (by rfl) rfl rfl (by simp only [List.map_toArray, List.map_cons, List.map_nil]; rfl) ?_
                    with_reducible refine (RefLeft w _ G 3 cs b a1 e1 HV1.out.f2 hlb).mono ?_
                    rintro e y2 ⟨rfl, hd⟩
                    refine ⟨_, rfl, ?_⟩
                    have HV2 := Lib.hid (HV1.out.still (Drawn0.below hd))
                    have p2 := (blk_cell HV2.out.rs 1).trans rfl
                    obtain ⟨-, -, -, -, r2, -, -, -, -⟩ := HV2.out.f2.cells
                    have hG2 := (HV2.out.below.cell (World.block_lt_of_cell? w _ HG.out)).trans HG.out
                    clear hd
                    refine hK.out _ _ ⟨p2, r2⟩ (fun hHeld => ?_)
                    clear hK K
                    refine norm_ (a' := ?_) ?_ ?_
                    rotate_left
                    · show Act.put _ (some 110) _ = _
                      simp only [Act.put, List.setIfInBounds_toArray, List.set_cons_zero, List.set_cons_succ, i64_w, i32_w]
                      rfl
                    refine pure_ (i := 9) (N := some 111) (v := ?_) (a' := ?_) #[true, true, true, true, true, true, true, true, true, true, false, false, false, false, false, false, false, false, false, false, false, false, false, false, false, false, false, false, false, false, false, false, false, false, false, false, false] rfl rfl (by kernel_rfl) (fun _ _ _ h => h) (Or.inl ⟨by rfl, ?_⟩) ?_ ?_
                    rotate_left
                    · intro w'
                      go_simp
                      with_reducible rfl
                    rotate_left
                    · simp only [Act.put, List.setIfInBounds_toArray, List.set_cons_zero, List.set_cons_succ, i64_w, i32_w]
                      rfl
                    refine pure_ (i := 10) (N := some 112) (v := ?_) (a' := ?_) #[true, true, true, true, true, true, true, true, true, true, true, false, false, false, false, false, false, false, false, false, false, false, false, false, false, false, false, false, false, false, false, false, false, false, false, false, false] rfl rfl (by kernel_rfl) (fun _ _ _ h => h) (Or.inl ⟨by rfl, ?_⟩) ?_ ?_
                    rotate_left
                    · intro w'
                      go_simp
                      with_reducible rfl
                    rotate_left
                    · simp only [Act.put, List.setIfInBounds_toArray, List.set_cons_zero, List.set_cons_succ, i64_w, i32_w]
                      rfl
                    refine pure_ (i := 11) (N := some 113) (v := ?_) (a' := ?_) #[true, true, true, true, true, true, true, true, true, true, true, true, false, false, false, false, false, false, false, false, false, false, false, false, false, false, false, false, false, false, false, false, false, false, false, false, false] rfl rfl (by kernel_rfl) (fun _ _ _ h => h) (Or.inl ⟨by rfl, ?_⟩) ?_ ?_
                    rotate_left
                    · intro w'
                      go_simp
                      with_reducible rfl
                    rotate_left
                    · simp only [Act.put, List.setIfInBounds_toArray, List.set_cons_zero, List.set_cons_succ, i64_w, i32_w]
                      rfl
                    refine pure_ (i := 12) (N := some 114) (v := ?_) (a' := ?_) #[true, true, true, true, true, true, true, true, true, true, true, true, true, false, false, false, false, false, false, false, false, false, false, false, false, false, false, false, false, false, false, false, false, false, false, false, false] rfl rfl (by kernel_rfl) (fun _ _ _ h => h) (Or.inl ⟨by rfl, ?_⟩) ?_ ?_
                    rotate_left
                    · intro w'
                      go_simp
                      with_reducible rfl
                    rotate_left
                    · simp only [Act.put, List.setIfInBounds_toArray, List.set_cons_zero, List.set_cons_succ, i64_w, i32_w]
                      rfl
                    refine pure_ (i := 18) (N := some 120) (v := ?_) (a' := ?_) #[true, true, true, true, true, true, true, true, true, true, true, true, true, false, false, false, false, false, true, false, false, false, false, false, false, false, false, false, false, false, false, false, false, false, false, false, false] rfl rfl (by kernel_rfl) (fun _ _ _ h => h) (Or.inl ⟨by rfl, ?_⟩) ?_ ?_
                    rotate_left
                    · intro w'
                      go_simp
                      with_reducible rfl
                    rotate_left
                    · simp only [Act.put, List.setIfInBounds_toArray, List.set_cons_zero, List.set_cons_succ, i64_w, i32_w]
                      rfl
                    refine pure_ (i := 19) (N := some 121) (v := ?_) (a' := ?_) #[true, true, true, true, true, true, true, true, true, true, true, true, true, false, false, false, false, false, true, true, false, false, false, false, false, false, false, false, false, false, false, false, false, false, false, false, false] rfl rfl (by kernel_rfl) (fun _ _ _ h => h) (Or.inl ⟨by rfl, ?_⟩) ?_ ?_
                    rotate_left
                    · intro w'
                      go_simp
                      with_reducible rfl
                    rotate_left
                    · simp only [Act.put, List.setIfInBounds_toArray, List.set_cons_zero, List.set_cons_succ, i64_w, i32_w]
                      rfl
                    refine pure_ (i := 20) (N := some 122) (v := ?_) (a' := ?_) #[true, true, true, true, true, true, true, true, true, true, true, true, true, false, false, false, false, false, true, true, true, false, false, false, false, false, false, false, false, false, false, false, false, false, false, false, false] rfl rfl (by kernel_rfl) (fun _ _ _ h => h) (Or.inl ⟨by rfl, ?_⟩) ?_ ?_
                    rotate_left
                    · intro w'
                      go_simp
                      with_reducible rfl
                    rotate_left
                    · simp only [Act.put, List.setIfInBounds_toArray, List.set_cons_zero, List.set_cons_succ, i64_w, i32_w]
                      rfl
                    refine take_ (i := 13) (N := some 115) (v := ?_) (a' := ?_) #[true, true, true, true, true, true, true, true, true, true, true, true, true, true, false, false, false, false, true, true, true, false, false, false, false, false, false, false, false, false, false, false, false, false, false, false, false] rfl rfl (by kernel_rfl) (fun _ _ _ h => h) (Or.inl ⟨by rfl, ?_⟩) hHeld ?_ ?_
                    rotate_left
                    · rintro w' ⟨s0, s1⟩
                      go_simp
                      with_reducible rfl
                    rotate_left
                    · simp only [Act.put, List.setIfInBounds_toArray, List.set_cons_zero, List.set_cons_succ, i64_w, i32_w]
                      rfl
                    refine pure_ (i := 14) (N := some 116) (v := ?_) (a' := ?_) #[true, true, true, true, true, true, true, true, true, true, true, true, true, true, true, false, false, false, true, true, true, false, false, false, false, false, false, false, false, false, false, false, false, false, false, false, false] rfl rfl (by kernel_rfl) (fun _ _ _ h => h) (Or.inl ⟨by rfl, ?_⟩) ?_ ?_
                    rotate_left
                    · intro w'
                      go_simp
                      with_reducible rfl
                    rotate_left
                    · simp only [Act.put, List.setIfInBounds_toArray, List.set_cons_zero, List.set_cons_succ, i64_w, i32_w]
                      rfl
                    refine pure_ (i := 15) (N := some 117) (v := ?_) (a' := ?_) #[true, true, true, true, true, true, true, true, true, true, true, true, true, true, true, true, false, false, true, true, true, false, false, false, false, false, false, false, false, false, false, false, false, false, false, false, false] rfl rfl (by kernel_rfl) (fun _ _ _ h => h) (Or.inl ⟨by rfl, ?_⟩) ?_ ?_
                    rotate_left
                    · intro w'
                      go_simp
                      with_reducible rfl
                    rotate_left
                    · simp only [Act.put, List.setIfInBounds_toArray, List.set_cons_zero, List.set_cons_succ, i64_w, i32_w]
                      rfl
                    refine take_ (i := 21) (N := some 123) (v := ?_) (a' := ?_) #[true, true, true, true, true, true, true, true, true, true, true, true, true, true, true, true, false, false, true, true, true, true, false, false, false, false, false, false, false, false, false, false, false, false, false, false, false] rfl rfl (by kernel_rfl) (fun _ _ _ h => h) (Or.inl ⟨by rfl, ?_⟩) hHeld ?_ ?_
                    rotate_left
                    · rintro w' ⟨s0, s1⟩
                      go_simp
                      with_reducible rfl
                    rotate_left
                    · simp only [Act.put, List.setIfInBounds_toArray, List.set_cons_zero, List.set_cons_succ, i64_w, i32_w]
                      rfl
                    refine one_ (i := 16) (N := some 118) #[true, true, true, true, true, true, true, true, true, true, true, true, true, true, true, true, true, false, true, true, true, true, false, false, false, false, false, false, false, false, false, false, false, false, false, false, false] rfl rfl (by kernel_rfl) (by decide) (fun K hK => ?_)
                    refine goes_ Tryd.func16 (by kernel_rfl) rfl #[.pointer (some ⟨g2, 0, none⟩)] (by rfl) rfl rfl (by simp only [List.map_toArray, List.map_cons, List.map_nil]; rfl) ?_
                    with_reducible refine (Err_any _ _ g2 _ _ (HV2.out.r2.at_ v0 hv0)).mono ?_
                    rintro e y3 ⟨E1, rfl, hE1, hw⟩
                    refine ⟨_, rfl, ?_⟩
                    have hw' := hw.symm
                    clear hw
                    subst hw'
                    have HV3 := Lib.hid (HV2.out.still (Below.refl _ _))
                    have p3 := (blk_cell HV3.out.rs 1).trans rfl
                    obtain ⟨-, -, -, -, r3, -, -, -, -⟩ := HV3.out.f2.cells
                    have hG3 := (HV3.out.below.cell (World.block_lt_of_cell? w _ HG.out)).trans HG.out
                    refine hK.out _ _ ⟨p3, r3⟩ (fun hHeld => ?_)
                    clear hK K
                    refine norm_ (a' := ?_) ?_ ?_
                    rotate_left
                    · show Act.put _ (some 118) _ = _
                      simp only [Act.put, List.setIfInBounds_toArray, List.set_cons_zero, List.set_cons_succ, i64_w, i32_w]
                      rfl
                    refine one_ (i := 17) (N := some 119) #[true, true, true, true, true, true, true, true, true, true, true, true, true, true, true, true, true, true, true, true, true, true, false, false, false, false, false, false, false, false, false, false, false, false, false, false, false] rfl rfl (by kernel_rfl) (by decide) (fun K hK => ?_)
                    refine goes_ Tryd.func49 (by kernel_rfl) rfl #[E1] (by rfl) rfl rfl (by simp only [List.map_toArray, List.map_cons, List.map_nil]; rfl) ?_
                    with_reducible refine (number_Eo hE1 _ hG3).mono ?_
                    rintro e y4 ⟨rfl, hb⟩
                    refine ⟨_, rfl, ?_⟩
                    have HV4 := Lib.hid (HV3.out.still hb)
                    have p4 := (blk_cell HV4.out.rs 1).trans rfl
                    obtain ⟨-, -, -, -, r4, -, -, -, -⟩ := HV4.out.f2.cells
                    have hG4 := (HV4.out.below.cell (World.block_lt_of_cell? w _ HG.out)).trans HG.out
                    clear hb
                    refine hK.out _ _ ⟨p4, r4⟩ (fun hHeld => ?_)
                    clear hK K
                    refine norm_ (a' := ?_) ?_ ?_
                    rotate_left
                    · show Act.put _ (some 119) _ = _
                      simp only [Act.put, List.setIfInBounds_toArray, List.set_cons_zero, List.set_cons_succ, i64_w, i32_w]
                      rfl
                    refine pure_ (i := 22) (N := some 124) (v := ?_) (a' := ?_) #[true, true, true, true, true, true, true, true, true, true, true, true, true, true, true, true, true, true, true, true, true, true, true, false, false, false, false, false, false, false, false, false, false, false, false, false, false] rfl rfl (by kernel_rfl) (fun _ _ _ h => h) (Or.inl ⟨by rfl, ?_⟩) ?_ ?_
                    rotate_left
                    · intro w'
                      go_simp
                      with_reducible rfl
                    rotate_left
                    · simp only [Act.put, List.setIfInBounds_toArray, List.set_cons_zero, List.set_cons_succ, i64_w, i32_w]
                      rfl
                    refine pure_ (i := 23) (N := some 125) (v := ?_) (a' := ?_) #[true, true, true, true, true, true, true, true, true, true, true, true, true, true, true, true, true, true, true, true, true, true, true, true, false, false, false, false, false, false, false, false, false, false, false, false, false] rfl rfl (by kernel_rfl) (fun _ _ _ h => h) (Or.inl ⟨by rfl, ?_⟩) ?_ ?_
                    rotate_left
                    · intro w'
                      go_simp
                      with_reducible rfl
                    rotate_left
                    · simp only [Act.put, List.setIfInBounds_toArray, List.set_cons_zero, List.set_cons_succ, i64_w, i32_w]
                      rfl
                    refine pure_ (i := 24) (N := some 126) (v := ?_) (a' := ?_) #[true, true, true, true, true, true, true, true, true, true, true, true, true, true, true, true, true, true, true, true, true, true, true, true, true, false, false, false, false, false, false, false, false, false, false, false, false] rfl rfl (by kernel_rfl) (fun _ _ _ h => h) (Or.inl ⟨by rfl, ?_⟩) ?_ ?_
                    rotate_left
                    · intro w'
                      go_simp
                      with_reducible rfl
                    rotate_left
                    · simp only [Act.put, List.setIfInBounds_toArray, List.set_cons_zero, List.set_cons_succ, i64_w, i32_w]
                      rfl
                    refine pure_ (i := 25) (N := some 127) (v := ?_) (a' := ?_) #[true, true, true, true, true, true, true, true, true, true, true, true, true, true, true, true, true, true, true, true, true, true, true, true, true, true, false, false, false, false, false, false, false, false, false, false, false] rfl rfl (by kernel_rfl) (fun _ _ _ h => h) (Or.inl ⟨by rfl, ?_⟩) ?_ ?_
                    rotate_left
                    · intro w'
                      go_simp
                      with_reducible rfl
                    rotate_left
                    · simp only [Act.put, List.setIfInBounds_toArray, List.set_cons_zero, List.set_cons_succ, i64_w, i32_w]
                      rfl
                    refine pure_ (i := 26) (N := some 128) (v := ?_) (a' := ?_) #[true, true, true, true, true, true, true, true, true, true, true, true, true, true, true, true, true, true, true, true, true, true, true, true, true, true, true, false, false, false, false, false, false, false, false, false, false] rfl rfl (by kernel_rfl) (fun _ _ _ h => h) (Or.inl ⟨by rfl, ?_⟩) ?_ ?_
                    rotate_left
                    · intro w'
                      go_simp
                      with_reducible rfl
                    rotate_left
                    · simp only [Act.put, List.setIfInBounds_toArray, List.set_cons_zero, List.set_cons_succ, i64_w, i32_w]
                      rfl
                    refine pure_ (i := 32) (N := some 134) (v := ?_) (a' := ?_) #[true, true, true, true, true, true, true, true, true, true, true, true, true, true, true, true, true, true, true, true, true, true, true, true, true, true, true, false, false, false, false, false, true, false, false, false, false] rfl rfl (by kernel_rfl) (fun _ _ _ h => h) (Or.inl ⟨by rfl, ?_⟩) ?_ ?_
                    rotate_left
                    · intro w'
                      go_simp
                      with_reducible rfl
                    rotate_left
                    · simp only [Act.put, List.setIfInBounds_toArray, List.set_cons_zero, List.set_cons_succ, i64_w, i32_w]
                      rfl
                    refine pure_ (i := 33) (N := some 135) (v := ?_) (a' := ?_) #[true, true, true, true, true, true, true, true, true, true, true, true, true, true, true, true, true, true, true, true, true, true, true, true, true, true, true, false, false, false, false, false, true, true, false, false, false] rfl rfl (by kernel_rfl) (fun _ _ _ h => h) (Or.inl ⟨by rfl, ?_⟩) ?_ ?_
                    rotate_left
                    · intro w'
                      go_simp
                      with_reducible rfl
                    rotate_left
                    · simp only [Act.put, List.setIfInBounds_toArray, List.set_cons_zero, List.set_cons_succ, i64_w, i32_w]
                      rfl
                    refine take_ (i := 27) (N := some 129) (v := ?_) (a' := ?_) #[true, true, true, true, true, true, true, true, true, true, true, true, true, true, true, true, true, true, true, true, true, true, true, true, true, true, true, true, false, false, false, false, true, true, false, false, false] rfl rfl (by kernel_rfl) (fun _ _ _ h => h) (Or.inl ⟨by rfl, ?_⟩) hHeld ?_ ?_
                    rotate_left
                    · rintro w' ⟨s0, s1⟩
                      go_simp
                      with_reducible rfl
                    rotate_left
                    · simp only [Act.put, List.setIfInBounds_toArray, List.set_cons_zero, List.set_cons_succ, i64_w, i32_w]
                      rfl
                    refine pure_ (i := 28) (N := some 130) (v := ?_) (a' := ?_) #[true, true, true, true, true, true, true, true, true, true, true, true, true, true, true, true, true, true, true, true, true, true, true, true, true, true, true, true, true, false, false, false, true, true, false, false, false] rfl rfl (by kernel_rfl) (fun _ _ _ h => h) (Or.inl ⟨by rfl, ?_⟩) ?_ ?_
                    rotate_left
                    · intro w'
                      go_simp
                      with_reducible rfl
                    rotate_left
                    · simp only [Act.put, List.setIfInBounds_toArray, List.set_cons_zero, List.set_cons_succ, i64_w, i32_w]
                      rfl
                    refine pure_ (i := 29) (N := some 131) (v := ?_) (a' := ?_) #[true, true, true, true, true, true, true, true, true, true, true, true, true, true, true, true, true, true, true, true, true, true, true, true, true, true, true, true, true, true, false, false, true, true, false, false, false] rfl rfl (by kernel_rfl) (fun _ _ _ h => h) (Or.inl ⟨by rfl, ?_⟩) ?_ ?_
                    rotate_left
                    · intro w'
                      go_simp
                      with_reducible rfl
                    rotate_left
                    · simp only [Act.put, List.setIfInBounds_toArray, List.set_cons_zero, List.set_cons_succ, i64_w, i32_w]
                      rfl
                    refine one_ (i := 30) (N := some 132) #[true, true, true, true, true, true, true, true, true, true, true, true, true, true, true, true, true, true, true, true, true, true, true, true, true, true, true, true, true, true, true, false, true, true, false, false, false] rfl rfl (by kernel_rfl) (by decide) (fun K hK => ?_)
                    refine goes_ Tryd.func15 (by kernel_rfl) rfl #[.pointer (some ⟨g2, 0, none⟩)] (by rfl) rfl rfl (by simp only [List.map_toArray, List.map_cons, List.map_nil]; rfl) ?_
                    with_reducible refine (End_any _ _ g2 _ _ (HV4.out.r2.at_ v0 hv0)).mono ?_
                    rintro e y5 ⟨E2, rfl, hE2, hw⟩
                    refine ⟨_, rfl, ?_⟩
                    have hw' := hw.symm
                    clear hw
                    subst hw'
                    have HV5 := Lib.hid (HV4.out.still (Below.refl _ _))
                    have p5 := (blk_cell HV5.out.rs 1).trans rfl
                    obtain ⟨-, -, -, -, r5, -, -, -, -⟩ := HV5.out.f2.cells
                    have hG5 := (HV5.out.below.cell (World.block_lt_of_cell? w _ HG.out)).trans HG.out
                    refine hK.out _ _ ⟨p5, r5⟩ (fun hHeld => ?_)
                    clear hK K
                    refine norm_ (a' := ?_) ?_ ?_
                    rotate_left
                    · show Act.put _ (some 132) _ = _
                      simp only [Act.put, List.setIfInBounds_toArray, List.set_cons_zero, List.set_cons_succ, i64_w, i32_w]
                      rfl
                    refine one_ (i := 31) (N := some 133) #[true, true, true, true, true, true, true, true, true, true, true, true, true, true, true, true, true, true, true, true, true, true, true, true, true, true, true, true, true, true, true, true, true, true, false, false, false] rfl rfl (by kernel_rfl) (by decide) (fun K hK => ?_)
                    refine goes_ Tryd.func49 (by kernel_rfl) rfl #[E2] (by rfl) rfl rfl (by simp only [List.map_toArray, List.map_cons, List.map_nil]; rfl) ?_
                    with_reducible refine (number_Eo hE2 _ hG5).mono ?_
                    rintro e y6 ⟨rfl, hb⟩
                    refine ⟨_, rfl, ?_⟩
                    have HV6 := Lib.hid (HV5.out.still hb)
                    have p6 := (blk_cell HV6.out.rs 1).trans rfl
                    obtain ⟨-, -, -, -, r6, -, -, -, -⟩ := HV6.out.f2.cells
                    have hG6 := (HV6.out.below.cell (World.block_lt_of_cell? w _ HG.out)).trans HG.out
                    clear hb
                    refine hK.out _ _ ⟨p6, r6⟩ (fun hHeld => ?_)
                    clear hK K
                    refine norm_ (a' := ?_) ?_ ?_
                    rotate_left
                    · show Act.put _ (some 133) _ = _
                      simp only [Act.put, List.setIfInBounds_toArray, List.set_cons_zero, List.set_cons_succ, i64_w, i32_w]
                      rfl
                    refine one_ (i := 34) (N := some 136) #[true, true, true, true, true, true, true, true, true, true, true, true, true, true, true, true, true, true, true, true, true, true, true, true, true, true, true, true, true, true, true, true, true, true, true, false, false] rfl rfl (by kernel_rfl) (by decide) (fun K hK => ?_)
                    refine goes_ Tryd.func50 (by kernel_rfl) rfl #[.pointer (some ⟨G, 3, none⟩)] (by rfl) rfl rfl (by simp only [List.map_toArray, List.map_cons, List.map_nil]; rfl) ?_
                    with_reducible refine (RefEnd w _ G 3 cs b a1 e1 HV6.out.f2 hlb).mono ?_
                    rintro e y7 ⟨rfl, hd⟩
                    refine ⟨_, rfl, ?_⟩
                    have HV7 := Lib.hid (HV6.out.still (Drawn0.below hd))
                    have p7 := (blk_cell HV7.out.rs 1).trans rfl
                    obtain ⟨-, -, -, -, r7, -, -, -, -⟩ := HV7.out.f2.cells
                    have hG7 := (HV7.out.below.cell (World.block_lt_of_cell? w _ HG.out)).trans HG.out
                    clear hd
                    refine hK.out _ _ ⟨p7, r7⟩ (fun hHeld => ?_)
                    clear hK K
                    refine norm_ (a' := ?_) ?_ ?_
                    rotate_left
                    · show Act.put _ (some 136) _ = _
                      simp only [Act.put, List.setIfInBounds_toArray, List.set_cons_zero, List.set_cons_succ, i64_w, i32_w]
                      rfl
                    refine pure_ (i := 35) (N := some 137) (v := ?_) (a' := ?_) #[true, true, true, true, true, true, true, true, true, true, true, true, true, true, true, true, true, true, true, true, true, true, true, true, true, true, true, true, true, true, true, true, true, true, true, true, false] rfl rfl (by kernel_rfl) (fun _ _ _ h => h) (Or.inl ⟨by rfl, ?_⟩) ?_ ?_
                    rotate_left
                    · intro w'
                      go_simp
                      with_reducible rfl
                    rotate_left
                    · simp only [Act.put, List.setIfInBounds_toArray, List.set_cons_zero, List.set_cons_succ, i64_w, i32_w]
                      rfl
                    refine pure_ (i := 36) (N := some 138) (v := ?_) (a' := ?_) #[true, true, true, true, true, true, true, true, true, true, true, true, true, true, true, true, true, true, true, true, true, true, true, true, true, true, true, true, true, true, true, true, true, true, true, true, true] rfl rfl (by kernel_rfl) (fun _ _ _ h => h) (Or.inl ⟨by rfl, ?_⟩) ?_ ?_
                    rotate_left
                    · intro w'
                      go_simp
                      with_reducible rfl
                    rotate_left
                    · simp only [Act.put, List.setIfInBounds_toArray, List.set_cons_zero, List.set_cons_succ, i64_w, i32_w]
                      rfl
                    refine done_ (by kernel_rfl) ?_
                    go_wp2_with fail
                    refine ⟨⟨1 + 1, rfl, by omega, Lib.hid ⟨a0, a1, e0, e1, cs, HV7.out⟩⟩, ?_⟩
                    show 2 - ((1 + 1 : Nat) : Int).toNat < 2 - ((1 : Nat) : Int).toNat
                    decide
                · have hB := Lib.hid hiv0.below
                  obtain rfl : i4 = 2 := by omega
                  clear hiv0 HI hGlt
                  go_wp2
                  go_ret
                  exact ⟨rfl, hB.out⟩
end Go.Proofs.YtnnhcnmggfhkeaaDoor.Wk

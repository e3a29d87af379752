/- Texts of this claim, one behind the other: WkFrms, WkEdged, WkKnown. -/
import Derived.Test.YtnnhcnmggfhkeaaDoorWkM6
import Derived.Test.YtnnhcnmggfhkeaaDoorWkM5
import Derived.StillTailTactics
/- The walk of frames. -/
namespace Go.Proofs.YtnnhcnmggfhkeaaDoor.Wk
open Go.RowKit Go.Proofs.YtnnhcnmggfhkeaaDoorW.PrintWords Go.Proofs.YtnnhcnmggfhkeaaDoorW.PrintLast Go.Proofs.YtnnhcnmggfhkeaaDoorW.PrintMore Go.Proofs.YtnnhcnmggfhkeaaDoor.PWireKnown
set_option linter.unusedVariables false
set_option linter.unusedSimpArgs false

def fill (n : Nat) : List Int := (List.range n).map fun i => ((i % 256 : Nat) : Int)
theorem fill_len (n : Nat) : (fill n).length = n := by simp [fill]
theorem fill_succ (n : Nat) : fill (n + 1) = fill n ++ [(n : Int) % 256] := by simp [fill, List.range_succ]
theorem fill_byt (n : Nat) : Byt (fill n) := by
  intro b hb
  simp only [fill, List.mem_map, List.mem_range] at hb
  obtain ⟨i, _, rfl⟩ := hb
  omega
def lenV : Value → Nat
  | .slice _ n _ => n
  | _ => 0
theorem frame_byt (x : Nat) (p : List Int) (hp : Byt p) (hx : x < 2 ^ 64) (hl : p.length < 2 ^ 64) : Byt (frame x p) :=
  (((enc_byt _ hl).append (enc_byt x hx)).append (be_byt _ _)).append hp
theorem frame_len (x : Nat) (p : List Int) (hx : x < 2 ^ 64) (hl : p.length < 2 ^ 64) : 6 ≤ (frame x p).length ∧ (frame x p).length ≤ p.length + 22 := by
  have h1 := enc_length x hx
  have h2 := enc_length p.length hl
  unfold frame
  rw [List.length_append, List.length_append, List.length_append, be_length]
  omega
set_option maxHeartbeats 8000000 in
set_option maxRecDepth 100000 in
theorem frames_calls (w : World) (hg0 : w.cell? ⟨0, 0, none⟩ = some handle) :
    Calls Tryd.prog 27 #[] w fun e w' => e = .returned (.bool true) ∧ Below w.heap.size w w' := by
  have HG := Lib.hid hg0
  clear hg0
  go_enter Tryd.func27, Tryd.ntmps27
  go_wp2_with fail
  go_loopw [1] (fun v1 wr => ∃ n, n ≤ 65536 ∧ Aside0 (Kd.R (Kd.int .u8) 5 wr w.heap.size (fun _ => True) v1 (fill n)) ∧ Aside0 (Below w.heap.size w wr)) (fun v1 _ => 65536 - lenV v1)
  case atStart => exact ⟨0, Nat.zero_le _, ⟨Kd.R_nil _ _ _ _ _⟩, ⟨Below.refl _ _⟩⟩
  case round =>
    obtain ⟨n, hn, HR, HB⟩ := hrel
    obtain ⟨A1, c1, rfl, hc1, hC1⟩ := Kd.R_reads HR.out
    have hfl := fill_len n
    have HC1 := Aside0.mk hC1
    clear hC1
    by_cases hlt : n < 65536
    · have blt : decide ((n : Int) < 65536) = true := by simp; omega
      have hb1 : w.heap.size ≤ wr.heap.size := HB.out.size
      have hs : fill n ++ [(n : Int) % 256] = fill (n + 1) := (fill_succ n).symm
      have hl1 : ((fill n).length + 1) * 1 ≤ 140737488355328 := by omega
      obtain ⟨xs, hxs⟩ : ∃ xs, fill n = xs := ⟨_, rfl⟩
      rw [hxs] at HR hc1 hfl hs hl1 HC1 ⊢
      obtain ⟨m, hm⟩ : ∃ m, xs.length = m := ⟨_, rfl⟩
      rw [hm] at HR hc1 hfl HC1 ⊢
      subst hfl
      have HLt := Aside0.mk hlt
      have HB1 := Aside0.mk hb1
      have HL1 := Aside0.mk hl1
      have HS := Lib.hid hs
      clear hn hlt hc1 hb1 hl1 hs hxs hm
      go_wp2_with (first | ((with_reducible refine gate_builtin (b := .append) (xs := #[.tmp 10, .tmp 14]) rfl ?_); at_builtin; refine App.append_old (Value.int .u8) (h1 := fun _ => rfl) (w0 := w) w.heap.size rfl (.tmp 10) (.tmp 14) 29 5 (.int .u8 0) 1 rfl Tryd.underlying29 info5 rfl (by decide) _ xs ((m : Int) % 256) _ rfl rfl HR.out HB.out HB1.out HL1.out ?_; intro v1 w4 h1 h2 h3; rw [HS.out] at h1; have H1 := Aside0.mk (Kd.R_mono (ok' := fun _ => True) h1 (fun _ _ => trivial)); have H2 := Aside0.mk h2; clear h1 h2 h3))
      obtain ⟨A4, c4, rfl, hc4, -⟩ := Kd.R_reads H1.out
      refine ⟨⟨m + 1, HLt.out, H1, H2⟩, ?_⟩
      show 65536 - (fill (m + 1)).length < 65536 - m
      rw [fill_len]
      have := HLt.out
      omega
    · obtain rfl : n = 65536 := by omega
      have hby := fill_byt 65536
      obtain ⟨p, hp⟩ : ∃ p, fill 65536 = p := ⟨_, rfl⟩
      rw [hp] at HR hc1 hfl HC1 hby ⊢
      have blt : decide ((p.length : Int) < 65536) = false := by rw [hfl]; decide
      clear hn hlt hp HR
      have hfr := frameAns_ref 5 p hby (by decide) (by omega)
      rw [frame_small 5 p (by omega)] at hfr
      have hfb := frame_byt 5 p hby (by decide) (by omega)
      have hfn := frame_len 5 p (by decide) (by omega)
      rw [hfl] at hfn
      have hcp := copy_ok 65537 p (by omega) (by omega)
      have hlb : Byt (p ++ [1]) := hby.append (Byt.cons (by decide) (by decide) Byt.nil)
      have hll : (p ++ [1]).length = 65537 := by rw [List.length_append, hfl]; rfl
      have hpl : (p.length + 1) * 1 ≤ 140737488355328 := by omega
      have HFr := Lib.hid hfr
      have HFb := Lib.hid hfb
      have HBy := Lib.hid hby
      have HFl := Aside0.mk hfl
      have HCp := Lib.hid hcp
      have HLb := Lib.hid hlb
      have HPl := Aside0.mk hpl
      clear hfr hfb hby hcp hlb hpl hfl
      generalize frame 5 p = fr at *
      obtain ⟨lo, hlo⟩ : ∃ lo, p ++ [1] = lo := ⟨_, rfl⟩
      have HLo := Lib.hid hlo
      rw [hlo] at HLb hll
      have HLl := Aside0.mk hll
      clear hlo hll
      go_wp2_with fail
      refine (custodyref05_Frame.calls 1000001 5 A1 c1 p fr 0 wr HC1.out hc1 HFr.out).mono ?_
      rintro e w1 ⟨v1, rfl, hR1, hB1⟩
      obtain ⟨A2, c2, rfl, hc2, hC2⟩ := Kd.R_reads hR1
      have HC2 := Aside0.mk hC2
      have HB1 := Aside0.mk (below_step HB.out hB1)
      have HC1b := Aside0.mk (Kd.C_below HC1.out hB1)
      clear hR1 hB1 hC2 HC1 HB
      go_wp2_with fail
      refine (custodyref0_CopyBytes.calls 65537 A1 c1 p p w1 HC1b.out hc1 HCp.out).mono ?_
      rintro e w2 ⟨v2, rfl, hR2, hB2⟩
      have HR2 := Aside0.mk hR2
      have HBw := Aside0.mk hB2
      have HSz := Aside0.mk hB2.size
      clear hR2 hB2
      go_wp2_with (first | ((with_reducible refine gate_builtin (b := .append) (xs := #[.tmp 22, .tmp 23]) rfl ?_); at_builtin; refine App.append_old (Value.int .u8) (h1 := fun _ => rfl) (w0 := w1) w1.heap.size rfl (.tmp 22) (.tmp 23) 29 5 (.int .u8 0) 1 rfl Tryd.underlying29 info5 rfl (by decide) _ p 1 _ rfl rfl HR2.out HBw.out HSz.out HPl.out ?_; intro v3 w3 h1 h2 h3; rw [HLo.out] at h1; have H1 := Aside0.mk h1; have H2 := Aside0.mk h2; clear h1 h2 h3; obtain ⟨A4, c4, rfl, hc4, hC4⟩ := Kd.R_reads H1.out; have HC4 := Aside0.mk hC4; clear hC4))
      have hb3 := below_step HB1.out H2.out
      have HC5 := Aside0.mk (Kd.C_below HC1b.out H2.out)
      have HC6 := Aside0.mk (Kd.C_below HC2.out H2.out)
      have HG3 := Lib.hid ((hb3.cell (World.block_lt_of_cell? w _ HG.out)).trans HG.out)
      have HB3 := Aside0.mk hb3
      clear hb3 H1 H2 HC1b HC2 HB1 HBw HSz HR2 HG HLo HPl
      have hu := fun (w : World) A c hC hc hg => WireUnframes_calls w A c fr hC hc HFb.out (by omega) hg
      obtain ⟨q, hq⟩ : ∃ q, fr.take (fr.length - 1) = q := ⟨_, rfl⟩
      have hql : q.length = fr.length - 1 := by rw [← hq, List.length_take]; omega
      have hqb : Byt q := by rw [← hq]; exact HFb.out.take _
      have hu2 := fun (w : World) A c hC hc hg => WireUnframes_calls w A c q hC hc hqb (by omega) hg
      have hcq := fun (w : World) (A : Option Addr) (hC : Kd.C (Kd.int .u8) w A fr.length fr) => (by have h1 := Kd.C_take (m := q.length) hC (by omega); rw [(by rw [hql]; exact hq : fr.take q.length = q)] at h1; exact h1 : Kd.C (Kd.int .u8) w A q.length q)
      have HU := Lib.hid hu
      have HU2 := Lib.hid hu2
      have HCq := Lib.hid hcq
      clear hu hu2 hcq
      obtain ⟨i0, hi0, _, hsz, _⟩ := info_parts info5
      have hcut := cut_to (P := Tryd.prog) 29 5 .i64 Tryd.underlying29 hi0 A2 fr.length c2 ((fr.length : Int) - 1) (by omega) (by omega)
      rw [show ((fr.length : Int) - 1).toNat = q.length by omega] at hcut
      have hq2 : q.length ≤ c2 := by omega
      have HQ2 := Aside0.mk hq2
      clear hql hqb hq hi0 hsz hq2
      refine (WireFrames_calls w3 5 A1 c1 p HC5.out hc1 HBy.out (by decide) (by rw [HFl.out]; omega) HG3.out).mono ?_
      rintro e w4 ⟨rfl, hb4⟩
      have HB4 := Aside0.mk (below_step HB3.out hb4)
      have HC4b := Aside0.mk (Kd.C_below HC4.out hb4)
      have HC6b := Aside0.mk (Kd.C_below HC6.out hb4)
      have HG4 := Lib.hid ((hb4.cell (World.block_lt_of_cell? w3 _ HG3.out)).trans HG3.out)
      clear hb4 HB3 HC4 HC6 HG3
      go_wp2_with fail
      refine (WireFrames_calls w4 5 A4 c4 lo HC4b.out hc4 HLb.out (by decide) (by rw [HLl.out]; omega) HG4.out).mono ?_
      rintro e w5 ⟨rfl, hb5⟩
      have HB5 := Aside0.mk (below_step HB4.out hb5)
      have HC6c := Aside0.mk (Kd.C_below HC6b.out hb5)
      have HG5 := Lib.hid ((hb5.cell (World.block_lt_of_cell? w4 _ HG4.out)).trans HG4.out)
      clear hb5 HB4 HC4b HC6b HG4
      go_wp2_with fail
      refine (HU.out w5 A2 c2 HC6c.out hc2 HG5.out).mono ?_
      rintro e w6 ⟨rfl, hb6⟩
      have HB6 := Aside0.mk (below_step HB5.out hb6)
      have HC7 := Aside0.mk (HCq.out _ _ (Kd.C_below HC6c.out hb6))
      have HG6 := Lib.hid ((hb6.cell (World.block_lt_of_cell? w5 _ HG5.out)).trans HG5.out)
      clear hb6 HB5 HC6c HG5 HU HCq
      go_wp2_with fail
      refine (HU2.out w6 A2 c2 HC7.out HQ2.out HG6.out).mono ?_
      rintro e w7 ⟨rfl, hb7⟩
      have HB7 := Aside0.mk (below_step HB6.out hb7)
      have HG7 := Lib.hid ((hb7.cell (World.block_lt_of_cell? w6 _ HG6.out)).trans HG6.out)
      clear hb7 HB6 HC7 HG6 HU2 HQ2 hcut hfn HFl HLl HBy HLb HFb HCp HFr hc1 hc2 hc4
      go_wp2_with fail
      go_loopw [5] (fun v5 wr => ∃ x : Nat, v5 = .int .u64 x ∧ x ≤ 65539 ∧ Aside0 (Below w.heap.size w wr) ∧ Hid (wr.cell? ⟨0, 0, none⟩ = some handle)) (fun v5 _ => 65539 - (intOf v5).toNat)
      case atStart => exact ⟨65535, rfl, by decide, HB7, HG7⟩
      case round =>
        clear HB7 HG7
        obtain ⟨x, rfl, hx, HB, HG⟩ := hrel
        have HG0 := HG
        by_cases hlt : x < 65539
        · have blt : decide ((x : Int) < 65539) = true := by simp; omega
          have hx64 : x < 2 ^ 64 := by omega
          have hp := putUint_ok 10 [] x (by omega) hx64 (by decide)
          rw [List.nil_append] at hp
          have hle := enc_length x hx64
          have hby := enc_byt x hx64
          have hpc := custodyref05_PutUint.calls 10 (fun _ => False) (.slice none 0 0) [] x (enc x) wr wr (Below.refl _ _) (Kd.R_nil _ _ _ _ _) hp
          generalize enc x = l at *
          have hb1 : Byt (l ++ [255]) := hby.append (Byt.cons (by decide) (by decide) Byt.nil)
          have hb6 : Byt (l ++ [1, 2, 3, 4, 5, 6]) := hby.append (by intro b hb; simp at hb; omega)
          have hll1 : (l ++ [255]).length ≤ 10 := by rw [List.length_append]; show l.length + 1 ≤ 10; omega
          have hll6 : (l ++ [1, 2, 3, 4, 5, 6]).length ≤ 15 := by rw [List.length_append]; show l.length + 6 ≤ 15; omega
          obtain ⟨l1, hl1⟩ : ∃ l1, l ++ [255] = l1 := ⟨_, rfl⟩
          obtain ⟨l6, hl6⟩ : ∃ l6, l ++ [1, 2, 3, 4, 5, 6] = l6 := ⟨_, rfl⟩
          rw [hl1] at hb1 hll1
          rw [hl6] at hb6 hll6
          have hs1 : (l.length + 1) * 1 ≤ 140737488355328 := by omega
          have hs6 : (l.length + 6) * 1 ≤ 140737488355328 := by omega
          have HS1 := Aside0.mk hs1
          have HS6 := Aside0.mk hs6
          have HL1 := Lib.hid hl1
          have HL6 := Lib.hid hl6
          have HBy := Lib.hid hby
          have HB1 := Lib.hid hb1
          have HB6 := Lib.hid hb6
          have HLe := Aside0.mk hle.2
          have HLl1 := Aside0.mk hll1
          have HLl6 := Aside0.mk hll6
          have HPc := Lib.hid hpc
          have HXx : Aside0 (x + 1 ≤ 65539) := ⟨by omega⟩
          have HMs : Aside0 (65539 - ((x : Int) + 1).toNat < 65539 - (x : Int).toNat) := ⟨by omega⟩
          clear hx64 hp hle hby hpc hb1 hb6 hll1 hll6 hl1 hl6 hs1 hs6
          go_wp2_with fail
          refine HPc.out.mono ?_
          rintro e w1 ⟨v1, rfl, hR1, hB1, -⟩
          obtain ⟨A7, c7, rfl, hc7, hC7⟩ := Kd.R_reads hR1
          have HR1 := Aside0.mk hR1
          have HC7 := Aside0.mk hC7
          have HG1 := Lib.hid ((hB1.cell (World.block_lt_of_cell? wr _ HG.out)).trans HG.out)
          have HBa := Aside0.mk hB1
          clear hR1 hC7 hB1 HPc HG
          go_wp2_with fail
          refine (WireUnframes_calls w1 A7 c7 l HC7.out hc7 HBy.out (by have := HLe.out; omega) HG1.out).mono ?_
          rintro e w2 ⟨rfl, hb2⟩
          have HR2 := Aside0.mk (Kd.R_below HR1.out hb2)
          have hba := below_step HBa.out hb2
          have HBa2 := Aside0.mk hba
          have HSz2 := Aside0.mk hba.size
          clear hb2 HR1 HBa HC7 hc7 HG1 hba
          go_wp2_with (first | ((with_reducible refine gate_builtin (b := .append) (xs := #[.tmp 57, .tmp 58]) rfl ?_); at_builtin; refine App.append_old (Value.int .u8) (h1 := fun _ => rfl) (w0 := wr) wr.heap.size rfl (.tmp 57) (.tmp 58) 29 5 (.int .u8 0) 1 rfl Tryd.underlying29 info5 rfl (by decide) _ l 255 _ rfl rfl HR2.out HBa2.out HSz2.out HS1.out ?_; intro v3 w3 h1 h2 h3; rw [HL1.out] at h1; have H2 := Aside0.mk h2; have H3 := Aside0.mk h3; obtain ⟨A8, c8, rfl, hc8, hC8⟩ := Kd.R_reads h1; have HC8 := Aside0.mk hC8; clear h1 h2 h3 hC8))
          have HG3 := Lib.hid ((H2.out.cell (World.block_lt_of_cell? wr _ HG0.out)).trans HG0.out)
          refine (WireUnframes_calls w3 A8 c8 l1 HC8.out hc8 HB1.out (by have := HLl1.out; omega) HG3.out).mono ?_
          rintro e w4 ⟨rfl, hb4⟩
          have HR4 := Aside0.mk (Kd.R_below H3.out hb4)
          have HBa4 := Aside0.mk (below_step H2.out hb4)
          clear hb4 H2 H3 HC8 hc8 HR2 HBa2 HSz2 HG3
          go_wp2_with (first | ((with_reducible refine gate_builtin (b := .append) (xs := #[.tmp 64, .tmp 65]) rfl ?_); at_builtin; refine App.append_olds (Value.int .u8) (h1 := fun _ => rfl) (w0 := wr) wr.heap.size rfl (.tmp 64) (.tmp 65) 29 5 (.int .u8 0) 1 rfl Tryd.underlying29 info5 rfl (by decide) _ l [1, 2, 3, 4, 5, 6] _ rfl 6 rfl (by decide) _ rfl rfl HR4.out HBa4.out HBa4.out.size HS6.out ?_; intro v5 w5 h1 h2 h3; rw [HL6.out] at h1; have H5 := Aside0.mk h2; obtain ⟨A9, c9, rfl, hc9, hC9⟩ := Kd.R_reads h1; have HC9 := Aside0.mk hC9; clear h1 h2 h3 hC9))
          have HG5 := Lib.hid ((H5.out.cell (World.block_lt_of_cell? wr _ HG0.out)).trans HG0.out)
          refine (WireUnframes_calls w5 A9 c9 l6 HC9.out hc9 HB6.out (by have := HLl6.out; omega) HG5.out).mono ?_
          rintro e w6 ⟨rfl, hb6⟩
          have hba6 := below_step H5.out hb6
          have HBE := Aside0.mk (below_step HB.out hba6)
          have HGE := Lib.hid ((hba6.cell (World.block_lt_of_cell? wr _ HG0.out)).trans HG0.out)
          clear hb6 hba6 H5 HC9 hc9 HR4 HBa4 HG5 HB
          go_wp2_with fail
          go_roundw
          case rel => exact ⟨x + 1, by go_num, HXx.out, HBE, HGE⟩
          case measure => simp only [intOf]; exact HMs.out
        · have blt : decide ((x : Int) < 65539) = false := by simp; omega
          have hf1 : (0 : Int) = ((0 : Nat) : Int) := rfl
          have h1 := fun (w : World) hg => WireFrames_calls w 18446744073709551615 none 0 [] (Kd.C_nil _ _) (by decide) Byt.nil (by decide) (by decide) hg
          have h2 := fun (w : World) hg => WireFrames_calls w 0 none 0 [] (Kd.C_nil _ _) (by decide) Byt.nil (by decide) (by decide) hg
          have h3 := fun (w : World) A c hC hc hg => WireFrames_calls w 248 A c [0] hC hc (Byt.cons (by decide) (by decide) Byt.nil) (by decide) (by decide) hg
          have H1 := Lib.hid h1
          have H2 := Lib.hid h2
          have H3 := Lib.hid h3
          clear hx hlt hf1 h1 h2 h3
          go_wp2_with fail
          refine (H1.out wr HG.out).mono ?_
          rintro e w1 ⟨rfl, hb1⟩
          have HB1 := Aside0.mk (below_step HB.out hb1)
          have HG1 := Lib.hid ((hb1.cell (World.block_lt_of_cell? wr _ HG.out)).trans HG.out)
          clear hb1
          go_wp2_with fail
          refine (H2.out w1 HG1.out).mono ?_
          rintro e w2 ⟨rfl, hb2⟩
          have HB2 := Aside0.mk (below_step HB1.out hb2)
          have HG2 := Lib.hid ((hb2.cell (World.block_lt_of_cell? w1 _ HG1.out)).trans HG1.out)
          clear hb2
          have HLc := Aside0.mk (C_lit w2 1 5 #[.int .u8 0] [0] rfl (by decide) rfl)
          go_wp2_with fail
          refine (H3.out _ _ 1 HLc.out (by decide) (((((Below.refl _ _).alloc (Nat.le_refl _) (.cells #[.int .u8 0] 5)).cell (World.block_lt_of_cell? w2 _ HG2.out)).trans HG2.out))).mono ?_
          rintro e w3 ⟨rfl, hb3⟩
          have HBZ := Aside0.mk (below_step (HB2.out.alloc HB2.out.size _) hb3)
          clear hb3 HB2 HLc
          go_wp2
          go_ret
          exact ⟨rfl, HBZ.out⟩
end Go.Proofs.YtnnhcnmggfhkeaaDoor.Wk

/- The walk of edged. -/
namespace Go.Proofs.YtnnhcnmggfhkeaaDoor.Wk
open Go.RowKit Go.Proofs.YtnnhcnmggfhkeaaDoorW.PrintWords Go.Proofs.YtnnhcnmggfhkeaaDoorW.PrintLast Go.Proofs.YtnnhcnmggfhkeaaDoorW.PrintMore Go.Proofs.YtnnhcnmggfhkeaaDoor.PWireKnown
set_option linter.unusedVariables false
set_option linter.unusedSimpArgs false

def flat4 : List G4 → List Value
  | [] => []
  | q :: S => .int .i64 q.on :: .int .i64 q.kind :: .int .u64 q.X :: .int .i64 q.N :: flat4 S
theorem flat4_at : ∀ (S : List G4) (i : Nat) (q : G4), S[i]? = some q → (flat4 S)[i * 4]? = some (.int .i64 q.on) ∧ (flat4 S)[i * 4 + 1]? = some (.int .i64 q.kind) ∧ (flat4 S)[i * 4 + 2]? = some (.int .u64 q.X) ∧ (flat4 S)[i * 4 + 3]? = some (.int .i64 q.N)
  | [], i, q, h => by simp at h
  | p :: S, 0, q, h => by
    simp at h
    subst h
    exact ⟨rfl, rfl, rfl, rfl⟩
  | p :: S, i + 1, q, h => by
    have := flat4_at S i q (by simpa using h)
    rw [show (i + 1) * 4 = i * 4 + 1 + 1 + 1 + 1 by omega]
    exact this
theorem lit_add (w : World) (t : TypeId) (cs : Array Value) (fr : Nat × Nat) (k : Nat) : (w.alloc (.cells cs t fr)).cell? ((⟨w.heap.size, 0, none⟩ : Addr).add k) = cs.toList[k]? := by
  rw [show ((⟨w.heap.size, 0, none⟩ : Addr).add k) = ⟨w.heap.size, k, none⟩ by simp [Addr.add]; omega, World.cell?_alloc_mark, ← Array.getElem?_toList]
theorem lit_off (w : World) (t : TypeId) (cs : Array Value) (fr : Nat × Nat) (k j : Nat) : (w.alloc (.cells cs t fr)).cell? ⟨((⟨w.heap.size, 0, none⟩ : Addr).add k).block, ((⟨w.heap.size, 0, none⟩ : Addr).add k).off + j, none⟩ = cs.toList[k + j]? := by
  rw [show ((⟨w.heap.size, 0, none⟩ : Addr).add k) = ⟨w.heap.size, k, none⟩ by simp [Addr.add]; omega, World.cell?_alloc_mark, ← Array.getElem?_toList]
theorem gets_lit (w : World) (t : TypeId) (cs : Array Value) (S : List G4) (hcs : cs.toList = flat4 S) (hN : ∀ q ∈ S, -9223372036854775808 ≤ q.N ∧ q.N ≤ 9223372036854775807) : Gets (w.alloc (.cells cs t)) (some ⟨w.heap.size, 0, none⟩) S := by
  intro i q hq
  have h := flat4_at S i q hq
  rw [← hcs] at h
  exact ⟨_, rfl, by rw [lit_add]; exact h.1, by rw [lit_off]; exact h.2.1, by rw [lit_off]; exact h.2.2.1, by rw [lit_off]; exact h.2.2.2, hN q (List.mem_of_getElem? hq)⟩
def flatp : List P4 → List Value
  | [] => []
  | q :: S => .int .i64 q.on :: .int .i64 q.kind :: .int .u64 q.X :: .string ⟨#[]⟩ :: flatp S
theorem flatp_at : ∀ (S : List P4) (i : Nat) (q : P4), S[i]? = some q → (flatp S)[i * 4]? = some (.int .i64 q.on) ∧ (flatp S)[i * 4 + 1]? = some (.int .i64 q.kind) ∧ (flatp S)[i * 4 + 2]? = some (.int .u64 q.X) ∧ (flatp S)[i * 4 + 3]? = some (.string ⟨#[]⟩)
  | [], i, q, h => by simp at h
  | p :: S, 0, q, h => by
    simp at h
    subst h
    exact ⟨rfl, rfl, rfl, rfl⟩
  | p :: S, i + 1, q, h => by
    have := flatp_at S i q (by simpa using h)
    rw [show (i + 1) * 4 = i * 4 + 1 + 1 + 1 + 1 by omega]
    exact this
theorem puts_lit (w : World) (t : TypeId) (cs : Array Value) (S : List P4) (hcs : cs.toList = flatp S) (hX : ∀ q ∈ S, q.X < 2 ^ 64) : Puts (w.alloc (.cells cs t)) (some ⟨w.heap.size, 0, none⟩) S := by
  intro i q hq
  have h := flatp_at S i q hq
  rw [← hcs] at h
  have h0 : (w.alloc (.cells cs t)).cell? ((⟨w.heap.size, 0, none⟩ : Addr).add (i * 4)) = some (.int .i64 q.on) := by rw [lit_add]; exact h.1
  have h1 : (w.alloc (.cells cs t)).cell? ⟨((⟨w.heap.size, 0, none⟩ : Addr).add (i * 4)).block, ((⟨w.heap.size, 0, none⟩ : Addr).add (i * 4)).off + 1, none⟩ = some (.int .i64 q.kind) := by rw [lit_off]; exact h.2.1
  have h2 : (w.alloc (.cells cs t)).cell? ⟨((⟨w.heap.size, 0, none⟩ : Addr).add (i * 4)).block, ((⟨w.heap.size, 0, none⟩ : Addr).add (i * 4)).off + 2, none⟩ = some (.int .u64 q.X) := by rw [lit_off]; exact h.2.2.1
  have h3 : (w.alloc (.cells cs t)).cell? ⟨((⟨w.heap.size, 0, none⟩ : Addr).add (i * 4)).block, ((⟨w.heap.size, 0, none⟩ : Addr).add (i * 4)).off + 3, none⟩ = some (.string ⟨#[]⟩) := by rw [lit_off]; exact h.2.2.2
  refine ⟨_, rfl, fun W hb => ⟨(hb.cell (World.block_lt_of_cell? _ _ h0)).trans h0, (hb.cell (World.block_lt_of_cell? _ _ h1)).trans h1, (hb.cell (World.block_lt_of_cell? _ _ h2)).trans h2, (hb.cell (World.block_lt_of_cell? _ _ h3)).trans h3⟩, hX q (List.mem_of_getElem? hq)⟩

theorem Puts.drew {w : World} {A : Option Addr} {S : List P4} (h : Puts w A S) : Puts w.drew A S := by
  intro i q hq
  obtain ⟨ad, rfl, h1, h2⟩ := h i q hq
  exact ⟨ad, rfl, fun W hb => h1 W ((Below.refl w.heap.size w).drew.trans hb), h2⟩
theorem Gets.drew {w : World} {A : Option Addr} {S : List G4} (h : Gets w A S) : Gets w.drew A S := h.below (Below.refl w.heap.size w).drew
def ngN (x : Nat) : Nat := (18446744073709551616 - x) % 18446744073709551616
def sbN (x : Nat) : Nat := (x + 18446744073709551615) % 18446744073709551616
def adN (x : Nat) : Nat := (x + 1) % 18446744073709551616
def ivN (x : Nat) : Int := if x < 9223372036854775808 then (x : Int) else (x : Int) - 18446744073709551616
theorem neg_u64 (x : Nat) (h : x < 18446744073709551616) : IntKind.u64.wrap (-(x : Int)) = (ngN x : Int) := by
  unfold ngN
  show (-(x : Int)) % 18446744073709551616 = _
  omega
theorem sub_u64 (x : Nat) (h : x < 18446744073709551616) : IntKind.u64.wrap ((x : Int) - 1) = (sbN x : Int) := by
  unfold sbN
  show ((x : Int) - 1) % 18446744073709551616 = _
  omega
theorem add_u64 (x : Nat) (h : x < 18446744073709551616) : IntKind.u64.wrap ((x : Int) + 1) = (adN x : Int) := by
  unfold adN
  show ((x : Int) + 1) % 18446744073709551616 = _
  omega
theorem adN_eq (x : Nat) (h : x < 18446744073709551616) : IntKind.u64.wrap ((x : Int) + 1) = (adN x : Int) := add_u64 x h
theorem iv_i64 (x : Nat) (h : x < 18446744073709551616) : IntKind.i64.wrap (x : Int) = ivN x := by
  unfold ivN
  rw [i64_w]
  unfold wrap64
  split <;> omega
theorem iv_in (x : Nat) (h : x < 18446744073709551616) : -9223372036854775808 ≤ ivN x ∧ ivN x ≤ 9223372036854775807 := by
  unfold ivN
  split <;> omega
theorem some_rd : ∀ i : Nat, i < 31 → rd (someN.map (fun (n : Nat) => (n : Int))) i = (someN.getD i 0 : Nat) ∧ someN.getD i 0 < 18446744073709551616 := by decide +kernel
section
variable {P : Program} {ops : Array Oper} {rest : List Oper} {o : Oper} {a : Act} {Q : Exit → Act → World → Prop}
/-- A letter for the world that a literal leaves. -/
theorem lit_event {W W1 : World} {v : Value} {N : Tmp} (_hd : o.dst = some N) (hgd : o.guard = none) (hrun : (execOp a.eval o).run P W = .ok (.value v) W1) (F : World → Prop) (hF : F W1)
    (h : ∀ w1, F w1 → wpList P ops Q rest (a.put o.dst v) w1) : wpList P ops Q (o :: rest) a W := Kd.event_run hgd hrun (h W1 hF)
theorem new_world {K : Act → World → Prop} {a : Act} {W : World} (F : World → Prop) (hF : F W) (h : ∀ w', F w' → K a w') : K a W := h W hF
end
theorem puts4_ok (x y : Nat) : ∀ i q, [(⟨0, 0, x⟩ : P4), ⟨0, 1, x⟩, ⟨0, 1, y⟩, ⟨0, 9, 0⟩][i]? = some q → q.on = 0 ∧ (i + 1 < [(⟨0, 0, x⟩ : P4), ⟨0, 1, x⟩, ⟨0, 1, y⟩, ⟨0, 9, 0⟩].length → q.kind = 0 ∨ q.kind = 1) ∧ (i + 1 = [(⟨0, 0, x⟩ : P4), ⟨0, 1, x⟩, ⟨0, 1, y⟩, ⟨0, 9, 0⟩].length → q.kind = 9) := by
  intro i q h
  match i, h with
  | 0, h => simp at h; subst h; simp
  | 1, h => simp at h; subst h; simp
  | 2, h => simp at h; subst h; simp
  | 3, h => simp at h; subst h; simp
  | n + 4, h => simp at h
theorem puts4_lt (x y : Nat) (hx : x < 18446744073709551616) (hy : y < 18446744073709551616) : ∀ q ∈ [(⟨0, 0, x⟩ : P4), ⟨0, 1, x⟩, ⟨0, 1, y⟩, ⟨0, 9, 0⟩], q.X < 2 ^ 64 := by
  intro q h
  simp only [List.mem_cons, List.not_mem_nil, or_false] at h
  rcases h with rfl | rfl | rfl | rfl
  · exact hx
  · exact hx
  · exact hy
  · show 0 < 2 ^ 64
    decide
theorem ngN_lt (x : Nat) : ngN x < 18446744073709551616 := Nat.mod_lt _ (by decide)
def G6a (x y : Nat) : List G4 := [⟨0, 0, y, 0⟩, ⟨0, 3, 0, 0⟩, ⟨0, 4, 0, 0⟩, ⟨0, 5, 0, 0⟩, ⟨1, 0, x, 0⟩, ⟨1, 5, 0, 0⟩]
def G6b (y : Nat) : List G4 := [⟨0, 1, 0, 0⟩, ⟨0, 3, 0, 0⟩, ⟨0, 5, 0, 0⟩, ⟨1, 0, y, 0⟩, ⟨1, 2, 0, 5⟩, ⟨1, 4, 0, 0⟩]
def G4c (k : Int) : List G4 := [⟨0, 2, 0, k⟩, ⟨0, 4, 0, 0⟩, ⟨1, 2, 0, -1⟩, ⟨1, 4, 0, 0⟩]
def G5d : List G4 := [⟨0, 0, 18446744073709551615, 0⟩, ⟨0, 3, 0, 0⟩, ⟨0, 4, 0, 0⟩, ⟨1, 2, 0, 9⟩, ⟨1, 4, 0, 0⟩]
theorem g6a_N (x y : Nat) : ∀ q ∈ G6a x y, -9223372036854775808 ≤ q.N ∧ q.N ≤ 9223372036854775807 := by
  intro q h
  simp only [G6a, List.mem_cons, List.not_mem_nil, or_false] at h
  rcases h with rfl | rfl | rfl | rfl | rfl | rfl <;> (constructor <;> (dsimp only; decide))
theorem g6b_N (y : Nat) : ∀ q ∈ G6b y, -9223372036854775808 ≤ q.N ∧ q.N ≤ 9223372036854775807 := by
  intro q h
  simp only [G6b, List.mem_cons, List.not_mem_nil, or_false] at h
  rcases h with rfl | rfl | rfl | rfl | rfl | rfl <;> (constructor <;> (dsimp only; decide))
theorem g4c_N (k : Int) (h0 : -9223372036854775808 ≤ k) (h1 : k ≤ 9223372036854775807) : ∀ q ∈ G4c k, -9223372036854775808 ≤ q.N ∧ q.N ≤ 9223372036854775807 := by
  intro q h
  simp only [G4c, List.mem_cons, List.not_mem_nil, or_false] at h
  rcases h with rfl | rfl | rfl | rfl
  · exact ⟨h0, h1⟩
  all_goals (constructor <;> (dsimp only; decide))
theorem g5d_N : ∀ q ∈ G5d, -9223372036854775808 ≤ q.N ∧ q.N ≤ 9223372036854775807 := by
  intro q h
  simp only [G5d, List.mem_cons, List.not_mem_nil, or_false] at h
  rcases h with rfl | rfl | rfl | rfl | rfl <;> (constructor <;> (dsimp only; decide))
/-- A call of WireReads at a later world. -/
theorem reads_later (wC : World) (A : Option Addr) (G c : Nat) (q : List Int) (S : List G4) (m : Nat) (hC : Kd.C (Kd.int .u8) wC A q.length q) (hc : q.length ≤ c) (hb : Byt q) (hl : q.length ≤ 1000)
    (hS : Gets wC (some ⟨G, 0, none⟩) S) (hm : S.length = m) (hm6 : m ≤ 1000) (hg : wC.cell? ⟨0, 0, none⟩ = some handle) :
    ∀ W, Below wC.heap.size wC W → Calls Tryd.prog 25 #[.slice A q.length c, .slice A q.length c, .slice (some ⟨G, 0, none⟩) m m] W fun e w' => e = .returned (.bool true) ∧ Below W.heap.size W w' := by
  subst hm
  intro W hW
  exact WireReads_calls W A A (some ⟨G, 0, none⟩) c c S.length q q S (Kd.C_below hC hW) hc hb (by omega) (Kd.C_below hC hW) hc hb (by omega) (hS.below hW) (by omega) ((hW.cell (World.block_lt_of_cell? wC _ hg)).trans hg)
theorem unf_later (wC : World) (A : Option Addr) (c : Nat) (q : List Int) (hC : Kd.C (Kd.int .u8) wC A q.length q) (hc : q.length ≤ c) (hb : Byt q) (hl : q.length ≤ 1000) (hg : wC.cell? ⟨0, 0, none⟩ = some handle) :
    ∀ W, Below wC.heap.size wC W → Calls Tryd.prog 26 #[.slice A q.length c] W fun e w' => e = .returned (.bool true) ∧ Below W.heap.size W w' := by
  intro W hW
  exact WireUnframes_calls W A c q (Kd.C_below hC hW) hc hb (by omega) ((hW.cell (World.block_lt_of_cell? wC _ hg)).trans hg)
set_option maxHeartbeats 8000000 in
set_option maxRecDepth 100000 in
theorem edged_calls (w : World) (hg0 : w.cell? ⟨0, 0, none⟩ = some handle) :
    Calls Tryd.prog 5 #[] w fun e w' => e = .returned (.bool true) ∧ Below w.heap.size w w' := by
  have HG := Lib.hid hg0
  clear hg0
  go_enter Tryd.func5, Tryd.ntmps5
  go_wp2_with fail
  refine (custodylaw05_some.calls 20 _ w some_ok).mono ?_
  rintro e w1 ⟨v1, rfl, hR, hB⟩
  obtain ⟨A1, c1, rfl, hc1, hC1⟩ := Kd.R_reads hR
  have hrd : ∀ i : Nat, i < 31 → ∃ x : Nat, rd (someN.map (fun (n : Nat) => (n : Int))) i = (x : Int) ∧ x < 18446744073709551616 := fun i hi => ⟨someN.getD i 0, some_rd i hi⟩
  have hl1 : (someN.map (fun (n : Nat) => (n : Int))).length = 31 := rfl
  generalize (someN.map (fun (n : Nat) => (n : Int))) = S1 at *
  rw [hl1] at hC1 ⊢
  have HRd := Lib.hid hrd
  have HC1 := Aside0.mk hC1
  have HB1 := Aside0.mk hB
  have HG1 := Lib.hid ((hB.cell (World.block_lt_of_cell? w _ HG.out)).trans HG.out)
  clear hR hB hC1 hrd hc1 HG hl1
  go_wp2_with fail
  go_loopw [2] (fun v2 wr => ∃ i : Nat, v2 = .int .i64 i ∧ i ≤ 31 ∧ Aside0 (Below w1.heap.size w1 wr)) (fun v2 _ => 31 - (intOf v2).toNat)
  case atStart => exact ⟨0, rfl, by decide, ⟨Below.refl _ _⟩⟩
  case round =>
    obtain ⟨i, rfl, hi, HB⟩ := hrel
    obtain ⟨wo, rfl⟩ : ∃ wo : World, wo = wr := ⟨_, rfl⟩
    by_cases hlt : i < 31
    · have blt : decide ((i : Int) < (31 : Int)) = true := by simp; omega
      obtain ⟨x, hx, hx64⟩ := HRd.out i hlt
      obtain ⟨ad, rfl, hc1⟩ := Kd.at_int HC1.out i (by omega) (by omega)
      rw [hx, Int.toNat_natCast] at hc1
      have HCell := Lib.hid hc1
      have hc := (HB.out.cell (World.block_lt_of_cell? w1 _ hc1)).trans hc1
      have hng := neg_u64 x hx64
      have i0 : (0 : Int) ≤ (i : Int) := by omega
      have i1 : (i : Int) < 31 := by omega
      have i2 : (i : Int).toNat = i := by omega
      have HX := Aside0.mk hx64
      have HI : Aside0 (i + 1 ≤ 31) := ⟨by omega⟩
      have HMs : Aside0 (31 - ((i : Int) + 1).toNat < 31 - (i : Int).toNat) := ⟨by omega⟩
      have HHi := Aside0.mk hi
      clear hx hc1 hx64 hlt hi
      go_wp2_with fail
      refine start_ (n := 19) (S := fun w' => w'.cell? (ad.add i) = some (.int .u64 (x : Int))) (ds := [17]) #[false, false, false, false, false, false, false, false, false, false, false, false, false, false, false, false, false, false, false] (by kernel_rfl) rfl rfl (hc) (fun hHeld => ?_)
      refine pure_ (i := 0) (N := some 19) (v := ?_) (a' := ?_) #[true, false, false, false, false, false, false, false, false, false, false, false, false, false, false, false, false, false, false] rfl rfl (by kernel_rfl) (fun _ _ _ h => h) (Or.inl ⟨by rfl, ?_⟩) ?_ ?_
      rotate_left
      · intro w'
        go_simp
        with_reducible rfl
      rotate_left
      · simp only [Act.put, List.setIfInBounds_toArray, List.set_cons_zero, List.set_cons_succ, i64_w, i32_w]
        rfl
      refine pure_ (i := 1) (N := some 20) (v := ?_) (a' := ?_) #[true, true, false, false, false, false, false, false, false, false, false, false, false, false, false, false, false, false, false] rfl rfl (by kernel_rfl) (fun _ _ _ h => h) (Or.inl ⟨by rfl, ?_⟩) ?_ ?_
      rotate_left
      · intro w'
        go_simp
        with_reducible rfl
      rotate_left
      · simp only [Act.put, List.setIfInBounds_toArray, List.set_cons_zero, List.set_cons_succ, i64_w, i32_w]
        rfl
      refine pure_ (i := 2) (N := some 21) (v := ?_) (a' := ?_) #[true, true, true, false, false, false, false, false, false, false, false, false, false, false, false, false, false, false, false] rfl rfl (by kernel_rfl) (fun _ _ _ h => h) (Or.inl ⟨by rfl, ?_⟩) ?_ ?_
      rotate_left
      · intro w'
        go_simp
        with_reducible rfl
      rotate_left
      · simp only [Act.put, List.setIfInBounds_toArray, List.set_cons_zero, List.set_cons_succ, i64_w, i32_w]
        rfl
      refine pure_ (i := 5) (N := some 24) (v := ?_) (a' := ?_) #[true, true, true, false, false, true, false, false, false, false, false, false, false, false, false, false, false, false, false] rfl rfl (by kernel_rfl) (fun _ _ _ h => h) (Or.inl ⟨by rfl, ?_⟩) ?_ ?_
      rotate_left
      · intro w'
        go_simp
        with_reducible rfl
      rotate_left
      · simp only [Act.put, List.setIfInBounds_toArray, List.set_cons_zero, List.set_cons_succ, i64_w, i32_w]
        rfl
      refine pure_ (i := 6) (N := some 25) (v := ?_) (a' := ?_) #[true, true, true, false, false, true, true, false, false, false, false, false, false, false, false, false, false, false, false] rfl rfl (by kernel_rfl) (fun _ _ _ h => h) (Or.inl ⟨by rfl, ?_⟩) ?_ ?_
      rotate_left
      · intro w'
        go_simp
        with_reducible rfl
      rotate_left
      · simp only [Act.put, List.setIfInBounds_toArray, List.set_cons_zero, List.set_cons_succ, i64_w, i32_w]
        rfl
      refine pure_ (i := 7) (N := some 26) (v := ?_) (a' := ?_) #[true, true, true, false, false, true, true, true, false, false, false, false, false, false, false, false, false, false, false] rfl rfl (by kernel_rfl) (fun _ _ _ h => h) (Or.inl ⟨by rfl, ?_⟩) ?_ ?_
      rotate_left
      · intro w'
        go_simp
        with_reducible rfl
      rotate_left
      · simp only [Act.put, List.setIfInBounds_toArray, List.set_cons_zero, List.set_cons_succ, i64_w, i32_w]
        rfl
      refine pure_ (i := 10) (N := some 29) (v := ?_) (a' := ?_) #[true, true, true, false, false, true, true, true, false, false, true, false, false, false, false, false, false, false, false] rfl rfl (by kernel_rfl) (fun _ _ _ h => h) (Or.inl ⟨by rfl, ?_⟩) ?_ ?_
      rotate_left
      · intro w'
        go_simp
        with_reducible rfl
      rotate_left
      · simp only [Act.put, List.setIfInBounds_toArray, List.set_cons_zero, List.set_cons_succ, i64_w, i32_w]
        rfl
      refine pure_ (i := 11) (N := some 30) (v := ?_) (a' := ?_) #[true, true, true, false, false, true, true, true, false, false, true, true, false, false, false, false, false, false, false] rfl rfl (by kernel_rfl) (fun _ _ _ h => h) (Or.inl ⟨by rfl, ?_⟩) ?_ ?_
      rotate_left
      · intro w'
        go_simp
        with_reducible rfl
      rotate_left
      · simp only [Act.put, List.setIfInBounds_toArray, List.set_cons_zero, List.set_cons_succ, i64_w, i32_w]
        rfl
      refine pure_ (i := 12) (N := some 31) (v := ?_) (a' := ?_) #[true, true, true, false, false, true, true, true, false, false, true, true, true, false, false, false, false, false, false] rfl rfl (by kernel_rfl) (fun _ _ _ h => h) (Or.inl ⟨by rfl, ?_⟩) ?_ ?_
      rotate_left
      · intro w'
        go_simp
        with_reducible rfl
      rotate_left
      · simp only [Act.put, List.setIfInBounds_toArray, List.set_cons_zero, List.set_cons_succ, i64_w, i32_w]
        rfl
      refine pure_ (i := 16) (N := some 35) (v := ?_) (a' := ?_) #[true, true, true, false, false, true, true, true, false, false, true, true, true, false, false, false, true, false, false] rfl rfl (by kernel_rfl) (fun _ _ _ h => h) (Or.inl ⟨by rfl, ?_⟩) ?_ ?_
      rotate_left
      · intro w'
        go_simp
        with_reducible rfl
      rotate_left
      · simp only [Act.put, List.setIfInBounds_toArray, List.set_cons_zero, List.set_cons_succ, i64_w, i32_w]
        rfl
      refine take_ (i := 3) (N := some 22) (v := ?_) (a' := ?_) #[true, true, true, true, false, true, true, true, false, false, true, true, true, false, false, false, true, false, false] rfl rfl (by kernel_rfl) (fun _ _ _ h => h) (Or.inl ⟨by rfl, ?_⟩) hHeld ?_ ?_
      rotate_left
      · intro w' s0
        go_simp
        with_reducible rfl
      rotate_left
      · simp only [Act.put, List.setIfInBounds_toArray, List.set_cons_zero, List.set_cons_succ, i64_w, i32_w]
        rfl
      refine pure_ (i := 4) (N := some 23) (v := ?_) (a' := ?_) #[true, true, true, true, true, true, true, true, false, false, true, true, true, false, false, false, true, false, false] rfl rfl (by kernel_rfl) (fun _ _ _ h => h) (Or.inl ⟨by rfl, ?_⟩) ?_ ?_
      rotate_left
      · intro w'
        go_simp
        with_reducible rfl
      rotate_left
      · simp only [Act.put, List.setIfInBounds_toArray, List.set_cons_zero, List.set_cons_succ, i64_w, i32_w]
        rfl
      refine take_ (i := 8) (N := some 27) (v := ?_) (a' := ?_) #[true, true, true, true, true, true, true, true, true, false, true, true, true, false, false, false, true, false, false] rfl rfl (by kernel_rfl) (fun _ _ _ h => h) (Or.inl ⟨by rfl, ?_⟩) hHeld ?_ ?_
      rotate_left
      · intro w' s0
        go_simp
        with_reducible rfl
      rotate_left
      · simp only [Act.put, List.setIfInBounds_toArray, List.set_cons_zero, List.set_cons_succ, i64_w, i32_w]
        rfl
      refine pure_ (i := 9) (N := some 28) (v := ?_) (a' := ?_) #[true, true, true, true, true, true, true, true, true, true, true, true, true, false, false, false, true, false, false] rfl rfl (by kernel_rfl) (fun _ _ _ h => h) (Or.inl ⟨by rfl, ?_⟩) ?_ ?_
      rotate_left
      · intro w'
        go_simp
        with_reducible rfl
      rotate_left
      · simp only [Act.put, List.setIfInBounds_toArray, List.set_cons_zero, List.set_cons_succ, i64_w, i32_w]
        rfl
      refine take_ (i := 13) (N := some 32) (v := ?_) (a' := ?_) #[true, true, true, true, true, true, true, true, true, true, true, true, true, true, false, false, true, false, false] rfl rfl (by kernel_rfl) (fun _ _ _ h => h) (Or.inl ⟨by rfl, ?_⟩) hHeld ?_ ?_
      rotate_left
      · intro w' s0
        go_simp
        with_reducible rfl
      rotate_left
      · simp only [Act.put, List.setIfInBounds_toArray, List.set_cons_zero, List.set_cons_succ, i64_w, i32_w]
        rfl
      refine pure_ (i := 14) (N := some 33) (v := ?_) (a' := ?_) #[true, true, true, true, true, true, true, true, true, true, true, true, true, true, true, false, true, false, false] rfl rfl (by kernel_rfl) (fun _ _ _ h => h) (Or.inl ⟨by rfl, ?_⟩) ?_ ?_
      rotate_left
      · intro w'
        go_simp
        with_reducible rfl
      rotate_left
      · simp only [Act.put, List.setIfInBounds_toArray, List.set_cons_zero, List.set_cons_succ, i64_w, i32_w]
        rfl
      refine pure_ (i := 15) (N := some 34) (v := ?_) (a' := ?_) #[true, true, true, true, true, true, true, true, true, true, true, true, true, true, true, true, true, false, false] rfl rfl (by kernel_rfl) (fun _ _ _ h => h) (Or.inl ⟨by rfl, ?_⟩) ?_ ?_
      rotate_left
      · intro w'
        go_simp
        with_reducible rfl
      rotate_left
      · simp only [Act.put, List.setIfInBounds_toArray, List.set_cons_zero, List.set_cons_succ, i64_w, i32_w]
        rfl
      refine last_ (i := 17) (N := some 36) #[true, true, true, true, true, true, true, true, true, true, true, true, true, true, true, true, true, true, false] rfl rfl (by kernel_rfl) (by decide) (fun K hK => ?_)
      refine value_ (w1 := ?_) (v := ?_) (by rfl) rfl ?_ ?_
      rotate_left 2
      · go_simp
        constructor
        · rfl
        · rfl
      refine hK.out _ _ ?_
      clear hK K
      refine norm_ (a' := ?_) ?_ ?_
      rotate_left
      · show Act.put _ (some 36) _ = _
        simp only [Act.put, List.setIfInBounds_toArray, List.set_cons_zero, List.set_cons_succ, i64_w, i32_w]
        rfl
      refine pure_ (i := 18) (N := some 3) (v := ?_) (a' := ?_) #[true, true, true, true, true, true, true, true, true, true, true, true, true, true, true, true, true, true, true] rfl rfl (by kernel_rfl) (fun _ _ _ h => h) (Or.inl ⟨by rfl, ?_⟩) ?_ ?_
      rotate_left
      · intro w'
        go_simp
        with_reducible rfl
      rotate_left
      · simp only [Act.put, List.setIfInBounds_toArray, List.set_cons_zero, List.set_cons_succ, i64_w, i32_w]
        rfl
      refine done_ (by kernel_rfl) ?_
      refine new_world (fun w' => Puts w' (some ⟨wo.heap.size, 0, none⟩) [⟨0, 0, x⟩, ⟨0, 1, x⟩, ⟨0, 1, ngN x⟩, ⟨0, 9, 0⟩] ∧ Below w1.heap.size w1 w') ⟨by refine (puts_lit _ _ _ _ ?_ (puts4_lt x (ngN x) HX.out (ngN_lt x))).drew; rfl, (HB.out.alloc HB.out.size _).drew⟩ ?_
      rintro w2 ⟨hP, hB2⟩
      have HP := Lib.hid hP
      have HB2 := Aside0.mk hB2
      clear hP hB2 hHeld hc hng HB
      go_wp2_with fail
      refine (WireWrites_calls w2 _ 4 _ HP.out (by show 0 < 4; decide) (by show 4 ≤ 1000; decide) (puts4_ok x (ngN x))).mono ?_
      rintro e w3 ⟨rfl, hb⟩
      have HB3 := Aside0.mk (below_step HB2.out hb)
      have hc := (HB3.out.cell (World.block_lt_of_cell? w1 _ HCell.out)).trans HCell.out
      clear hb HP HB2
      have hp := putUint_ok 10 [] x (by decide) HX.out (by decide)
      rw [List.nil_append] at hp
      have hle := enc_length x HX.out
      have hby := enc_byt x HX.out
      have hpc := custodyref05_PutUint.calls 10 (fun _ => False) (.slice none 0 0) [] x (enc x) w3 w3 (Below.refl _ _) (Kd.R_nil _ _ _ _ _) hp
      generalize enc x = l at *
      have HPc := Lib.hid hpc
      have HLe := Aside0.mk hle.2
      have HBy := Lib.hid hby
      clear hpc hle hby hp
      go_wp2_with fail
      refine HPc.out.mono ?_
      rintro e w4 ⟨v4, rfl, hR4, hB4, -⟩
      obtain ⟨Ab, cb, rfl, hcb, hCb⟩ := Kd.R_reads hR4
      have HCb := Aside0.mk hCb
      have HHcb := Aside0.mk hcb
      have HB4 := Aside0.mk (below_step HB3.out hB4)
      clear hR4 hB4 hCb hcb HPc HB3 hc
      obtain ⟨m, hm⟩ : ∃ m, l.length = m := ⟨_, rfl⟩
      rw [hm] at HLe HHcb ⊢
      have HM := Lib.hid hm
      clear hm
      have HG4 := Lib.hid ((HB4.out.cell (World.block_lt_of_cell? w1 _ HG1.out)).trans HG1.out)
      go_wp2_with fail
      go_loopw [5] (fun v5 wi => ∃ n : Nat, v5 = .int .i64 n ∧ n ≤ m + 1 ∧ Aside0 (Below w4.heap.size w4 wi)) (fun v5 _ => m + 1 - (intOf v5).toNat)
      case atStart => exact ⟨0, rfl, by omega, ⟨Below.refl _ _⟩⟩
      case round =>
        obtain ⟨n, rfl, hn, HBi⟩ := hrel
        by_cases hle : n ≤ m
        · have blt : decide ((n : Int) ≤ (m : Int)) = true := by simp; omega
          have blt2 : decide (n ≤ m) = true := by simp; omega
          have HBj := Aside0.mk (below_step HB4.out HBi.out)
          have hc := (HBj.out.cell (World.block_lt_of_cell? w1 _ HCell.out)).trans HCell.out
          have hsb := sub_u64 x HX.out
          have HN : Aside0 (n + 1 ≤ m + 1) := ⟨by omega⟩
          have HNm := Aside0.mk hle
          have HMn : Aside0 (m + 1 - ((n : Int) + 1).toNat < m + 1 - (n : Int).toNat) := ⟨by omega⟩
          clear hle hn
          go_wp2_with fail
          refine start_ (n := 17) (S := fun w' => w'.cell? (ad.add i) = some (.int .u64 (x : Int))) (ds := [15]) #[false, false, false, false, false, false, false, false, false, false, false, false, false, false, false, false, false] (by kernel_rfl) rfl rfl (hc) (fun hHeld => ?_)
          refine pure_ (i := 0) (N := some 51) (v := ?_) (a' := ?_) #[true, false, false, false, false, false, false, false, false, false, false, false, false, false, false, false, false] rfl rfl (by kernel_rfl) (fun _ _ _ h => h) (Or.inl ⟨by rfl, ?_⟩) ?_ ?_
          rotate_left
          · intro w'
            go_simp
            with_reducible rfl
          rotate_left
          · simp only [Act.put, List.setIfInBounds_toArray, List.set_cons_zero, List.set_cons_succ, i64_w, i32_w]
            rfl
          refine pure_ (i := 1) (N := some 52) (v := ?_) (a' := ?_) #[true, true, false, false, false, false, false, false, false, false, false, false, false, false, false, false, false] rfl rfl (by kernel_rfl) (fun _ _ _ h => h) (Or.inl ⟨by rfl, ?_⟩) ?_ ?_
          rotate_left
          · intro w'
            go_simp
            with_reducible rfl
          rotate_left
          · simp only [Act.put, List.setIfInBounds_toArray, List.set_cons_zero, List.set_cons_succ, i64_w, i32_w]
            rfl
          refine pure_ (i := 2) (N := some 53) (v := ?_) (a' := ?_) #[true, true, true, false, false, false, false, false, false, false, false, false, false, false, false, false, false] rfl rfl (by kernel_rfl) (fun _ _ _ h => h) (Or.inl ⟨by rfl, ?_⟩) ?_ ?_
          rotate_left
          · intro w'
            go_simp
            with_reducible rfl
          rotate_left
          · simp only [Act.put, List.setIfInBounds_toArray, List.set_cons_zero, List.set_cons_succ, i64_w, i32_w]
            rfl
          refine pure_ (i := 6) (N := some 57) (v := ?_) (a' := ?_) #[true, true, true, false, false, false, true, false, false, false, false, false, false, false, false, false, false] rfl rfl (by kernel_rfl) (fun _ _ _ h => h) (Or.inl ⟨by rfl, ?_⟩) ?_ ?_
          rotate_left
          · intro w'
            go_simp
            with_reducible rfl
          rotate_left
          · simp only [Act.put, List.setIfInBounds_toArray, List.set_cons_zero, List.set_cons_succ, i64_w, i32_w]
            rfl
          refine pure_ (i := 7) (N := some 58) (v := ?_) (a' := ?_) #[true, true, true, false, false, false, true, true, false, false, false, false, false, false, false, false, false] rfl rfl (by kernel_rfl) (fun _ _ _ h => h) (Or.inl ⟨by rfl, ?_⟩) ?_ ?_
          rotate_left
          · intro w'
            go_simp
            with_reducible rfl
          rotate_left
          · simp only [Act.put, List.setIfInBounds_toArray, List.set_cons_zero, List.set_cons_succ, i64_w, i32_w]
            rfl
          refine pure_ (i := 8) (N := some 59) (v := ?_) (a' := ?_) #[true, true, true, false, false, false, true, true, true, false, false, false, false, false, false, false, false] rfl rfl (by kernel_rfl) (fun _ _ _ h => h) (Or.inl ⟨by rfl, ?_⟩) ?_ ?_
          rotate_left
          · intro w'
            go_simp
            with_reducible rfl
          rotate_left
          · simp only [Act.put, List.setIfInBounds_toArray, List.set_cons_zero, List.set_cons_succ, i64_w, i32_w]
            rfl
          refine pure_ (i := 9) (N := some 60) (v := ?_) (a' := ?_) #[true, true, true, false, false, false, true, true, true, true, false, false, false, false, false, false, false] rfl rfl (by kernel_rfl) (fun _ _ _ h => h) (Or.inl ⟨by rfl, ?_⟩) ?_ ?_
          rotate_left
          · intro w'
            go_simp
            with_reducible rfl
          rotate_left
          · simp only [Act.put, List.setIfInBounds_toArray, List.set_cons_zero, List.set_cons_succ, i64_w, i32_w]
            rfl
          refine pure_ (i := 10) (N := some 61) (v := ?_) (a' := ?_) #[true, true, true, false, false, false, true, true, true, true, true, false, false, false, false, false, false] rfl rfl (by kernel_rfl) (fun _ _ _ h => h) (Or.inl ⟨by rfl, ?_⟩) ?_ ?_
          rotate_left
          · intro w'
            go_simp
            with_reducible rfl
          rotate_left
          · simp only [Act.put, List.setIfInBounds_toArray, List.set_cons_zero, List.set_cons_succ, i64_w, i32_w]
            rfl
          refine pure_ (i := 11) (N := some 62) (v := ?_) (a' := ?_) #[true, true, true, false, false, false, true, true, true, true, true, true, false, false, false, false, false] rfl rfl (by kernel_rfl) (fun _ _ _ h => h) (Or.inl ⟨by rfl, ?_⟩) ?_ ?_
          rotate_left
          · intro w'
            go_simp
            with_reducible rfl
          rotate_left
          · simp only [Act.put, List.setIfInBounds_toArray, List.set_cons_zero, List.set_cons_succ, i64_w, i32_w]
            rfl
          refine pure_ (i := 14) (N := some 65) (v := ?_) (a' := ?_) #[true, true, true, false, false, false, true, true, true, true, true, true, false, false, true, false, false] rfl rfl (by kernel_rfl) (fun _ _ _ h => h) (Or.inl ⟨by rfl, ?_⟩) ?_ ?_
          rotate_left
          · intro w'
            go_simp
            with_reducible rfl
          rotate_left
          · simp only [Act.put, List.setIfInBounds_toArray, List.set_cons_zero, List.set_cons_succ, i64_w, i32_w]
            rfl
          refine take_ (i := 3) (N := some 54) (v := ?_) (a' := ?_) #[true, true, true, true, false, false, true, true, true, true, true, true, false, false, true, false, false] rfl rfl (by kernel_rfl) (fun _ _ _ h => h) (Or.inl ⟨by rfl, ?_⟩) hHeld ?_ ?_
          rotate_left
          · intro w' s0
            go_simp
            with_reducible rfl
          rotate_left
          · simp only [Act.put, List.setIfInBounds_toArray, List.set_cons_zero, List.set_cons_succ, i64_w, i32_w]
            rfl
          refine pure_ (i := 4) (N := some 55) (v := ?_) (a' := ?_) #[true, true, true, true, true, false, true, true, true, true, true, true, false, false, true, false, false] rfl rfl (by kernel_rfl) (fun _ _ _ h => h) (Or.inl ⟨by rfl, ?_⟩) ?_ ?_
          rotate_left
          · intro w'
            go_simp
            with_reducible rfl
          rotate_left
          · simp only [Act.put, List.setIfInBounds_toArray, List.set_cons_zero, List.set_cons_succ, i64_w, i32_w]
            rfl
          refine pure_ (i := 5) (N := some 56) (v := ?_) (a' := ?_) #[true, true, true, true, true, true, true, true, true, true, true, true, false, false, true, false, false] rfl rfl (by kernel_rfl) (fun _ _ _ h => h) (Or.inl ⟨by rfl, ?_⟩) ?_ ?_
          rotate_left
          · intro w'
            go_simp
            with_reducible rfl
          rotate_left
          · simp only [Act.put, List.setIfInBounds_toArray, List.set_cons_zero, List.set_cons_succ, i64_w, i32_w]
            rfl
          refine take_ (i := 12) (N := some 63) (v := ?_) (a' := ?_) #[true, true, true, true, true, true, true, true, true, true, true, true, true, false, true, false, false] rfl rfl (by kernel_rfl) (fun _ _ _ h => h) (Or.inl ⟨by rfl, ?_⟩) hHeld ?_ ?_
          rotate_left
          · intro w' s0
            go_simp
            with_reducible rfl
          rotate_left
          · simp only [Act.put, List.setIfInBounds_toArray, List.set_cons_zero, List.set_cons_succ, i64_w, i32_w]
            rfl
          refine pure_ (i := 13) (N := some 64) (v := ?_) (a' := ?_) #[true, true, true, true, true, true, true, true, true, true, true, true, true, true, true, false, false] rfl rfl (by kernel_rfl) (fun _ _ _ h => h) (Or.inl ⟨by rfl, ?_⟩) ?_ ?_
          rotate_left
          · intro w'
            go_simp
            with_reducible rfl
          rotate_left
          · simp only [Act.put, List.setIfInBounds_toArray, List.set_cons_zero, List.set_cons_succ, i64_w, i32_w]
            rfl
          refine last_ (i := 15) (N := some 66) #[true, true, true, true, true, true, true, true, true, true, true, true, true, true, true, true, false] rfl rfl (by kernel_rfl) (by decide) (fun K hK => ?_)
          refine value_ (w1 := ?_) (v := ?_) (by rfl) rfl ?_ ?_
          rotate_left 2
          · go_simp
            constructor
            · rfl
            · rfl
          refine hK.out _ _ ?_
          clear hK K
          refine norm_ (a' := ?_) ?_ ?_
          rotate_left
          · show Act.put _ (some 66) _ = _
            simp only [Act.put, List.setIfInBounds_toArray, List.set_cons_zero, List.set_cons_succ, i64_w, i32_w]
            rfl
          refine pure_ (i := 16) (N := some 6) (v := ?_) (a' := ?_) #[true, true, true, true, true, true, true, true, true, true, true, true, true, true, true, true, true] rfl rfl (by kernel_rfl) (fun _ _ _ h => h) (Or.inl ⟨by rfl, ?_⟩) ?_ ?_
          rotate_left
          · intro w'
            go_simp
            with_reducible rfl
          rotate_left
          · simp only [Act.put, List.setIfInBounds_toArray, List.set_cons_zero, List.set_cons_succ, i64_w, i32_w]
            rfl
          refine done_ (by kernel_rfl) ?_
          refine new_world (fun w' => Gets w' (some ⟨wr.heap.size, 0, none⟩) (G6a x (sbN x)) ∧ Below w4.heap.size w4 w') ⟨by refine (gets_lit _ _ _ _ ?_ (g6a_N x (sbN x))).drew; rfl, (HBi.out.alloc HBi.out.size _).drew⟩ ?_
          rintro wA ⟨hGa, hBa⟩
          have HGa := Lib.hid hGa
          have HBa := Aside0.mk hBa
          have HSa := Aside0.mk hBa.size
          have HBj2 := Aside0.mk (below_step HB4.out hBa)
          have hcA := (HBj2.out.cell (World.block_lt_of_cell? w1 _ HCell.out)).trans HCell.out
          have had := adN_eq x HX.out
          have hiv := iv_i64 x HX.out
          clear hGa hBa hHeld hc hsb HBi HBj
          go_wp2_with (first | ((with_reducible refine gate_dst (N := 78) rfl ?_); refine lit_event (W1 := ?w1) (v := ?v1) (N := 78) rfl rfl ?hr (fun w' => Gets w' (some ⟨wA.heap.size, 0, none⟩) (G6b (adN x)) ∧ Below wA.heap.size wA w') ?hf ?_; (case hr => go_simp; constructor; rfl; rfl); (case hf => exact ⟨by refine gets_lit _ _ _ _ ?_ (g6b_N (adN x)); rfl, (Below.refl _ _).alloc (Nat.le_refl _) _⟩); rintro wB ⟨hGb, hBb⟩; have HGb := Lib.hid hGb; have HGa2 := Lib.hid (HGa.out.below hBb); have HBb := Aside0.mk (below_step HBa.out hBb); have hcB := (hBb.cell (World.block_lt_of_cell? wA _ hcA)).trans hcA; clear hGb hBb hcA HGa HBa HSa HBj2 had) | ((with_reducible refine gate_dst (N := 88) rfl ?_); refine lit_event (W1 := ?w2) (v := ?v2) (N := 88) rfl rfl ?hr2 (fun w' => Gets w' (some ⟨wB.heap.size, 0, none⟩) (G4c (ivN x)) ∧ Below wB.heap.size wB w') ?hf2 ?_; (case hr2 => go_simp; constructor; rfl; rfl); (case hf2 => exact ⟨by refine gets_lit _ _ _ _ ?_ (g4c_N (ivN x) (iv_in x HX.out).1 (iv_in x HX.out).2); rfl, (Below.refl _ _).alloc (Nat.le_refl _) _⟩); rintro wC ⟨hGc, hBc⟩; have HGc := Lib.hid hGc; have HGb2 := Lib.hid (HGb.out.below hBc); have HGa3 := Lib.hid (HGa2.out.below hBc); have HBc := Aside0.mk (below_step HBb.out hBc); clear hGc hBc hcB HGa2 HGb HBb hiv))
          have hnl : n ≤ l.length := by have := HM.out; have := HNm.out; omega
          have hncb : n ≤ cb := by have := HHcb.out; have := HNm.out; omega
          obtain ⟨i3, hi3, _, hsz, _⟩ := info_parts info5
          have hcut := cut_to (P := Tryd.prog) 29 5 .i64 Tryd.underlying29 hi3 Ab m cb (n : Int) (by omega) (by omega)
          have hCq := Kd.C_take (m := n) HCb.out hnl
          have hbq := HBy.out.take n
          have hlq : (l.take n).length = n := by rw [List.length_take]; omega
          generalize l.take n = q at *
          rw [show (n : Int).toNat = q.length by omega] at hcut
          have hBw := HBc.out
          have hg := (hBw.cell (World.block_lt_of_cell? w4 _ HG4.out)).trans HG4.out
          have hCq2 := Kd.C_below hCq hBw
          have hql : q.length ≤ 1000 := by have := HLe.out; have := HNm.out; omega
          have hqc : q.length ≤ cb := by omega
          have H0 := Lib.hid (reads_later wC Ab wr.heap.size cb q _ 6 hCq2 hqc hbq hql HGa3.out rfl (by decide) hg)
          have H1 := Lib.hid (reads_later wC Ab wA.heap.size cb q _ 6 hCq2 hqc hbq hql HGb2.out rfl (by decide) hg)
          have H2 := Lib.hid (reads_later wC Ab wB.heap.size cb q _ 4 hCq2 hqc hbq hql HGc.out rfl (by decide) hg)
          have H3 := Lib.hid (unf_later wC Ab cb q hCq2 hqc hbq hql hg)
          have HBr0 := Aside0.mk (Below.refl wC.heap.size wC).drew

          clear hnl hncb hi3 hsz hCq hbq hlq hBw hg hCq2 hql hqc HGa3 HGb2 HGc
          refine start_ (n := 38) (S := fun w' => True) (ds := []) #[false, false, false, false, false, false, false, false, false, false, false, false, false, false, false, false, false, false, false, false, false, false, false, false, false, false, false, false, false, false, false, false, false, false, false, false, false, false] (by kernel_rfl) rfl rfl trivial (fun hHeld => ?_)
          refine pure_ (i := 0) (N := some 89) (v := ?_) (a' := ?_) #[true, false, false, false, false, false, false, false, false, false, false, false, false, false, false, false, false, false, false, false, false, false, false, false, false, false, false, false, false, false, false, false, false, false, false, false, false, false] rfl rfl (by kernel_rfl) (fun _ _ _ h => h) (Or.inl ⟨by rfl, ?_⟩) ?_ ?_
          rotate_left
          · intro w'
            go_simp
            with_reducible rfl
          rotate_left
          · simp only [Act.put, List.setIfInBounds_toArray, List.set_cons_zero, List.set_cons_succ, i64_w, i32_w]
            rfl
          refine pure_ (i := 1) (N := some 90) (v := ?_) (a' := ?_) #[true, true, false, false, false, false, false, false, false, false, false, false, false, false, false, false, false, false, false, false, false, false, false, false, false, false, false, false, false, false, false, false, false, false, false, false, false, false] rfl rfl (by kernel_rfl) (fun _ _ _ h => h) (Or.inl ⟨by rfl, ?_⟩) ?_ ?_
          rotate_left
          · intro w'
            go_simp
            with_reducible rfl
          rotate_left
          · simp only [Act.put, List.setIfInBounds_toArray, List.set_cons_zero, List.set_cons_succ, i64_w, i32_w]
            rfl
          refine pure_ (i := 2) (N := some 91) (v := ?_) (a' := ?_) #[true, true, true, false, false, false, false, false, false, false, false, false, false, false, false, false, false, false, false, false, false, false, false, false, false, false, false, false, false, false, false, false, false, false, false, false, false, false] rfl rfl (by kernel_rfl) (fun _ _ _ h => h) (Or.inl ⟨by rfl, ?_⟩) ?_ ?_
          rotate_left
          · intro w'
            go_simp
            with_reducible rfl
          rotate_left
          · simp only [Act.put, List.setIfInBounds_toArray, List.set_cons_zero, List.set_cons_succ, i64_w, i32_w]
            rfl
          refine pure_ (i := 3) (N := some 92) (v := ?_) (a' := ?_) #[true, true, true, true, false, false, false, false, false, false, false, false, false, false, false, false, false, false, false, false, false, false, false, false, false, false, false, false, false, false, false, false, false, false, false, false, false, false] rfl rfl (by kernel_rfl) (fun _ _ _ h => h) (Or.inl ⟨by rfl, ?_⟩) ?_ ?_
          rotate_left
          · intro w'
            go_simp
            with_reducible rfl
          rotate_left
          · simp only [Act.put, List.setIfInBounds_toArray, List.set_cons_zero, List.set_cons_succ, i64_w, i32_w]
            rfl
          refine pure_ (i := 4) (N := some 93) (v := ?_) (a' := ?_) #[true, true, true, true, true, false, false, false, false, false, false, false, false, false, false, false, false, false, false, false, false, false, false, false, false, false, false, false, false, false, false, false, false, false, false, false, false, false] rfl rfl (by kernel_rfl) (fun _ _ _ h => h) (Or.inl ⟨by rfl, ?_⟩) ?_ ?_
          rotate_left
          · intro w'
            go_simp
            with_reducible rfl
          rotate_left
          · simp only [Act.put, List.setIfInBounds_toArray, List.set_cons_zero, List.set_cons_succ, i64_w, i32_w]
            rfl
          refine pure_ (i := 5) (N := some 94) (v := ?_) (a' := ?_) #[true, true, true, true, true, true, false, false, false, false, false, false, false, false, false, false, false, false, false, false, false, false, false, false, false, false, false, false, false, false, false, false, false, false, false, false, false, false] rfl rfl (by kernel_rfl) (fun _ _ _ h => h) (Or.inl ⟨by rfl, ?_⟩) ?_ ?_
          rotate_left
          · intro w'
            go_simp
            with_reducible rfl
          rotate_left
          · simp only [Act.put, List.setIfInBounds_toArray, List.set_cons_zero, List.set_cons_succ, i64_w, i32_w]
            rfl
          refine pure_ (i := 6) (N := some 95) (v := ?_) (a' := ?_) #[true, true, true, true, true, true, true, false, false, false, false, false, false, false, false, false, false, false, false, false, false, false, false, false, false, false, false, false, false, false, false, false, false, false, false, false, false, false] rfl rfl (by kernel_rfl) (fun _ _ _ h => h) (Or.inl ⟨by rfl, ?_⟩) ?_ ?_
          rotate_left
          · intro w'
            go_simp
            with_reducible rfl
          rotate_left
          · simp only [Act.put, List.setIfInBounds_toArray, List.set_cons_zero, List.set_cons_succ, i64_w, i32_w]
            rfl
          refine one_ (i := 7) (N := some 96) #[true, true, true, true, true, true, true, true, false, false, false, false, false, false, false, false, false, false, false, false, false, false, false, false, false, false, false, false, false, false, false, false, false, false, false, false, false, false] rfl rfl (by kernel_rfl) (by decide) (fun K hK => ?_)
          refine goes_ Tryd.func25 (by kernel_rfl) rfl #[.slice Ab q.length cb, .slice Ab q.length cb, .slice (some ⟨wr.heap.size, 0, none⟩) 6 6] (by rfl) rfl rfl (by simp only [List.map_toArray, List.map_cons, List.map_nil]; rfl) ?_
          with_reducible refine (H0.out _ HBr0.out).mono ?_
          rintro e y0 ⟨rfl, hy⟩
          refine ⟨_, rfl, ?_⟩
          have HBr1 := Aside0.mk (below_step HBr0.out hy)
          clear hy
          refine hK.out _ _ trivial (fun hHeld => ?_)
          clear hK K
          refine norm_ (a' := ?_) ?_ ?_
          rotate_left
          · show Act.put _ (some 96) _ = _
            simp only [Act.put, List.setIfInBounds_toArray, List.set_cons_zero, List.set_cons_succ, i64_w, i32_w]
            rfl
          refine pure_ (i := 8) (N := some 97) (v := ?_) (a' := ?_) #[true, true, true, true, true, true, true, true, true, false, false, false, false, false, false, false, false, false, false, false, false, false, false, false, false, false, false, false, false, false, false, false, false, false, false, false, false, false] rfl rfl (by kernel_rfl) (fun _ _ _ h => h) (Or.inl ⟨by rfl, ?_⟩) ?_ ?_
          rotate_left
          · intro w'
            go_simp
            with_reducible rfl
          rotate_left
          · simp only [Act.put, List.setIfInBounds_toArray, List.set_cons_zero, List.set_cons_succ, i64_w, i32_w]
            rfl
          refine pure_ (i := 9) (N := some 98) (v := ?_) (a' := ?_) #[true, true, true, true, true, true, true, true, true, true, false, false, false, false, false, false, false, false, false, false, false, false, false, false, false, false, false, false, false, false, false, false, false, false, false, false, false, false] rfl rfl (by kernel_rfl) (fun _ _ _ h => h) (Or.inl ⟨by rfl, ?_⟩) ?_ ?_
          rotate_left
          · intro w'
            go_simp
            with_reducible rfl
          rotate_left
          · simp only [Act.put, List.setIfInBounds_toArray, List.set_cons_zero, List.set_cons_succ, i64_w, i32_w]
            rfl
          refine pure_ (i := 10) (N := some 99) (v := ?_) (a' := ?_) #[true, true, true, true, true, true, true, true, true, true, true, false, false, false, false, false, false, false, false, false, false, false, false, false, false, false, false, false, false, false, false, false, false, false, false, false, false, false] rfl rfl (by kernel_rfl) (fun _ _ _ h => h) (Or.inl ⟨by rfl, ?_⟩) ?_ ?_
          rotate_left
          · intro w'
            go_simp
            with_reducible rfl
          rotate_left
          · simp only [Act.put, List.setIfInBounds_toArray, List.set_cons_zero, List.set_cons_succ, i64_w, i32_w]
            rfl
          refine pure_ (i := 11) (N := some 100) (v := ?_) (a' := ?_) #[true, true, true, true, true, true, true, true, true, true, true, true, false, false, false, false, false, false, false, false, false, false, false, false, false, false, false, false, false, false, false, false, false, false, false, false, false, false] rfl rfl (by kernel_rfl) (fun _ _ _ h => h) (Or.inl ⟨by rfl, ?_⟩) ?_ ?_
          rotate_left
          · intro w'
            go_simp
            with_reducible rfl
          rotate_left
          · simp only [Act.put, List.setIfInBounds_toArray, List.set_cons_zero, List.set_cons_succ, i64_w, i32_w]
            rfl
          refine pure_ (i := 12) (N := some 101) (v := ?_) (a' := ?_) #[true, true, true, true, true, true, true, true, true, true, true, true, true, false, false, false, false, false, false, false, false, false, false, false, false, false, false, false, false, false, false, false, false, false, false, false, false, false] rfl rfl (by kernel_rfl) (fun _ _ _ h => h) (Or.inl ⟨by rfl, ?_⟩) ?_ ?_
          rotate_left
          · intro w'
            go_simp
            with_reducible rfl
          rotate_left
          · simp only [Act.put, List.setIfInBounds_toArray, List.set_cons_zero, List.set_cons_succ, i64_w, i32_w]
            rfl
          refine pure_ (i := 13) (N := some 102) (v := ?_) (a' := ?_) #[true, true, true, true, true, true, true, true, true, true, true, true, true, true, false, false, false, false, false, false, false, false, false, false, false, false, false, false, false, false, false, false, false, false, false, false, false, false] rfl rfl (by kernel_rfl) (fun _ _ _ h => h) (Or.inl ⟨by rfl, ?_⟩) ?_ ?_
          rotate_left
          · intro w'
            go_simp
            with_reducible rfl
          rotate_left
          · simp only [Act.put, List.setIfInBounds_toArray, List.set_cons_zero, List.set_cons_succ, i64_w, i32_w]
            rfl
          refine pure_ (i := 14) (N := some 103) (v := ?_) (a' := ?_) #[true, true, true, true, true, true, true, true, true, true, true, true, true, true, true, false, false, false, false, false, false, false, false, false, false, false, false, false, false, false, false, false, false, false, false, false, false, false] rfl rfl (by kernel_rfl) (fun _ _ _ h => h) (Or.inl ⟨by rfl, ?_⟩) ?_ ?_
          rotate_left
          · intro w'
            go_simp
            with_reducible rfl
          rotate_left
          · simp only [Act.put, List.setIfInBounds_toArray, List.set_cons_zero, List.set_cons_succ, i64_w, i32_w]
            rfl
          refine pure_ (i := 15) (N := some 104) (v := ?_) (a' := ?_) #[true, true, true, true, true, true, true, true, true, true, true, true, true, true, true, true, false, false, false, false, false, false, false, false, false, false, false, false, false, false, false, false, false, false, false, false, false, false] rfl rfl (by kernel_rfl) (fun _ _ _ h => h) (Or.inl ⟨by rfl, ?_⟩) ?_ ?_
          rotate_left
          · intro w'
            go_simp
            with_reducible rfl
          rotate_left
          · simp only [Act.put, List.setIfInBounds_toArray, List.set_cons_zero, List.set_cons_succ, i64_w, i32_w]
            rfl
          refine pure_ (i := 16) (N := some 105) (v := ?_) (a' := ?_) #[true, true, true, true, true, true, true, true, true, true, true, true, true, true, true, true, true, false, false, false, false, false, false, false, false, false, false, false, false, false, false, false, false, false, false, false, false, false] rfl rfl (by kernel_rfl) (fun _ _ _ h => h) (Or.inl ⟨by rfl, ?_⟩) ?_ ?_
          rotate_left
          · intro w'
            go_simp
            with_reducible rfl
          rotate_left
          · simp only [Act.put, List.setIfInBounds_toArray, List.set_cons_zero, List.set_cons_succ, i64_w, i32_w]
            rfl
          refine one_ (i := 17) (N := some 106) #[true, true, true, true, true, true, true, true, true, true, true, true, true, true, true, true, true, true, false, false, false, false, false, false, false, false, false, false, false, false, false, false, false, false, false, false, false, false] rfl rfl (by kernel_rfl) (by decide) (fun K hK => ?_)
          refine goes_ Tryd.func25 (by kernel_rfl) rfl #[.slice Ab q.length cb, .slice Ab q.length cb, .slice (some ⟨wA.heap.size, 0, none⟩) 6 6] (by rfl) rfl rfl (by simp only [List.map_toArray, List.map_cons, List.map_nil]; rfl) ?_
          with_reducible refine (H1.out _ HBr1.out).mono ?_
          rintro e y1 ⟨rfl, hy⟩
          refine ⟨_, rfl, ?_⟩
          have HBr2 := Aside0.mk (below_step HBr1.out hy)
          clear hy
          refine hK.out _ _ trivial (fun hHeld => ?_)
          clear hK K
          refine norm_ (a' := ?_) ?_ ?_
          rotate_left
          · show Act.put _ (some 106) _ = _
            simp only [Act.put, List.setIfInBounds_toArray, List.set_cons_zero, List.set_cons_succ, i64_w, i32_w]
            rfl
          refine pure_ (i := 18) (N := some 107) (v := ?_) (a' := ?_) #[true, true, true, true, true, true, true, true, true, true, true, true, true, true, true, true, true, true, true, false, false, false, false, false, false, false, false, false, false, false, false, false, false, false, false, false, false, false] rfl rfl (by kernel_rfl) (fun _ _ _ h => h) (Or.inl ⟨by rfl, ?_⟩) ?_ ?_
          rotate_left
          · intro w'
            go_simp
            with_reducible rfl
          rotate_left
          · simp only [Act.put, List.setIfInBounds_toArray, List.set_cons_zero, List.set_cons_succ, i64_w, i32_w]
            rfl
          refine pure_ (i := 19) (N := some 108) (v := ?_) (a' := ?_) #[true, true, true, true, true, true, true, true, true, true, true, true, true, true, true, true, true, true, true, true, false, false, false, false, false, false, false, false, false, false, false, false, false, false, false, false, false, false] rfl rfl (by kernel_rfl) (fun _ _ _ h => h) (Or.inl ⟨by rfl, ?_⟩) ?_ ?_
          rotate_left
          · intro w'
            go_simp
            with_reducible rfl
          rotate_left
          · simp only [Act.put, List.setIfInBounds_toArray, List.set_cons_zero, List.set_cons_succ, i64_w, i32_w]
            rfl
          refine pure_ (i := 20) (N := some 109) (v := ?_) (a' := ?_) #[true, true, true, true, true, true, true, true, true, true, true, true, true, true, true, true, true, true, true, true, true, false, false, false, false, false, false, false, false, false, false, false, false, false, false, false, false, false] rfl rfl (by kernel_rfl) (fun _ _ _ h => h) (Or.inl ⟨by rfl, ?_⟩) ?_ ?_
          rotate_left
          · intro w'
            go_simp
            with_reducible rfl
          rotate_left
          · simp only [Act.put, List.setIfInBounds_toArray, List.set_cons_zero, List.set_cons_succ, i64_w, i32_w]
            rfl
          refine pure_ (i := 21) (N := some 110) (v := ?_) (a' := ?_) #[true, true, true, true, true, true, true, true, true, true, true, true, true, true, true, true, true, true, true, true, true, true, false, false, false, false, false, false, false, false, false, false, false, false, false, false, false, false] rfl rfl (by kernel_rfl) (fun _ _ _ h => h) (Or.inl ⟨by rfl, ?_⟩) ?_ ?_
          rotate_left
          · intro w'
            go_simp
            with_reducible rfl
          rotate_left
          · simp only [Act.put, List.setIfInBounds_toArray, List.set_cons_zero, List.set_cons_succ, i64_w, i32_w]
            rfl
          refine pure_ (i := 22) (N := some 111) (v := ?_) (a' := ?_) #[true, true, true, true, true, true, true, true, true, true, true, true, true, true, true, true, true, true, true, true, true, true, true, false, false, false, false, false, false, false, false, false, false, false, false, false, false, false] rfl rfl (by kernel_rfl) (fun _ _ _ h => h) (Or.inl ⟨by rfl, ?_⟩) ?_ ?_
          rotate_left
          · intro w'
            go_simp
            with_reducible rfl
          rotate_left
          · simp only [Act.put, List.setIfInBounds_toArray, List.set_cons_zero, List.set_cons_succ, i64_w, i32_w]
            rfl
          refine pure_ (i := 23) (N := some 112) (v := ?_) (a' := ?_) #[true, true, true, true, true, true, true, true, true, true, true, true, true, true, true, true, true, true, true, true, true, true, true, true, false, false, false, false, false, false, false, false, false, false, false, false, false, false] rfl rfl (by kernel_rfl) (fun _ _ _ h => h) (Or.inl ⟨by rfl, ?_⟩) ?_ ?_
          rotate_left
          · intro w'
            go_simp
            with_reducible rfl
          rotate_left
          · simp only [Act.put, List.setIfInBounds_toArray, List.set_cons_zero, List.set_cons_succ, i64_w, i32_w]
            rfl
          refine pure_ (i := 24) (N := some 113) (v := ?_) (a' := ?_) #[true, true, true, true, true, true, true, true, true, true, true, true, true, true, true, true, true, true, true, true, true, true, true, true, true, false, false, false, false, false, false, false, false, false, false, false, false, false] rfl rfl (by kernel_rfl) (fun _ _ _ h => h) (Or.inl ⟨by rfl, ?_⟩) ?_ ?_
          rotate_left
          · intro w'
            go_simp
            with_reducible rfl
          rotate_left
          · simp only [Act.put, List.setIfInBounds_toArray, List.set_cons_zero, List.set_cons_succ, i64_w, i32_w]
            rfl
          refine pure_ (i := 25) (N := some 114) (v := ?_) (a' := ?_) #[true, true, true, true, true, true, true, true, true, true, true, true, true, true, true, true, true, true, true, true, true, true, true, true, true, true, false, false, false, false, false, false, false, false, false, false, false, false] rfl rfl (by kernel_rfl) (fun _ _ _ h => h) (Or.inl ⟨by rfl, ?_⟩) ?_ ?_
          rotate_left
          · intro w'
            go_simp
            with_reducible rfl
          rotate_left
          · simp only [Act.put, List.setIfInBounds_toArray, List.set_cons_zero, List.set_cons_succ, i64_w, i32_w]
            rfl
          refine pure_ (i := 26) (N := some 115) (v := ?_) (a' := ?_) #[true, true, true, true, true, true, true, true, true, true, true, true, true, true, true, true, true, true, true, true, true, true, true, true, true, true, true, false, false, false, false, false, false, false, false, false, false, false] rfl rfl (by kernel_rfl) (fun _ _ _ h => h) (Or.inl ⟨by rfl, ?_⟩) ?_ ?_
          rotate_left
          · intro w'
            go_simp
            with_reducible rfl
          rotate_left
          · simp only [Act.put, List.setIfInBounds_toArray, List.set_cons_zero, List.set_cons_succ, i64_w, i32_w]
            rfl
          refine pure_ (i := 27) (N := some 116) (v := ?_) (a' := ?_) #[true, true, true, true, true, true, true, true, true, true, true, true, true, true, true, true, true, true, true, true, true, true, true, true, true, true, true, true, false, false, false, false, false, false, false, false, false, false] rfl rfl (by kernel_rfl) (fun _ _ _ h => h) (Or.inl ⟨by rfl, ?_⟩) ?_ ?_
          rotate_left
          · intro w'
            go_simp
            with_reducible rfl
          rotate_left
          · simp only [Act.put, List.setIfInBounds_toArray, List.set_cons_zero, List.set_cons_succ, i64_w, i32_w]
            rfl
          refine one_ (i := 28) (N := some 117) #[true, true, true, true, true, true, true, true, true, true, true, true, true, true, true, true, true, true, true, true, true, true, true, true, true, true, true, true, true, false, false, false, false, false, false, false, false, false] rfl rfl (by kernel_rfl) (by decide) (fun K hK => ?_)
          refine goes_ Tryd.func25 (by kernel_rfl) rfl #[.slice Ab q.length cb, .slice Ab q.length cb, .slice (some ⟨wB.heap.size, 0, none⟩) 4 4] (by rfl) rfl rfl (by simp only [List.map_toArray, List.map_cons, List.map_nil]; rfl) ?_
          with_reducible refine (H2.out _ HBr2.out).mono ?_
          rintro e y2 ⟨rfl, hy⟩
          refine ⟨_, rfl, ?_⟩
          have HBr3 := Aside0.mk (below_step HBr2.out hy)
          clear hy
          refine hK.out _ _ trivial (fun hHeld => ?_)
          clear hK K
          refine norm_ (a' := ?_) ?_ ?_
          rotate_left
          · show Act.put _ (some 117) _ = _
            simp only [Act.put, List.setIfInBounds_toArray, List.set_cons_zero, List.set_cons_succ, i64_w, i32_w]
            rfl
          refine pure_ (i := 29) (N := some 118) (v := ?_) (a' := ?_) #[true, true, true, true, true, true, true, true, true, true, true, true, true, true, true, true, true, true, true, true, true, true, true, true, true, true, true, true, true, true, false, false, false, false, false, false, false, false] rfl rfl (by kernel_rfl) (fun _ _ _ h => h) (Or.inl ⟨by rfl, ?_⟩) ?_ ?_
          rotate_left
          · intro w'
            go_simp
            with_reducible rfl
          rotate_left
          · simp only [Act.put, List.setIfInBounds_toArray, List.set_cons_zero, List.set_cons_succ, i64_w, i32_w]
            rfl
          refine pure_ (i := 30) (N := some 119) (v := ?_) (a' := ?_) #[true, true, true, true, true, true, true, true, true, true, true, true, true, true, true, true, true, true, true, true, true, true, true, true, true, true, true, true, true, true, true, false, false, false, false, false, false, false] rfl rfl (by kernel_rfl) (fun _ _ _ h => h) (Or.inl ⟨by rfl, ?_⟩) ?_ ?_
          rotate_left
          · intro w'
            go_simp
            with_reducible rfl
          rotate_left
          · simp only [Act.put, List.setIfInBounds_toArray, List.set_cons_zero, List.set_cons_succ, i64_w, i32_w]
            rfl
          refine pure_ (i := 31) (N := some 120) (v := ?_) (a' := ?_) #[true, true, true, true, true, true, true, true, true, true, true, true, true, true, true, true, true, true, true, true, true, true, true, true, true, true, true, true, true, true, true, true, false, false, false, false, false, false] rfl rfl (by kernel_rfl) (fun _ _ _ h => h) (Or.inl ⟨by rfl, ?_⟩) ?_ ?_
          rotate_left
          · intro w'
            go_simp
            with_reducible rfl
          rotate_left
          · simp only [Act.put, List.setIfInBounds_toArray, List.set_cons_zero, List.set_cons_succ, i64_w, i32_w]
            rfl
          refine pure_ (i := 32) (N := some 121) (v := ?_) (a' := ?_) #[true, true, true, true, true, true, true, true, true, true, true, true, true, true, true, true, true, true, true, true, true, true, true, true, true, true, true, true, true, true, true, true, true, false, false, false, false, false] rfl rfl (by kernel_rfl) (fun _ _ _ h => h) (Or.inl ⟨by rfl, ?_⟩) ?_ ?_
          rotate_left
          · intro w'
            go_simp
            with_reducible rfl
          rotate_left
          · simp only [Act.put, List.setIfInBounds_toArray, List.set_cons_zero, List.set_cons_succ, i64_w, i32_w]
            rfl
          refine pure_ (i := 33) (N := some 122) (v := ?_) (a' := ?_) #[true, true, true, true, true, true, true, true, true, true, true, true, true, true, true, true, true, true, true, true, true, true, true, true, true, true, true, true, true, true, true, true, true, true, false, false, false, false] rfl rfl (by kernel_rfl) (fun _ _ _ h => h) (Or.inl ⟨by rfl, ?_⟩) ?_ ?_
          rotate_left
          · intro w'
            go_simp
            with_reducible rfl
          rotate_left
          · simp only [Act.put, List.setIfInBounds_toArray, List.set_cons_zero, List.set_cons_succ, i64_w, i32_w]
            rfl
          refine pure_ (i := 34) (N := some 123) (v := ?_) (a' := ?_) #[true, true, true, true, true, true, true, true, true, true, true, true, true, true, true, true, true, true, true, true, true, true, true, true, true, true, true, true, true, true, true, true, true, true, true, false, false, false] rfl rfl (by kernel_rfl) (fun _ _ _ h => h) (Or.inl ⟨by rfl, ?_⟩) ?_ ?_
          rotate_left
          · intro w'
            go_simp
            with_reducible rfl
          rotate_left
          · simp only [Act.put, List.setIfInBounds_toArray, List.set_cons_zero, List.set_cons_succ, i64_w, i32_w]
            rfl
          refine one_ (i := 35) (N := some 124) #[true, true, true, true, true, true, true, true, true, true, true, true, true, true, true, true, true, true, true, true, true, true, true, true, true, true, true, true, true, true, true, true, true, true, true, true, false, false] rfl rfl (by kernel_rfl) (by decide) (fun K hK => ?_)
          refine goes_ Tryd.func26 (by kernel_rfl) rfl #[.slice Ab q.length cb] (by rfl) rfl rfl (by simp only [List.map_toArray, List.map_cons, List.map_nil]; rfl) ?_
          with_reducible refine (H3.out _ HBr3.out).mono ?_
          rintro e y3 ⟨rfl, hy⟩
          refine ⟨_, rfl, ?_⟩
          have HBr4 := Aside0.mk (below_step HBr3.out hy)
          clear hy
          refine hK.out _ _ trivial (fun hHeld => ?_)
          clear hK K
          refine norm_ (a' := ?_) ?_ ?_
          rotate_left
          · show Act.put _ (some 124) _ = _
            simp only [Act.put, List.setIfInBounds_toArray, List.set_cons_zero, List.set_cons_succ, i64_w, i32_w]
            rfl
          refine pure_ (i := 36) (N := some 125) (v := ?_) (a' := ?_) #[true, true, true, true, true, true, true, true, true, true, true, true, true, true, true, true, true, true, true, true, true, true, true, true, true, true, true, true, true, true, true, true, true, true, true, true, true, false] rfl rfl (by kernel_rfl) (fun _ _ _ h => h) (Or.inl ⟨by rfl, ?_⟩) ?_ ?_
          rotate_left
          · intro w'
            go_simp
            with_reducible rfl
          rotate_left
          · simp only [Act.put, List.setIfInBounds_toArray, List.set_cons_zero, List.set_cons_succ, i64_w, i32_w]
            rfl
          refine pure_ (i := 37) (N := some 126) (v := ?_) (a' := ?_) #[true, true, true, true, true, true, true, true, true, true, true, true, true, true, true, true, true, true, true, true, true, true, true, true, true, true, true, true, true, true, true, true, true, true, true, true, true, true] rfl rfl (by kernel_rfl) (fun _ _ _ h => h) (Or.inl ⟨by rfl, ?_⟩) ?_ ?_
          rotate_left
          · intro w'
            go_simp
            with_reducible rfl
          rotate_left
          · simp only [Act.put, List.setIfInBounds_toArray, List.set_cons_zero, List.set_cons_succ, i64_w, i32_w]
            rfl
          refine done_ (by kernel_rfl) ?_
          have HBE := Aside0.mk (below_step HBc.out HBr4.out)
          clear H0 H1 H2 H3 HBr0 HBr1 HBr2 HBr3 HBr4 HBc hHeld hcut
          have n0 : (0 : Int) ≤ (n : Int) := by omega
          have n1 : (n : Int) ≤ 9 := by have := HNm.out; have := HLe.out; omega
          go_wp2_with fail
          go_roundw
          case rel => exact ⟨n + 1, by go_num, HN.out, HBE⟩
          case measure => simp only [intOf]; exact HMn.out
        · have blt : decide ((n : Int) ≤ (m : Int)) = false := by simp; omega
          have blt2 : decide (n ≤ m) = false := by simp; omega
          have HBE := Aside0.mk (below_step HB4.out HBi.out)
          clear hn hle HBi
          go_wp2_with fail
          go_roundw
          case rel => exact ⟨i + 1, by go_num, HI.out, HBE⟩
          case measure => simp only [intOf]; exact HMs.out
    · have blt : decide ((i : Int) < (31 : Int)) = false := by simp; omega
      clear hi hlt HRd
      go_wp2_with fail
      go_loopw [9] (fun v9 wr => ∃ f : Nat, v9 = .int .i64 f ∧ f ≤ 256 ∧ Aside0 (Below w1.heap.size w1 wr)) (fun v9 _ => 256 - (intOf v9).toNat)
      case atStart => exact ⟨0, rfl, by decide, HB⟩
      case round =>
        clear HB
        obtain ⟨f, rfl, hf, HB⟩ := hrel
        obtain ⟨wf, rfl⟩ : ∃ wf : World, wf = wr := ⟨_, rfl⟩
        by_cases hlt : f < 256
        · have blt : decide ((f : Int) < (256 : Int)) = true := by simp; omega
          have HF : Aside0 (f + 1 ≤ 256) := ⟨by omega⟩
          have HMf : Aside0 (256 - ((f : Int) + 1).toNat < 256 - (f : Int).toNat) := ⟨by omega⟩
          have f0 : (0 : Int) ≤ (f : Int) := by omega
          have f1 : (f : Int) < 256 := by omega
          have f8 : IntKind.u8.wrap (f : Int) = (f : Int) := by show (f : Int) % 256 = _; omega
          have f9 : (f : Int) % 256 = (f : Int) := by omega
          have HFl := Aside0.mk hlt
          clear hlt hf
          go_wp2_with fail
          go_loopw [10] (fun v10 wi => ∃ k : Nat, v10 = .int .i64 k ∧ k ≤ 300 ∧ Aside0 (Below w1.heap.size w1 wi)) (fun v10 _ => 300 - (intOf v10).toNat)
          case atStart => exact ⟨0, rfl, by decide, HB⟩
          case round =>
            clear HB
            obtain ⟨k, rfl, hk, HB⟩ := hrel
            by_cases hlt : k < 256
            · have blt : decide ((k : Int) < (256 : Int)) = true := by simp; omega
              have k0 : (0 : Int) ≤ (k : Int) := by omega
              have k1 : (k : Int) < 256 := by omega
              have k8 : IntKind.u8.wrap (k : Int) = (k : Int) := by show (k : Int) % 256 = _; omega
              have k9 : (k : Int) % 256 = (k : Int) := by omega
              have HKl := Aside0.mk hlt
              clear hlt hk
              go_wp2_with (first | ((with_reducible refine gate_dst (N := 143) rfl ?_); refine lit_event (W1 := ?w3) (v := ?v3) (N := 143) rfl rfl ?hr3 (fun w' => Kd.C (Kd.int .u8) w' (some ⟨wr.heap.size, 0, none⟩) [(f : Int), k, 0, 1, 2, 3, 4, 5, 6, 7].length [(f : Int), k, 0, 1, 2, 3, 4, 5, 6, 7] ∧ Below w1.heap.size w1 w') ?hf3 ?_; (case hr3 => go_simp; constructor; rfl; rfl); (case hf3 => exact ⟨by refine C_lit _ 10 _ _ _ rfl (by decide) ?_; rfl, HB.out.alloc HB.out.size _⟩); rintro wB ⟨hC, hB⟩; have HCq := Aside0.mk hC; have HBb := Aside0.mk hB; clear hC hB))
              have hbt : Byt [(f : Int), k, 0, 1, 2, 3, 4, 5, 6, 7] := Byt.cons (by omega) (by omega) (Byt.cons (by omega) (by omega) (by unfold Byt; decide))
              have HBt := Lib.hid hbt
              have HG5 := Lib.hid ((HBb.out.cell (World.block_lt_of_cell? w1 _ HG1.out)).trans HG1.out)
              clear hbt
              refine (reads_later _ _ wB.heap.size 10 [(f : Int), k, 0, 1, 2, 3, 4, 5, 6, 7] G5d 5 ?d1 (by show 10 ≤ 10; decide) HBt.out (by show 10 ≤ 1000; decide) ?d2 rfl (by decide) ?d3 _ (Below.refl _ _)).mono ?_
              case d1 => exact Kd.C_below HCq.out ((Below.refl _ _).alloc (Nat.le_refl _) _)
              case d2 =>
                refine gets_lit _ _ _ _ ?_ g5d_N
                rfl
              case d3 => exact (((Below.refl _ _).alloc (Nat.le_refl _) (.cells _ _)).cell (World.block_lt_of_cell? wB _ HG5.out)).trans HG5.out
              rintro e wC ⟨rfl, hb⟩
              have hb1 := (Below.refl wB.heap.size wB).alloc (Nat.le_refl _) (.cells #[] 0)
              have hbC : Below wB.heap.size wB wC := below_step ((Below.refl wB.heap.size wB).alloc (Nat.le_refl _) _) hb
              have HBC := Aside0.mk (below_step HBb.out hbC)
              have HCC := Aside0.mk (Kd.C_below HCq.out hbC)
              have HGC := Lib.hid ((hbC.cell (World.block_lt_of_cell? wB _ HG5.out)).trans HG5.out)
              clear hb hb1 hbC HCq HBb HG5
              go_wp2_with fail
              refine (unf_later wC _ 10 [(f : Int), k, 0, 1, 2, 3, 4, 5, 6, 7] HCC.out (by show 10 ≤ 10; decide) HBt.out (by show 10 ≤ 1000; decide) HGC.out _ (Below.refl _ _)).mono ?_
              rintro e wD ⟨rfl, hb⟩
              have HBD := Aside0.mk (below_step HBC.out hb)
              clear hb HBC HCC HGC HBt
              have h2 : (k : Int) % 2 = 0 ∨ (k : Int) % 2 = 1 := by omega
              have HKK : Aside0 (((k + 1 + 13 * (k % 2) : Nat) : Int) = (k : Int) + 1 + 13 * ((k : Int) % 2)) := ⟨by omega⟩
              have HKm : Aside0 (k + 1 + 13 * (k % 2) ≤ 300 ∧ 300 - ((k : Int) + 1 + 13 * ((k : Int) % 2)).toNat < 300 - (k : Int).toNat) := ⟨by have := HKl.out; omega⟩
              clear k8 k9
              have hm2 : 0 ≤ (k : Int) % 2 := by omega
              have hm3 : (k : Int) % 2 ≤ 1 := by omega
              clear h2
              go_wp2_with fail
              go_roundw
              case rel => exact ⟨k + 1 + 13 * (k % 2), by rw [HKK.out], HKm.out.1, HBD⟩
              case measure => simp only [intOf]; exact HKm.out.2
            · have blt : decide ((k : Int) < (256 : Int)) = false := by simp; omega
              have HBE := HB
              clear hk hlt f8 f9
              go_wp2_with fail
              go_roundw
              case rel => exact ⟨f + 1, by go_num, HF.out, HBE⟩
              case measure => simp only [intOf]; exact HMf.out
        · have blt : decide ((f : Int) < (256 : Int)) = false := by simp; omega
          have HGf := Lib.hid ((HB.out.cell (World.block_lt_of_cell? w1 _ HG1.out)).trans HG1.out)
          clear hf hlt
          go_wp2_with fail
          refine (frames_calls wf HGf.out).mono ?_
          rintro e wz ⟨rfl, hb⟩
          have HZ := Aside0.mk (below_step HB1.out (below_step HB.out hb))
          clear hb
          go_wp2
          go_ret
          exact ⟨rfl, HZ.out⟩
end Go.Proofs.YtnnhcnmggfhkeaaDoor.Wk

/- The walk of WireKnown. -/
namespace Go.Proofs.YtnnhcnmggfhkeaaDoor.Wk
open Go.RowKit Go.Proofs.YtnnhcnmggfhkeaaDoorW.PrintWords Go.Proofs.YtnnhcnmggfhkeaaDoorW.PrintLast Go.Proofs.YtnnhcnmggfhkeaaDoorW.PrintMore Go.Proofs.YtnnhcnmggfhkeaaDoor.PWireKnown
theorem known_calls (w : World) (hg0 : w.cell? ⟨0, 0, none⟩ = some handle) :
    Calls Tryd.prog 3 #[] w fun e w' => e = .returned (.bool true) ∧ Below w.heap.size w w' := by
  have HG := Lib.hid hg0
  clear hg0
  go_enter Tryd.func3, Tryd.ntmps3
  go_wp2_with fail
  refine (shown_calls w HG.out).mono ?_
  rintro e w1 ⟨rfl, hb⟩
  have HB := Aside0.mk hb
  have HG1 := Lib.hid ((hb.cell (World.block_lt_of_cell? w _ HG.out)).trans HG.out)
  clear hb
  go_wp2_with fail
  refine (edged_calls w1 HG1.out).mono ?_
  rintro e w2 ⟨rfl, hb⟩
  have HB2 := Aside0.mk (below_step HB.out hb)
  clear hb
  go_wp2
  go_ret
  exact ⟨rfl, HB2.out⟩
end Go.Proofs.YtnnhcnmggfhkeaaDoor.Wk


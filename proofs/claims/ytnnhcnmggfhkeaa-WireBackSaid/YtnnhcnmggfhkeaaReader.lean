/- The walks of the reader: NewReader, number, peek, Uint, Int, Text, Left, End; Done. -/
import Derived.Test.YtnnhcnmggfhkeaaWriter
namespace Go.Proofs.Ytnnhcnmggfhkeaa.Wb
open Go.RowKit Go.Proofs.YtnnhcnmggfhkeaaW.PrintWords Go.Proofs.YtnnhcnmggfhkeaaW.PrintLast Go.Proofs.YtnnhcnmggfhkeaaW.PrintMore

/-- A reader at block g, before which l lies; no error so far. -/
def Rd (w0 w : World) (g : Nat) (l : List Int) : Prop :=
  ∃ A c, w.heap[g]? = some (.cells #[.slice A l.length c, .nilIface] 44 (0, 0)) ∧ w0.heap.size ≤ g ∧ l.length ≤ c ∧ (∀ ad, A = some ad → ad.block ≠ g) ∧ Kd.C (Kd.int .u8) w A l.length l

set_option maxHeartbeats 1000000 in
theorem NewWriter_any (w0 w : World) (hB : Below w0.heap.size w0 w) :
    Calls Try.prog 4 #[] w fun e w' => ∃ g, e = .returned (.pointer (some ⟨g, 0, none⟩)) ∧ Wr w0 w' g [] ∧ Below w0.heap.size w0 w' ∧ Below w.heap.size w w' := by
  have HB := Aside0.mk hB
  clear hB
  go_enter Try.func4, Try.ntmps4
  go_wp2
  go_ret
  refine ⟨w.heap.size, rfl, ⟨.slice none 0 0, by simpa using heap_alloc_new w _, HB.out.size, Kd.R_nil _ _ _ _ _⟩, below_alloc HB.out _, below_alloc (Below.refl _ _) _⟩

set_option maxHeartbeats 1000000 in
theorem Done_any (w0 w : World) (g : Nat) (l : List Int) (hB : Below w0.heap.size w0 w) (h : Wr w0 w g l) (hl : l.length ≤ 140737488355328) :
    Calls Try.prog 9 #[.pointer (some ⟨g, 0, none⟩)] w fun e w' => ∃ v', e = .returned v' ∧ Kd.R (Kd.int .u8) 5 w' w0.heap.size (fun k => w.heap.size ≤ k) v' l ∧ Below w0.heap.size w0 w' ∧ Below w.heap.size w w' := by
  obtain ⟨v, hb, hg, hR⟩ := h
  obtain ⟨A, c, rfl, hlc, hC⟩ := Kd.R_reads hR
  obtain ⟨n, hn⟩ : ∃ n, l.length = n := ⟨_, rfl⟩
  have hc : w.cell? ⟨g, 0, none⟩ = some (.slice A n c) := by rw [← hn]; exact (blk_cell hb 0).trans rfl
  have HN := Lib.hid hn
  have HC := Aside0.mk hC
  have HB := Aside0.mk hB
  clear hR hb hB hC hn hlc
  go_enter Try.func9, Try.ntmps9
  go_wp2_with fail
  rw [← HN.out]
  refine (Clone_any w0 _ A c l HB.out HC.out hl).mono ?_
  rintro e w1 ⟨v', rfl, h1, h2, h3⟩
  have H1 := Aside0.mk h1
  have H2 := Aside0.mk h2
  have H3 := Aside0.mk h3
  clear h1 h2 h3
  go_wp2
  go_ret
  exact ⟨_, rfl, H1.out, H2.out, H3.out⟩

set_option maxHeartbeats 1000000 in
theorem NewReader_any (w0 w : World) (A : Option Addr) (c : Nat) (l : List Int) (hB : Below w0.heap.size w0 w) (hC : Kd.C (Kd.int .u8) w A l.length l) (hl : l.length ≤ 140737488355328) :
    Calls Try.prog 8 #[.slice A l.length c] w fun e w' => ∃ g, e = .returned (.pointer (some ⟨g, 0, none⟩)) ∧ Rd w0 w' g l ∧ Below w0.heap.size w0 w' ∧ Below w.heap.size w w' := by
  have HB := Aside0.mk hB
  have HC := Aside0.mk hC
  clear hB hC
  go_enter Try.func8, Try.ntmps8
  go_wp2_with fail
  refine (Clone_any w0 _ A c l HB.out HC.out hl).mono ?_
  rintro e w1 ⟨v', rfl, h1, h2, h3⟩
  obtain ⟨A', c', e', hlc, hC⟩ := Kd.R_reads h1
  obtain ⟨n, hn⟩ : ∃ n, l.length = n := ⟨_, rfl⟩
  rw [hn] at e'
  subst e'
  have H1 := Aside0.mk h1
  have H2 := Aside0.mk h2
  have H3 := Aside0.mk h3
  have HN := Lib.hid hn
  have HC1 := Aside0.mk hC
  have HL := Aside0.mk hlc
  clear h1 h2 h3 hn hC hlc
  go_wp2
  go_ret
  refine ⟨w1.heap.size, rfl, ⟨A', c', ?_, H2.out.size, HL.out, ?_, ?_⟩, below_alloc H2.out _, below_alloc H3.out _⟩
  · rw [HN.out]; simpa using heap_alloc_new w1 _
  · rintro ad rfl
    have := own_lt (Kd.R_own H1.out).choose_spec ad.block (by simp [Value.ownBlock])
    omega
  · exact Kd.C_below HC1.out (below_alloc (Below.refl _ _) _)
theorem at_zero (ad : Addr) : ad.add 0 = ad := by cases ad; simp [Addr.add]

set_option maxHeartbeats 1000000 in
theorem number_small (w : World) (A : Option Addr) (c : Nat) (x : Nat) (rest : List Int) (hx : x < 248) (hC : Kd.C (Kd.int .u8) w A ((x : Int) :: rest).length ((x : Int) :: rest)) :
    Calls Try.prog 23 #[.slice A ((x : Int) :: rest).length c] w fun e w' => e = .returned (.tuple #[.int .u64 x, .int .i64 1, .nilIface]) ∧ Drawn0 w w' := by
  obtain ⟨ad, rfl, hc0⟩ := Kd.at_int hC 0 (by omega) (by simp)
  have hc : w.cell? ad = some (.int .u8 (x : Int)) := hc0
  clear hC hc0
  have hlt : decide ((x : Int) < 248) = true := by simp; omega
  have hlen : 0 < ((x : Int) :: rest).length := by simp
  generalize ((x : Int) :: rest).length = n at *
  have hn : ((n : Int) == 0) = false := by simp; omega
  have hn1 : decide ((0 : Int) < n) = true := by simp; omega
  have hn2 : decide (0 < n) = true := by simp; omega
  go_enter Try.func23, Try.ntmps23
  go_wp2
  go_ret3
  exact ⟨rfl, Drawn0.refl _⟩

set_option maxHeartbeats 2000000 in
set_option maxRecDepth 100000 in
theorem number_big (w : World) (A : Option Addr) (c : Nat) (x : Nat) (rest : List Int) (hx : 248 ≤ x) (hx2 : x < 2 ^ 64) (hC : Kd.C (Kd.int .u8) w A (enc x ++ rest).length (enc x ++ rest)) (hc : (enc x ++ rest).length ≤ c) (hl : (enc x ++ rest).length ≤ 140737488355328) :
    Calls Try.prog 23 #[.slice A (enc x ++ rest).length c] w fun e w' => e = .returned (.tuple #[.int .u64 x, .int .i64 (enc x).length, .nilIface]) ∧ Drawn0 w w' := by
  obtain ⟨b1, b2, b3, b4⟩ := nb_bounds x hx2 hx
  have e0 : enc x = ((247 + nb x : Nat) : Int) :: be (nb x) x := by unfold enc; rw [if_neg (by omega)]
  have el : (enc x).length = nb x + 1 := by rw [e0]; simp [be_length]
  obtain ⟨ad, rfl, hc0⟩ := Kd.at_int hC 0 (by omega) (by simp [el]; omega)
  have hcell : w.cell? ad = some (.int .u8 ((247 + nb x : Nat) : Int)) := by
    have : rd (enc x ++ rest) 0 = ((247 + nb x : Nat) : Int) := by rw [e0]; rfl
    rw [← this]; exact hc0
  clear hc0
  obtain ⟨i5, hi5, hz5⟩ := Option.map_eq_some_iff.1 info5
  simp only [Prod.mk.injEq] at hz5
  obtain ⟨A', hsl, hrd, hcap⟩ := print_mid_int (P := Try.prog) (k := .u8) 33 5 Try.underlying33 hi5 hz5.2.1 (some ad) c (enc x ++ rest) 1 (1 + (nb x : Int)) (by omega) (by omega) (by simp [el]; omega) hc
  have hbe : ((enc x ++ rest).take (1 + (nb x : Int)).toNat).drop (1 : Int).toNat = be (nb x) x := by
    rw [show (1 + (nb x : Int)).toNat = nb x + 1 by omega, e0]
    simp only [List.cons_append, List.take_succ_cons, Int.toNat_one, List.drop_succ_cons, List.drop_zero]
    rw [List.take_append_of_le_length (by rw [be_length]; omega), List.take_of_length_le (by rw [be_length]; omega)]
  rw [hbe] at hsl hrd hcap
  have hrd1 := hrd w (Kd.reads_of_C (enc := Value.int .u8) (d := (0 : Int)) (h1 := fun _ => rfl) hC)
  have hlen : nb x + 1 ≤ (enc x ++ rest).length := by rw [List.length_append, el]; omega
  have HR := Aside0.mk hrd1
  have HE := Lib.hid el
  have HX := Aside0.mk b3
  have HL4 := Aside0.mk b4
  clear hbe hrd hrd1 el e0 hi5 hz5 hcap hC b3 b4
  generalize (enc x ++ rest).length = n at *
  have hlow : wire_low.f 10 (be (nb x) x) = some (x : Int) := low_be (nb x) x b2 HX.out
  have HLow := Aside0.mk hlow
  have hbl : (be (nb x) x).length = nb x := be_length _ _
  rw [hbl] at hsl
  have HBl := Lib.hid hbl
  clear hlow hbl
  generalize nb x = m at *
  have hn : ((n : Int) == 0) = false := by simp; omega
  have hn1 : decide ((0 : Int) < n) = true := by simp; omega
  have hn2 : decide (0 < n) = true := by simp; omega
  have hcell' : w.cell? ad = some (.int .u8 (247 + (m : Int))) := by rw [hcell]; simp
  have hle : decide ((n : Int) ≤ m) = false := by simp; omega
  have hle2 : decide (n ≤ m) = false := by simp; omega
  have HX2 := Aside0.mk hx2
  have HLL := Aside0.mk hl
  have HCC := Aside0.mk hc
  have hsl' : ∀ W : World, (Instr.slice 33 (.slice (some ad) n c) (some (.int .i64 1)) (some (.int .i64 (1 + (247 + (m : Int) - 248 + 1)))) none).run Try.prog W = .ok (.slice A' m (c - 1)) W := by
    intro W
    rw [show (1 + (247 + (m : Int) - 248 + 1)) = 1 + (m : Int) by omega]
    exact hsl W
  have h248 : decide ((247 + (m : Int)) < 248) = false := by simp; omega
  have hnm : decide ((n : Int) ≤ 247 + (m : Int) - 248 + 1) = false := by simp; omega
  clear hcell hx2 hl hc hle hle2 hsl
  have hxx : decide ((x : Int) < 248) = false := by simp; omega
  have hbits : decide ((Lib.bitLen x : Int) ≤ 8 * (247 + (m : Int) - 248)) = false := by have := HL4.out; simp; omega
  have HBI := Aside0.mk (bitLen_64 x HX2.out)
  go_enter Try.func23, Try.ntmps23
  go_wp2_with fail
  have hlow2 := wire_low.calls 10 A' (c - 1) (be m x) x w (Kd.C_of_reads (enc := Value.int .u8) (d := (0 : Int)) (h1 := fun _ => rfl) HR.out) (by rw [HBl.out]; have := HCC.out; omega) HLow.out
  rw [HBl.out] at hlow2
  refine hlow2.mono ?_
  rintro e w1 ⟨rfl, ⟨k, rfl⟩⟩
  go_wp2_with fail
  have hb64 : bits_Len64.f 10 (x : Int) = some (Lib.bitLen x : Int) := by
    unfold bits_Len64.f
    have := HX2.out
    rw [if_pos ⟨by omega, by omega⟩]
    simp
  refine (bits_Len64.calls 10 x _ _ hb64).mono ?_
  rintro e w1 ⟨rfl, ⟨k2, rfl⟩⟩
  clear hlow2 hb64
  go_wp2
  go_ret3
  refine ⟨?_, ⟨⟨_, rfl⟩⟩⟩
  rw [HE.out, show ((m + 1 : Nat) : Int) = (247 : Int) + (m : Int) - 248 + 1 + 1 by omega]
  rfl

theorem number_any (w : World) (A : Option Addr) (c : Nat) (x : Nat) (rest : List Int) (hx2 : x < 2 ^ 64) (hC : Kd.C (Kd.int .u8) w A (enc x ++ rest).length (enc x ++ rest)) (hc : (enc x ++ rest).length ≤ c) (hl : (enc x ++ rest).length ≤ 140737488355328) :
    Calls Try.prog 23 #[.slice A (enc x ++ rest).length c] w fun e w' => e = .returned (.tuple #[.int .u64 x, .int .i64 (enc x).length, .nilIface]) ∧ Drawn0 w w' := by
  by_cases hx : x < 248
  · have e0 : enc x = [(x : Int)] := by unfold enc; rw [if_pos hx]
    rw [e0] at hC ⊢
    exact number_small w A c x rest hx hC
  · exact number_big w A c x rest (by omega) hx2 hC hc hl

theorem C_setCell {k : IntKind} {w : World} {A : Option Addr} {n : Nat} {xs : List Int} {g i : Nat} {u : Value} (h : (Kd.int k).C w A n xs) (hne : ∀ ad, A = some ad → ad.block ≠ g) : (Kd.int k).C (w.setCell ⟨g, i, none⟩ u) A n xs :=
  ⟨h.1, h.2.1, fun hn => by
    obtain ⟨ad, e, hc⟩ := h.2.2 hn
    refine ⟨ad, e, fun j p hp => ?_⟩
    obtain ⟨c, hl, hr, hcell⟩ := hc j p hp
    refine ⟨c, hl, hr, fun i' u' hu => ?_⟩
    rw [World.cell?_setCell_other]
    · exact hcell i' u' hu
    · intro e2
      refine hne ad e ?_
      have e3 : (ad.add (j * (Kd.int k).sz + i')).block = ad.block := by unfold Addr.add; split <;> rfl
      rw [← e3, ← e2]⟩

/-- b[m:] of bytes that are read. -/
theorem cut_bytes (A : Option Addr) (c : Nat) (xs : List Int) (m : Nat) (hm : m ≤ xs.length) (hc : xs.length ≤ c) :
    ∃ A' : Option Addr, (∀ W : World, (Instr.slice 33 (.slice A xs.length c) (some (.int .i64 (m : Int))) none none).run Try.prog W = .ok (.slice A' (xs.drop m).length (c - m)) W) ∧
      (∀ w : World, (Kd.int .u8).C w A xs.length xs → (Kd.int .u8).C w A' (xs.drop m).length (xs.drop m)) ∧ (∀ g, (∀ ad, A = some ad → ad.block ≠ g) → ∀ ad, A' = some ad → ad.block ≠ g) := by
  obtain ⟨i5, hi5, hz5⟩ := Option.map_eq_some_iff.1 info5
  simp only [Prod.mk.injEq] at hz5
  have hel : Try.prog.elem 33 = 5 := by simp [Program.elem, Try.underlying33]
  have hu : Try.prog.underlying 33 = some (.slice (Try.prog.elem 33)) := by rw [hel]; exact Try.underlying33
  refine ⟨if c = m then A else A.map (·.add m), fun W => ?_, fun w h => ?_, fun g hA ad e => ?_⟩
  · rw [run_slice_l W 33 A xs.length c hu .i64 (m : Int) (Int.natCast_nonneg _) (by omega), hel]
    simp [sizeOf, typeInfo, hi5, hz5.2.1, sliced, Result.andThen]
  · have h2 := (Kd.reads_of_C (enc := Value.int .u8) (d := (0 : Int)) (h1 := fun _ => rfl) h).drop_ (c := c) m hm hc
    rw [List.length_drop]
    exact Kd.C_of_reads (enc := Value.int .u8) (d := (0 : Int)) (h1 := fun _ => rfl) h2
  · split at e
    · exact hA ad e
    · cases A with
      | none => cases e
      | some a0 =>
        simp only [Option.map_some, Option.some.injEq] at e
        have : ad.block = a0.block := by rw [← e]; unfold Addr.add; split <;> rfl
        rw [this]
        exact hA a0 rfl

set_option maxHeartbeats 1000000 in
theorem peek_any (w0 w : World) (g : Nat) (x : Nat) (rest : List Int) (hB : Below w0.heap.size w0 w) (h : Rd w0 w g (enc x ++ rest)) (hx2 : x < 2 ^ 64) (hl : (enc x ++ rest).length ≤ 140737488355328) :
    Calls Try.prog 20 #[.pointer (some ⟨g, 0, none⟩)] w fun e w' => e = .returned (.tuple #[.int .u64 x, .int .i64 (enc x).length]) ∧ Rd w0 w' g (enc x ++ rest) ∧ Below w0.heap.size w0 w' ∧ Kept w w' (fun k => k = g) := by
  obtain ⟨A, c, hb, hg, hc, hne, hC⟩ := h
  have hnum := fun k => number_any (w.drewN k) A c x rest hx2 hC hc hl
  obtain ⟨n, hn⟩ : ∃ n, (enc x ++ rest).length = n := ⟨_, rfl⟩
  have HNum := Lib.hid hnum
  rw [hn] at hb
  have hc0 : w.cell? ⟨g, 0, none⟩ = some (.slice A n c) := (blk_cell hb 0).trans rfl
  have hc1 : w.cell? ⟨g, 1, none⟩ = some .nilIface := (blk_cell hb 1).trans rfl
  have hf1 := blk_frozen hb 1
  have HN := Lib.hid hn
  have HC := Aside0.mk hC
  have HB := Aside0.mk hB
  have Hb := Aside0.mk hb
  have HNe := Aside0.mk hne
  have HCc := Aside0.mk hc
  clear hnum hn hC hB hb hne hc hx2 hl
  go_enter Try.func20, Try.ntmps20
  go_wp2_with fail
  rw [← HN.out]
  refine (HNum.out 0).mono ?_
  rintro e w1 ⟨rfl, ⟨k, rfl⟩⟩
  go_wp2
  go_ret2
  refine ⟨rfl, ⟨A, c, ?_, hg, HCc.out, HNe.out, ?_⟩, ?_, ((Kept.refl w (fun k => k = g)).drewN _).setCell (p := ⟨g, _, none⟩) (.inl rfl) _⟩
  · rw [HN.out]
    exact blk_set (w := w.drewN _) Hb.out 1 .nilIface
  · exact C_setCell (w := w.drewN _) HC.out HNe.out
  · exact (pw_below_drewN HB.out _).setCell hg _

/-- The reader goes on by m bytes. -/
theorem Rd.cut {w0 w : World} {g : Nat} {l : List Int} (hB : Below w0.heap.size w0 w) (h : Rd w0 w g l) (m : Nat) (hm : m ≤ l.length) :
    ∃ A c n A' n' c', n = l.length ∧ n' = (l.drop m).length ∧ w.cell? ⟨g, 0, none⟩ = some (.slice A n c) ∧ w.frozen? ⟨g, 0, none⟩ = false ∧ (∀ W : World, (Instr.slice 33 (.slice A n c) (some (.int .i64 (m : Int))) none none).run Try.prog W = .ok (.slice A' n' c') W) ∧
      ∀ k, Rd w0 ((w.drewN k).setCell ⟨g, 0, none⟩ (.slice A' n' c')) g (l.drop m) ∧ Below w0.heap.size w0 ((w.drewN k).setCell ⟨g, 0, none⟩ (.slice A' n' c')) ∧ Kept w ((w.drewN k).setCell ⟨g, 0, none⟩ (.slice A' n' c')) (fun k => k = g) := by
  obtain ⟨A, c, hb, hg, hc, hne, hC⟩ := h
  obtain ⟨A', h1, h2, h3⟩ := cut_bytes A c l m hm hc
  refine ⟨A, c, l.length, A', (l.drop m).length, c - m, rfl, rfl, (blk_cell hb 0).trans rfl, blk_frozen hb 0, h1, fun k => ⟨⟨A', c - m, ?_, hg, ?_, h3 g hne, ?_⟩, (pw_below_drewN hB _).setCell hg _, ((Kept.refl w (fun k => k = g)).drewN _).setCell (p := ⟨g, _, none⟩) (.inl rfl) _⟩⟩
  · exact blk_set (w := w.drewN _) hb 0 _
  · rw [List.length_drop]; omega
  · exact C_setCell (w := w.drewN _) (h2 w hC) (h3 g hne)

set_option maxHeartbeats 1000000 in
theorem Reader_Uint (w0 w : World) (g : Nat) (x : Nat) (rest : List Int) (hB : Below w0.heap.size w0 w) (h : Rd w0 w g (enc x ++ rest)) (hx2 : x < 2 ^ 64) (hl : (enc x ++ rest).length ≤ 140737488355328) :
    Calls Try.prog 10 #[.pointer (some ⟨g, 0, none⟩), .int .u64 x] w fun e w' => e = .returned (.int .u64 x) ∧ Rd w0 w' g rest ∧ Below w0.heap.size w0 w' ∧ Kept w w' (fun k => k = g) := by
  have hp := peek_any w0 w g x rest hB h hx2 hl
  have HP := Lib.hid hp
  clear hp hB h hx2 hl
  have hxx : decide ((x : Int) < x) = false := by simp
  go_enter Try.func10, Try.ntmps10
  go_wp2_with fail
  refine HP.out.mono ?_
  rintro e w1 ⟨rfl, h1, h2, hk⟩
  have HKp := Aside0.mk hk
  obtain ⟨A, c, n, A', n', c', hn, hn', hc0, hf0, hsl, hnew⟩ := Rd.cut h2 h1 (enc x).length (by simp)
  rw [List.drop_left] at hnew
  have HW := Lib.hid hnew
  clear hn hn' hnew h1 h2 hk
  go_wp2
  go_ret
  exact ⟨rfl, (HW.out 0).1, (HW.out 0).2.1, HKp.out.then_ (HW.out 0).2.2 (fun _ h => .inl h)⟩

theorem and_one64 (x : Nat) (h : x < 2 ^ 64) : bits .and .u64 (x : Int) 1 = ((x % 2 : Nat) : Int) := by
  have := u64_and_nat x 1 (by omega) (by omega)
  rw [Nat.and_one_is_mod] at this
  exact this
theorem xor_zero_i64 (a : Int) (h0 : 0 ≤ a) (h1 : a < 9223372036854775808) : bits .xor .i64 a 0 = a := by
  show IntKind.i64.wrap ((BitVec.ofInt 64 a ^^^ BitVec.ofInt 64 0).toNat : Int) = _
  rw [BitVec.toNat_xor, u64_ofInt a h0 (by omega), IntKind.wrap_i64]
  simp
  omega
theorem xor_ones_i64 (a : Int) (h0 : 0 ≤ a) (h1 : a < 9223372036854775808) : bits .xor .i64 a (-1) = -1 - a := by
  show IntKind.i64.wrap ((BitVec.ofInt 64 a ^^^ BitVec.ofInt 64 (-1)).toNat : Int) = _
  rw [show BitVec.ofInt 64 (-1) = BitVec.allOnes 64 from by decide, BitVec.xor_allOnes, BitVec.toNat_not, u64_ofInt a h0 (by omega), IntKind.wrap_i64]
  omega
theorem zz_read (y : Int) (hy : -9223372036854775808 ≤ y ∧ y ≤ 9223372036854775807) :
    bits .xor .i64 (wrap64 ((zz y : Int) / 2)) (wrap64 (-wrap64 (bits .and .u64 (zz y : Int) 1))) = y := by
  have hz := zz_lt y hy
  rw [and_one64 _ hz]
  by_cases h : 0 ≤ y
  · have e : zz y = (2 * y).toNat := by unfold zz; rw [if_pos h]
    rw [e, show (2 * y).toNat % 2 = 0 by omega, wrap64_id (by omega) (by omega), wrap64_id (x := ((0 : Nat) : Int)) (by omega) (by omega), wrap64_id (by omega) (by omega)]
    show bits .xor .i64 _ 0 = y
    rw [xor_zero_i64 _ (by omega) (by omega)]
    omega
  · have e : zz y = (-2 * y - 1).toNat := by unfold zz; rw [if_neg h]
    rw [e, show (-2 * y - 1).toNat % 2 = 1 by omega, wrap64_id (by omega) (by omega), wrap64_id (x := ((1 : Nat) : Int)) (by omega) (by omega), wrap64_id (by omega) (by omega)]
    show bits .xor .i64 _ (-1) = y
    rw [xor_ones_i64 _ (by omega) (by omega)]
    omega
set_option maxHeartbeats 1000000 in
theorem Reader_Int (w0 w : World) (g : Nat) (y : Int) (rest : List Int) (hy : -9223372036854775808 ≤ y ∧ y ≤ 9223372036854775807) (hB : Below w0.heap.size w0 w) (h : Rd w0 w g (enc (zz y) ++ rest)) (hl : (enc (zz y) ++ rest).length ≤ 140737488355328) :
    Calls Try.prog 11 #[.pointer (some ⟨g, 0, none⟩)] w fun e w' => e = .returned (.int .i64 y) ∧ Rd w0 w' g rest ∧ Below w0.heap.size w0 w' ∧ Kept w w' (fun k => k = g) := by
  have hp := peek_any w0 w g (zz y) rest hB h (zz_lt y hy) hl
  have HP := Lib.hid hp
  have HY := Aside0.mk hy
  clear hp hB h hl hy
  obtain ⟨x, hx⟩ : ∃ x, x = zz y := ⟨_, rfl⟩
  rw [← hx] at HP
  have HX := Lib.hid hx
  clear hx
  go_enter Try.func11, Try.ntmps11
  go_wp2_with fail
  refine HP.out.mono ?_
  rintro e w1 ⟨rfl, h1, h2, hk⟩
  have HKp := Aside0.mk hk
  obtain ⟨A, c, n, A', n', c', hn, hn', hc0, hf0, hsl, hnew⟩ := Rd.cut h2 h1 (enc x).length (by simp)
  rw [List.drop_left] at hnew
  have HW := Lib.hid hnew
  clear hn hn' hnew h1 h2 hk
  go_wp2
  go_ret
  refine ⟨congrArg (fun z => Ending.returned (.int .i64 z)) ?_, (HW.out 0).1, (HW.out 0).2.1, HKp.out.then_ (HW.out 0).2.2 (fun _ h => .inl h)⟩
  rw [HX.out]
  exact zz_read y HY.out

set_option maxHeartbeats 1000000 in
theorem Left_any (w0 w : World) (g : Nat) (l : List Int) (h : Rd w0 w g l) :
    Calls Try.prog 13 #[.pointer (some ⟨g, 0, none⟩)] w fun e w' => e = .returned (.int .i64 l.length) ∧ w = w' := by
  obtain ⟨A, c, hb, _⟩ := h
  have hc0 : w.cell? ⟨g, 0, none⟩ = some (.slice A l.length c) := (blk_cell hb 0).trans rfl
  clear hb
  go_enter Try.func13, Try.ntmps13
  go_wp2
  go_ret
  exact ⟨rfl, rfl⟩

set_option maxHeartbeats 1000000 in
theorem End_nil (w0 w : World) (g : Nat) (h : Rd w0 w g []) :
    Calls Try.prog 14 #[.pointer (some ⟨g, 0, none⟩)] w fun e w' => e = .returned .nilIface ∧ w = w' := by
  obtain ⟨A, c, hb, _⟩ := h
  have hc0 : w.cell? ⟨g, 0, none⟩ = some (.slice A 0 c) := (blk_cell hb 0).trans rfl
  have hc1 : w.cell? ⟨g, 1, none⟩ = some .nilIface := (blk_cell hb 1).trans rfl
  clear hb
  go_enter Try.func14, Try.ntmps14
  go_wp2
  go_ret
  exact ⟨rfl, rfl⟩

theorem mid_bytes (A : Option Addr) (c : Nat) (xs : List Int) (m k : Nat) (hm : m + k ≤ xs.length) (hc : xs.length ≤ c) :
    ∃ A' : Option Addr, (∀ W : World, (Instr.slice 33 (.slice A xs.length c) (some (.int .i64 (m : Int))) (some (.int .i64 ((m : Int) + (k : Int)))) none).run Try.prog W = .ok (.slice A' k (c - m)) W) ∧
      (∀ w : World, (Kd.int .u8).C w A xs.length xs → (convert 33 9 (.slice A' k (c - m))).run Try.prog w = .ok (.string (strOfNums ((xs.drop m).take k))) w) := by
  obtain ⟨i5, hi5, hz5⟩ := Option.map_eq_some_iff.1 info5
  simp only [Prod.mk.injEq] at hz5
  obtain ⟨A', h1, h2, h3⟩ := print_mid_int (P := Try.prog) (k := .u8) 33 5 Try.underlying33 hi5 hz5.2.1 A c xs (m : Int) ((m : Int) + (k : Int)) (by omega) (by omega) (by omega) hc
  have e : (xs.take ((m : Int) + (k : Int)).toNat).drop (m : Int).toNat = (xs.drop m).take k := by
    rw [show ((m : Int) + (k : Int)).toNat = m + k by omega, show (m : Int).toNat = m by omega, List.drop_take]
    congr 1
    omega
  have el : ((xs.drop m).take k).length = k := by rw [List.length_take, List.length_drop]; omega
  rw [e, el] at h1 h2
  refine ⟨A', h1, fun w hC => ?_⟩
  have h4 := h2 w (Kd.reads_of_C (enc := Value.int .u8) (d := (0 : Int)) (h1 := fun _ => rfl) hC)
  exact string_of_reads Try.underlying33 Try.underlying5 Try.underlying9 h4

theorem strOf_bytesOf (s : ByteArray) : strOfNums (bytesOf s) = s := by
  unfold strOfNums bytesOf
  rw [List.map_map]
  have : (fun n : Int => UInt8.ofNat n.toNat) ∘ (fun b : UInt8 => (b.toNat : Int)) = id := by
    funext b
    simp
  rw [this]
  simp

theorem Rd.text {w0 w : World} {g : Nat} {pre body rest : List Int} (hB : Below w0.heap.size w0 w) (h : Rd w0 w g (pre ++ (body ++ rest))) (m k : Nat) (hm : pre.length = m) (hk : body.length = k) :
    ∃ A c n A2 c2 A' n' c', n = m + k + rest.length ∧ w.cell? ⟨g, 0, none⟩ = some (.slice A n c) ∧ w.frozen? ⟨g, 0, none⟩ = false ∧
      (∀ W : World, (Instr.slice 33 (.slice A n c) (some (.int .i64 (m : Int))) (some (.int .i64 ((m : Int) + (k : Int)))) none).run Try.prog W = .ok (.slice A2 k c2) W) ∧
      (convert 33 9 (.slice A2 k c2)).run Try.prog w = .ok (.string (strOfNums body)) w ∧
      (∀ W : World, (Instr.slice 33 (.slice A n c) (some (.int .i64 ((m : Int) + (k : Int)))) none none).run Try.prog W = .ok (.slice A' n' c') W) ∧
      Rd w0 (w.setCell ⟨g, 0, none⟩ (.slice A' n' c')) g rest ∧ Below w0.heap.size w0 (w.setCell ⟨g, 0, none⟩ (.slice A' n' c')) ∧ Kept w (w.setCell ⟨g, 0, none⟩ (.slice A' n' c')) (fun k => k = g) := by
  obtain ⟨A, c, hb, hg, hc, hne, hC⟩ := h
  have hl : (pre ++ (body ++ rest)).length = m + k + rest.length := by simp [hm, hk]; omega
  obtain ⟨A', h1, h2, h3⟩ := cut_bytes A c (pre ++ (body ++ rest)) (m + k) (by omega) hc
  obtain ⟨A2, h4, h5⟩ := mid_bytes A c (pre ++ (body ++ rest)) m k (by omega) hc
  have e1 : (pre ++ (body ++ rest)).drop (m + k) = rest := by
    rw [← List.append_assoc, List.drop_append_of_le_length (by simp [hm, hk]), List.drop_of_length_le (by simp [hm, hk])]
    simp
  have e2 : ((pre ++ (body ++ rest)).drop m).take k = body := by
    rw [← hm, List.drop_left, ← hk, List.take_left]
  have h6 := h5 w hC
  have h7 := h2 w hC
  rw [e1] at h1 h7
  rw [e2] at h6
  rw [hl] at h1 h4 hb
  refine ⟨A, c, _, A2, _, A', _, _, rfl, (blk_cell hb 0).trans rfl, blk_frozen hb 0, h4, h6, fun W => by rw [show ((m : Int) + (k : Int)) = ((m + k : Nat) : Int) by omega]; exact h1 W, ⟨A', c - (m + k), ?_, hg, ?_, h3 g hne, ?_⟩, hB.setCell hg _, (Kept.refl w (fun k => k = g)).setCell (p := ⟨g, _, none⟩) (.inl rfl) _⟩
  · exact blk_set hb 0 _
  · omega
  · exact C_setCell h7 (h3 g hne)

set_option maxHeartbeats 2000000 in
set_option maxRecDepth 100000 in
theorem Reader_Text (w0 w : World) (g : Nat) (s : ByteArray) (rest : List Int) (hs : s.size ≤ 140737488351232) (hB : Below w0.heap.size w0 w) (h : Rd w0 w g (enc s.size ++ (bytesOf s ++ rest))) (hl : (enc s.size ++ (bytesOf s ++ rest)).length ≤ 140737488355328) :
    Calls Try.prog 12 #[.pointer (some ⟨g, 0, none⟩), .int .i64 s.size] w fun e w' => e = .returned (.string s) ∧ Rd w0 w' g rest ∧ Below w0.heap.size w0 w' ∧ Kept w w' (fun k => k = g) := by
  have hp := peek_any w0 w g s.size (bytesOf s ++ rest) hB h (by omega) hl
  have HP := Lib.hid hp
  have hb := bytesOf_length s
  have hl2 : (enc s.size).length + s.size + rest.length ≤ 140737488355328 := by
    have := hl
    simp only [List.length_append, hb] at this
    omega
  obtain ⟨k, hk⟩ : ∃ k, s.size = k := ⟨_, rfl⟩
  obtain ⟨m, hm⟩ : ∃ m, (enc s.size).length = m := ⟨_, rfl⟩
  rw [hk] at hs hl2 HP ⊢
  rw [hk] at hm
  rw [hm] at hl2 HP
  have HK := Lib.hid hk
  have HM := Lib.hid hm
  have HBo := Lib.hid hb
  clear hp hB h hl hk hm hb
  have hmx : decide ((k : Int) < k) = false := by simp
  go_enter Try.func12, Try.ntmps12
  go_wp2_with fail
  refine HP.out.mono ?_
  rintro e w1 ⟨rfl, h1, h2, hk⟩
  have HKp := Aside0.mk hk
  obtain ⟨A, c, n, A2, c2, A', n', c', hn, hc0, hf0, hsl, hcv, hsl2, h3, h4, h5⟩ := Rd.text h2 h1 m k HM.out (by rw [HBo.out, HK.out])
  have hn1 : m + k ≤ n := by omega
  have hn2 : n ≤ 140737488355328 := by omega
  rw [strOf_bytesOf] at hcv
  have H3 := Aside0.mk h3
  have H4 := Aside0.mk h4
  have H5 := Aside0.mk h5
  clear h1 h2 h3 h4 h5 hn hk
  have hq : decide ((n : Int) - m < k) = false := by simp; omega
  go_wp2
  go_ret
  exact ⟨rfl, H3.out, H4.out, HKp.out.then_ H5.out (fun _ h => .inl h)⟩
end Go.Proofs.Ytnnhcnmggfhkeaa.Wb

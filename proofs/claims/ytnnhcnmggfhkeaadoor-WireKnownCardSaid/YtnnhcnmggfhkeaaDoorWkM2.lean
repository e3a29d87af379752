/- Texts of this claim, one behind the other: WkNum, WkSum, WkFrame, WkUnframe, WkWriter, WkReader, WkText. -/
import Derived.Test.YtnnhcnmggfhkeaaDoorWkM1
import Derived.Test.YtnnhcnmggfhkeaaDoorAs
import Derived.Outline
import Derived.WalkSpells
import Derived.Lib.Hide
/- The walks of wire's number; slices.Clone; errors with their numbers. -/
namespace Go.Proofs.YtnnhcnmggfhkeaaDoor.Wk
open Go.RowKit Go.Proofs.YtnnhcnmggfhkeaaDoorW.PrintWords Go.Proofs.YtnnhcnmggfhkeaaDoorW.PrintLast Go.Proofs.YtnnhcnmggfhkeaaDoorW.PrintMore Go.Proofs.YtnnhcnmggfhkeaaDoor.PWireKnown
set_option linter.unusedVariables false
set_option linter.unusedSimpArgs false

/-- An error of number n that tells no place; no error with the number 0. -/
def Eo (E : Value) (n : Int) : Prop := (n = 0 ∧ E = .nilIface) ∨ (1 ≤ n ∧ n ≤ 24 ∧ Err.ErrOf E n)
theorem Eo.nil : Eo .nilIface 0 := .inl ⟨rfl, rfl⟩
theorem Eo.no (n : Int) (h0 : 1 ≤ n) (h1 : n ≤ 24) : Eo (.iface 70 (.int .i64 n)) n := .inr ⟨h0, h1, .inl rfl⟩
theorem Eo.wrapped (s : ByteArray) (n : Int) (h0 : 1 ≤ n) (h1 : n ≤ 24) : Eo (.iface 78 (.agg #[.string s, .int .i64 n])) n := .inr ⟨h0, h1, .inr ⟨s, rfl⟩⟩
theorem Eo.iface {E : Value} {n : Int} (h : Eo E n) (hn : n ≠ 0) : ∃ t v, E = .iface t v := by
  rcases h with ⟨h, _⟩ | ⟨_, _, h⟩
  · exact absurd h hn
  · exact h.iface
theorem Eo.zero {E : Value} (h : Eo E 0) : E = .nilIface := by
  rcases h with ⟨_, h⟩ | ⟨h, _, _⟩
  · exact h
  · omega
def handle : Value := .iface 130 (.agg #[.pointer (some ⟨1, 37, none⟩)])
theorem Plain_Eo {E : Value} {c : Int} (h : Eo E c) (n : Int) (w : World) (hg : w.cell? ⟨0, 0, none⟩ = some handle) :
    Calls Tryd.prog 14 #[E, .int .i64 n] w fun e w' => e = .returned (.bool (c == n)) ∧ Below w.heap.size w w' := by
  rcases h with ⟨rfl, rfl⟩ | ⟨h0, h1, h2⟩
  · exact Err.Plain_nil n w
  · exact Err.Plain_of h2 h0 h1 n w hg
theorem Num_Eo {E : Value} {c : Int} (h : Eo E c) (w : World) :
    Calls Tryd.prog 32 #[E] w fun e w' => e = .returned (.int .i64 c) ∧ Below w.heap.size w w' := by
  rcases h with ⟨rfl, rfl⟩ | ⟨h0, h1, h2⟩
  · exact (Err.Num_nil w).mono fun _ _ ⟨h1, h2⟩ => ⟨h1, h2 ▸ Below.refl _ _⟩
  · exact Err.Num_of h2 h0 h1 w

theorem R_own_ok {k : IntKind} {e base : Nat} {w : World} {ok : Nat → Prop} {v : Value} {xs : List Int} (h : Kd.R (Kd.int k) e w base ok v xs) : Kd.R (Kd.int k) e w base (fun k => v.ownBlock = some k) v xs :=
  ⟨fun _ hk => hk, h.2⟩
theorem R_slice_any {α : Type} {d : Kd α} {e base : Nat} {w : World} {ok : Nat → Prop} {v : Value} {xs : List α} (h : Kd.R d e w base ok v xs) : ∃ A n c, v = .slice A n c := by
  obtain ⟨A, c, e⟩ := Kd.R_slice h
  exact ⟨A, _, c, e⟩
theorem below_of_grown {w w1 : World} (h : w.grownBy w1 none) : Below w.heap.size w w1 := ⟨h.os, h.tape, h.output, h.size, fun k hk => h.block k hk (by simp)⟩

set_option maxHeartbeats 1000000 in
theorem Clone_any (w0 w : World) (A : Option Addr) (c : Nat) (l : List Int) (hB : Below w0.heap.size w0 w) (hC : Kd.C (Kd.int .u8) w A l.length l) (hl : l.length ≤ 140737488355328) :
    Calls Tryd.prog 29 #[.slice A l.length c] w fun e w' => ∃ v', e = .returned v' ∧ Kd.R (Kd.int .u8) 5 w' w0.heap.size (fun k => w.heap.size ≤ k) v' l ∧ Below w0.heap.size w0 w' ∧ Below w.heap.size w w' := by
  have HB := Aside0.mk hB
  have HC := Aside0.mk hC
  have HL := Aside0.mk hl
  clear hB hC hl
  cases A with
  | none =>
    have e0 : l = [] := by
      rcases l with _ | ⟨x, l⟩
      · rfl
      · obtain ⟨ad, h, _⟩ := HC.out.2.2 (by simp)
        cases h
    subst e0
    have hn := fun W => Go.Lib.run_eql_slice_nil (P := Tryd.prog) W 29 5 none 0 c 0 0 Tryd.underlying29
    go_enter Tryd.func29, Tryd.ntmps29
    go_wp2
    go_ret
    exact ⟨_, rfl, Kd.R_nil _ _ _ _ _, HB.out, Below.refl _ _⟩
  | some ad =>
    have hn := fun W n => Go.Lib.run_eql_slice_nil (P := Tryd.prog) W 29 5 (some ad) n c 0 0 Tryd.underlying29
    go_enter Tryd.func29, Tryd.ntmps29
    go_wp2_with (first | ((with_reducible refine gate_dst (N := 5) rfl ?_); refine Kd.R_lit (Kd.int .u8) (w0 := w0) w0.heap.size 5 ?hg (N := 5) ?hd (xs := []) (inner := []) (ok := fun k => w.heap.size ≤ k) (okp := fun _ => False) ?hr (Reps.none _ _) (fun _ h => h.elim) (Nat.le_refl _) HB.out HB.out.size (by simp) ?_; (case hd => rfl); (case hg => rfl); (case hr => first | (go_simp; done) | (go_simp; rfl)); intro v1 w1 h1 h2 h3 h4; have HR1 := Aside0.mk h1; have HB1 := Aside0.mk h2; have HG1 := Aside0.mk (below_of_grown h3); clear h1 h2 h3 h4) | ((with_reducible refine gate_builtin (b := .append) (xs := #[.tmp 5, .tmp 6]) rfl ?_); at_builtin; refine Kd.R_append_row (Value.int .u8) (0 : Int) (h1 := fun _ => rfl) (w0 := w0) w0.heap.size rfl (.tmp 5) (.tmp 6) 29 5 (.int .u8 0) 1 rfl Tryd.underlying29 info5 rfl (by decide) v1 [] l (some ad) l.length c (fun k => w.heap.size ≤ k) rfl rfl (fun k hk => Nat.le_trans HG1.out.size hk) HR1.out (Kd.C_below (d := Kd.int .u8) HC.out HG1.out) HB1.out HB1.out.size (by have := HL.out; simp; omega) ?_; intro v2 w2 h1 h2 h3 h4; have HR2 := Aside0.mk h1; have HB2 := Aside0.mk h2; have HG2 := Aside0.mk (HG1.out.grown h3 HG1.out.size HR1.out.1); clear h1 h2 h3 h4))
    go_ret
    exact ⟨_, rfl, HR2.out, HB2.out, HG2.out⟩

/-- b[m:m+k] of bytes that are read. -/
theorem mid_bytes (A : Option Addr) (c : Nat) (xs : List Int) (m k : Nat) (hm : m + k ≤ xs.length) (hc : xs.length ≤ c) :
    ∃ A' : Option Addr, (∀ W : World, (Instr.slice 29 (.slice A xs.length c) (some (.int .i64 (m : Int))) (some (.int .i64 ((m : Int) + (k : Int)))) none).run Tryd.prog W = .ok (.slice A' k (c - m)) W) ∧
      (∀ w : World, (Kd.int .u8).C w A xs.length xs → (Kd.int .u8).C w A' ((xs.drop m).take k).length ((xs.drop m).take k)) := by
  obtain ⟨i5, hi5, hz5⟩ := Option.map_eq_some_iff.1 info5
  simp only [Prod.mk.injEq] at hz5
  obtain ⟨A', h1, h2, h3⟩ := print_mid_int (P := Tryd.prog) (k := .u8) 29 5 Tryd.underlying29 hi5 hz5.2.1 A c xs (m : Int) ((m : Int) + (k : Int)) (by omega) (by omega) (by omega) hc
  have e : (xs.take ((m : Int) + (k : Int)).toNat).drop (m : Int).toNat = (xs.drop m).take k := by
    rw [show ((m : Int) + (k : Int)).toNat = m + k by omega, show (m : Int).toNat = m by omega, List.drop_take, show m + k - m = k by omega]
  have el : ((xs.drop m).take k).length = k := by rw [List.length_take, List.length_drop]; omega
  rw [e] at h1 h2
  refine ⟨A', fun W => ?_, fun w hC => ?_⟩
  · rw [h1 W, el]
    rfl
  · exact Kd.C_of_reads (enc := Value.int .u8) (d := (0 : Int)) (h1 := fun _ => rfl) (h2 w (Kd.reads_of_C (enc := Value.int .u8) (d := (0 : Int)) (h1 := fun _ => rfl) hC))

def NumPost (w : World) (q : Nat × Nat × Int) (e : Ending) (w' : World) : Prop := ∃ E, e = .returned (.tuple #[.int .u64 (q.1 : Int), .int .i64 (q.2.1 : Int), E]) ∧ Eo E q.2.2 ∧ Drawn0 w w'
theorem num_cons (b : Int) (r : List Int) : num (b :: r) = if b.toNat < 248 then (b.toNat, 1, 0) else if r.length < b.toNat - 247 then (0, 0, 2) else
      if val (r.take (b.toNat - 247)) < 248 ∨ nb (val (r.take (b.toNat - 247))) ≠ b.toNat - 247 then (0, 0, 4) else (val (r.take (b.toNat - 247)), b.toNat - 246, 0) := rfl

set_option maxHeartbeats 2000000 in
set_option maxRecDepth 100000 in
theorem number_calls (w : World) (A : Option Addr) (c : Nat) (l : List Int) (hC : Kd.C (Kd.int .u8) w A l.length l) (hc : l.length ≤ c) (hb : Byt l) (hl : l.length ≤ 140737488355328) :
    Calls Tryd.prog 35 #[.slice A l.length c] w (NumPost w (num l)) := by
  cases l with
  | nil =>
    go_enter Tryd.func35, Tryd.ntmps35
    go_wp2
    go_ret3
    exact ⟨_, rfl, Eo.no 2 (by decide) (by decide), Drawn0.refl _⟩
  | cons b r =>
    have hb0 := hb.head
    obtain ⟨bn, rfl⟩ : ∃ bn : Nat, b = bn := ⟨b.toNat, by omega⟩
    obtain ⟨ad, rfl, hc0⟩ := Kd.at_int hC 0 (by omega) (by simp)
    have hcell : w.cell? ad = some (.int .u8 (bn : Int)) := hc0
    clear hc0
    have hln : ((bn : Int) :: r).length = r.length + 1 := List.length_cons
    rw [num_cons, Int.toNat_natCast]
    obtain ⟨n, hn⟩ : ∃ n, ((bn : Int) :: r).length = n := ⟨_, rfl⟩
    have hn0 : ((n : Int) == 0) = false := by simp; omega
    have hn1 : decide ((0 : Int) < n) = true := by simp; omega
    have hn2 : decide (0 < n) = true := by simp; omega
    have hn3 : 0 < n := by omega
    by_cases c1 : bn < 248
    · have hlt : decide ((bn : Int) < 248) = true := by simp; omega
      rw [if_pos c1, hn]
      clear hln hn hC hc hb hl
      go_enter Tryd.func35, Tryd.ntmps35
      go_wp2
      go_ret3
      exact ⟨_, rfl, Eo.nil, Drawn0.refl _⟩
    · rw [if_neg c1]
      obtain ⟨m, rfl⟩ : ∃ m, bn = 247 + m := ⟨bn - 247, by omega⟩
      rw [show 247 + m - 247 = m by omega, show 247 + m - 246 = m + 1 by omega]
      have hcell' : w.cell? ad = some (.int .u8 (247 + (m : Int))) := by rw [hcell]; simp
      have h248 : decide ((247 + (m : Int)) < 248) = false := by simp; omega
      by_cases c2 : r.length < m
      · have hnm : decide ((n : Int) ≤ 247 + (m : Int) - 248 + 1) = true := by simp; omega
        rw [if_pos c2, hn]
        clear hln hn hC hc hb hl hcell
        go_enter Tryd.func35, Tryd.ntmps35
        go_wp2
        go_ret3
        exact ⟨_, rfl, Eo.no 2 (by decide) (by decide), Drawn0.refl _⟩
      · rw [if_neg c2]
        have hnm : decide ((n : Int) ≤ 247 + (m : Int) - 248 + 1) = false := by simp; omega
        obtain ⟨A', hsl, hrd⟩ := mid_bytes (some ad) c _ 1 m (by omega) hc
        have hd1 : ((((247 + m : Nat) : Int) :: r).drop 1).take m = r.take m := rfl
        rw [hd1] at hrd
        have hrd1 := hrd w hC
        have hby := hb.tail.take m
        have htl : (r.take m).length = m := by rw [List.length_take]; omega
        have hv := val_lt hby
        have hv64 := val_take_lt hb.tail (n := m) (by omega)
        have hlow := low_ok 10 (r.take m) hby (by rw [htl]; omega) (by omega)
        have hlow2 := wire_low.calls 10 A' (c - 1) (r.take m) (val (r.take m)) w hrd1 (by rw [htl]; omega) hlow
        rw [htl] at hlow2 hv
        have HLow := Lib.hid hlow2
        rw [hn] at hsl hl hc ⊢
        have hsl' : ∀ W : World, (Instr.slice 29 (.slice (some ad) n c) (some (.int .i64 1)) (some (.int .i64 (1 + (247 + (m : Int) - 248 + 1)))) none).run Tryd.prog W = .ok (.slice A' m (c - 1)) W := by
          intro W
          rw [show (1 + (247 + (m : Int) - 248 + 1)) = 1 + (m : Int) by omega]
          exact hsl W
        have hm1 : 1 ≤ m := by omega
        have hm8 : m ≤ 8 := by omega
        clear hlow2 hlow hrd hrd1 hby htl hsl hcell hd1 hb hC hln
        generalize val (r.take m) = x at *
        by_cases c3 : x < 248
        · have hxx : decide ((x : Int) < 248) = true := by simp; omega
          rw [if_pos (.inl c3)]
          clear hv hv64 c3
          go_enter Tryd.func35, Tryd.ntmps35
          go_wp2_with fail
          refine HLow.out.mono ?_
          rintro e w1 ⟨rfl, ⟨k, rfl⟩⟩
          go_wp2
          go_ret3
          exact ⟨_, rfl, Eo.wrapped _ 4 (by decide) (by decide), ⟨⟨_, rfl⟩⟩⟩
        · have hxx : decide ((x : Int) < 248) = false := by simp; omega
          have hb64 := len64_ok 10 x (by omega) hv64
          have hbl := bitLen_64 x hv64
          have hnb := nb_le_iff x m hv64 (by omega)
          have hbb := bitLen_bounds x hv64 (by omega)
          have hnbd : nb x = (Lib.bitLen x + 7) / 8 := rfl
          have hle : nb x ≤ m := hnb.2 hv
          have HBI := Aside0.mk hbl
          by_cases c4 : nb x = m
          · have hbits : decide ((Lib.bitLen x : Int) ≤ 8 * (247 + (m : Int) - 248)) = false := by simp; omega
            rw [if_neg (by omega)]
            have HB64 := Lib.hid hb64
            clear hv hv64 c3 hb64 hnb hbb hnbd hle c4
            go_enter Tryd.func35, Tryd.ntmps35
            go_wp2_with fail
            refine HLow.out.mono ?_
            rintro e w1 ⟨rfl, ⟨k, rfl⟩⟩
            go_wp2_with fail
            refine (bits_Len64.calls 10 x _ _ HB64.out).mono ?_
            rintro e w1 ⟨rfl, ⟨k2, rfl⟩⟩
            go_wp2
            go_ret3
            refine ⟨_, ?_, Eo.nil, ⟨⟨_, rfl⟩⟩⟩
            rw [show ((m + 1 : Nat) : Int) = (247 : Int) + (m : Int) - 248 + 1 + 1 by omega]
            rfl
          · have hbits : decide ((Lib.bitLen x : Int) ≤ 8 * (247 + (m : Int) - 248)) = true := by simp; omega
            rw [if_pos (.inr c4)]
            have HB64 := Lib.hid hb64
            clear hv hv64 c3 hb64 hnb hbb hnbd hle c4
            go_enter Tryd.func35, Tryd.ntmps35
            go_wp2_with fail
            refine HLow.out.mono ?_
            rintro e w1 ⟨rfl, ⟨k, rfl⟩⟩
            go_wp2_with fail
            refine (bits_Len64.calls 10 x _ _ HB64.out).mono ?_
            rintro e w1 ⟨rfl, ⟨k2, rfl⟩⟩
            go_wp2
            go_ret3
            exact ⟨_, rfl, Eo.wrapped _ 4 (by decide) (by decide), ⟨⟨_, rfl⟩⟩⟩
end Go.Proofs.YtnnhcnmggfhkeaaDoor.Wk

/- The walk of wire's Sum. -/
namespace Go.Proofs.YtnnhcnmggfhkeaaDoor.Wk
open Go.RowKit Go.Proofs.YtnnhcnmggfhkeaaDoorW.PrintWords Go.Proofs.YtnnhcnmggfhkeaaDoorW.PrintLast Go.Proofs.YtnnhcnmggfhkeaaDoorW.PrintMore Go.Proofs.YtnnhcnmggfhkeaaDoor.PWireKnown
set_option linter.unusedVariables false
set_option linter.unusedSimpArgs false

def stepB (c : Nat) (b : Int) : Nat := s8 (c ^^^ b.toNat)
theorem sum_eq (l : List Int) : sum l = l.foldl stepB 4294967295 ^^^ 4294967295 := rfl
theorem half_nat (n : Nat) (h : n < 16) : half.getD n 0 = ((half.getD n 0).toNat : Int) ∧ (half.getD n 0).toNat < 4294967296 := by
  rcases n with _ | _ | _ | _ | _ | _ | _ | _ | _ | _ | _ | _ | _ | _ | _ | _ | n
  all_goals first | exact ⟨rfl, by decide⟩ | omega
/-- One half step: the address, the cell and the answer. -/
theorem half_step (W : World) (B y : Nat) (hy : y < 4294967296) (hcl : ∀ n, n < 16 → W.cell? ⟨B, n, none⟩ = some (.int .u32 (half.getD n 0))) :
    ∃ i h z : Nat, Go.bits .and .u32 (y : Int) 15 = (i : Int) ∧ i < 16 ∧ W.cell? ⟨B, i, none⟩ = some (.int .u32 (h : Int)) ∧ Go.bits .xor .u32 ((y : Int) / 16) (h : Int) = (z : Int) ∧ z = s4 y ∧ z < 4294967296 := by
  have e1 := u32_and_nat y 15 hy (by omega)
  rw [show y &&& 15 = y % 16 from Nat.and_two_pow_sub_one_eq_mod y 4] at e1
  obtain ⟨h1, h2⟩ := half_nat (y % 16) (by omega)
  refine ⟨y % 16, (half.getD (y % 16) 0).toNat, s4 y, e1, by omega, ?_, ?_, rfl, ?_⟩
  · rw [hcl _ (by omega)]
    exact congrArg (fun z => some (Value.int IntKind.u32 z)) h1
  · have := u32_xor_nat (y / 16) _ (by omega) h2
    rw [← s4_half] at this
    exact this
  · exact s0_lt (s0_lt (s0_lt (s0_lt hy)))
def halfCells : Array Value := #[.int .u32 0, .int .u32 274646895, .int .u32 549293790, .int .u32 820201905, .int .u32 1098587580, .int .u32 1361435347, .int .u32 1640403810, .int .u32 1905808397, .int .u32 2197175160, .int .u32 2460548119, .int .u32 2722870694, .int .u32 2987750089, .int .u32 3280807620, .int .u32 3553878443, .int .u32 3811616794, .int .u32 4084100981]
theorem half_cell (n : Nat) (h : n < 16) : halfCells[n]? = some (.int .u32 (half.getD n 0)) := by
  rcases n with _ | _ | _ | _ | _ | _ | _ | _ | _ | _ | _ | _ | _ | _ | _ | _ | n
  all_goals first | rfl | omega

set_option maxHeartbeats 4000000 in
set_option maxRecDepth 100000 in
theorem Sum_calls (w : World) (A : Option Addr) (c : Nat) (l : List Int) (hC : Kd.C (Kd.int .u8) w A l.length l) (hc : l.length ≤ c) (hb : Byt l) (hl : l.length ≤ 140737488355328) :
    Calls Tryd.prog 19 #[.slice A l.length c] w fun e w' => e = .returned (.int .u32 (sum l : Int)) ∧ Below w.heap.size w w' := by
  have HC := Aside0.mk hC
  have HBy := Aside0.mk hb
  have HL := Aside0.mk hl
  clear hC hc hb hl
  go_enter Tryd.func19, Tryd.ntmps19
  go_wp2_with fail
  have hbl : (w.alloc (.cells halfCells 79)).heap[w.heap.size]? = some (.cells halfCells 79 (0, 0)) := by simpa using heap_alloc_new w _
  have hcl : ∀ n, n < 16 → (w.alloc (.cells halfCells 79)).cell? ⟨w.heap.size, n, none⟩ = some (.int .u32 (half.getD n 0)) := fun n hn => (blk_cell hbl n).trans (half_cell n hn)
  have hB1 : Below w.heap.size w (w.alloc (.cells halfCells 79)) := below_alloc (Below.refl _ _) _
  have hC1 := Kd.C_below HC.out hB1
  change Code.wp _ _ _ _ (w.alloc (.cells halfCells 79))
  generalize w.alloc (.cells halfCells 79) = W at *
  have HC1 := Aside0.mk hC1
  have HB1 := Aside0.mk hB1
  have HCl := Lib.hid hcl
  clear hC1 hB1 hcl hbl
  generalize hB0 : w.heap.size = B at *
  go_loopw [4, 10] (fun v4 v10 wr => wr = W ∧ ∃ i : Nat, v10 = .int .i64 i ∧ v4 = .int .u32 ((l.take i).foldl stepB 4294967295 : Nat) ∧ i ≤ l.length) (fun _ v10 _ => l.length - (intOf v10).toNat)
  case atStart => exact ⟨rfl, 0, rfl, rfl, Nat.zero_le _⟩
  case round =>
    obtain ⟨rfl, i, rfl, rfl, hi⟩ := hrel
    have hx : (l.take i).foldl stepB 4294967295 < 4294967296 := crc_go_lt _ _ (HBy.out.take i) (by decide)
    by_cases hlt : i < l.length
    · have blt : decide ((i : Int) < (l.length : Int)) = true := by simp; omega
      have hle : i + 1 ≤ l.length := by clear hx; omega
      have hms : l.length - ((i + 1 : Nat) : Int).toNat < l.length - (i : Int).toNat := by clear hx; omega
      have hw : wrap64 ((i : Int) + 1) = ((i + 1 : Nat) : Int) := by clear hx; have := HL.out; rw [wrap64_id (by omega) (by omega)]; omega
      have hw : Value.int .i64 (wrap64 ((i : Int) + 1)) = .int .i64 ((i + 1 : Nat) : Int) := by rw [hw]
      have HLE := Aside0.mk hle
      have HMS := Aside0.mk hms
      have HWr := Aside0.mk hw
      clear hle hms hw
      obtain ⟨ad, rfl, hcell⟩ := Kd.at_int HC1.out i (by omega) (by omega)
      have hby := rd_byt HBy.out i
      have hnext : (l.take (i + 1)).foldl stepB 4294967295 = s4 (s4 ((l.take i).foldl stepB 4294967295 ^^^ (rd l i).toNat)) := by
        rw [take_at l i hlt, List.foldl_append]
        rfl
      obtain ⟨b, hb⟩ : ∃ b : Nat, rd l (i : Int) = b := ⟨(rd l (i : Int)).toNat, by omega⟩
      rw [hb] at hcell hby hnext
      rw [Int.toNat_natCast] at hnext
      generalize (l.take i).foldl stepB 4294967295 = x at *
      have e1 : Go.bits .xor .u32 (x : Int) (b : Int) = ((x ^^^ b : Nat) : Int) := u32_xor_nat x b hx (by omega)
      have hy : x ^^^ b < 4294967296 := xor_lt32 hx (by omega)
      generalize x ^^^ b = y at *
      obtain ⟨i1, h1, z, e2, l1, c1, e3, hz1, hz⟩ := half_step wr B y hy HCl.out
      obtain ⟨i2, h2, t, e4, l2, c2, e5, ht1, ht⟩ := half_step wr B z hz HCl.out
      rw [← hz1, ← ht1] at hnext
      rw [Int.toNat_natCast] at hcell
      have HN := Lib.hid hnext
      clear hz1 ht1 hx hy hz ht hnext
      go_wp2_with fail
      refine ⟨⟨trivial, i + 1, HWr.out, by rw [HN.out], HLE.out⟩, ?_⟩
      rw [HWr.out]
      exact HMS.out
    · have blt : decide ((i : Int) < (l.length : Int)) = false := by simp; omega
      rw [show i = l.length by omega, List.take_length]
      have hxl : l.foldl stepB 4294967295 < 4294967296 := crc_go_lt _ _ HBy.out (by decide)
      have hs := u32_xor_nat 4294967295 (l.foldl stepB 4294967295) (by omega) hxl
      rw [Nat.xor_comm, ← sum_eq] at hs
      have HS := Lib.hid hs
      generalize l.foldl stepB 4294967295 = x at *
      clear hx hxl hs
      go_wp2
      go_ret
      subst hB0
      exact ⟨congrArg (fun z => Ending.returned (.int .u32 z)) HS.out, HB1.out⟩
end Go.Proofs.YtnnhcnmggfhkeaaDoor.Wk

/- The walk of wire's Frame. -/
namespace Go.Proofs.YtnnhcnmggfhkeaaDoor.Wk
open Go.RowKit Go.Proofs.YtnnhcnmggfhkeaaDoorW.PrintWords Go.Proofs.YtnnhcnmggfhkeaaDoorW.PrintLast Go.Proofs.YtnnhcnmggfhkeaaDoorW.PrintMore Go.Proofs.YtnnhcnmggfhkeaaDoor.PWireKnown
set_option linter.unusedVariables false
set_option linter.unusedSimpArgs false

def frameAns (x : Nat) (p : List Int) : List Int × Int := if 65536 < p.length then ([], 5) else (frame x p, 0)
def FramePost (w : World) (q : List Int × Int) (e : Ending) (w' : World) : Prop := ∃ v E, e = .returned (.tuple #[v, E]) ∧ Kd.R (Kd.int .u8) 5 w' w.heap.size (fun _ => True) v q.1 ∧ Eo E q.2 ∧ Below w.heap.size w w'
theorem frame_small (x : Nat) (p : List Int) (h : ¬ 65536 < p.length) : frameAns x p = (frame x p, 0) := if_neg h
theorem frame_big (x : Nat) (p : List Int) (h : 65536 < p.length) : frameAns x p = ([], 5) := if_pos h

set_option maxHeartbeats 4000000 in
set_option maxRecDepth 100000 in
theorem Frame_calls (w : World) (x : Nat) (A : Option Addr) (c : Nat) (p : List Int) (hC : Kd.C (Kd.int .u8) w A p.length p) (hc : p.length ≤ c) (hb : Byt p) (hx : x < 2 ^ 64) (hl : p.length ≤ 140737488351232) :
    Calls Tryd.prog 20 #[.int .u64 (x : Int), .slice A p.length c] w (FramePost w (frameAns x p)) := by
  by_cases hbig : 65536 < p.length
  · rw [frame_big x p hbig]
    have b1 : decide ((65536 : Int) < p.length) = true := by simp; omega
    clear hC hc hb hx hl
    go_enter Tryd.func20, Tryd.ntmps20
    go_wp2
    go_ret2
    exact ⟨_, _, rfl, Kd.R_nil _ _ _ _ _, Eo.wrapped _ 5 (by decide) (by decide), Below.refl _ _⟩
  · rw [frame_small x p hbig]
    have b1 : decide ((65536 : Int) < p.length) = false := by simp; omega
    have he := enc_length x hx
    have hep := enc_length p.length (by omega)
    have hby := (enc_byt x hx).append hb
    have hsl := sum_lt hby
    have p1 := put_ok 10 [] x (by omega) hx (by simp)
    have p2 := put_ok 10 [] p.length (by omega) (by omega) (by simp)
    rw [List.nil_append] at p1 p2
    have hhl : (enc p.length ++ enc x).length + 4 < 140737488355328 := by rw [List.length_append]; omega
    have p3 := high_ok 4 10 (enc p.length ++ enc x) (sum (enc x ++ p)) (by omega) (by omega) hhl
    have hfr : enc p.length ++ enc x ++ be 4 (sum (enc x ++ p)) ++ p = frame x p := rfl
    have hl4 : (enc p.length ++ enc x ++ be 4 (sum (enc x ++ p))).length ≤ 22 := by rw [List.length_append, List.length_append, be_length]; omega
    have hwr : IntKind.u64.wrap ((sum (enc x ++ p) : Nat) : Int) = ((sum (enc x ++ p) : Nat) : Int) := by rw [u64_wrap]; generalize sum (enc x ++ p) = q at hsl; omega
    have HWr := Lib.hid hwr
    clear hwr
    have P1 := Aside0.mk p1
    have P2 := Aside0.mk p2
    have P3 := Aside0.mk p3
    have HC := Aside0.mk hC
    have HFr := Lib.hid hfr
    have HBy := Aside0.mk hby
    have H4 := Aside0.mk hl4
    have hlx : (enc x ++ p).length ≤ 140737488355328 := by rw [List.length_append]; omega
    have HLx := Aside0.mk hlx
    have hpe : (enc p.length).length + (enc x).length ≤ 18 := by omega
    have HPe := Aside0.mk hpe
    have HE := Aside0.mk he
    have hpl : p.length ≤ 65536 := by omega
    clear p1 p2 p3 hC hb hx hfr hby hl4 hhl hsl hep he hlx hpe hl
    generalize be 4 (sum (enc x ++ p)) = sb at *
    go_enter Tryd.func20, Tryd.ntmps20
    go_wp2_with fail
    refine (wire_put.calls 10 (fun _ => False) (.slice none 0 0) [] (x : Int) (enc x) w _ (Below.refl _ _) (Kd.R_nil _ _ _ _ _) P1.out).mono ?_
    rintro e w1 ⟨v1, rfl, hR1, hB1, -⟩
    obtain ⟨A1, c1, rfl, hc1, hC1⟩ := Kd.R_reads hR1
    have HC1 := Aside0.mk hC1
    have HB1 := Aside0.mk hB1
    have Hc1 := Aside0.mk hc1
    clear hR1 hC1 hB1 hc1
    have hn1 : (enc x).length ≤ 9 := HE.out.2
    have hm1 : 1 ≤ (enc x).length := HE.out.1
    go_wp2_with fail
    refine (Clone_any w1 w1 A1 c1 (enc x) (Below.refl _ _) HC1.out (by omega)).mono ?_
    rintro e w2 ⟨v2, rfl, hR2, hB2, -⟩
    have HR2 := Aside0.mk hR2
    have HB2 := Aside0.mk hB2
    have HCp := Aside0.mk (Kd.C_below HC.out (below_step HB1.out hB2))
    obtain ⟨A2, n2, c2, rfl⟩ := R_slice_any hR2
    clear hR2 hB2
    go_wp2_with (first | ((with_reducible refine gate_builtin (b := .append) (xs := #[.tmp 17, .tmp 18]) rfl ?_); at_builtin; refine Kd.R_append_row (Value.int .u8) (0 : Int) (h1 := fun _ => rfl) (w0 := w1) w1.heap.size rfl (.tmp 17) (.tmp 18) 29 5 (.int .u8 0) 1 rfl Tryd.underlying29 info5 rfl (by decide) _ (enc x) p A p.length c (fun k => w1.heap.size ≤ k) rfl rfl (fun k hk => Nat.le_trans HB2.out.size hk) HR2.out HCp.out HB2.out HB2.out.size (by omega) ?_; intro v3 w3 h1 h2 h3 h4; have HR3 := Aside0.mk h1; have HB3 := Aside0.mk h2; clear h1 h2 h3 h4))
    obtain ⟨A3, c3, rfl, hc3, hC3⟩ := Kd.R_reads HR3.out
    refine (Sum_calls w3 A3 c3 (enc x ++ p) hC3 hc3 HBy.out HLx.out).mono ?_
    rintro e w4 ⟨rfl, hB4⟩
    have HB4 := Aside0.mk (below_step HB3.out hB4)
    clear hB4 hC3 hc3
    go_wp2_with fail
    refine (wire_put.calls 10 (fun _ => False) (.slice none 0 0) [] (p.length : Int) (enc p.length) w4 _ (Below.refl _ _) (Kd.R_nil _ _ _ _ _) P2.out).mono ?_
    rintro e w5 ⟨v5, rfl, hR5, hB5, -⟩
    have HR5 := Aside0.mk (Kd.R_mono (ok' := fun k => w4.heap.size ≤ k) hR5 (fun k hk => hk.elim (fun h => h.elim) id))
    have HB5 := Aside0.mk hB5
    have HB15 := Aside0.mk (below_step HB4.out hB5)
    have HCi := Aside0.mk (Kd.C_below HC1.out HB15.out)
    clear hR5 hB5
    obtain ⟨A5, n5, c5, rfl⟩ := R_slice_any HR5.out
    go_wp2_with (first | ((with_reducible refine gate_builtin (b := .append) (xs := #[.tmp 24, .tmp 25]) rfl ?_); at_builtin; refine Kd.R_append_row (Value.int .u8) (0 : Int) (h1 := fun _ => rfl) (w0 := w4) w4.heap.size rfl (.tmp 24) (.tmp 25) 29 5 (.int .u8 0) 1 rfl Tryd.underlying29 info5 rfl (by decide) _ (enc p.length) (enc x) A1 (enc x).length c1 (fun k => w4.heap.size ≤ k) rfl rfl (fun k hk => Nat.le_trans HB5.out.size hk) HR5.out HCi.out HB5.out HB5.out.size (by have := HPe.out; omega) ?_; intro v6 w6 h1 h2 h3 h4; have HR6 := Aside0.mk h1; have HB6 := Aside0.mk h2; clear h1 h2 h3 h4))
    obtain ⟨A6, n6, c6, rfl⟩ := R_slice_any HR6.out
    rw [HWr.out]
    refine (wire_high.calls 10 (fun k => w4.heap.size ≤ k) _ (enc p.length ++ enc x) _ 4 _ w4 _ HB6.out HR6.out P3.out).mono ?_
    rintro e w7 ⟨v7, rfl, hR7, hB7, -⟩
    have HR7 := Aside0.mk (Kd.R_mono (ok' := fun k => w4.heap.size ≤ k) hR7 (fun k hk => hk.elim id (fun h => Nat.le_trans HB6.out.size h)))
    have HB7 := Aside0.mk hB7
    have HCq := Aside0.mk (Kd.C_below HC.out (below_step HB1.out (below_step HB4.out hB7)))
    clear hR7 hB7
    obtain ⟨A7, n7, c7, rfl⟩ := R_slice_any HR7.out
    go_wp2_with (first | ((with_reducible refine gate_builtin (b := .append) (xs := #[.tmp 30, .tmp 31]) rfl ?_); at_builtin; refine Kd.R_append_row (Value.int .u8) (0 : Int) (h1 := fun _ => rfl) (w0 := w4) w4.heap.size rfl (.tmp 30) (.tmp 31) 29 5 (.int .u8 0) 1 rfl Tryd.underlying29 info5 rfl (by decide) _ (enc p.length ++ enc x ++ sb) p A p.length c (fun k => w4.heap.size ≤ k) rfl rfl (fun k hk => Nat.le_trans HB7.out.size hk) HR7.out HCq.out HB7.out HB7.out.size (by have := H4.out; omega) ?_; intro v8 w8 h1 h2 h3 h4; have HR8 := Aside0.mk h1; have HB8 := Aside0.mk h2; clear h1 h2 h3 h4))
    go_ret2
    refine ⟨_, _, rfl, ?_, Eo.nil, below_step HB1.out (below_step HB4.out HB8.out)⟩
    have h8 := Kd.R_lower (Kd.R_mono (ok' := fun _ => True) HR8.out (fun _ _ => trivial)) (below_step HB1.out HB4.out).size
    rw [HFr.out] at h8
    exact h8
end Go.Proofs.YtnnhcnmggfhkeaaDoor.Wk

/- The walk of wire's Unframe. -/
namespace Go.Proofs.YtnnhcnmggfhkeaaDoor.Wk
open Go.RowKit Go.Proofs.YtnnhcnmggfhkeaaDoorW.PrintWords Go.Proofs.YtnnhcnmggfhkeaaDoorW.PrintLast Go.Proofs.YtnnhcnmggfhkeaaDoorW.PrintMore Go.Proofs.YtnnhcnmggfhkeaaDoor.PWireKnown
set_option linter.unusedVariables false
set_option linter.unusedSimpArgs false

/-- b[m:] of bytes that are read. -/
theorem cut_bytes (A : Option Addr) (c : Nat) (xs : List Int) (m : Nat) (hm : m ≤ xs.length) (hc : xs.length ≤ c) :
    ∃ A' : Option Addr, (∀ W : World, (Instr.slice 29 (.slice A xs.length c) (some (.int .i64 (m : Int))) none none).run Tryd.prog W = .ok (.slice A' (xs.drop m).length (c - m)) W) ∧
      (∀ w : World, (Kd.int .u8).C w A xs.length xs → (Kd.int .u8).C w A' (xs.drop m).length (xs.drop m)) ∧ (∀ Q : Nat → Prop, (∀ ad, A = some ad → Q ad.block) → ∀ ad, A' = some ad → Q ad.block) := by
  obtain ⟨i5, hi5, hz5⟩ := Option.map_eq_some_iff.1 info5
  simp only [Prod.mk.injEq] at hz5
  have hel : Tryd.prog.elem 29 = 5 := by simp [Program.elem, Tryd.underlying29]
  have hu : Tryd.prog.underlying 29 = some (.slice (Tryd.prog.elem 29)) := by rw [hel]; exact Tryd.underlying29
  refine ⟨if c = m then A else A.map (·.add m), fun W => ?_, fun w h => ?_, fun Q hA ad e => ?_⟩
  · rw [run_slice_l W 29 A xs.length c hu .i64 (m : Int) (Int.natCast_nonneg _) (by omega), hel]
    simp [sizeOf, typeInfo, hi5, hz5.2.1, sliced, Result.andThen]
  · have h2 := (Kd.reads_of_C (enc := Value.int .u8) (d := (0 : Int)) (h1 := fun _ => rfl) h).drop_ (c := c) m hm hc
    rw [List.length_drop]
    exact Kd.C_of_reads (enc := Value.int .u8) (d := (0 : Int)) (h1 := fun _ => rfl) h2
  · split at e
    · exact hA ad e
    · cases A with
      | none => cases e
      | some a0 =>
        simp only [Option.map_some, Option.some.injEq] at e
        have : ad.block = a0.block := by rw [← e]; unfold Addr.add; split <;> rfl
        rw [this]
        exact hA a0 rfl
theorem Clone_at (w0 w : World) (A : Option Addr) (n c : Nat) (l : List Int) (hn : n = l.length) (hB : Below w0.heap.size w0 w) (hC : Kd.C (Kd.int .u8) w A l.length l) (hl : l.length ≤ 140737488355328) :
    Calls Tryd.prog 29 #[.slice A n c] w fun e w' => ∃ v', e = .returned v' ∧ Kd.R (Kd.int .u8) 5 w' w0.heap.size (fun k => w.heap.size ≤ k) v' l ∧ Below w0.heap.size w0 w' ∧ Below w.heap.size w w' := by
  subst hn
  exact Clone_any w0 w A c l hB hC hl
theorem number_at (w : World) (A : Option Addr) (n c : Nat) (l : List Int) (hn : n = l.length) (hC : Kd.C (Kd.int .u8) w A l.length l) (hc : l.length ≤ c) (hb : Byt l) (hl : l.length ≤ 140737488355328) :
    Calls Tryd.prog 35 #[.slice A n c] w (NumPost w (num l)) := by
  subst hn
  exact number_calls w A c l hC hc hb hl
theorem low_at (w : World) (A : Option Addr) (n c : Nat) (l : List Int) (hn : n = l.length) (h8 : l.length ≤ 8) (hC : Kd.C (Kd.int .u8) w A l.length l) (hc : l.length ≤ c) (hb : Byt l) :
    Calls Tryd.prog 36 #[.slice A n c] w fun e w' => e = .returned (.int .u64 (val l : Int)) ∧ Drawn0 w w' := by
  subst hn
  exact wire_low.calls 10 A c l (val l) w hC hc (low_ok 10 l hb h8 (by omega))
theorem Drawn0.below {w w' : World} (h : Drawn0 w w') : Below w.heap.size w w' := by
  obtain ⟨k, rfl⟩ := h
  exact pw_below_drewN (Below.refl _ _) k

def UnfPost (w : World) (q : Nat × List Int × Nat × Int) (e : Ending) (w' : World) : Prop := ∃ v E, e = .returned (.tuple #[.int .u64 (q.1 : Int), v, .int .i64 (q.2.2.1 : Int), E]) ∧ Kd.R (Kd.int .u8) 5 w' w.heap.size (fun _ => True) v q.2.1 ∧ Eo E q.2.2.2 ∧ Below w.heap.size w w'
theorem UnfPost.none (w w' : World) (E : Value) (n : Int) (h : Eo E n) (hb : Below w.heap.size w w') : UnfPost w (0, [], 0, n) (.returned (.tuple #[.int .u64 0, .slice none 0 0, .int .i64 0, E])) w' := ⟨_, _, rfl, Kd.R_nil _ _ _ _ _, h, hb⟩

theorem sums (n m : Nat) (hn : n ≤ 9) (hm : m ≤ 9) : ((n + m + 4 : Nat) : Int) = (n : Int) + m + 4 ∧ ((n + m : Nat) : Int) = wrap64 ((n : Int) + m) ∧ wrap64 ((n : Int) + m) + ((4 : Nat) : Int) = (n : Int) + m + 4 ∧ ((n : Int) + (m : Int)) = wrap64 ((n : Int) + m) := by
  have e : wrap64 ((n : Int) + m) = (n : Int) + m := wrap64_id (by omega) (by omega)
  rw [e]
  refine ⟨?_, ?_, ?_, rfl⟩ <;> omega
theorem rest_short (l : List Int) (size n x m : Nat) (h : l.length < n + m + 4 + size) : rest l size n x m = (0, [], 0, 2) := by
  unfold rest
  rw [if_pos h]
theorem rest_long (l : List Int) (size n x m : Nat) (h : ¬ l.length < n + m + 4 + size) : rest l size n x m = if sum ((l.drop n).take m ++ (l.drop (n + m + 4)).take size) = val ((l.drop (n + m)).take 4) then (x, (l.drop (n + m + 4)).take size, n + m + 4 + size, 0) else (0, [], 0, 7) := by
  unfold rest
  rw [if_neg h]
  by_cases c : sum ((l.drop n).take m ++ (l.drop (n + m + 4)).take size) = val ((l.drop (n + m)).take 4)
  · rw [if_pos c, if_neg (fun h => h c)]
  · rw [if_neg c, if_pos c]
theorem Sum_at (w : World) (A : Option Addr) (n c : Nat) (l : List Int) (hn : n = l.length) (hC : Kd.C (Kd.int .u8) w A n l) (hc : n ≤ c) (hb : Byt l) (hl : l.length ≤ 140737488355328) :
    Calls Tryd.prog 19 #[.slice A n c] w fun e w' => e = .returned (.int .u32 (sum l : Int)) ∧ Below w.heap.size w w' := by
  subst hn
  exact Sum_calls w A c l hC hc hb hl

set_option maxHeartbeats 4000000 in
set_option maxRecDepth 100000 in
theorem Unframe_calls (w : World) (A : Option Addr) (c : Nat) (l : List Int) (hC : Kd.C (Kd.int .u8) w A l.length l) (hc : l.length ≤ c) (hb : Byt l) (hl : l.length ≤ 140737488351232) :
    Calls Tryd.prog 21 #[.slice A l.length c] w (UnfPost w (unframe l)) := by
  obtain ⟨N1, N2, N3, N4⟩ := num_bounds hb
  have hl2 := hb.drop (num l).2.1
  obtain ⟨M1, M2, M3, M4⟩ := num_bounds hl2
  have Hn := number_calls w A c l hC hc hb (by omega)
  have Hn := Lib.hid Hn
  rw [unframe]
  generalize num l = q at *
  obtain ⟨size, n, e1⟩ := q
  dsimp only at *
  obtain ⟨A1, hsl1, hrd1, -⟩ := cut_bytes A c l n N2 hc
  obtain ⟨n2, hn2⟩ : ∃ n2, (l.drop n).length = n2 := ⟨_, rfl⟩
  have Hm := fun (k : Nat) => number_at (w.drewN k) A1 n2 (c - n) (l.drop n) hn2.symm (hrd1 w hC) (by rw [List.length_drop]; omega) hl2 (by rw [List.length_drop]; omega)
  rw [hn2] at hsl1
  have HN2 := Lib.hid hn2
  clear hn2
  obtain ⟨cc, hcc⟩ : ∃ cc, c - n = cc := ⟨_, rfl⟩
  rw [hcc] at hsl1 Hm
  clear hcc
  have Hm := Lib.hid Hm
  generalize num (l.drop n) = q2 at *
  obtain ⟨x, m, e2⟩ := q2
  dsimp only at *
  by_cases c1 : e1 = 0
  · subst c1
    rw [if_neg (show ¬ ((0 : Int) ≠ 0) by simp)]
    by_cases c2 : 65536 < size
    · have b2 : decide ((65536 : Int) < size) = true := by simp; omega
      rw [if_pos c2]
      clear hC hc hb hl hl2 N1 N2 N3 N4 M1 M2 M3 M4 hsl1 hrd1
      go_enter Tryd.func21, Tryd.ntmps21
      go_wp2_with fail
      refine Hn.out.mono ?_
      rintro e w1 ⟨E1, rfl, hE1, hD1⟩
      obtain rfl := Eo.zero hE1
      have HD1 := Lib.hid hD1
      clear hE1 hD1
      go_wp2
      refine bodyPost_ret (results_list (rs := [.tmp 2, .tmp 3, .tmp 4, .tmp 5]) rfl (by simp) (.tmp (.tmp (.tmp (.tmp .nil))))) rfl ?_
      exact UnfPost.none _ _ _ 5 (Eo.no 5 (by decide) (by decide)) (Drawn0.below HD1.out)
    · have b2 : decide ((65536 : Int) < size) = false := by simp; omega
      rw [if_neg c2]
      by_cases c3 : e2 = 0
      · subst c3
        rw [if_neg (show ¬ ((0 : Int) ≠ 0) by simp)]
        by_cases c4 : l.length < n + m + 4 + size
        · rw [rest_short l size n x m c4]
          obtain ⟨L, hL⟩ : ∃ L, l.length = L := ⟨_, rfl⟩
          rw [hL] at hsl1 c4 hl Hn ⊢
          have b4 : decide ((L : Int) - ((n : Int) + m + 4) < size) = true := by simp; omega
          clear hL hC hc hb hl2 N1 N2 N4 M1 M2 M4 hrd1
          go_enter Tryd.func21, Tryd.ntmps21
          go_wp2_with fail
          refine Hn.out.mono ?_
          rintro e w1 ⟨E1, rfl, hE1, ⟨k1, rfl⟩⟩
          obtain rfl := Eo.zero hE1
          clear hE1
          go_wp2_with fail
          refine (Hm.out k1).mono ?_
          rintro e w2 ⟨E2, rfl, hE2, hD2⟩
          obtain rfl := Eo.zero hE2
          have HD2 := Lib.hid hD2
          clear hE2 hD2
          go_wp2
          refine bodyPost_ret (results_list (rs := [.tmp 2, .tmp 3, .tmp 4, .tmp 5]) rfl (by simp) (.tmp (.tmp (.tmp (.tmp .nil))))) rfl ?_
          exact UnfPost.none _ _ _ 2 (Eo.no 2 (by decide) (by decide)) (below_step (pw_below_drewN (Below.refl _ _) k1) (Drawn0.below HD2.out))
        · have hrest := rest_long l size n x m c4
          have HRest := Lib.hid hrest
          clear hrest
          obtain ⟨A3, hsl3, hrd3⟩ := mid_bytes A c l (n + m + 4) size (by omega) hc
          obtain ⟨A4, hsl4, hrd4⟩ := mid_bytes A c l n m (by omega) hc
          obtain ⟨A5, hsl5, hrd5⟩ := mid_bytes A c l (n + m) 4 (by omega) hc
          have l4 : ((l.drop n).take m).length = m := by rw [List.length_take, List.length_drop]; omega
          have l3 : ((l.drop (n + m + 4)).take size).length = size := by rw [List.length_take, List.length_drop]; omega
          have l5 : ((l.drop (n + m)).take 4).length = 4 := by rw [List.length_take, List.length_drop]; omega
          have hr3 := hrd3 w hC
          have hr4 := hrd4 w hC
          have hr5 := hrd5 w hC
          have by3 := (hb.drop (n + m + 4)).take size
          have by4 := (hb.drop n).take m
          have by5 := (hb.drop (n + m)).take 4
          have hc5 : ((l.drop (n + m)).take 4).length ≤ c - (n + m) := by rw [l5]; omega
          obtain ⟨e3, e5, e5b, e4⟩ := sums n m N3 M3
          rw [e3] at hsl3
          rw [e5, e5b] at hsl5
          rw [e4] at hsl4
          generalize (l.drop n).take m = y1 at *
          generalize (l.drop (n + m + 4)).take size = y2 at *
          generalize (l.drop (n + m)).take 4 = y3 at *
          obtain ⟨L, hL⟩ : ∃ L, l.length = L := ⟨_, rfl⟩
          rw [hL] at hsl1 hsl3 hsl4 hsl5 c4 hl Hn ⊢
          have b4 : decide ((L : Int) - ((n : Int) + m + 4) < size) = false := by simp; omega
          obtain ⟨c3', hc3'⟩ : ∃ z, c - (n + m + 4) = z := ⟨_, rfl⟩
          obtain ⟨c4', hc4'⟩ : ∃ z, c - n = z := ⟨_, rfl⟩
          obtain ⟨c5, hc5'⟩ : ∃ z, c - (n + m) = z := ⟨_, rfl⟩
          rw [hc3'] at hsl3
          rw [hc4'] at hsl4
          rw [hc5'] at hsl5 hc5
          have HR3 := Aside0.mk hr3
          have HL3 := Aside0.mk l3
          have HR4_ := Aside0.mk hr4
          have HL4 := Aside0.mk l4
          have HR5_ := Aside0.mk hr5
          have HL5 := Aside0.mk l5
          have Hc5 := Aside0.mk hc5
          have HB5 := Aside0.mk by5
          have HBy := Aside0.mk (by4.append by3)
          have HL12 := Aside0.mk l3
          have hy : m + size = (y1 ++ y2).length := by rw [List.length_append, l4, l3]
          have HY := Lib.hid hy
          have hv5 := val_lt by5
          rw [l5] at hv5
          have hs5 := sum_lt (by4.append by3)
          obtain ⟨bb, hbb⟩ : ∃ b, (((sum (y1 ++ y2) : Nat) : Int) == ((val y3 : Nat) : Int)) = b := ⟨_, rfl⟩
          have hbb2 : bb = decide (sum (y1 ++ y2) = val y3) := by
            rw [← hbb]
            exact Bool.eq_iff_iff.2 (by rw [beq_iff_eq, decide_eq_true_iff, Int.ofNat_inj])
          have hu5 : IntKind.u32.wrap ((val y3 : Nat) : Int) = ((val y3 : Nat) : Int) := by
            have z : ∀ q : Nat, q < 256 ^ 4 → IntKind.u32.wrap (q : Int) = (q : Int) := by
              intro q hq
              simp [IntKind.wrap, IntKind.bits, IntKind.signed]
              have : (256 : Nat) ^ 4 = 4294967296 := rfl
              omega
            exact z _ hv5
          have Hbb2 := Aside0.mk hbb2
          clear hbb2 hL hC hc hb hl2 N1 N2 N4 M1 M2 M4 hrd1 hrd3 hrd4 hrd5 hr3 hr4 hr5 l3 l4 l5 by3 by4 by5 hc5 hy hv5 hs5 e3 e4 e5 e5b hc3' hc4' hc5'
          go_enter Tryd.func21, Tryd.ntmps21
          go_wp2_with fail
          refine Hn.out.mono ?_
          rintro e w1 ⟨E1, rfl, hE1, ⟨k1, rfl⟩⟩
          obtain rfl := Eo.zero hE1
          clear hE1
          go_wp2_with fail
          refine (Hm.out k1).mono ?_
          rintro e w2 ⟨E2, rfl, hE2, hD2⟩
          obtain rfl := Eo.zero hE2
          have hB2 := below_step (pw_below_drewN (Below.refl w.heap.size w) k1) (Drawn0.below hD2)
          have HB2 := Aside0.mk hB2
          clear hE2 hD2 hB2
          go_wp2_with fail
          refine (Clone_at w w2 A3 size c3' y2 HL3.out.symm HB2.out (Kd.C_below HR3.out HB2.out) (by have := HL3.out; omega)).mono ?_
          rintro e W12 ⟨v12, rfl, hR12, hB12, -⟩
          obtain ⟨A12, c12, rfl, hc12, hC12⟩ := Kd.R_reads hR12
          have HR12 := Aside0.mk hR12
          have HB12 := Aside0.mk hB12
          have HC12 := Aside0.mk hC12
          have HR4 := Aside0.mk (Kd.C_below HR4_.out hB12)
          have HR5 := Aside0.mk (Kd.C_below HR5_.out hB12)
          clear hR12 hB12 hC12 hc12
          go_wp2_with fail
          refine start_ (n := 18) (S := fun w' => True) (ds := []) #[false, false, false, false, false, false, false, false, false, false, false, false, false, false, false, false, false, false] (by kernel_rfl) rfl rfl trivial (fun hHeld => ?_)
          refine pure_ (i := 0) (N := some 56) (v := ?_) (a' := ?_) #[true, false, false, false, false, false, false, false, false, false, false, false, false, false, false, false, false, false] rfl rfl (by kernel_rfl) (fun _ _ _ h => h) (Or.inl ⟨by rfl, ?_⟩) ?_ ?_
          rotate_left
          · intro w'
            go_simp
            with_reducible rfl
          rotate_left
          · simp only [Act.put, List.setIfInBounds_toArray, List.set_cons_zero, List.set_cons_succ, i64_w, i32_w]
            rfl
          refine pure_ (i := 1) (N := some 57) (v := ?_) (a' := ?_) #[true, true, false, false, false, false, false, false, false, false, false, false, false, false, false, false, false, false] rfl rfl (by kernel_rfl) (fun _ _ _ h => h) (Or.inl ⟨by rfl, ?_⟩) ?_ ?_
          rotate_left
          · intro w'
            go_simp
            with_reducible rfl
          rotate_left
          · simp only [Act.put, List.setIfInBounds_toArray, List.set_cons_zero, List.set_cons_succ, i64_w, i32_w]
            rfl
          refine pure_ (i := 2) (N := some 58) (v := ?_) (a' := ?_) #[true, true, true, false, false, false, false, false, false, false, false, false, false, false, false, false, false, false] rfl rfl (by kernel_rfl) (fun _ _ _ h => h) (Or.inl ⟨by rfl, ?_⟩) ?_ ?_
          rotate_left
          · intro w'
            go_simp
            with_reducible rfl
          rotate_left
          · simp only [Act.put, List.setIfInBounds_toArray, List.set_cons_zero, List.set_cons_succ, i64_w, i32_w]
            rfl
          refine pure_ (i := 3) (N := some 59) (v := ?_) (a' := ?_) #[true, true, true, true, false, false, false, false, false, false, false, false, false, false, false, false, false, false] rfl rfl (by kernel_rfl) (fun _ _ _ h => h) (Or.inl ⟨by rfl, ?_⟩) ?_ ?_
          rotate_left
          · intro w'
            go_simp
            with_reducible rfl
          rotate_left
          · simp only [Act.put, List.setIfInBounds_toArray, List.set_cons_zero, List.set_cons_succ, i64_w, i32_w]
            rfl
          refine pure_ (i := 4) (N := some 60) (v := ?_) (a' := ?_) #[true, true, true, true, true, false, false, false, false, false, false, false, false, false, false, false, false, false] rfl rfl (by kernel_rfl) (fun _ _ _ h => h) (Or.inl ⟨by rfl, ?_⟩) ?_ ?_
          rotate_left
          · intro w'
            go_simp
            with_reducible rfl
          rotate_left
          · simp only [Act.put, List.setIfInBounds_toArray, List.set_cons_zero, List.set_cons_succ, i64_w, i32_w]
            rfl
          refine pure_ (i := 5) (N := some 61) (v := ?_) (a' := ?_) #[true, true, true, true, true, true, false, false, false, false, false, false, false, false, false, false, false, false] rfl rfl (by kernel_rfl) (fun _ _ _ h => h) (Or.inl ⟨by rfl, ?_⟩) ?_ ?_
          rotate_left
          · intro w'
            go_simp
            with_reducible rfl
          rotate_left
          · simp only [Act.put, List.setIfInBounds_toArray, List.set_cons_zero, List.set_cons_succ, i64_w, i32_w]
            rfl
          refine pure_ (i := 7) (N := some 63) (v := ?_) (a' := ?_) #[true, true, true, true, true, true, false, true, false, false, false, false, false, false, false, false, false, false] rfl rfl (by kernel_rfl) (fun _ _ _ h => h) (Or.inl ⟨by rfl, ?_⟩) ?_ ?_
          rotate_left
          · intro w'
            go_simp
            with_reducible rfl
          rotate_left
          · simp only [Act.put, List.setIfInBounds_toArray, List.set_cons_zero, List.set_cons_succ, i64_w, i32_w]
            rfl
          refine pure_ (i := 10) (N := some 66) (v := ?_) (a' := ?_) #[true, true, true, true, true, true, false, true, false, false, true, false, false, false, false, false, false, false] rfl rfl (by kernel_rfl) (fun _ _ _ h => h) (Or.inl ⟨by rfl, ?_⟩) ?_ ?_
          rotate_left
          · intro w'
            go_simp
            with_reducible rfl
          rotate_left
          · simp only [Act.put, List.setIfInBounds_toArray, List.set_cons_zero, List.set_cons_succ, i64_w, i32_w]
            rfl
          refine pure_ (i := 11) (N := some 67) (v := ?_) (a' := ?_) #[true, true, true, true, true, true, false, true, false, false, true, true, false, false, false, false, false, false] rfl rfl (by kernel_rfl) (fun _ _ _ h => h) (Or.inl ⟨by rfl, ?_⟩) ?_ ?_
          rotate_left
          · intro w'
            go_simp
            with_reducible rfl
          rotate_left
          · simp only [Act.put, List.setIfInBounds_toArray, List.set_cons_zero, List.set_cons_succ, i64_w, i32_w]
            rfl
          refine pure_ (i := 12) (N := some 68) (v := ?_) (a' := ?_) #[true, true, true, true, true, true, false, true, false, false, true, true, true, false, false, false, false, false] rfl rfl (by kernel_rfl) (fun _ _ _ h => h) (Or.inl ⟨by rfl, ?_⟩) ?_ ?_
          rotate_left
          · intro w'
            go_simp
            with_reducible rfl
          rotate_left
          · simp only [Act.put, List.setIfInBounds_toArray, List.set_cons_zero, List.set_cons_succ, i64_w, i32_w]
            rfl
          refine pure_ (i := 13) (N := some 69) (v := ?_) (a' := ?_) #[true, true, true, true, true, true, false, true, false, false, true, true, true, true, false, false, false, false] rfl rfl (by kernel_rfl) (fun _ _ _ h => h) (Or.inl ⟨by rfl, ?_⟩) ?_ ?_
          rotate_left
          · intro w'
            go_simp
            with_reducible rfl
          rotate_left
          · simp only [Act.put, List.setIfInBounds_toArray, List.set_cons_zero, List.set_cons_succ, i64_w, i32_w]
            rfl
          refine pure_ (i := 14) (N := some 70) (v := ?_) (a' := ?_) #[true, true, true, true, true, true, false, true, false, false, true, true, true, true, true, false, false, false] rfl rfl (by kernel_rfl) (fun _ _ _ h => h) (Or.inl ⟨by rfl, ?_⟩) ?_ ?_
          rotate_left
          · intro w'
            go_simp
            with_reducible rfl
          rotate_left
          · simp only [Act.put, List.setIfInBounds_toArray, List.set_cons_zero, List.set_cons_succ, i64_w, i32_w]
            rfl
          refine one_ (i := 6) (N := some 62) #[true, true, true, true, true, true, true, true, false, false, true, true, true, true, true, false, false, false] rfl rfl (by kernel_rfl) (by decide) (fun K hK => ?_)
          refine goes_ Tryd.func29 (by kernel_rfl) rfl #[.slice A4 m c4'] (by rfl) rfl rfl (by simp only [List.map_toArray, List.map_cons, List.map_nil]; rfl) ?_
          with_reducible refine (Clone_at W12 _ A4 m c4' y1 HL4.out.symm (below_drew (Below.refl _ _)) (Kd.C_drew HR4.out) (by have := HL4.out; omega)).mono ?_
          rintro e w6 ⟨v6, rfl, hR6, hB6, -⟩
          refine ⟨_, rfl, ?_⟩
          have HR6 := Aside0.mk (Kd.R_mono (ok' := fun k => W12.heap.size ≤ k) hR6 (fun k hk => hk))
          have HB6 := Aside0.mk hB6
          have HC6 := Aside0.mk (Kd.C_below HC12.out hB6)
          obtain ⟨A6, n6, c6, rfl⟩ := R_slice_any hR6
          clear hR6 hB6
          refine hK.out _ _ trivial (fun hHeld => ?_)
          clear hK K
          refine norm_ (a' := ?_) ?_ ?_
          rotate_left
          · show Act.put _ (some 62) _ = _
            simp only [Act.put, List.setIfInBounds_toArray, List.set_cons_zero, List.set_cons_succ, i64_w, i32_w]
            rfl
          refine one_ (i := 8) (N := some 64) #[true, true, true, true, true, true, true, true, true, false, true, true, true, true, true, false, false, false] rfl rfl (by kernel_rfl) (by decide) (fun K hK => ?_)
          refine Kd.R_append_rows_step (Kd.int .u8) (w0 := W12) W12.heap.size (by rfl) (.tmp 62) (.tmp 63) 29 5 (.int .u8 0) 1 rfl Tryd.underlying29 info5 rfl (by decide) (by decide) _ y1 y2 A12 y2.length c12 (fun k => W12.heap.size ≤ k) (fun _ => False) rfl rfl HR6.out HC6.out (fun _ _ h => h) (fun _ h => h.elim) (fun k hk => Nat.le_trans HB6.out.size hk) HB6.out HB6.out.size (by have := HL4.out; have := HL12.out; omega) ?_
          intro v7 w7 h1 h2 h3 h4
          have HR7 := Aside0.mk h1
          have HB7 := Aside0.mk h2
          obtain ⟨A7, c7, rfl, hc7, hC7⟩ := Kd.R_reads h1
          clear h1 h2 h3 h4
          rw [← HY.out] at hc7 hC7 ⊢
          have HC7 := Aside0.mk hC7
          have Hc7 := Aside0.mk hc7
          clear hc7 hC7
          refine hK.out _ _ trivial (fun hHeld => ?_)
          clear hK K
          refine norm_ (a' := ?_) ?_ ?_
          rotate_left
          · show Act.put _ (some 64) _ = _
            simp only [Act.put, List.setIfInBounds_toArray, List.set_cons_zero, List.set_cons_succ, i64_w, i32_w]
            rfl
          refine one_ (i := 9) (N := some 65) #[true, true, true, true, true, true, true, true, true, true, true, true, true, true, true, false, false, false] rfl rfl (by kernel_rfl) (by decide) (fun K hK => ?_)
          refine goes_ Tryd.func19 (by kernel_rfl) rfl #[.slice A7 (m + size) c7] (by rfl) rfl rfl (by simp only [List.map_toArray, List.map_cons, List.map_nil]; rfl) ?_
          with_reducible refine (Sum_at _ A7 (m + size) c7 (y1 ++ y2) HY.out HC7.out Hc7.out HBy.out (by have := HY.out; omega)).mono ?_
          rintro e w8 ⟨rfl, hB8⟩
          refine ⟨_, rfl, ?_⟩
          have HB8 := Aside0.mk (below_step HB7.out hB8)
          clear hB8
          refine hK.out _ _ trivial (fun hHeld => ?_)
          clear hK K
          refine norm_ (a' := ?_) ?_ ?_
          rotate_left
          · show Act.put _ (some 65) _ = _
            simp only [Act.put, List.setIfInBounds_toArray, List.set_cons_zero, List.set_cons_succ, i64_w, i32_w]
            rfl
          refine one_ (i := 15) (N := some 71) #[true, true, true, true, true, true, true, true, true, true, true, true, true, true, true, true, false, false] rfl rfl (by kernel_rfl) (by decide) (fun K hK => ?_)
          refine goes_ Tryd.func36 (by kernel_rfl) rfl #[.slice A5 4 c5] (by rfl) rfl rfl (by simp only [List.map_toArray, List.map_cons, List.map_nil]; rfl) ?_
          with_reducible refine (low_at _ A5 4 c5 y3 HL5.out.symm (by have := HL5.out; omega) (Kd.C_below HR5.out HB8.out) Hc5.out HB5.out).mono ?_
          rintro e w9 ⟨rfl, hD9⟩
          refine ⟨_, rfl, ?_⟩
          have HB9 := Aside0.mk (below_step HB8.out (Drawn0.below hD9))
          clear hD9
          refine hK.out _ _ trivial (fun hHeld => ?_)
          clear hK K
          refine norm_ (a' := ?_) ?_ ?_
          rotate_left
          · show Act.put _ (some 71) _ = _
            simp only [Act.put, List.setIfInBounds_toArray, List.set_cons_zero, List.set_cons_succ, i64_w, i32_w]
            rfl
          refine pure_ (i := 16) (N := some 72) (v := ?_) (a' := ?_) #[true, true, true, true, true, true, true, true, true, true, true, true, true, true, true, true, true, false] rfl rfl (by kernel_rfl) (fun _ _ _ h => h) (Or.inl ⟨by rfl, ?_⟩) ?_ ?_
          rotate_left
          · intro w'
            go_simp
            with_reducible rfl
          rotate_left
          · simp only [Act.put, List.setIfInBounds_toArray, List.set_cons_zero, List.set_cons_succ, i64_w, i32_w]
            rfl
          refine pure_ (i := 17) (N := some 73) (v := ?_) (a' := ?_) #[true, true, true, true, true, true, true, true, true, true, true, true, true, true, true, true, true, true] rfl rfl (by kernel_rfl) (fun _ _ _ h => h) (Or.inl ⟨by rfl, ?_⟩) ?_ ?_
          rotate_left
          · intro w'
            go_simp
            with_reducible rfl
          rotate_left
          · simp only [Act.put, List.setIfInBounds_toArray, List.set_cons_zero, List.set_cons_succ, i64_w, i32_w]
            rfl
          refine done_ (by kernel_rfl) ?_
          have hr := HRest.out
          have hbx := Hbb2.out
          cases bb with
          | true =>
            rw [if_pos (of_decide_eq_true hbx.symm)] at hr
            have HRs := Lib.hid hr
            have hne : (((sum (y1 ++ y2) : Nat) : Int) != ((val y3 : Nat) : Int)) = false := by rw [bne, hbb]; rfl
            clear hr hbx hbb
            go_wp2
            refine bodyPost_ret (results_list (rs := [.tmp 2, .tmp 3, .tmp 4, .tmp 5]) rfl (by simp) (.tmp (.tmp (.tmp (.tmp .nil))))) rfl ?_
            show UnfPost w (rest l size n x m) _ _
            rw [HRs.out]
            refine ⟨_, _, ?_, Kd.R_mono (Kd.R_below HR12.out HB9.out) (fun _ _ => trivial), Eo.nil, below_step HB12.out HB9.out⟩
            rw [show ((n + m + 4 + size : Nat) : Int) = (n : Int) + m + 4 + size by omega]
            rfl
          | false =>
            rw [if_neg (of_decide_eq_false hbx.symm)] at hr
            have HRs := Lib.hid hr
            have hne : (((sum (y1 ++ y2) : Nat) : Int) != ((val y3 : Nat) : Int)) = true := by rw [bne, hbb]; rfl
            clear hr hbx hbb
            go_wp2
            refine bodyPost_ret (results_list (rs := [.tmp 2, .tmp 3, .tmp 4, .tmp 5]) rfl (by simp) (.tmp (.tmp (.tmp (.tmp .nil))))) rfl ?_
            show UnfPost w (rest l size n x m) _ _
            rw [HRs.out]
            exact UnfPost.none _ _ _ 7 (Eo.wrapped _ 7 (by decide) (by decide)) (below_step HB12.out HB9.out)
      · rw [if_pos c3]
        clear hC hc hb hl hl2 N1 N2 N3 N4 M1 M2 M3 M4 hrd1
        go_enter Tryd.func21, Tryd.ntmps21
        go_wp2_with fail
        refine Hn.out.mono ?_
        rintro e w1 ⟨E1, rfl, hE1, ⟨k1, rfl⟩⟩
        obtain rfl := Eo.zero hE1
        clear hE1
        go_wp2_with fail
        refine (Hm.out k1).mono ?_
        rintro e w2 ⟨E2, rfl, hE2, hD2⟩
        obtain ⟨t, u, rfl⟩ := Eo.iface hE2 c3
        have HD2 := Lib.hid hD2
        have HE2 := Lib.hid hE2
        clear hE2 hD2
        go_wp2
        refine bodyPost_ret (results_list (rs := [.tmp 2, .tmp 3, .tmp 4, .tmp 5]) rfl (by simp) (.tmp (.tmp (.tmp (.tmp .nil))))) rfl ?_
        exact UnfPost.none _ _ _ _ HE2.out (below_step (pw_below_drewN (Below.refl _ _) k1) (Drawn0.below HD2.out))
  · rw [if_pos c1]
    clear hC hc hb hl hl2 N1 N2 N3 N4 M1 M2 M3 M4 hsl1 hrd1
    go_enter Tryd.func21, Tryd.ntmps21
    go_wp2_with fail
    refine Hn.out.mono ?_
    rintro e w1 ⟨E1, rfl, hE1, hD1⟩
    obtain ⟨t, u, rfl⟩ := Eo.iface hE1 c1
    have HD1 := Lib.hid hD1
    have HE1 := Lib.hid hE1
    clear hE1 hD1
    go_wp2
    refine bodyPost_ret (results_list (rs := [.tmp 2, .tmp 3, .tmp 4, .tmp 5]) rfl (by simp) (.tmp (.tmp (.tmp (.tmp .nil))))) rfl ?_
    exact UnfPost.none _ _ _ _ HE1.out (Drawn0.below HD1.out)
end Go.Proofs.YtnnhcnmggfhkeaaDoor.Wk

/- The walks of wire's writer: NewWriter, Uint, Int, Text, Done. -/
namespace Go.Proofs.YtnnhcnmggfhkeaaDoor.Wk
open Go.RowKit Go.Proofs.YtnnhcnmggfhkeaaDoorW.PrintWords Go.Proofs.YtnnhcnmggfhkeaaDoorW.PrintLast Go.Proofs.YtnnhcnmggfhkeaaDoorW.PrintMore Go.Proofs.YtnnhcnmggfhkeaaDoor.PWireKnown
set_option linter.unusedVariables false
set_option linter.unusedSimpArgs false

/-- A writer at block g, which has written l. -/
def Wr (w0 w : World) (g : Nat) (l : List Int) : Prop :=
  ∃ v, w.heap[g]? = some (.cells #[v] 64 (0, 0)) ∧ w0.heap.size ≤ g ∧ Kd.R (Kd.int .u8) 5 w w0.heap.size (fun k => v.ownBlock = some k) v l

theorem blk_frozen {w : World} {g : Nat} {cs : Array Value} {t : TypeId} (h : w.heap[g]? = some (.cells cs t (0, 0))) (i : Nat) : w.frozen? ⟨g, i, none⟩ = false := by
  simp [World.frozen?, h]
theorem blk_set {w : World} {g : Nat} {cs : Array Value} {t : TypeId} {fr : Nat × Nat} (h : w.heap[g]? = some (.cells cs t fr)) (i : Nat) (u : Value) : (w.setCell ⟨g, i, none⟩ u).heap[g]? = some (.cells (cs.setIfInBounds i u) t fr) := by
  simp [World.setCell, Array.getElem?_modify, h]
/-- The store of the writer's new bytes. -/
theorem Wr.store {w0 w w1 : World} {g : Nat} {v v' : Value} {l l' : List Int} {P : Nat → Prop} (hb : w.heap[g]? = some (.cells #[v] 64 (0, 0))) (hg : w0.heap.size ≤ g)
    (hR : Kd.R (Kd.int .u8) 5 w w0.heap.size (fun k => v.ownBlock = some k) v l) (hR1 : Kd.R (Kd.int .u8) 5 w1 w0.heap.size P v' l')
    (hB1 : Below w0.heap.size w0 w1) (hk : Kept w w1 (fun k => v.ownBlock = some k)) :
    w1.heap[g]? = some (.cells #[v] 64 (0, 0)) ∧ Wr w0 (w1.setCell ⟨g, 0, none⟩ v') g l' ∧ Below w0.heap.size w0 (w1.setCell ⟨g, 0, none⟩ v') := by
  have hne : ¬ v.ownBlock = some g := fun h => Kd.R_ne hR hb (by decide) h.symm
  have hb1 := blk_kept hb hk hne
  refine ⟨hb1, ⟨v', by rw [blk_set hb1]; rfl, hg, ?_⟩, hB1.setCell hg _⟩
  exact R_own_ok (Kd.R_set hR1 hb1 (by decide) 0 v')

set_option maxHeartbeats 1000000 in
theorem Writer_Uint (w0 w : World) (g : Nat) (l : List Int) (x : Nat) (hB : Below w0.heap.size w0 w) (h : Wr w0 w g l) (hx : x < 2 ^ 64) (hl : l.length + 9 < 140737488355328) :
    Calls Tryd.prog 7 #[.pointer (some ⟨g, 0, none⟩), .int .u64 x] w fun e w' => e = .returned (.tuple #[]) ∧ Wr w0 w' g (l ++ enc x) ∧ Below w0.heap.size w0 w' := by
  obtain ⟨v, hb, hg, hR⟩ := h
  have hc : w.cell? ⟨g, 0, none⟩ = some v := (blk_cell hb 0).trans rfl
  have HR := Aside0.mk hR
  have HBk := Aside0.mk hb
  have HB := Aside0.mk hB
  clear hR hb hB
  go_enter Tryd.func7, Tryd.ntmps7
  go_wp2_with fail
  refine (wire_put.calls 10 (fun k => v.ownBlock = some k) v l x _ w0 _ HB.out HR.out (put_ok 10 l x (by omega) hx hl)).mono ?_
  rintro e w1 ⟨v', rfl, hR1, hB1, hk⟩
  obtain ⟨A', n', c', rfl⟩ := R_slice_any hR1
  obtain ⟨hb1, hw1, hB2⟩ := Wr.store HBk.out hg HR.out hR1 hB1 hk
  have hf1 := blk_frozen hb1 0
  have hc1 : w1.cell? ⟨g, 0, none⟩ = some v := (blk_cell hb1 0).trans rfl
  have HW := Aside0.mk hw1
  have HB2 := Aside0.mk hB2
  clear hR1 hk hw1 hB2 hb1 hB1
  go_wp2
  go_end0
  exact ⟨rfl, HW.out, HB2.out⟩

theorem u64_ofInt (x : Int) (h0 : 0 ≤ x) (h1 : x < 18446744073709551616) : (BitVec.ofInt 64 x).toNat = x.toNat := by
  rw [BitVec.toNat_ofInt]
  omega
theorem xor_zero64 (y : Int) (h0 : 0 ≤ y) (h1 : y < 18446744073709551616) : Go.bits .xor .u64 y 0 = y := by
  show IntKind.u64.wrap ((BitVec.ofInt 64 y ^^^ BitVec.ofInt 64 0).toNat : Int) = _
  rw [BitVec.toNat_xor, u64_ofInt y h0 h1, u64_wrap]
  simp
  omega
theorem xor_ones64 (y : Int) (h0 : 0 ≤ y) (h1 : y < 18446744073709551616) : Go.bits .xor .u64 y 18446744073709551615 = 18446744073709551615 - y := by
  show IntKind.u64.wrap ((BitVec.ofInt 64 y ^^^ BitVec.ofInt 64 18446744073709551615).toNat : Int) = _
  rw [show BitVec.ofInt 64 18446744073709551615 = BitVec.allOnes 64 from by decide, BitVec.xor_allOnes, BitVec.toNat_not, u64_ofInt y h0 h1, u64_wrap]
  omega
theorem zz_write (x : Int) (hx : -9223372036854775808 ≤ x ∧ x ≤ 9223372036854775807) :
    Go.bits .xor .u64 (IntKind.u64.wrap (IntKind.u64.wrap x * 2)) (IntKind.u64.wrap (x / 9223372036854775808)) = (zz x : Int) := by
  unfold zz
  rw [u64_wrap, u64_wrap, u64_wrap]
  split
  · rename_i h
    rw [show x / 9223372036854775808 % 18446744073709551616 = 0 by omega, xor_zero64 _ (by omega) (by omega)]
    omega
  · rename_i h
    rw [show x / 9223372036854775808 % 18446744073709551616 = 18446744073709551615 by omega, xor_ones64 _ (by omega) (by omega)]
    omega

set_option maxHeartbeats 1000000 in
theorem Writer_Int (w0 w : World) (g : Nat) (l : List Int) (x : Int) (hB : Below w0.heap.size w0 w) (h : Wr w0 w g l) (hx : -9223372036854775808 ≤ x ∧ x ≤ 9223372036854775807) (hl : l.length + 9 < 140737488355328) :
    Calls Tryd.prog 8 #[.pointer (some ⟨g, 0, none⟩), .int .i64 x] w fun e w' => e = .returned (.tuple #[]) ∧ Wr w0 w' g (l ++ enc (zz x)) ∧ Below w0.heap.size w0 w' := by
  obtain ⟨v, hb, hg, hR⟩ := h
  have hc : w.cell? ⟨g, 0, none⟩ = some v := (blk_cell hb 0).trans rfl
  have HR := Aside0.mk hR
  have HBk := Aside0.mk hb
  have HB := Aside0.mk hB
  clear hR hb hB
  go_enter Tryd.func8, Tryd.ntmps8
  go_wp2_with fail
  rw [zz_write x hx]
  refine (wire_put.calls 10 (fun k => v.ownBlock = some k) v l (zz x) _ w0 _ HB.out HR.out (put_ok 10 l (zz x) (by omega) (zz_lt x hx) hl)).mono ?_
  rintro e w1 ⟨v', rfl, hR1, hB1, hk⟩
  obtain ⟨A', n', c', rfl⟩ := R_slice_any hR1
  obtain ⟨hb1, hw1, hB2⟩ := Wr.store HBk.out hg HR.out hR1 hB1 hk
  have hf1 := blk_frozen hb1 0
  have hc1 : w1.cell? ⟨g, 0, none⟩ = some v := (blk_cell hb1 0).trans rfl
  have HW := Aside0.mk hw1
  have HB2 := Aside0.mk hB2
  clear hR1 hk hw1 hB2 hb1 hB1
  go_wp2
  go_end0
  exact ⟨rfl, HW.out, HB2.out⟩

theorem R_append_str {P : Program} {ops : Array Oper} {rest : List Oper} {o : Oper} {a : Act} {Q : Exit → Act → World → Prop} {w0 W : World} (base : Nat) (hgd : o.guard = none) (s x : Operand) (t u e : TypeId)
    (ho : o.op = .call { callee := .builtin .append, args := #[s, x], argTypes := #[t, u] })
    (ht : P.underlying t = some (.slice e)) (hu : P.underlying u = some .string) (hinfo : (P.info? e).map (fun i => (i.zero, i.size, i.bytes)) = some (some (.int .u8 0), 1, 1))
    (v : Value) (xs : List Int) (y : ByteArray) (ok : Nat → Prop) (hs : a.eval s = v) (hx : a.eval x = .string y)
    (HO : Kd.R (Kd.int .u8) e W base ok v xs) (HB : Below base w0 W) (hbase : base ≤ W.heap.size) (hl : xs.length + y.size ≤ 140737488355328)
    (h : ∀ v1 w1, Kd.R (Kd.int .u8) e w1 base (fun k => v1.ownBlock = some k) v1 (xs ++ bytesOf y) → Below base w0 w1 → W.grownBy w1 v.ownBlock → wpList P ops Q rest (a.put o.dst v1) w1) :
    wpList P ops Q (o :: rest) a W := by
  refine print_append_str (w0 := w0) base hgd s x t u e ho ht hu hinfo v xs y hs hx (Kd.own_of_R HO) HB hbase hl ?_
  intro v1 w1 ho1 hb1 hg1
  exact h v1 w1 (Kd.R_of_own (enc := Value.int .u8) ho1 (fun _ hk => hk)) hb1 hg1

set_option maxHeartbeats 1000000 in
theorem Writer_Text (w0 w : World) (g : Nat) (l : List Int) (s : ByteArray) (hB : Below w0.heap.size w0 w) (h : Wr w0 w g l) (hs : s.size ≤ 140737488351232) (hl : l.length + 9 + s.size < 140737488355328) :
    Calls Tryd.prog 9 #[.pointer (some ⟨g, 0, none⟩), .string s] w fun e w' => e = .returned (.tuple #[]) ∧ Wr w0 w' g (l ++ enc s.size ++ bytesOf s) ∧ Below w0.heap.size w0 w' := by
  obtain ⟨v, hb, hg, hR⟩ := h
  have hc : w.cell? ⟨g, 0, none⟩ = some v := (blk_cell hb 0).trans rfl
  have HR := Aside0.mk hR
  have HBk := Aside0.mk hb
  have HB := Aside0.mk hB
  clear hR hb hB
  go_enter Tryd.func9, Tryd.ntmps9
  go_wp2_with fail
  refine (wire_put.calls 10 (fun k => v.ownBlock = some k) v l s.size _ w0 _ HB.out HR.out (put_ok 10 l s.size (by omega) (by omega) (by omega))).mono ?_
  rintro e w1 ⟨v', rfl, hR1, hB1, hk⟩
  have hne : ¬ v.ownBlock = some g := fun h => Kd.R_ne HR.out HBk.out (by decide) h.symm
  have hb1 := blk_kept HBk.out hk hne
  have HR1 := Aside0.mk hR1
  have HB1 := Aside0.mk hB1
  have Hb1 := Aside0.mk hb1
  have hlen := enc_length s.size (by omega)
  clear hk hne hR1 hB1 hb1
  go_wp2_with (first | ((with_reducible refine gate_builtin (b := .append) (xs := #[.tmp 12, .tmp 13]) rfl ?_); at_builtin; refine R_append_str (w0 := w0) w0.heap.size rfl (.tmp 12) (.tmp 13) 29 9 5 rfl Tryd.underlying29 Tryd.underlying9 info5 v' (l ++ enc s.size) s _ rfl rfl HR1.out HB1.out HB1.out.size (by rw [List.length_append]; omega) ?_; intro v2 w2 h1 h2 h3; obtain ⟨A', n', c', rfl⟩ := R_slice_any h1; have h4 := blk_grown Hb1.out h3 (Kd.R_ne HR1.out Hb1.out (by decide)); have hf2 := blk_frozen h4 0; have hc2 : w2.cell? ⟨g, 0, none⟩ = some v := (blk_cell h4 0).trans rfl; have HR2 := Aside0.mk h1; have HB2 := Aside0.mk h2; have Hb2 := Aside0.mk h4; clear h1 h2 h3 h4))
  go_end0
  exact ⟨rfl, ⟨_, by rw [blk_set Hb2.out]; rfl, hg, R_own_ok (Kd.R_set HR2.out Hb2.out (by decide) 0 _)⟩, HB2.out.setCell hg _⟩

set_option maxHeartbeats 1000000 in
theorem NewWriter_any (w0 w : World) (hB : Below w0.heap.size w0 w) :
    Calls Tryd.prog 6 #[] w fun e w' => ∃ g, e = .returned (.pointer (some ⟨g, 0, none⟩)) ∧ Wr w0 w' g [] ∧ Below w0.heap.size w0 w' ∧ Below w.heap.size w w' := by
  have HB := Aside0.mk hB
  clear hB
  go_enter Tryd.func6, Tryd.ntmps6
  go_wp2
  go_ret
  refine ⟨w.heap.size, rfl, ⟨.slice none 0 0, by simpa using heap_alloc_new w _, HB.out.size, Kd.R_nil _ _ _ _ _⟩, below_alloc HB.out _, below_alloc (Below.refl _ _) _⟩
set_option maxHeartbeats 1000000 in
theorem Done_any (w0 w : World) (g : Nat) (l : List Int) (hB : Below w0.heap.size w0 w) (h : Wr w0 w g l) (hl : l.length ≤ 140737488355328) :
    Calls Tryd.prog 10 #[.pointer (some ⟨g, 0, none⟩)] w fun e w' => ∃ v', e = .returned v' ∧ Kd.R (Kd.int .u8) 5 w' w0.heap.size (fun k => w.heap.size ≤ k) v' l ∧ Below w0.heap.size w0 w' ∧ Below w.heap.size w w' := by
  obtain ⟨v, hb, hg, hR⟩ := h
  obtain ⟨A, c, rfl, hlc, hC⟩ := Kd.R_reads hR
  obtain ⟨n, hn⟩ : ∃ n, l.length = n := ⟨_, rfl⟩
  have hc : w.cell? ⟨g, 0, none⟩ = some (.slice A n c) := by rw [← hn]; exact (blk_cell hb 0).trans rfl
  have HN := Lib.hid hn
  have HC := Aside0.mk hC
  have HB := Aside0.mk hB
  clear hR hb hB hC hn hlc
  go_enter Tryd.func10, Tryd.ntmps10
  go_wp2_with fail
  rw [← HN.out]
  refine (Clone_any w0 _ A c l HB.out HC.out hl).mono ?_
  rintro e w1 ⟨v', rfl, h1, h2, h3⟩
  have H1 := Aside0.mk h1
  have H2 := Aside0.mk h2
  have H3 := Aside0.mk h3
  clear h1 h2 h3
  go_wp2
  go_ret
  exact ⟨_, rfl, H1.out, H2.out, H3.out⟩
end Go.Proofs.YtnnhcnmggfhkeaaDoor.Wk

/- The walks of wire's reader, whatever it reads: NewReader, peek, fail, Uint, Int, Text, Left, Err, End. -/
namespace Go.Proofs.YtnnhcnmggfhkeaaDoor.Wk
open Go.RowKit Go.Proofs.YtnnhcnmggfhkeaaDoorW.PrintWords Go.Proofs.YtnnhcnmggfhkeaaDoorW.PrintLast Go.Proofs.YtnnhcnmggfhkeaaDoorW.PrintMore Go.Proofs.YtnnhcnmggfhkeaaDoor.PWireKnown
set_option linter.unusedVariables false
set_option linter.unusedSimpArgs false

theorem Eo.shape {E : Value} {n : Int} (h : Eo E n) : E = .nilIface ∨ ∃ t u, E = .iface t u := by
  rcases h with ⟨_, h⟩ | ⟨_, _, h⟩
  · exact .inl h
  · exact .inr h.iface
/-- The next number of a reader, and the error behind it. -/
def pk (l : List Int) (e : Int) : Nat × Nat × Int := if e ≠ 0 then (0, 0, e) else num l
def stU (most : Nat) (l : List Int) (e : Int) : Nat × List Int × Int := if most < (pk l e).1 then (0, l, 5) else ((pk l e).1, l.drop (pk l e).2.1, (pk l e).2.2)
def stI (l : List Int) (e : Int) : Int × List Int × Int := (uz (pk l e).1, l.drop (pk l e).2.1, (pk l e).2.2)
def stT (most : Nat) (l : List Int) (e : Int) : ByteArray × List Int × Int := if most < (pk l e).1 then (⟨#[]⟩, l, 5) else if l.length - (pk l e).2.1 < (pk l e).1 then (⟨#[]⟩, l, 2) else (strOfNums ((l.drop (pk l e).2.1).take (pk l e).1), l.drop ((pk l e).2.1 + (pk l e).1), (pk l e).2.2)
theorem pk_bounds {l : List Int} (h : Byt l) (e : Int) : (pk l e).1 < 2 ^ 64 ∧ (pk l e).2.1 ≤ l.length ∧ (pk l e).2.1 ≤ 9 ∧ ((pk l e).2.2 ≠ 0 → (pk l e).1 = 0 ∧ (pk l e).2.1 = 0) := by
  unfold pk
  by_cases c : e = 0
  · rw [if_neg (by simpa using c)]
    obtain ⟨h1, h2, h3, h4⟩ := num_bounds h
    refine ⟨h1, h2, h3, fun h5 => ?_⟩
    rcases h4 with h4 | h4
    · exact absurd h4.1 h5
    · exact h4.2
  · rw [if_pos c]
    exact ⟨by show 0 < 2 ^ 64; decide, Nat.zero_le _, by show 0 ≤ 9; decide, fun _ => ⟨rfl, rfl⟩⟩

/-- A reader at block g, before which l lies; its error is number e. -/
def Rd (w0 w : World) (g : Nat) (l : List Int) (e : Int) : Prop :=
  ∃ A c E, w.heap[g]? = some (.cells #[.slice A l.length c, E] 42 (0, 0)) ∧ w0.heap.size ≤ g ∧ l.length ≤ c ∧ (∀ ad, A = some ad → w0.heap.size ≤ ad.block ∧ ad.block < g) ∧ Kd.C (Kd.int .u8) w A l.length l ∧ Eo E e

set_option maxHeartbeats 1000000 in
theorem NewReader_any (w0 w : World) (A : Option Addr) (c : Nat) (l : List Int) (hB : Below w0.heap.size w0 w) (hC : Kd.C (Kd.int .u8) w A l.length l) (hl : l.length ≤ 140737488355328) :
    Calls Tryd.prog 12 #[.slice A l.length c] w fun e w' => ∃ g, e = .returned (.pointer (some ⟨g, 0, none⟩)) ∧ Rd w0 w' g l 0 ∧ Below w0.heap.size w0 w' ∧ Below w.heap.size w w' ∧ w.heap.size ≤ g := by
  have HB := Aside0.mk hB
  have HC := Aside0.mk hC
  clear hB hC
  go_enter Tryd.func12, Tryd.ntmps12
  go_wp2_with fail
  refine (Clone_any w0 _ A c l HB.out HC.out hl).mono ?_
  rintro e w1 ⟨v', rfl, h1, h2, h3⟩
  obtain ⟨A', c', e', hlc, hC⟩ := Kd.R_reads h1
  obtain ⟨n, hn⟩ : ∃ n, l.length = n := ⟨_, rfl⟩
  rw [hn] at e'
  subst e'
  have H1 := Aside0.mk h1
  have H2 := Aside0.mk h2
  have H3 := Aside0.mk h3
  have HN := Lib.hid hn
  have HC1 := Aside0.mk hC
  have HL := Aside0.mk hlc
  clear h1 h2 h3 hn hC hlc
  go_wp2
  go_ret
  refine ⟨w1.heap.size, rfl, ⟨A', c', .nilIface, ?_, H2.out.size, HL.out, ?_, ?_, Eo.nil⟩, below_alloc H2.out _, below_alloc H3.out _, H3.out.size⟩
  · rw [HN.out]; simpa using heap_alloc_new w1 _
  · rintro ad rfl
    have h1 := own_lt (Kd.R_own H1.out).choose_spec ad.block (by simp [Value.ownBlock])
    have h2 := own_base (Kd.R_own H1.out).choose_spec ad.block (by simp [Value.ownBlock])
    exact ⟨h2, h1⟩
  · exact Kd.C_below HC1.out (below_alloc (Below.refl _ _) _)

theorem C_setCell {k : IntKind} {w : World} {A : Option Addr} {n : Nat} {xs : List Int} {g i : Nat} {u : Value} (h : (Kd.int k).C w A n xs) (hne : ∀ ad, A = some ad → ad.block ≠ g) : (Kd.int k).C (w.setCell ⟨g, i, none⟩ u) A n xs :=
  ⟨h.1, h.2.1, fun hn => by
    obtain ⟨ad, e, hc⟩ := h.2.2 hn
    refine ⟨ad, e, fun j p hp => ?_⟩
    obtain ⟨c, hl, hr, hcell⟩ := hc j p hp
    refine ⟨c, hl, hr, fun i' u' hu => ?_⟩
    rw [World.cell?_setCell_other]
    · exact hcell i' u' hu
    · intro e2
      refine hne ad e ?_
      have e3 : (ad.add (j * (Kd.int k).sz + i')).block = ad.block := by unfold Addr.add; split <;> rfl
      rw [← e3, ← e2]⟩

def PeekPost (w0 w : World) (g : Nat) (l : List Int) (q : Nat × Nat × Int) (e : Ending) (w' : World) : Prop := e = .returned (.tuple #[.int .u64 (q.1 : Int), .int .i64 (q.2.1 : Int)]) ∧ Rd w0 w' g l q.2.2 ∧ Below w0.heap.size w0 w' ∧ Kept w w' (fun k => k = g)

set_option maxHeartbeats 1000000 in
theorem peek_calls (w0 w : World) (g : Nat) (l : List Int) (e : Int) (hB : Below w0.heap.size w0 w) (h : Rd w0 w g l e) (hb : Byt l) (hl : l.length ≤ 140737488355328) :
    Calls Tryd.prog 30 #[.pointer (some ⟨g, 0, none⟩)] w (PeekPost w0 w g l (pk l e)) := by
  obtain ⟨A, c, E, hbk, hg, hc, hne, hC, hE⟩ := h
  by_cases c1 : e = 0
  · subst c1
    obtain rfl := Eo.zero hE
    have hnum := fun k => number_calls (w.drewN k) A c l hC hc hb hl
    have epk : pk l 0 = num l := if_neg (by simp)
    rw [epk]
    generalize num l = q at *
    obtain ⟨x, m, e2⟩ := q
    obtain ⟨n, hn⟩ : ∃ n, l.length = n := ⟨_, rfl⟩
    have HNum := Lib.hid hnum
    rw [hn] at hbk
    have hc0 : w.cell? ⟨g, 0, none⟩ = some (.slice A n c) := (blk_cell hbk 0).trans rfl
    have hc1 : w.cell? ⟨g, 1, none⟩ = some .nilIface := (blk_cell hbk 1).trans rfl
    have hf1 := blk_frozen hbk 1
    have HN := Lib.hid hn
    have HC := Aside0.mk hC
    have HB := Aside0.mk hB
    have Hb := Aside0.mk hbk
    have HNe := Aside0.mk hne
    have HCc := Aside0.mk hc
    clear hnum hn hC hB hbk hne hc hl hb hE epk
    go_enter Tryd.func30, Tryd.ntmps30
    go_wp2_with fail
    rw [← HN.out]
    refine (HNum.out 0).mono ?_
    rintro e w1 ⟨E2, rfl, hE2, ⟨k, rfl⟩⟩
    have HE2 := Lib.hid hE2
    rcases hE2.shape with rfl | ⟨t, u, rfl⟩ <;> clear hE2
    · go_wp2
      go_ret2
      refine ⟨rfl, ⟨A, c, .nilIface, ?_, hg, HCc.out, HNe.out, ?_, HE2.out⟩, ?_, ((Kept.refl w (fun k => k = g)).drewN _).setCell (p := ⟨g, _, none⟩) (.inl rfl) _⟩
      · rw [HN.out]
        exact blk_set (w := w.drewN _) Hb.out 1 .nilIface
      · exact C_setCell (w := w.drewN _) HC.out (fun ad h => Nat.ne_of_lt (HNe.out ad h).2)
      · exact (pw_below_drewN HB.out _).setCell hg _
    · go_wp2
      go_ret2
      refine ⟨rfl, ⟨A, c, .iface t u, ?_, hg, HCc.out, HNe.out, ?_, HE2.out⟩, ?_, ((Kept.refl w (fun k => k = g)).drewN _).setCell (p := ⟨g, _, none⟩) (.inl rfl) _⟩
      · rw [HN.out]
        exact blk_set (w := w.drewN _) Hb.out 1 (.iface t u)
      · exact C_setCell (w := w.drewN _) HC.out (fun ad h => Nat.ne_of_lt (HNe.out ad h).2)
      · exact (pw_below_drewN HB.out _).setCell hg _
  · have epk : pk l e = (0, 0, e) := if_pos c1
    rw [epk]
    obtain ⟨t, u, rfl⟩ := Eo.iface hE c1
    have hc1 : w.cell? ⟨g, 1, none⟩ = some (.iface t u) := (blk_cell hbk 1).trans rfl
    have HR := Lib.hid (show Rd w0 w g l e from ⟨A, c, _, hbk, hg, hc, hne, hC, hE⟩)
    have HB := Aside0.mk hB
    clear hbk hc hne hC hE hB hb hl epk
    go_enter Tryd.func30, Tryd.ntmps30
    go_wp2
    refine bodyPost_ret (results_list (rs := [.tmp 2, .tmp 3]) rfl (by simp) (.tmp (.tmp .nil))) rfl ?_
    exact ⟨rfl, HR.out, HB.out, Kept.refl _ _⟩

set_option maxHeartbeats 1000000 in
theorem fail_calls (w0 w : World) (g : Nat) (l : List Int) (n : Int) (h0 : 1 ≤ n) (h1 : n ≤ 24) (hB : Below w0.heap.size w0 w) (h : Rd w0 w g l 0) :
    Calls Tryd.prog 31 #[.pointer (some ⟨g, 0, none⟩), .int .i64 n] w fun e w' => e = .returned (.tuple #[]) ∧ Rd w0 w' g l n ∧ Below w0.heap.size w0 w' ∧ Kept w w' (fun k => k = g) := by
  obtain ⟨A, c, E, hbk, hg, hc, hne, hC, hE⟩ := h
  obtain rfl := Eo.zero hE
  have hc1 : w.cell? ⟨g, 1, none⟩ = some .nilIface := (blk_cell hbk 1).trans rfl
  have hf1 := blk_frozen hbk 1
  have HC := Aside0.mk hC
  have HB := Aside0.mk hB
  have Hb := Aside0.mk hbk
  have HNe := Aside0.mk hne
  have HCc := Aside0.mk hc
  clear hC hB hbk hne hc hE
  go_enter Tryd.func31, Tryd.ntmps31
  go_wp2
  go_end0
  exact ⟨rfl, ⟨A, c, _, blk_set Hb.out 1 _, hg, HCc.out, HNe.out, C_setCell HC.out (fun ad h => Nat.ne_of_lt (HNe.out ad h).2), Eo.no n h0 h1⟩, HB.out.setCell hg _, (Kept.refl w (fun k => k = g)).setCell (p := ⟨g, _, none⟩) (.inl rfl) _⟩

/-- The reader goes on by m bytes. -/
theorem Rd.cut {w0 w : World} {g : Nat} {l : List Int} {e : Int} (hB : Below w0.heap.size w0 w) (h : Rd w0 w g l e) (m : Nat) (hm : m ≤ l.length) :
    ∃ A c n A' n' c', n = l.length ∧ n' = (l.drop m).length ∧ w.cell? ⟨g, 0, none⟩ = some (.slice A n c) ∧ w.frozen? ⟨g, 0, none⟩ = false ∧ (∀ W : World, (Instr.slice 29 (.slice A n c) (some (.int .i64 (m : Int))) none none).run Tryd.prog W = .ok (.slice A' n' c') W) ∧
      ∀ k, Rd w0 ((w.drewN k).setCell ⟨g, 0, none⟩ (.slice A' n' c')) g (l.drop m) e ∧ Below w0.heap.size w0 ((w.drewN k).setCell ⟨g, 0, none⟩ (.slice A' n' c')) ∧ Kept w ((w.drewN k).setCell ⟨g, 0, none⟩ (.slice A' n' c')) (fun k => k = g) := by
  obtain ⟨A, c, E, hb, hg, hc, hne, hC, hE⟩ := h
  obtain ⟨A', h1, h2, h3⟩ := cut_bytes A c l m hm hc
  refine ⟨A, c, l.length, A', (l.drop m).length, c - m, rfl, rfl, (blk_cell hb 0).trans rfl, blk_frozen hb 0, h1, fun k => ⟨⟨A', c - m, E, ?_, hg, ?_, h3 (fun k => w0.heap.size ≤ k ∧ k < g) hne, ?_, hE⟩, (pw_below_drewN hB _).setCell hg _, ((Kept.refl w (fun k => k = g)).drewN _).setCell (p := ⟨g, _, none⟩) (.inl rfl) _⟩⟩
  · exact blk_set (w := w.drewN _) hb 0 _
  · rw [List.length_drop]; omega
  · exact C_setCell (w := w.drewN _) (h2 w hC) (fun ad h => Nat.ne_of_lt (h3 (fun k => w0.heap.size ≤ k ∧ k < g) hne ad h).2)

set_option maxHeartbeats 1000000 in
theorem Reader_Uint (w0 w : World) (g : Nat) (most : Nat) (l : List Int) (e : Int) (hB : Below w0.heap.size w0 w) (h : Rd w0 w g l e) (hb : Byt l) (hl : l.length ≤ 140737488355328) :
    Calls Tryd.prog 17 #[.pointer (some ⟨g, 0, none⟩), .int .u64 most] w fun e1 w' => e1 = .returned (.int .u64 ((stU most l e).1 : Int)) ∧ Rd w0 w' g (stU most l e).2.1 (stU most l e).2.2 ∧ Below w0.heap.size w0 w' ∧ Kept w w' (fun k => k = g) := by
  have hp := peek_calls w0 w g l e hB h hb hl
  have HP := Lib.hid hp
  obtain ⟨b1, b2, b3, b4⟩ := pk_bounds hb e
  unfold stU
  clear hp hB h hl hb
  generalize pk l e = q at *
  obtain ⟨x, m, e2⟩ := q
  dsimp only at *
  by_cases c1 : most < x
  · have hxx : decide ((most : Int) < x) = true := by simp; omega
    have he2 : e2 = 0 := by
      by_cases h : e2 = 0
      · exact h
      · have := (b4 h).1; omega
    subst he2
    rw [if_pos c1]
    clear b1 b2 b3 b4
    go_enter Tryd.func17, Tryd.ntmps17
    go_wp2_with fail
    refine HP.out.mono ?_
    rintro e w1 ⟨rfl, h1, h2, hk⟩
    have HKp := Aside0.mk hk
    have hf := fail_calls w0 w1 g l 5 (by decide) (by decide) h2 h1
    clear h1 h2 hk
    have HF := Lib.hid hf
    clear hf
    go_wp2_with fail
    refine HF.out.mono ?_
    rintro e w2 ⟨rfl, h1, h2, hk⟩
    have H1 := Aside0.mk h1
    have H2 := Aside0.mk h2
    have HK2 := Aside0.mk (HKp.out.then_ hk (fun _ h => .inl h))
    clear h1 h2 hk
    go_wp2
    go_ret
    exact ⟨rfl, H1.out, H2.out, HK2.out⟩
  · have hxx : decide ((most : Int) < x) = false := by simp; omega
    rw [if_neg c1]
    go_enter Tryd.func17, Tryd.ntmps17
    go_wp2_with fail
    refine HP.out.mono ?_
    rintro e w1 ⟨rfl, h1, h2, hk⟩
    have HKp := Aside0.mk hk
    obtain ⟨A, c, n, A', n', c', hn, hn', hc0, hf0, hsl, hnew⟩ := Rd.cut h2 h1 m b2
    have HW := Lib.hid hnew
    clear hn hn' hnew h1 h2 hk b1 b2 b3 b4
    go_wp2
    go_ret
    exact ⟨rfl, (HW.out 0).1, (HW.out 0).2.1, HKp.out.then_ (HW.out 0).2.2 (fun _ h => .inl h)⟩

theorem and_one64 (x : Nat) (h : x < 2 ^ 64) : Go.bits .and .u64 (x : Int) 1 = ((x % 2 : Nat) : Int) := by
  have := u64_and_nat x 1 (by omega) (by omega)
  rw [Nat.and_one_is_mod] at this
  exact this
theorem xor_zero_i64 (a : Int) (h0 : 0 ≤ a) (h1 : a < 9223372036854775808) : Go.bits .xor .i64 a 0 = a := by
  show IntKind.i64.wrap ((BitVec.ofInt 64 a ^^^ BitVec.ofInt 64 0).toNat : Int) = _
  rw [BitVec.toNat_xor, u64_ofInt a h0 (by omega), IntKind.wrap_i64]
  simp
  omega
theorem xor_ones_i64 (a : Int) (h0 : 0 ≤ a) (h1 : a < 9223372036854775808) : Go.bits .xor .i64 a (-1) = -1 - a := by
  show IntKind.i64.wrap ((BitVec.ofInt 64 a ^^^ BitVec.ofInt 64 (-1)).toNat : Int) = _
  rw [show BitVec.ofInt 64 (-1) = BitVec.allOnes 64 from by decide, BitVec.xor_allOnes, BitVec.toNat_not, u64_ofInt a h0 (by omega), IntKind.wrap_i64]
  omega
theorem uz_read (x : Nat) (hx : x < 2 ^ 64) : Go.bits .xor .i64 (wrap64 ((x : Int) / 2)) (wrap64 (-wrap64 (Go.bits .and .u64 (x : Int) 1))) = uz x := by
  rw [and_one64 _ hx]
  unfold uz
  by_cases h : x % 2 = 0
  · rw [if_pos h, h, wrap64_id (x := (x : Int) / 2) (by omega) (by omega), wrap64_id (x := ((0 : Nat) : Int)) (by omega) (by omega), wrap64_id (by omega) (by omega)]
    show Go.bits .xor .i64 _ 0 = _
    rw [xor_zero_i64 _ (by omega) (by omega)]
    omega
  · rw [if_neg h, show x % 2 = 1 by omega, wrap64_id (x := (x : Int) / 2) (by omega) (by omega), wrap64_id (x := ((1 : Nat) : Int)) (by omega) (by omega), wrap64_id (by omega) (by omega)]
    show Go.bits .xor .i64 _ (-1) = _
    rw [xor_ones_i64 _ (by omega) (by omega)]
    omega
set_option maxHeartbeats 1000000 in
theorem Reader_Int (w0 w : World) (g : Nat) (l : List Int) (e : Int) (hB : Below w0.heap.size w0 w) (h : Rd w0 w g l e) (hb : Byt l) (hl : l.length ≤ 140737488355328) :
    Calls Tryd.prog 66 #[.pointer (some ⟨g, 0, none⟩)] w fun e1 w' => e1 = .returned (.int .i64 (stI l e).1) ∧ Rd w0 w' g (stI l e).2.1 (stI l e).2.2 ∧ Below w0.heap.size w0 w' ∧ Kept w w' (fun k => k = g) := by
  have hp := peek_calls w0 w g l e hB h hb hl
  have HP := Lib.hid hp
  obtain ⟨b1, b2, b3, b4⟩ := pk_bounds hb e
  unfold stI
  clear hp hB h hl hb
  generalize pk l e = q at *
  obtain ⟨x, m, e2⟩ := q
  dsimp only at *
  have hz := uz_read x b1
  have HZ := Lib.hid hz
  clear hz
  go_enter Tryd.func66, Tryd.ntmps66
  go_wp2_with fail
  refine HP.out.mono ?_
  rintro e w1 ⟨rfl, h1, h2, hk⟩
  have HKp := Aside0.mk hk
  obtain ⟨A, c, n, A', n', c', hn, hn', hc0, hf0, hsl, hnew⟩ := Rd.cut h2 h1 m b2
  have HW := Lib.hid hnew
  clear hn hn' hnew h1 h2 hk b1 b2 b3 b4
  go_wp2
  go_ret
  exact ⟨congrArg (fun z => Ending.returned (.int .i64 z)) HZ.out, (HW.out 0).1, (HW.out 0).2.1, HKp.out.then_ (HW.out 0).2.2 (fun _ h => .inl h)⟩

set_option maxHeartbeats 1000000 in
theorem Left_any (w0 w : World) (g : Nat) (l : List Int) (e : Int) (h : Rd w0 w g l e) :
    Calls Tryd.prog 18 #[.pointer (some ⟨g, 0, none⟩)] w fun e w' => e = .returned (.int .i64 l.length) ∧ w = w' := by
  obtain ⟨A, c, E, hb, _⟩ := h
  have hc0 : w.cell? ⟨g, 0, none⟩ = some (.slice A l.length c) := (blk_cell hb 0).trans rfl
  clear hb
  go_enter Tryd.func18, Tryd.ntmps18
  go_wp2
  go_ret
  exact ⟨rfl, rfl⟩
def ErrPost (w : World) (n : Int) (e : Ending) (w' : World) : Prop := ∃ E, e = .returned E ∧ Eo E n ∧ w = w'
set_option maxHeartbeats 1000000 in
theorem Err_any (w0 w : World) (g : Nat) (l : List Int) (e : Int) (h : Rd w0 w g l e) :
    Calls Tryd.prog 16 #[.pointer (some ⟨g, 0, none⟩)] w (ErrPost w e) := by
  obtain ⟨A, c, E, hb, _, _, _, _, hE⟩ := h
  have hc0 : w.cell? ⟨g, 1, none⟩ = some E := (blk_cell hb 1).trans rfl
  have HE := Lib.hid hE
  clear hb hE
  go_enter Tryd.func16, Tryd.ntmps16
  go_wp2
  go_ret
  exact ⟨_, rfl, HE.out, rfl⟩
def endE (l : List Int) (e : Int) : Int := if e = 0 ∧ 0 < l.length then 3 else e
set_option maxHeartbeats 1000000 in
theorem End_any (w0 w : World) (g : Nat) (l : List Int) (e : Int) (h : Rd w0 w g l e) :
    Calls Tryd.prog 15 #[.pointer (some ⟨g, 0, none⟩)] w (ErrPost w (endE l e)) := by
  obtain ⟨A, c, E, hb, _, _, _, _, hE⟩ := h
  have hc0 : w.cell? ⟨g, 0, none⟩ = some (.slice A l.length c) := (blk_cell hb 0).trans rfl
  have hc1 : w.cell? ⟨g, 1, none⟩ = some E := (blk_cell hb 1).trans rfl
  unfold endE
  generalize l.length = n at *
  clear hb
  by_cases c1 : e = 0
  · subst c1
    obtain rfl := Eo.zero hE
    by_cases c2 : 0 < n
    · have b1 : decide ((0 : Int) < n) = true := by simp; omega
      rw [if_pos ⟨rfl, c2⟩]
      clear hE
      go_enter Tryd.func15, Tryd.ntmps15
      go_wp2
      go_ret
      exact ⟨_, rfl, Eo.wrapped _ 3 (by decide) (by decide), rfl⟩
    · have hn : n = 0 := by omega
      subst hn
      rw [if_neg (by omega)]
      clear hE
      go_enter Tryd.func15, Tryd.ntmps15
      go_wp2
      go_ret
      exact ⟨_, rfl, Eo.nil, rfl⟩
  · obtain ⟨t, u, rfl⟩ := Eo.iface hE c1
    rw [if_neg (fun h => c1 h.1)]
    have HE := Lib.hid hE
    clear hE
    go_enter Tryd.func15, Tryd.ntmps15
    go_wp2
    go_ret
    exact ⟨_, rfl, HE.out, rfl⟩
end Go.Proofs.YtnnhcnmggfhkeaaDoor.Wk

/- The walk of wire's Reader.Text. -/
namespace Go.Proofs.YtnnhcnmggfhkeaaDoor.Wk
open Go.RowKit Go.Proofs.YtnnhcnmggfhkeaaDoorW.PrintWords Go.Proofs.YtnnhcnmggfhkeaaDoorW.PrintLast Go.Proofs.YtnnhcnmggfhkeaaDoorW.PrintMore Go.Proofs.YtnnhcnmggfhkeaaDoor.PWireKnown
attribute [local go_sem] max2_int min2_int max_two min_two max_three min_three max_four min_four   -- for this text's walks alone
set_option linter.unusedVariables false
set_option linter.unusedSimpArgs false

/-- b[m:m+k] of bytes that are read, as a text. -/
theorem mid_text (A : Option Addr) (c : Nat) (xs : List Int) (m k : Nat) (hm : m + k ≤ xs.length) (hc : xs.length ≤ c) :
    ∃ A' : Option Addr, (∀ W : World, (Instr.slice 29 (.slice A xs.length c) (some (.int .i64 (m : Int))) (some (.int .i64 ((m : Int) + (k : Int)))) none).run Tryd.prog W = .ok (.slice A' k (c - m)) W) ∧
      (∀ w : World, (Kd.int .u8).C w A xs.length xs → (convert 29 9 (.slice A' k (c - m))).run Tryd.prog w = .ok (.string (strOfNums ((xs.drop m).take k))) w) := by
  obtain ⟨i5, hi5, hz5⟩ := Option.map_eq_some_iff.1 info5
  simp only [Prod.mk.injEq] at hz5
  obtain ⟨A', h1, h2, h3⟩ := print_mid_int (P := Tryd.prog) (k := .u8) 29 5 Tryd.underlying29 hi5 hz5.2.1 A c xs (m : Int) ((m : Int) + (k : Int)) (by omega) (by omega) (by omega) hc
  have e : (xs.take ((m : Int) + (k : Int)).toNat).drop (m : Int).toNat = (xs.drop m).take k := by
    rw [show ((m : Int) + (k : Int)).toNat = m + k by omega, show (m : Int).toNat = m by omega, List.drop_take, show m + k - m = k by omega]
  have el : ((xs.drop m).take k).length = k := by rw [List.length_take, List.length_drop]; omega
  rw [e, el] at h1 h2
  refine ⟨A', h1, fun w hC => ?_⟩
  have h4 := h2 w (Kd.reads_of_C (enc := Value.int .u8) (d := (0 : Int)) (h1 := fun _ => rfl) hC)
  exact string_of_reads Tryd.underlying29 Tryd.underlying5 Tryd.underlying9 h4

theorem Rd.text {w0 w : World} {g : Nat} {l : List Int} {e : Int} (hB : Below w0.heap.size w0 w) (h : Rd w0 w g l e) (m k : Nat) (hm : m + k ≤ l.length) :
    ∃ A c n A2 c2 A' n' c', n = l.length ∧ w.cell? ⟨g, 0, none⟩ = some (.slice A n c) ∧ w.frozen? ⟨g, 0, none⟩ = false ∧
      (∀ W : World, (Instr.slice 29 (.slice A n c) (some (.int .i64 (m : Int))) (some (.int .i64 ((m : Int) + (k : Int)))) none).run Tryd.prog W = .ok (.slice A2 k c2) W) ∧
      (convert 29 9 (.slice A2 k c2)).run Tryd.prog w = .ok (.string (strOfNums ((l.drop m).take k))) w ∧
      (∀ W : World, (Instr.slice 29 (.slice A n c) (some (.int .i64 ((m : Int) + (k : Int)))) none none).run Tryd.prog W = .ok (.slice A' n' c') W) ∧
      Rd w0 (w.setCell ⟨g, 0, none⟩ (.slice A' n' c')) g (l.drop (m + k)) e ∧ Below w0.heap.size w0 (w.setCell ⟨g, 0, none⟩ (.slice A' n' c')) ∧ Kept w (w.setCell ⟨g, 0, none⟩ (.slice A' n' c')) (fun k => k = g) := by
  obtain ⟨A, c, E, hb, hg, hc, hne, hC, hE⟩ := h
  obtain ⟨A', h1, h2, h3⟩ := cut_bytes A c l (m + k) hm hc
  obtain ⟨A2, h4, h5⟩ := mid_text A c l m k hm hc
  have h6 := h5 w hC
  have h7 := h2 w hC
  refine ⟨A, c, _, A2, _, A', _, _, rfl, (blk_cell hb 0).trans rfl, blk_frozen hb 0, h4, h6, fun W => by rw [show ((m : Int) + (k : Int)) = ((m + k : Nat) : Int) by omega]; exact h1 W, ⟨A', c - (m + k), E, ?_, hg, ?_, h3 (fun k => w0.heap.size ≤ k ∧ k < g) hne, ?_, hE⟩, hB.setCell hg _, (Kept.refl w (fun k => k = g)).setCell (p := ⟨g, _, none⟩) (.inl rfl) _⟩
  · exact blk_set hb 0 _
  · rw [List.length_drop]; omega
  · exact C_setCell h7 (fun ad h => Nat.ne_of_lt (h3 (fun k => w0.heap.size ≤ k ∧ k < g) hne ad h).2)

set_option maxHeartbeats 2000000 in
set_option maxRecDepth 100000 in
theorem Reader_Text (w0 w : World) (g : Nat) (most : Int) (l : List Int) (e : Int) (hmo : -9223372036854775808 ≤ most ∧ most ≤ 9223372036854775807) (hB : Below w0.heap.size w0 w) (h : Rd w0 w g l e) (hb : Byt l) (hl : l.length ≤ 140737488355328) :
    Calls Tryd.prog 13 #[.pointer (some ⟨g, 0, none⟩), .int .i64 most] w fun e1 w' => e1 = .returned (.string (stT most.toNat l e).1) ∧ Rd w0 w' g (stT most.toNat l e).2.1 (stT most.toNat l e).2.2 ∧ Below w0.heap.size w0 w' ∧ Kept w w' (fun k => k = g) := by
  have hp := peek_calls w0 w g l e hB h hb hl
  have HP := Lib.hid hp
  obtain ⟨b1, b2, b3, b4⟩ := pk_bounds hb e
  unfold stT
  clear hp hB h hb
  generalize pk l e = q at *
  obtain ⟨x, m, e2⟩ := q
  dsimp only at *
  obtain ⟨mx, hmx⟩ : ∃ mx : Nat, most.toNat = mx := ⟨_, rfl⟩
  have hmx2 : max most 0 = (mx : Int) := by omega
  have hmx3 : (if most < 0 then 0 else most) = (mx : Int) := by split <;> omega
  rw [hmx]
  have hmb : (mx : Int) ≤ 9223372036854775807 := by omega
  by_cases c1 : mx < x
  · have hxx : decide ((mx : Int) < x) = true := by simp; omega
    have he2 : e2 = 0 := by
      by_cases h : e2 = 0
      · exact h
      · have := (b4 h).1; omega
    subst he2
    rw [if_pos c1]
    clear b1 b2 b3 b4 hmx
    go_enter Tryd.func13, Tryd.ntmps13
    go_wp2_with fail
    refine HP.out.mono ?_
    rintro e w1 ⟨rfl, h1, h2, hk⟩
    have HKp := Aside0.mk hk
    have hf := fail_calls w0 w1 g l 5 (by decide) (by decide) h2 h1
    clear h1 h2 hk
    have HF := Lib.hid hf
    clear hf
    go_wp2_with fail
    refine HF.out.mono ?_
    rintro e w2 ⟨rfl, h1, h2, hk⟩
    have H1 := Aside0.mk h1
    have H2 := Aside0.mk h2
    have HK2 := Aside0.mk (HKp.out.then_ hk (fun _ h => .inl h))
    clear h1 h2 hk
    go_wp2
    go_ret
    exact ⟨rfl, H1.out, H2.out, HK2.out⟩
  · have hxx : decide ((mx : Int) < x) = false := by simp; omega
    rw [if_neg c1]
    by_cases c2 : l.length - m < x
    · have he2 : e2 = 0 := by
        by_cases h : e2 = 0
        · exact h
        · have := (b4 h).1; omega
      subst he2
      rw [if_pos c2]
      obtain ⟨n, hn⟩ : ∃ n, l.length = n := ⟨_, rfl⟩
      have hq : decide ((n : Int) - m < x) = true := by simp; omega
      have hmn : m ≤ n := by omega
      have hnb : n ≤ 140737488355328 := by omega
      have HN := Lib.hid hn
      clear b1 b2 b3 b4 hmx hl hn c2
      go_enter Tryd.func13, Tryd.ntmps13
      go_wp2_with fail
      refine HP.out.mono ?_
      rintro e w1 ⟨rfl, h1, h2, hk⟩
      have HKp := Aside0.mk hk
      have hf := fail_calls w0 w1 g l 2 (by decide) (by decide) h2 h1
      have HF := Lib.hid hf
      obtain ⟨A, c, E, hbk, _⟩ := h1
      rw [HN.out] at hbk
      have hc0 : w1.cell? ⟨g, 0, none⟩ = some (.slice A n c) := (blk_cell hbk 0).trans rfl
      clear h2 hk hf hbk
      go_wp2_with fail
      refine HF.out.mono ?_
      rintro e w2 ⟨rfl, h1, h2, hk⟩
      have H1 := Aside0.mk h1
      have H2 := Aside0.mk h2
      have HK2 := Aside0.mk (HKp.out.then_ hk (fun _ h => .inl h))
      clear h1 h2 hk
      go_wp2
      go_ret
      exact ⟨rfl, H1.out, H2.out, HK2.out⟩
    · rw [if_neg c2]
      have hmx' : m + x ≤ l.length := by omega
      have HMX := Aside0.mk hmx'
      obtain ⟨n, hn⟩ : ∃ n, l.length = n := ⟨_, rfl⟩
      have hq : decide ((n : Int) - m < x) = false := by simp; omega
      have hmn : m + x ≤ n := by omega
      have hnb : n ≤ 140737488355328 := by omega
      have HN := Lib.hid hn
      clear b1 b2 b3 b4 hmx hl hn c2 hmx'
      go_enter Tryd.func13, Tryd.ntmps13
      go_wp2_with fail
      refine HP.out.mono ?_
      rintro e w1 ⟨rfl, h1, h2, hk⟩
      have HKp := Aside0.mk hk
      obtain ⟨A, c, n', A2, c2, A', n'', c', hn', hc0, hf0, hsl, hcv, hsl2, h3, h4, h5⟩ := Rd.text h2 h1 m x HMX.out
      obtain rfl : n' = n := hn'.trans HN.out
      have H3 := Aside0.mk h3
      have H4 := Aside0.mk h4
      have H5 := Aside0.mk h5
      clear h1 h2 h3 h4 h5 hn' hk
      go_wp2
      go_ret
      exact ⟨rfl, H3.out, H4.out, HKp.out.then_ H5.out (fun _ h => .inl h)⟩
end Go.Proofs.YtnnhcnmggfhkeaaDoor.Wk


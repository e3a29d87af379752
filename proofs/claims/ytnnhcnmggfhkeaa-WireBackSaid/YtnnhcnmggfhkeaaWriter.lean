/- The walks of the writer: Uint, Int, Text, Done; slices.Clone. -/
import Derived.Test.YtnnhcnmggfhkeaaNum
import Derived.Outline
import Derived.WalkSpells
import Derived.Lib.Hide
namespace Go.Proofs.Ytnnhcnmggfhkeaa.Wb
open Go.RowKit Go.Proofs.YtnnhcnmggfhkeaaW.PrintWords Go.Proofs.YtnnhcnmggfhkeaaW.PrintLast Go.Proofs.YtnnhcnmggfhkeaaW.PrintMore

/-- A writer at block g, which has written l. -/
def Wr (w0 w : World) (g : Nat) (l : List Int) : Prop :=
  ∃ v, w.heap[g]? = some (.cells #[v] 47 (0, 0)) ∧ w0.heap.size ≤ g ∧ Kd.R (Kd.int .u8) 5 w w0.heap.size (fun k => v.ownBlock = some k) v l

theorem blk_frozen {w : World} {g : Nat} {cs : Array Value} {t : TypeId} (h : w.heap[g]? = some (.cells cs t (0, 0))) (i : Nat) : w.frozen? ⟨g, i, none⟩ = false := by
  simp [World.frozen?, h]
theorem blk_set {w : World} {g : Nat} {cs : Array Value} {t : TypeId} {fr : Nat × Nat} (h : w.heap[g]? = some (.cells cs t fr)) (i : Nat) (u : Value) : (w.setCell ⟨g, i, none⟩ u).heap[g]? = some (.cells (cs.setIfInBounds i u) t fr) := by
  simp [World.setCell, Array.getElem?_modify, h]
theorem R_own_ok {k : IntKind} {e base : Nat} {w : World} {ok : Nat → Prop} {v : Value} {xs : List Int} (h : Kd.R (Kd.int k) e w base ok v xs) : Kd.R (Kd.int k) e w base (fun k => v.ownBlock = some k) v xs :=
  ⟨fun _ hk => hk, h.2⟩

theorem R_slice_any {α : Type} {d : Kd α} {e base : Nat} {w : World} {ok : Nat → Prop} {v : Value} {xs : List α} (h : Kd.R d e w base ok v xs) : ∃ A n c, v = .slice A n c := by
  obtain ⟨A, c, e⟩ := Kd.R_slice h
  exact ⟨A, _, c, e⟩
theorem below_of_grown {w w1 : World} (h : w.grownBy w1 none) : Below w.heap.size w w1 := ⟨h.os, h.tape, h.output, h.size, fun k hk => h.block k hk (by simp)⟩
/-- The store of the writer's new bytes. -/
theorem Wr.store {w0 w w1 : World} {g : Nat} {v v' : Value} {l l' : List Int} {P : Nat → Prop} (hb : w.heap[g]? = some (.cells #[v] 47 (0, 0))) (hg : w0.heap.size ≤ g)
    (hR : Kd.R (Kd.int .u8) 5 w w0.heap.size (fun k => v.ownBlock = some k) v l) (hR1 : Kd.R (Kd.int .u8) 5 w1 w0.heap.size P v' l')
    (hB1 : Below w0.heap.size w0 w1) (hk : Kept w w1 (fun k => v.ownBlock = some k)) :
    w1.heap[g]? = some (.cells #[v] 47 (0, 0)) ∧ Wr w0 (w1.setCell ⟨g, 0, none⟩ v') g l' ∧ Below w0.heap.size w0 (w1.setCell ⟨g, 0, none⟩ v') := by
  have hne : ¬ v.ownBlock = some g := fun h => Kd.R_ne hR hb (by decide) h.symm
  have hb1 := blk_kept hb hk hne
  refine ⟨hb1, ⟨v', by rw [blk_set hb1]; rfl, hg, ?_⟩, hB1.setCell hg _⟩
  exact R_own_ok (Kd.R_set hR1 hb1 (by decide) 0 v')

set_option maxHeartbeats 1000000 in
theorem Writer_Uint (w0 w : World) (g : Nat) (l : List Int) (x : Nat) (hB : Below w0.heap.size w0 w) (h : Wr w0 w g l) (hx : x < 2 ^ 64) (hl : l.length + 9 < 140737488355328) :
    Calls Try.prog 15 #[.pointer (some ⟨g, 0, none⟩), .int .u64 x] w fun e w' => e = .returned (.tuple #[]) ∧ Wr w0 w' g (l ++ enc x) ∧ Below w0.heap.size w0 w' := by
  obtain ⟨v, hb, hg, hR⟩ := h
  have hc : w.cell? ⟨g, 0, none⟩ = some v := (blk_cell hb 0).trans rfl
  have HR := Aside0.mk hR
  have HBk := Aside0.mk hb
  have HB := Aside0.mk hB
  clear hR hb hB
  go_enter Try.func15, Try.ntmps15
  go_wp2_with fail
  refine (wire_put.calls 10 (fun k => v.ownBlock = some k) v l x _ w0 _ HB.out HR.out (put_ok l x hx hl)).mono ?_
  rintro e w1 ⟨v', rfl, hR1, hB1, hk⟩
  obtain ⟨A', n', c', rfl⟩ := R_slice_any hR1
  obtain ⟨hb1, hw1, hB2⟩ := Wr.store HBk.out hg HR.out hR1 hB1 hk
  have hf1 := blk_frozen hb1 0
  have hc1 : w1.cell? ⟨g, 0, none⟩ = some v := (blk_cell hb1 0).trans rfl
  have HW := Aside0.mk hw1
  have HB2 := Aside0.mk hB2
  clear hR1 hk hw1 hB2 hb1 hB1
  go_wp2
  go_end0
  exact ⟨rfl, HW.out, HB2.out⟩

theorem enc_length (x : Nat) (hx : x < 2 ^ 64) : 1 ≤ (enc x).length ∧ (enc x).length ≤ 9 := by
  unfold enc
  split
  · simp
  · have := nb_bounds x hx (by omega)
    simp [be_length]
    omega
/-- A signed number as the writer turns it. -/
def zz (x : Int) : Nat := if 0 ≤ x then (2 * x).toNat else (-2 * x - 1).toNat
theorem u64_wrap (x : Int) : IntKind.u64.wrap x = x % 18446744073709551616 := by simp [IntKind.wrap, IntKind.bits, IntKind.signed]
theorem u64_ofInt (x : Int) (h0 : 0 ≤ x) (h1 : x < 18446744073709551616) : (BitVec.ofInt 64 x).toNat = x.toNat := by
  rw [BitVec.toNat_ofInt]
  omega
theorem xor_zero64 (y : Int) (h0 : 0 ≤ y) (h1 : y < 18446744073709551616) : bits .xor .u64 y 0 = y := by
  show IntKind.u64.wrap ((BitVec.ofInt 64 y ^^^ BitVec.ofInt 64 0).toNat : Int) = _
  rw [BitVec.toNat_xor, u64_ofInt y h0 h1, u64_wrap]
  simp
  omega
theorem xor_ones64 (y : Int) (h0 : 0 ≤ y) (h1 : y < 18446744073709551616) : bits .xor .u64 y 18446744073709551615 = 18446744073709551615 - y := by
  show IntKind.u64.wrap ((BitVec.ofInt 64 y ^^^ BitVec.ofInt 64 18446744073709551615).toNat : Int) = _
  rw [show BitVec.ofInt 64 18446744073709551615 = BitVec.allOnes 64 from by decide, BitVec.xor_allOnes, BitVec.toNat_not, u64_ofInt y h0 h1, u64_wrap]
  omega
theorem zz_lt (x : Int) (hx : -9223372036854775808 ≤ x ∧ x ≤ 9223372036854775807) : zz x < 2 ^ 64 := by unfold zz; split <;> omega
theorem zz_write (x : Int) (hx : -9223372036854775808 ≤ x ∧ x ≤ 9223372036854775807) :
    bits .xor .u64 (IntKind.u64.wrap (IntKind.u64.wrap x * 2)) (IntKind.u64.wrap (x / 9223372036854775808)) = (zz x : Int) := by
  unfold zz
  rw [u64_wrap, u64_wrap, u64_wrap]
  split
  · rename_i h
    rw [show x / 9223372036854775808 % 18446744073709551616 = 0 by omega, xor_zero64 _ (by omega) (by omega)]
    omega
  · rename_i h
    rw [show x / 9223372036854775808 % 18446744073709551616 = 18446744073709551615 by omega, xor_ones64 _ (by omega) (by omega)]
    omega

set_option maxHeartbeats 1000000 in
theorem Writer_Int (w0 w : World) (g : Nat) (l : List Int) (x : Int) (hB : Below w0.heap.size w0 w) (h : Wr w0 w g l) (hx : -9223372036854775808 ≤ x ∧ x ≤ 9223372036854775807) (hl : l.length + 9 < 140737488355328) :
    Calls Try.prog 17 #[.pointer (some ⟨g, 0, none⟩), .int .i64 x] w fun e w' => e = .returned (.tuple #[]) ∧ Wr w0 w' g (l ++ enc (zz x)) ∧ Below w0.heap.size w0 w' := by
  obtain ⟨v, hb, hg, hR⟩ := h
  have hc : w.cell? ⟨g, 0, none⟩ = some v := (blk_cell hb 0).trans rfl
  have HR := Aside0.mk hR
  have HBk := Aside0.mk hb
  have HB := Aside0.mk hB
  clear hR hb hB
  go_enter Try.func17, Try.ntmps17
  go_wp2_with fail
  rw [zz_write x hx]
  refine (wire_put.calls 10 (fun k => v.ownBlock = some k) v l (zz x) _ w0 _ HB.out HR.out (put_ok l (zz x) (zz_lt x hx) hl)).mono ?_
  rintro e w1 ⟨v', rfl, hR1, hB1, hk⟩
  obtain ⟨A', n', c', rfl⟩ := R_slice_any hR1
  obtain ⟨hb1, hw1, hB2⟩ := Wr.store HBk.out hg HR.out hR1 hB1 hk
  have hf1 := blk_frozen hb1 0
  have hc1 : w1.cell? ⟨g, 0, none⟩ = some v := (blk_cell hb1 0).trans rfl
  have HW := Aside0.mk hw1
  have HB2 := Aside0.mk hB2
  clear hR1 hk hw1 hB2 hb1 hB1
  go_wp2
  go_end0
  exact ⟨rfl, HW.out, HB2.out⟩

theorem R_append_str {P : Program} {ops : Array Oper} {rest : List Oper} {o : Oper} {a : Act} {Q : Exit → Act → World → Prop} {w0 W : World} (base : Nat) (hgd : o.guard = none) (s x : Operand) (t u e : TypeId)
    (ho : o.op = .call { callee := .builtin .append, args := #[s, x], argTypes := #[t, u] })
    (ht : P.underlying t = some (.slice e)) (hu : P.underlying u = some .string) (hinfo : (P.info? e).map (fun i => (i.zero, i.size, i.bytes)) = some (some (.int .u8 0), 1, 1))
    (v : Value) (xs : List Int) (y : ByteArray) (ok : Nat → Prop) (hs : a.eval s = v) (hx : a.eval x = .string y)
    (HO : Kd.R (Kd.int .u8) e W base ok v xs) (HB : Below base w0 W) (hbase : base ≤ W.heap.size) (hl : xs.length + y.size ≤ 140737488355328)
    (h : ∀ v1 w1, Kd.R (Kd.int .u8) e w1 base (fun k => v1.ownBlock = some k) v1 (xs ++ bytesOf y) → Below base w0 w1 → W.grownBy w1 v.ownBlock → wpList P ops Q rest (a.put o.dst v1) w1) :
    wpList P ops Q (o :: rest) a W := by
  refine print_append_str (w0 := w0) base hgd s x t u e ho ht hu hinfo v xs y hs hx (Kd.own_of_R HO) HB hbase hl ?_
  intro v1 w1 ho1 hb1 hg1
  exact h v1 w1 (Kd.R_of_own (enc := Value.int .u8) ho1 (fun _ hk => hk)) hb1 hg1

set_option maxHeartbeats 1000000 in
theorem Writer_Text (w0 w : World) (g : Nat) (l : List Int) (s : ByteArray) (hB : Below w0.heap.size w0 w) (h : Wr w0 w g l) (hs : s.size ≤ 140737488351232) (hl : l.length + 9 + s.size < 140737488355328) :
    Calls Try.prog 18 #[.pointer (some ⟨g, 0, none⟩), .string s] w fun e w' => e = .returned (.tuple #[]) ∧ Wr w0 w' g (l ++ enc s.size ++ bytesOf s) ∧ Below w0.heap.size w0 w' := by
  obtain ⟨v, hb, hg, hR⟩ := h
  have hc : w.cell? ⟨g, 0, none⟩ = some v := (blk_cell hb 0).trans rfl
  have HR := Aside0.mk hR
  have HBk := Aside0.mk hb
  have HB := Aside0.mk hB
  clear hR hb hB
  go_enter Try.func18, Try.ntmps18
  go_wp2_with fail
  refine (wire_put.calls 10 (fun k => v.ownBlock = some k) v l s.size _ w0 _ HB.out HR.out (put_ok l s.size (by omega) (by omega))).mono ?_
  rintro e w1 ⟨v', rfl, hR1, hB1, hk⟩
  have hne : ¬ v.ownBlock = some g := fun h => Kd.R_ne HR.out HBk.out (by decide) h.symm
  have hb1 := blk_kept HBk.out hk hne
  have HR1 := Aside0.mk hR1
  have HB1 := Aside0.mk hB1
  have Hb1 := Aside0.mk hb1
  have hlen := enc_length s.size (by omega)
  clear hk hne hR1 hB1 hb1
  go_wp2_with (first | ((with_reducible refine gate_builtin (b := .append) (xs := #[.tmp 12, .tmp 13]) rfl ?_); at_builtin; refine R_append_str (w0 := w0) w0.heap.size rfl (.tmp 12) (.tmp 13) 33 9 5 rfl Try.underlying33 Try.underlying9 info5 v' (l ++ enc s.size) s _ rfl rfl HR1.out HB1.out HB1.out.size (by rw [List.length_append]; omega) ?_; intro v2 w2 h1 h2 h3; obtain ⟨A', n', c', rfl⟩ := R_slice_any h1; have h4 := blk_grown Hb1.out h3 (Kd.R_ne HR1.out Hb1.out (by decide)); have hf2 := blk_frozen h4 0; have hc2 : w2.cell? ⟨g, 0, none⟩ = some v := (blk_cell h4 0).trans rfl; have HR2 := Aside0.mk h1; have HB2 := Aside0.mk h2; have Hb2 := Aside0.mk h4; clear h1 h2 h3 h4))
  go_end0
  exact ⟨rfl, ⟨_, by rw [blk_set Hb2.out]; rfl, hg, R_own_ok (Kd.R_set HR2.out Hb2.out (by decide) 0 _)⟩, HB2.out.setCell hg _⟩

set_option maxHeartbeats 1000000 in
theorem Clone_any (w0 w : World) (A : Option Addr) (c : Nat) (l : List Int) (hB : Below w0.heap.size w0 w) (hC : Kd.C (Kd.int .u8) w A l.length l) (hl : l.length ≤ 140737488355328) :
    Calls Try.prog 19 #[.slice A l.length c] w fun e w' => ∃ v', e = .returned v' ∧ Kd.R (Kd.int .u8) 5 w' w0.heap.size (fun k => w.heap.size ≤ k) v' l ∧ Below w0.heap.size w0 w' ∧ Below w.heap.size w w' := by
  have HB := Aside0.mk hB
  have HC := Aside0.mk hC
  have HL := Aside0.mk hl
  clear hB hC hl
  cases A with
  | none =>
    have e0 : l = [] := by
      rcases l with _ | ⟨x, l⟩
      · rfl
      · obtain ⟨ad, h, _⟩ := HC.out.2.2 (by simp)
        cases h
    subst e0
    have hn := fun W => Go.Lib.run_eql_slice_nil (P := Try.prog) W 33 5 none 0 c 0 0 Try.underlying33
    go_enter Try.func19, Try.ntmps19
    go_wp2
    go_ret
    exact ⟨_, rfl, Kd.R_nil _ _ _ _ _, HB.out, Below.refl _ _⟩
  | some ad =>
    have hn := fun W n => Go.Lib.run_eql_slice_nil (P := Try.prog) W 33 5 (some ad) n c 0 0 Try.underlying33
    go_enter Try.func19, Try.ntmps19
    go_wp2_with (first | ((with_reducible refine gate_dst (N := 5) rfl ?_); refine Kd.R_lit (Kd.int .u8) (w0 := w0) w0.heap.size 5 ?hg (N := 5) ?hd (xs := []) (inner := []) (ok := fun k => w.heap.size ≤ k) (okp := fun _ => False) ?hr (Reps.none _ _) (fun _ h => h.elim) (Nat.le_refl _) HB.out HB.out.size (by simp) ?_; (case hd => rfl); (case hg => rfl); (case hr => first | (go_simp; done) | (go_simp; rfl)); intro v1 w1 h1 h2 h3 h4; have HR1 := Aside0.mk h1; have HB1 := Aside0.mk h2; have HG1 := Aside0.mk (below_of_grown h3); clear h1 h2 h3 h4) | ((with_reducible refine gate_builtin (b := .append) (xs := #[.tmp 5, .tmp 6]) rfl ?_); at_builtin; refine Kd.R_append_row (Value.int .u8) (0 : Int) (h1 := fun _ => rfl) (w0 := w0) w0.heap.size rfl (.tmp 5) (.tmp 6) 33 5 (.int .u8 0) 1 rfl Try.underlying33 info5 rfl (by decide) v1 [] l (some ad) l.length c (fun k => w.heap.size ≤ k) rfl rfl (fun k hk => Nat.le_trans HG1.out.size hk) HR1.out (Kd.C_below (d := Kd.int .u8) HC.out HG1.out) HB1.out HB1.out.size (by have := HL.out; simp; omega) ?_; intro v2 w2 h1 h2 h3 h4; have HR2 := Aside0.mk h1; have HB2 := Aside0.mk h2; have HG2 := Aside0.mk (HG1.out.grown h3 HG1.out.size HR1.out.1); clear h1 h2 h3 h4))
    go_ret
    exact ⟨_, rfl, HR2.out, HB2.out, HG2.out⟩

end Go.Proofs.Ytnnhcnmggfhkeaa.Wb

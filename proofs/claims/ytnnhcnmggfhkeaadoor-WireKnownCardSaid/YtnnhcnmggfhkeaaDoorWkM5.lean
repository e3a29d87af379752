/- Texts of this claim, one behind the other: AppKeep, AppOld, WkRows, WkGrow, WkApart, WkFrames. -/
import Derived.Test.YtnnhcnmggfhkeaaDoorProg
import Derived.ArgAppend
import Derived.Deep.AppendLies
import Derived.Maps.AppendAt
import Derived.RowKit3
import Derived.Test.YtnnhcnmggfhkeaaDoorKit
import Derived.Test.YtnnhcnmggfhkeaaDoorWkReads
/- An append to a row of one's own: where the new row lies, and that the old one is as it was if it lies elsewhere. -/
namespace Go.Proofs.YtnnhcnmggfhkeaaDoor.App
open Go.RowKit Go.Proofs.YtnnhcnmggfhkeaaDoorW.PrintWords Go.Proofs.YtnnhcnmggfhkeaaDoorW.PrintLast Go.Proofs.YtnnhcnmggfhkeaaDoorW.PrintMore
set_option linter.unusedVariables false
set_option linter.unusedSimpArgs false
section
variable {P : Program} (w : World)
theorem run_keeps (base : Nat) (t ty e : TypeId) (i : TypeInfo) (z : Value) (size bytes : Nat) (ht : P.underlying t = some (.slice e)) (hi : P.info? e = some i) (hz : i.zero = some z)
    (hsize : i.size = size) (hby : i.bytes = bytes) (hzs : z.cells.size = size) (hsz : 0 < size)
    (v : Value) (n : Nat) (xs : List Value) (hown : w.ownsRow base e size v n xs)
    (a : Addr) (m c : Nat) (news : List Value) (hl : news.length = m * size) (hnews : ∀ j u, news[j]? = some u → w.cell? (a.add j) = some u) (h1 : ∀ u ∈ news, u.oneCell' = true)
    (h63 : n + m ≤ maxLen) (hbytes : (n + m) * bytes ≤ 140737488355328) (hbase : base ≤ w.heap.size) (hm : 0 < m) :
    ∃ v' w', (Builtin.append_ #[t, t] ty #[v, .slice (some a) m c]).run P w = .ok v' w' ∧ w'.ownsRow base e size v' (n + m) (xs ++ news) ∧ w.grownBy w' v.ownBlock ∧
      ((v'.ownBlock = v.ownBlock ∧ v.ownBlock ≠ none) ∨ (w.grownBy w' none ∧ v'.ownBlock = some w.heap.size)) := by
  obtain ⟨v', w', hr, h2, h3, h4, h5⟩ := run_append_own_at (P := P) w base t ty e i z size bytes ht hi hz hsize hby hzs hsz v n xs hown a m c news hl hnews h1 h63 hbytes hbase
  refine ⟨v', w', hr, h2, h3, ?_⟩
  obtain ⟨g', cap', hv', _, _⟩ := h2.form (by omega)
  rcases hown.2 with ⟨hv, h0⟩ | ⟨g, cap, cur, hv, hbg, hg, hnc, hcm, hcs, htake⟩
  · subst hv
    refine .inr ⟨h3, ?_⟩
    rcases h5 with h5 | h5
    · rw [hv'] at h5
      simp [Value.ownBlock] at h5
    · exact h5
  · rcases h5 with h5 | h5
    · exact .inl ⟨h5, by rw [hv]; simp [Value.ownBlock]⟩
    · refine .inr ⟨?_, h5⟩
      have hglt := blk_lt hg
      by_cases hroom : n + m ≤ cap
      · exfalso
        subst hsize
        have hfit : n * i.size + news.length ≤ cur.size := by rw [hl, hcs, ← Nat.add_mul]; exact Nat.mul_le_mul_right _ hroom
        have hr2 := run_append_room_cells (P := P) w t ty e i ht hi g 0 n cap a m c news hl hnews h1 hroom
          (fun j hj => by rw [show (0 + n * i.size + j) = n * i.size + j by omega, blk_cell hg]; simp; omega)
          (fun j hj => blk_frozen0 hg _)
        rw [hv] at hr
        rw [hr] at hr2
        simp only [Result.ok.injEq] at hr2
        rw [hr2.1] at h5
        simp only [Value.ownBlock, Option.some.injEq] at h5
        omega
      · have holds : ∀ j u, xs[j]? = some u → w.cell? ((⟨g, 0, none⟩ : Addr).add j) = some u := by
          rw [hv] at hown
          exact hown.cells (g := g) rfl
        obtain ⟨v2, w2, hr2, _, hg2⟩ := run_append_arg_grows (P := P) w t ty e i z size bytes ht hi hz hsize hby hzs hsz ⟨g, 0, none⟩ n cap xs hown.1 holds a m c news hl hnews (by omega) h63 hbytes
        rw [hv] at hr
        rw [hr] at hr2
        simp only [Result.ok.injEq] at hr2
        rw [hr2.2]
        exact hg2
where
  blk_frozen0 {w : World} {g : Nat} {cs : Array Value} {t : TypeId} (h : w.heap[g]? = some (.cells cs t (0, 0))) (i : Nat) : w.frozen? ⟨g, i, none⟩ = false := by simp [World.frozen?, h]
end
section
variable {P : Program} {ops : Array Oper} {rest : List Oper} {o : Oper} {a : Act} {Q : Exit → Act → World → Prop} {w0 W : World} {α : Type}
theorem grown_alloc {w1 : World} {row : Option Nat} {ob : Obj} (h : (W.alloc ob).grownBy w1 row) : W.grownBy w1 row :=
  ⟨h.os, h.tape, h.output, by have := h.size; simp at this; omega, fun k hk hne => (h.block k (by simp; omega) hne).trans (Below.heap_alloc W ob k hk)⟩
/-- append(s, y), in the walk: arm 'at_builtin; refine append_keeps ..'. -/
theorem append_keeps (enc : α → Value) {h1 : ∀ x : α, (enc x).oneCell' = true} (base : Nat) (hgd : o.guard = none) (s x : Operand) (t e : TypeId) (z : Value) (bytes : Nat)
    (ho : o.op = .call { callee := .builtin .append, args := #[s, x], argTypes := #[t, t] })
    (ht : P.underlying t = some (.slice e)) (hinfo : (P.info? e).map (fun i => (i.zero, i.size, i.bytes)) = some (some z, 1, bytes)) (hz : z.cells.size = 1) (hb0 : 0 < bytes)
    (v : Value) (xs : List α) (y : α) (ok : Nat → Prop) (hs : a.eval s = v) (hx : a.eval x = .slice (some ⟨W.heap.size, 0, none⟩) 1 1)
    (HO : (Kd.scalar enc h1).R e W base ok v xs) (HB : Below base w0 W) (hbase : base ≤ W.heap.size) (hl : (xs.length + 1) * bytes ≤ 140737488355328)
    (h : ∀ v1 w1, (Kd.scalar enc h1).R e w1 base (fun k => v1.ownBlock = some k) v1 (xs ++ [y]) → Below base w0 w1 → W.grownBy w1 v.ownBlock →
      ((v1.ownBlock = v.ownBlock ∧ v.ownBlock ≠ none) ∨ (W.grownBy w1 none ∧ ∃ b, v1.ownBlock = some b ∧ W.heap.size ≤ b)) → wpList P ops Q rest (a.put o.dst v1) w1) :
    wpList P ops Q (o :: rest) a (W.alloc (.cells #[enc y] e)) := by
  obtain ⟨i0, hi, hzz⟩ := Option.map_eq_some_iff.1 hinfo
  simp only [Prod.mk.injEq] at hzz
  obtain ⟨hz0, hz1, hz2⟩ := hzz
  have hown := World.ownsRow.alloc (Kd.own_of_R HO) (.cells #[enc y] e)
  have hlen : xs.length + 1 ≤ 140737488355328 := Nat.le_trans (Nat.le_mul_of_pos_right _ hb0) hl
  refine wpList_plain hgd fun K hK => ?_
  obtain ⟨v', w', hr, h2, h3, h4⟩ := run_keeps (P := P) (W.alloc (.cells #[enc y] e)) base t o.type e i0 z 1 bytes ht hi hz0 hz1 hz2 hz (by decide) v xs.length _ hown ⟨W.heap.size, 0, none⟩ 1 1 [enc y] rfl (cell_one_new W (enc y) e) (by intro u hu; rw [List.mem_singleton.1 hu]; exact h1 y) (by simp only [maxLen]; omega) hl (by simp; omega) (by decide)
  unfold Oper.wp execOp
  simp only [ho, resolve, invoke, builtin, Sem.run_bind, Sem.run_pure, Result.andThen_ok, List.map_toArray, List.map_cons, List.map_nil, hs, hx, hr]
  have hl2 : (xs ++ [y]).length = xs.length + 1 := by rw [List.length_append, List.length_singleton]
  have he : encs enc (xs ++ [y]) = encs enc xs ++ [enc y] := by simp [encs]
  refine hK _ _ (h v' w' (Kd.R_of_own (by rw [hl2, he]; exact h2) (fun _ hk => hk)) ((HB.alloc hbase _).grown h3 (by simp; omega) (fun k hk => own_base hown k hk)) (grown_alloc h3) ?_)
  rcases h4 with h4 | ⟨h4, h5⟩
  · exact .inl h4
  · exact .inr ⟨grown_alloc h4, _, h5, by simp⟩
end
end Go.Proofs.YtnnhcnmggfhkeaaDoor.App

/- An append to a row of one's own: the old slice is still a row, of the old contents. -/
namespace Go.Proofs.YtnnhcnmggfhkeaaDoor.App
open Go.RowKit Go.Proofs.YtnnhcnmggfhkeaaDoorW.PrintWords Go.Proofs.YtnnhcnmggfhkeaaDoorW.PrintLast Go.Proofs.YtnnhcnmggfhkeaaDoorW.PrintMore
set_option linter.unusedVariables false
set_option linter.unusedSimpArgs false
section
variable {P : Program} (w : World)
theorem run_old (base : Nat) (t ty e : TypeId) (i : TypeInfo) (z : Value) (size bytes : Nat) (ht : P.underlying t = some (.slice e)) (hi : P.info? e = some i) (hz : i.zero = some z)
    (hsize : i.size = size) (hby : i.bytes = bytes) (hzs : z.cells.size = size) (hsz : 0 < size)
    (v : Value) (n : Nat) (xs : List Value) (hown : w.ownsRow base e size v n xs)
    (a : Addr) (m c : Nat) (news : List Value) (hl : news.length = m * size) (hnews : ∀ j u, news[j]? = some u → w.cell? (a.add j) = some u) (h1 : ∀ u ∈ news, u.oneCell' = true)
    (h63 : n + m ≤ maxLen) (hbytes : (n + m) * bytes ≤ 140737488355328) (hbase : base ≤ w.heap.size) (hm : 0 < m) :
    ∃ v' w', (Builtin.append_ #[t, t] ty #[v, .slice (some a) m c]).run P w = .ok v' w' ∧ w'.ownsRow base e size v' (n + m) (xs ++ news) ∧ w.grownBy w' v.ownBlock ∧ w'.ownsRow base e size v n xs := by
  obtain ⟨v', w', hr, h2, h3, h4, h5⟩ := run_append_own_at (P := P) w base t ty e i z size bytes ht hi hz hsize hby hzs hsz v n xs hown a m c news hl hnews h1 h63 hbytes hbase
  refine ⟨v', w', hr, h2, h3, ?_⟩
  obtain ⟨g', cap', hv', _, _⟩ := h2.form (by omega)
  have hxl := hown.1
  rcases hown.2 with ⟨hv, h0⟩ | ⟨g, cap, cur, hv, hbg, hg, hnc, hcm, hcs, htake⟩
  · subst hv
    subst h0
    obtain rfl : xs = [] := List.eq_nil_of_length_eq_zero (by simpa using hxl)
    exact World.ownsRow_nil _ _ _ _
  · by_cases hroom : n + m ≤ cap
    · have hs2 := hsize
      subst hs2
      have hfit : n * i.size + news.length ≤ cur.size := by rw [hl, hcs, ← Nat.add_mul]; exact Nat.mul_le_mul_right _ hroom
      have hr2 := run_append_room_cells (P := P) w t ty e i ht hi g 0 n cap a m c news hl hnews h1 hroom
        (fun j hj => by rw [show (0 + n * i.size + j) = n * i.size + j by omega, blk_cell hg]; simp; omega)
        (fun j hj => run_keeps.blk_frozen0 hg _)
      rw [hv] at hr
      rw [hr] at hr2
      simp only [Result.ok.injEq] at hr2
      obtain ⟨hva, _⟩ := hr2
      rcases h2.2 with ⟨hn, _⟩ | ⟨g2, cap2, cur2, hv2, hb2, hg2, hnc2, hcm2, hcs2, htake2⟩
      · rw [hva] at hn
        cases hn
      · rw [hva] at hv2
        cases hv2
        rw [hv]
        refine ⟨hxl, .inr ⟨g, cap, cur2, rfl, hb2, hg2, by omega, hcm2, hcs2, ?_⟩⟩
        have := congrArg (List.take (n * i.size)) htake2
        rw [List.take_take, Nat.min_eq_left (Nat.mul_le_mul_right _ (Nat.le_add_right n m)), List.take_append_of_le_length (Nat.le_of_eq hxl.symm), ← hxl, List.take_length] at this
        rw [← hxl]
        exact this
    · have holds : ∀ j u, xs[j]? = some u → w.cell? ((⟨g, 0, none⟩ : Addr).add j) = some u := by
        rw [hv] at hown
        exact hown.cells (g := g) rfl
      obtain ⟨v2, w2, hr2, _, hg2⟩ := run_append_arg_grows (P := P) w t ty e i z size bytes ht hi hz hsize hby hzs hsz ⟨g, 0, none⟩ n cap xs hown.1 holds a m c news hl hnews (by omega) h63 hbytes
      rw [hv] at hr
      rw [hr] at hr2
      simp only [Result.ok.injEq] at hr2
      rw [hr2.2]
      exact hown.kept hg2 (.inr (by rw [hv]; simp [Value.ownBlock]))
end
section
variable {P : Program} {ops : Array Oper} {rest : List Oper} {o : Oper} {a : Act} {Q : Exit → Act → World → Prop} {w0 W : World} {α : Type}
/-- append(s, y), in the walk: arm 'at_builtin; refine append_old ..'. -/
theorem append_old (enc : α → Value) {h1 : ∀ x : α, (enc x).oneCell' = true} (base : Nat) (hgd : Region.wanted o (yielded ops a.tmps) = true) (s x : Operand) (t e : TypeId) (z : Value) (bytes : Nat)
    (ho : o.op = .call { callee := .builtin .append, args := #[s, x], argTypes := #[t, t] })
    (ht : P.underlying t = some (.slice e)) (hinfo : (P.info? e).map (fun i => (i.zero, i.size, i.bytes)) = some (some z, 1, bytes)) (hz : z.cells.size = 1) (hb0 : 0 < bytes)
    (v : Value) (xs : List α) (y : α) (ok : Nat → Prop) (hs : a.eval s = v) (hx : a.eval x = .slice (some ⟨W.heap.size, 0, none⟩) 1 1)
    (HO : (Kd.scalar enc h1).R e W base ok v xs) (HB : Below base w0 W) (hbase : base ≤ W.heap.size) (hl : (xs.length + 1) * bytes ≤ 140737488355328)
    (h : ∀ v1 w1, (Kd.scalar enc h1).R e w1 base (fun k => v1.ownBlock = some k) v1 (xs ++ [y]) → Below base w0 w1 → (Kd.scalar enc h1).R e w1 base ok v xs → wpList P ops Q rest (a.put o.dst v1) w1) :
    wpList P ops Q (o :: rest) a (W.alloc (.cells #[enc y] e)) := by
  obtain ⟨i0, hi, hzz⟩ := Option.map_eq_some_iff.1 hinfo
  simp only [Prod.mk.injEq] at hzz
  obtain ⟨hz0, hz1, hz2⟩ := hzz
  have hown := World.ownsRow.alloc (Kd.own_of_R HO) (.cells #[enc y] e)
  have hok := HO.1
  have hlen : xs.length + 1 ≤ 140737488355328 := Nat.le_trans (Nat.le_mul_of_pos_right _ hb0) hl
  refine wpList_step fun K hK => ?_
  rw [if_pos hgd]
  obtain ⟨v', w', hr, h2, h3, h4⟩ := run_old (P := P) (W.alloc (.cells #[enc y] e)) base t o.type e i0 z 1 bytes ht hi hz0 hz1 hz2 hz (by decide) v xs.length _ hown ⟨W.heap.size, 0, none⟩ 1 1 [enc y] rfl (cell_one_new W (enc y) e) (by intro u hu; rw [List.mem_singleton.1 hu]; exact h1 y) (by simp only [maxLen]; omega) hl (by simp; omega) (by decide)
  unfold Oper.wp execOp
  simp only [ho, resolve, invoke, builtin, Sem.run_bind, Sem.run_pure, Result.andThen_ok, List.map_toArray, List.map_cons, List.map_nil, hs, hx, hr]
  have hl2 : (xs ++ [y]).length = xs.length + 1 := by rw [List.length_append, List.length_singleton]
  have he : encs enc (xs ++ [y]) = encs enc xs ++ [enc y] := by simp [encs]
  exact hK _ _ (h v' w' (Kd.R_of_own (by rw [hl2, he]; exact h2) (fun _ hk => hk)) ((HB.alloc hbase _).grown h3 (by simp; omega) (fun k hk => own_base hown k hk)) (Kd.R_of_own h4 hok))
/-- append(s, y1, .., ym), in the walk. -/
theorem append_olds (enc : α → Value) {h1 : ∀ x : α, (enc x).oneCell' = true} (base : Nat) (hgd : Region.wanted o (yielded ops a.tmps) = true) (s x : Operand) (t e : TypeId) (z : Value) (bytes : Nat)
    (ho : o.op = .call { callee := .builtin .append, args := #[s, x], argTypes := #[t, t] })
    (ht : P.underlying t = some (.slice e)) (hinfo : (P.info? e).map (fun i => (i.zero, i.size, i.bytes)) = some (some z, 1, bytes)) (hz : z.cells.size = 1) (hb0 : 0 < bytes)
    (v : Value) (xs ys : List α) (cs : Array Value) (hcs : cs.toList = encs enc ys) (m : Nat) (hm : ys.length = m) (hm0 : 0 < m) (ok : Nat → Prop) (hs : a.eval s = v) (hx : a.eval x = .slice (some ⟨W.heap.size, 0, none⟩) m m)
    (HO : (Kd.scalar enc h1).R e W base ok v xs) (HB : Below base w0 W) (hbase : base ≤ W.heap.size) (hl : (xs.length + m) * bytes ≤ 140737488355328)
    (h : ∀ v1 w1, (Kd.scalar enc h1).R e w1 base (fun k => v1.ownBlock = some k) v1 (xs ++ ys) → Below base w0 w1 → (Kd.scalar enc h1).R e w1 base ok v xs → wpList P ops Q rest (a.put o.dst v1) w1) :
    wpList P ops Q (o :: rest) a (W.alloc (.cells cs e)) := by
  obtain ⟨i0, hi, hzz⟩ := Option.map_eq_some_iff.1 hinfo
  simp only [Prod.mk.injEq] at hzz
  obtain ⟨hz0, hz1, hz2⟩ := hzz
  have hown := World.ownsRow.alloc (Kd.own_of_R HO) (.cells cs e)
  have hok := HO.1
  have hlen : xs.length + m ≤ 140737488355328 := Nat.le_trans (Nat.le_mul_of_pos_right _ hb0) hl
  have hel : (encs enc ys).length = m := by simp [encs, hm]
  refine wpList_step fun K hK => ?_
  rw [if_pos hgd]
  obtain ⟨v', w', hr, h2, h3, h4⟩ := run_old (P := P) (W.alloc (.cells cs e)) base t o.type e i0 z 1 bytes ht hi hz0 hz1 hz2 hz (by decide) v xs.length _ hown ⟨W.heap.size, 0, none⟩ m m (encs enc ys) (by rw [hel]; omega)
    (by
      intro j u hj
      rw [show ((⟨W.heap.size, 0, none⟩ : Addr).add j) = ⟨W.heap.size, j, none⟩ by simp [Addr.add]; omega, World.cell?_alloc_new, ← Array.getElem?_toList, hcs]; exact hj)
    (by intro u hu; simp only [encs, List.mem_map] at hu; obtain ⟨y, _, rfl⟩ := hu; exact h1 y) (by simp only [maxLen]; omega) hl (by simp; omega) hm0
  unfold Oper.wp execOp
  simp only [ho, resolve, invoke, builtin, Sem.run_bind, Sem.run_pure, Result.andThen_ok, List.map_toArray, List.map_cons, List.map_nil, hs, hx, hr]
  have hl2 : (xs ++ ys).length = xs.length + m := by rw [List.length_append, hm]
  have he : encs enc (xs ++ ys) = encs enc xs ++ encs enc ys := by simp [encs]
  exact hK _ _ (h v' w' (Kd.R_of_own (by rw [hl2, he]; exact h2) (fun _ hk => hk)) ((HB.alloc hbase _).grown h3 (by simp; omega) (fun k hk => own_base hown k hk)) (Kd.R_of_own h4 hok))
end
end Go.Proofs.YtnnhcnmggfhkeaaDoor.App

/- Rows of bytes that lie apart: what a store, an append leaves. -/
namespace Go.Proofs.YtnnhcnmggfhkeaaDoor.Wk
open Go.RowKit Go.Proofs.YtnnhcnmggfhkeaaDoorW.PrintWords Go.Proofs.YtnnhcnmggfhkeaaDoorW.PrintLast Go.Proofs.YtnnhcnmggfhkeaaDoorW.PrintMore Go.Proofs.YtnnhcnmggfhkeaaDoor.PWireKnown
set_option linter.unusedVariables false
set_option linter.unusedSimpArgs false

/-- The mark of a place. -/
def mkv (k i : Nat) : Int := ((37 * (k + 1) + i : Nat) : Int) % 256
def mks (k n : Nat) : List Int := (List.range n).map (mkv k)
theorem mks_len (k n : Nat) : (mks k n).length = n := by simp [mks]
theorem mks_succ (k n : Nat) : mks k (n + 1) = mks k n ++ [mkv k n] := by simp [mks, List.range_succ]
theorem mks_take (k n m : Nat) (h : n ≤ m) : (mks k m).take n = mks k n := by
  rw [mks, ← List.map_take, List.take_range, Nat.min_eq_left h]
  rfl
theorem mks_rd (k n i : Nat) (h : i < n) : rd (mks k n) i = mkv k i := by
  rw [rd_nat]
  simp [mks, h]
theorem mark_calls (k i : Nat) (hk : k ≤ 1000000) (hi : i ≤ 100000000) (w : World) : Calls Tryd.prog 63 #[.int .i64 k, .int .i64 i] w fun e w' => e = .returned (.int .u8 (mkv k i)) ∧ Drawn0 w w' := by
  refine custodykit_markBytes.calls k i (mkv k i) w ?_
  unfold custodykit_markBytes.f mkv
  rw [wrap64_id (x := (k : Int) + 1) (by omega) (by omega), wrap64_id (x := 37 * ((k : Int) + 1)) (by omega) (by omega), wrap64_id (x := 37 * ((k : Int) + 1) + i) (by omega) (by omega)]
  congr 2

/-- m rows, each of its own. -/
structure Rws (w : World) (base m : Nat) (vs : Nat → Value) (xs : Nat → List Int) : Prop where
  row : ∀ j, j < m → Kd.R (Kd.int .u8) 5 w base (fun k => (vs j).ownBlock = some k) (vs j) (xs j)
  dis : ∀ i j, i < m → j < m → i ≠ j → ∀ k, (vs i).ownBlock = some k → (vs j).ownBlock ≠ some k
/-- The list of them lies at L. -/
def Lst (w : World) (L m : Nat) (vs : Nat → Value) : Prop := ∃ arr, w.heap[L]? = some (.cells arr 29 (0, 0)) ∧ ∀ j, j < m → arr[j]? = some (vs j)
def upd (xs : Nat → List Int) (k : Nat) (x : List Int) : Nat → List Int := fun j => if j = k then x else xs j
theorem Rws.cong {w : World} {base m : Nat} {vs : Nat → Value} {xs ys : Nat → List Int} (h : Rws w base m vs xs) (e : ∀ j, j < m → xs j = ys j) : Rws w base m vs ys :=
  ⟨fun j hj => by rw [← e j hj]; exact h.row j hj, h.dis⟩
theorem Rws.below {w w' : World} {base m : Nat} {vs : Nat → Value} {xs : Nat → List Int} (h : Rws w base m vs xs) (hb : Below w.heap.size w w') : Rws w' base m vs xs := ⟨fun j hj => Kd.R_below (h.row j hj) hb, h.dis⟩
theorem Rws.heap {w w' : World} {base m : Nat} {vs : Nat → Value} {xs : Nat → List Int} (h : Rws w base m vs xs) (hh : w'.heap = w.heap) : Rws w' base m vs xs := ⟨fun j hj => Kd.R_step (h.row j hj) (fun k _ _ => by rw [hh]), h.dis⟩
theorem Lst.heap {w w' : World} {L m : Nat} {vs : Nat → Value} (h : Lst w L m vs) (hh : w'.heap = w.heap) : Lst w' L m vs := by
  obtain ⟨arr, h1, h2⟩ := h
  exact ⟨arr, by rw [hh]; exact h1, h2⟩
theorem Lst.below {w w' : World} {L m : Nat} {vs : Nat → Value} (h : Lst w L m vs) (hb : Below w.heap.size w w') : Lst w' L m vs := by
  obtain ⟨arr, h1, h2⟩ := h
  exact ⟨arr, blk_below h1 hb, h2⟩
theorem Rws.lt {w : World} {base m : Nat} {vs : Nat → Value} {xs : Nat → List Int} (h : Rws w base m vs xs) {j : Nat} (hj : j < m) {k : Nat} (hk : (vs j).ownBlock = some k) : base ≤ k ∧ k < w.heap.size := by
  obtain ⟨inner, ho⟩ := Kd.R_own (h.row j hj)
  exact ⟨own_base ho k hk, own_lt ho k hk⟩
theorem Lst.ne {w : World} {base L m : Nat} {vs : Nat → Value} {xs : Nat → List Int} (h : Lst w L m vs) (r : Rws w base m vs xs) {j : Nat} (hj : j < m) : some L ≠ (vs j).ownBlock := by
  obtain ⟨arr, h1, h2⟩ := h
  exact Kd.R_ne (r.row j hj) h1 (by decide)
theorem Lst.grown {w w' : World} {base L m : Nat} {vs : Nat → Value} {xs : Nat → List Int} (h : Lst w L m vs) (r : Rws w base m vs xs) {j : Nat} (hj : j < m) (hg : w.grownBy w' (vs j).ownBlock) : Lst w' L m vs := by
  have hne := h.ne r hj
  obtain ⟨arr, h1, h2⟩ := h
  exact ⟨arr, blk_grown h1 hg hne, h2⟩
theorem Lst.cell {w : World} {L m : Nat} {vs : Nat → Value} (h : Lst w L m vs) {j : Nat} (hj : j < m) : w.cell? ⟨L, j, none⟩ = some (vs j) := by
  obtain ⟨arr, h1, h2⟩ := h
  exact (blk_cell h1 j).trans (h2 j hj)
/-- A byte of row k is written. -/
theorem Rws.put {w : World} {base m : Nat} {vs : Nat → Value} {xs : Nat → List Int} (h : Rws w base m vs xs) (k i : Nat) (hk : k < m) (hi : i < (xs k).length) (x : Int) :
    ∃ g c, vs k = .slice (some ⟨g, 0, none⟩) (xs k).length c ∧ base ≤ g ∧ (∃ y, w.cell? ⟨g, i, none⟩ = some (.int .u8 y)) ∧ w.frozen? ⟨g, i, none⟩ = false ∧ w.grownBy (w.setCell ⟨g, i, none⟩ (.int .u8 x)) (vs k).ownBlock ∧
      Rws (w.setCell ⟨g, i, none⟩ (.int .u8 x)) base m vs (upd xs k ((xs k).set i x)) := by
  have hr := h.row k hk
  have ho := Kd.own_of_R (enc := Value.int .u8) (h1 := fun _ => rfl) hr
  rcases ho.2 with ⟨he, hn⟩ | ⟨g, c, cur, he, hb, hg, hrest⟩
  · omega
  · have hC := (Kd.R_reads hr)
    obtain ⟨A', c', e', _, hC⟩ := hC
    have hA : A' = some ⟨g, 0, none⟩ := by rw [he] at e'; cases e'; rfl
    subst hA
    obtain ⟨ad, hA, hcell⟩ := Kd.at_int hC i (by omega) (by omega)
    cases hA
    have ea : (⟨g, 0, none⟩ : Addr).add (i : Int).toNat = ⟨g, i, none⟩ := by
      rw [Int.toNat_natCast]
      simp [Addr.add]
      intro h
      exact h.symm
    rw [ea] at hcell
    rw [he] at hr
    obtain ⟨hp, hgb⟩ := Kd.R_putg (enc := Value.int .u8) (h1 := fun _ => rfl) hr (i : Int) x
    rw [Int.toNat_natCast] at hp hgb
    refine ⟨g, c, he, hb, ⟨_, hcell⟩, blk_frozen hg i, by rw [he]; exact hgb, ⟨fun j hj => ?_, h.dis⟩⟩
    unfold upd
    by_cases c1 : j = k
    · subst c1
      rw [if_pos rfl]
      rw [he]
      exact hp
    · rw [if_neg c1]
      exact Kd.R_grown (h.row j hj) hgb (fun q hq => by
        intro e
        have := h.dis j k hj hk c1 q hq
        rw [he] at this
        simp only [Value.ownBlock, Option.some.injEq] at e this
        exact this (by first | exact e.symm | exact congrArg some e.symm | simpa using e.symm))
end Go.Proofs.YtnnhcnmggfhkeaaDoor.Wk

/- Rows of bytes that grow while the old slices stay: the second part of ApartBytes, without the walk. -/
namespace Go.Proofs.YtnnhcnmggfhkeaaDoor.Wk
open Go.RowKit Go.Proofs.YtnnhcnmggfhkeaaDoorW.PrintWords Go.Proofs.YtnnhcnmggfhkeaaDoorW.PrintLast Go.Proofs.YtnnhcnmggfhkeaaDoorW.PrintMore Go.Proofs.YtnnhcnmggfhkeaaDoor.PWireKnown
set_option linter.unusedVariables false
set_option linter.unusedSimpArgs false

/-- The first k lists are written over, and i bytes of the next. -/
def over (xs : Nat → List Int) (k i : Nat) : Nat → List Int := fun j => if j < k then mks j (xs j).length else if j = k then mks k i ++ (xs k).drop i else xs j
theorem over_len (xs : Nat → List Int) (k i j : Nat) (h : i ≤ (xs k).length) : (over xs k i j).length = (xs j).length := by
  unfold over
  split
  · exact mks_len _ _
  · split
    · rename_i h1 h2
      subst h2
      rw [List.length_append, mks_len, List.length_drop]
      omega
    · rfl
theorem over_zero (xs : Nat → List Int) (j : Nat) : over xs 0 0 j = xs j := by
  unfold over
  rw [if_neg (by omega)]
  split
  · rename_i h
    subst h
    simp [mks]
  · rfl
theorem over_next (xs : Nat → List Int) (k j : Nat) : over xs k (xs k).length j = over xs (k + 1) 0 j := by
  unfold over
  by_cases c1 : j < k
  · rw [if_pos c1, if_pos (by omega)]
  · rw [if_neg c1]
    by_cases c2 : j = k
    · subst c2
      rw [if_pos rfl, if_pos (by omega), List.drop_length, List.append_nil]
    · rw [if_neg c2, if_neg (by omega)]
      split
      · rename_i h
        subst h
        simp [mks]
      · rfl
theorem over_put (xs : Nat → List Int) (k i j : Nat) (h : i < (xs k).length) : upd (over xs k i) k ((over xs k i k).set i (mkv k i)) j = over xs k (i + 1) j := by
  unfold upd
  by_cases c : j = k
  · subst c
    rw [if_pos rfl]
    unfold over
    rw [if_neg (by omega), if_pos rfl, if_neg (by omega), if_pos rfl, mks_succ, drop_at (xs j) i h]
    rw [List.set_append, if_neg (by rw [mks_len]; omega), mks_len]
    simp
  · rw [if_neg c]
    unfold over
    rw [if_neg c, if_neg c]
structure SV where
  A : Option Addr
  n : Nat
  c : Nat
def encS (q : SV) : Value := .slice q.A q.n q.c
theorem encS_one (q : SV) : (encS q).oneCell' = true := rfl
def updV (rs : Nat → Value) (k : Nat) (v : Value) : Nat → Value := fun j => if j = k then v else rs j
/-- The contents: k rows have grown by 64, the next by t. -/
def bc (n : Nat → Nat) (k t : Nat) : Nat → List Int := fun j => if j < k then mks j (n j + 64) else if j = k then mks k (n k + t) else mks j (n j)
theorem bc_at (n : Nat → Nat) (k t : Nat) : bc n k t k = mks k (n k + t) := by
  unfold bc
  rw [if_neg (by omega), if_pos rfl]
theorem bc_next (n : Nat → Nat) (k j : Nat) : bc n k 64 j = bc n (k + 1) 0 j := by
  unfold bc
  by_cases c1 : j < k
  · rw [if_pos c1, if_pos (by omega)]
  · rw [if_neg c1]
    by_cases c2 : j = k
    · subst c2
      rw [if_pos rfl, if_pos (by omega)]
    · rw [if_neg c2, if_neg (by omega)]
      split
      · rename_i h
        subst h
        rfl
      · rfl
theorem bc_zero (n : Nat → Nat) (j : Nat) : bc n 0 0 j = mks j (n j) := by
  unfold bc
  rw [if_neg (by omega)]
  split
  · rename_i h
    subst h
    rfl
  · rfl
theorem own_shape {w : World} {base e : Nat} {ok : Nat → Prop} {v : Value} {xs : List Int} (h : Kd.R (Kd.int .u8) e w base ok v xs) :
    (v = .slice none 0 0 ∧ xs.length = 0) ∨ ∃ g c, v = .slice (some ⟨g, 0, none⟩) xs.length c ∧ xs.length ≤ c ∧ base ≤ g ∧ g < w.heap.size ∧ Kd.C (Kd.int .u8) w (some ⟨g, 0, none⟩) xs.length xs := by
  have ho := Kd.own_of_R (enc := Value.int .u8) (h1 := fun _ => rfl) h
  rcases ho.2 with ⟨he, hn⟩ | ⟨g, c, cur, he, hb, hg, hc, hrest⟩
  · exact .inl ⟨he, hn⟩
  · obtain ⟨A', c', e', _, hC⟩ := Kd.R_reads h
    rw [he] at e'
    cases e'
    exact .inr ⟨g, c, he, hc, hb, blk_lt hg, hC⟩
/-- While the rows grow. -/
structure BInv (wb : World) (b2 L m : Nat) (vs : Nat → Value) (n : Nat → Nat) (k t : Nat) (rs : Nat → Value) (gl : List SV) (vg : Value) (w' : World) : Prop where
  below : Below wb.heap.size wb w'
  rows : Rws w' wb.heap.size m rs (bc n k t)
  same : ∀ j, k < j → rs j = vs j
  dis2 : ∀ i j, i < m → j < m → i ≠ j → ∀ q, (vs i).ownBlock = some q → (rs j).ownBlock ≠ some q
  orig : ∀ j, j < m → (vs j = .slice none 0 0 ∧ n j = 0) ∨ ∃ g c, vs j = .slice (some ⟨g, 0, none⟩) (n j) c ∧ n j ≤ c ∧ g < b2 ∧ Kd.C (Kd.int .u8) w' (some ⟨g, 0, none⟩) (n j) (mks j (n j))
  lst : Lst w' L m vs
  gs : Kd.R (Kd.scalar encS encS_one) 29 w' b2 (fun q => vg.ownBlock = some q) vg gl
  glen : gl.length = k
  glat : ∀ j q, gl[j]? = some q → encS q = rs j
  hb2 : b2 ≤ w'.heap.size
  hwb : wb.heap.size ≤ b2
theorem BInv.still {wb : World} {b2 L m : Nat} {vs : Nat → Value} {n : Nat → Nat} {k t : Nat} {rs : Nat → Value} {gl : List SV} {vg : Value} {w1 w2 : World} (h : BInv wb b2 L m vs n k t rs gl vg w1) (hb : Below w1.heap.size w1 w2) : BInv wb b2 L m vs n k t rs gl vg w2 :=
  ⟨below_step h.below hb, h.rows.below hb, h.same, h.dis2, fun j hj => (h.orig j hj).imp id (fun ⟨g, c, h1, h2, h3, h4⟩ => ⟨g, c, h1, h2, h3, Kd.C_below h4 hb⟩), h.lst.below hb, Kd.R_below h.gs hb, h.glen, h.glat, Nat.le_trans h.hb2 hb.size, h.hwb⟩
theorem gs_block {w : World} {b2 : Nat} {vg : Value} {gl : List SV} (h : Kd.R (Kd.scalar encS encS_one) 29 w b2 (fun q => vg.ownBlock = some q) vg gl) (G : Nat) (hG : vg.ownBlock = some G) : b2 ≤ G ∧ ∃ cur, w.heap[G]? = some (.cells cur 29 (0, 0)) := by
  have ho := Kd.own_of_R (enc := encS) (h1 := encS_one) h
  rcases ho.2 with ⟨he, hn⟩ | ⟨g, c, cur, he, hb, hg, hc, hrest⟩
  · rw [he] at hG
    simp [Value.ownBlock] at hG
  · rw [he] at hG
    simp only [Value.ownBlock, Option.some.injEq] at hG
    subst hG
    exact ⟨hb, cur, hg⟩
theorem Lst.grown2 {w w' : World} {base L m : Nat} {vs : Nat → Value} {v : Value} {xs : List Int} {ok : Nat → Prop} (h : Lst w L m vs) (r : Kd.R (Kd.int .u8) 5 w base ok v xs) (hg : w.grownBy w' v.ownBlock) : Lst w' L m vs := by
  obtain ⟨arr, h1, h2⟩ := h
  exact ⟨arr, blk_grown h1 hg (Kd.R_ne r h1 (by decide)), h2⟩
/-- A mark is appended to row k. -/
theorem BInv.push {wb : World} {b2 L m : Nat} {vs : Nat → Value} {n : Nat → Nat} {k t : Nat} {rs : Nat → Value} {gl : List SV} {vg : Value} {w1 w2 : World} (h : BInv wb b2 L m vs n k t rs gl vg w1) (hk : k < m) {v1 : Value}
    (hR : Kd.R (Kd.int .u8) 5 w2 wb.heap.size (fun q => v1.ownBlock = some q) v1 (mks k (n k + t) ++ [mkv k (n k + t)])) (hB : Below wb.heap.size wb w2) (hg : w1.grownBy w2 (rs k).ownBlock)
    (hc : (v1.ownBlock = (rs k).ownBlock ∧ (rs k).ownBlock ≠ none) ∨ (w1.grownBy w2 none ∧ ∃ b, v1.ownBlock = some b ∧ w1.heap.size ≤ b)) :
    BInv wb b2 L m vs n k (t + 1) (updV rs k v1) gl vg w2 := by
  have hlt : ∀ j, j < m → ∀ q, (rs j).ownBlock = some q → q < w1.heap.size := fun j hj q hq => (h.rows.lt hj hq).2
  have hold : ∀ q, v1.ownBlock = some q → (rs k).ownBlock = some q ∨ w1.heap.size ≤ q := by
    intro q hq
    rcases hc with ⟨h1, _⟩ | ⟨_, b, h1, h2⟩
    · exact .inl (by rw [← h1]; exact hq)
    · rw [h1] at hq
      cases hq
      exact .inr h2
  refine ⟨hB, ⟨fun j hj => ?_, fun i j hi hj hij q hq => ?_⟩, fun j hj => ?_, fun i j hi hj hij q hq => ?_, fun j hj => ?_, h.lst.grown2 (h.rows.row k hk) hg, ?_, h.glen, fun j q hq => ?_, Nat.le_trans h.hb2 hg.size, h.hwb⟩
  · unfold updV
    by_cases c1 : j = k
    · subst c1
      rw [if_pos rfl, bc_at, show n j + (t + 1) = n j + t + 1 by omega, mks_succ]
      exact hR
    · rw [if_neg c1]
      have e : bc n k (t + 1) j = bc n k t j := by
        unfold bc
        simp only [if_neg c1]
      rw [e]
      refine Kd.R_grown (h.rows.row j hj) hg (fun q hq e => ?_)
      exact h.rows.dis j k hj hk c1 q hq e.symm
  · unfold updV at hq ⊢
    by_cases c1 : i = k
    · subst c1
      rw [if_pos rfl] at hq
      rw [if_neg (fun e => hij e.symm)]
      rcases hold q hq with h1 | h1
      · exact h.rows.dis i j hi hj hij q h1
      · intro e
        have := hlt j hj q e
        omega
    · rw [if_neg c1] at hq
      by_cases c2 : j = k
      · subst c2
        rw [if_pos rfl]
        intro e
        rcases hold q e with h1 | h1
        · exact h.rows.dis i j hi hj hij q hq h1
        · have := hlt i hi q hq
          omega
      · rw [if_neg c2]
        exact h.rows.dis i j hi hj hij q hq
  · unfold updV
    rw [if_neg (by omega)]
    exact h.same j hj
  · unfold updV
    by_cases c2 : j = k
    · subst c2
      rw [if_pos rfl]
      intro e
      rcases hold q e with h1 | h1
      · exact h.dis2 i j hi hj hij q hq h1
      · rcases h.orig i hi with ⟨h2, _⟩ | ⟨g, c, h2, _, h3, _⟩
        · rw [h2] at hq
          simp [Value.ownBlock] at hq
        · rw [h2] at hq
          simp only [Value.ownBlock, Option.some.injEq] at hq
          have := h.hb2
          omega
    · rw [if_neg c2]
      exact h.dis2 i j hi hj hij q hq
  · rcases h.orig j hj with h2 | ⟨g, c, h2, h3, h4, h5⟩
    · exact .inl h2
    · refine .inr ⟨g, c, h2, h3, h4, ?_⟩
      have hgb := h.hb2
      have hown : (vs j).ownBlock = some g := by rw [h2]; rfl
      by_cases c1 : (rs k).ownBlock = some g
      · have hjk : j = k := by
          rcases Nat.decEq j k with c2 | c2
          · exact absurd c1 (h.dis2 j k hj hk c2 g hown)
          · exact c2
        subst hjk
        rcases hc with ⟨h6, _⟩ | ⟨h6, _⟩
        · rcases own_shape hR with ⟨h7, _⟩ | ⟨g', c', h7, _, _, _, h8⟩
          · rw [h7, c1] at h6
            simp [Value.ownBlock] at h6
          · rw [h7, c1] at h6
            simp only [Value.ownBlock, Option.some.injEq] at h6
            subst h6
            have h9 := Kd.C_take (m := n j) h8 (by rw [List.length_append, mks_len]; omega)
            rw [List.take_append_of_le_length (by rw [mks_len]; omega), mks_take _ _ _ (by omega)] at h9
            rw [mks_len] at h9
            exact h9
        · exact C_same h5 (fun ad ha => by cases ha; exact h6.block g (by omega) (by simp))
      · exact C_same h5 (fun ad ha => by cases ha; exact hg.block g (by omega) (fun e => c1 e.symm))
  · refine Kd.R_grown h.gs hg (fun q hq => ?_)
    obtain ⟨_, cur, hG⟩ := gs_block h.gs q hq
    exact Kd.R_ne (h.rows.row k hk) hG (by decide)
  · unfold updV
    have hj : j < gl.length := by
      rcases Nat.lt_or_ge j gl.length with h1 | h1
      · exact h1
      · rw [List.getElem?_eq_none h1] at hq
        cases hq
    rw [h.glen] at hj
    rw [if_neg (by omega)]
    exact h.glat j q hq
theorem BInv.val {wb : World} {b2 L m : Nat} {vs : Nat → Value} {n : Nat → Nat} {k t : Nat} {rs : Nat → Value} {gl : List SV} {vg : Value} {w1 : World} (h : BInv wb b2 L m vs n k t rs gl vg w1) {j : Nat} (hj : j < m) : ∃ A c, vs j = .slice A (n j) c ∧ n j ≤ c ∧ Kd.C (Kd.int .u8) w1 A (n j) (mks j (n j)) := by
  rcases h.orig j hj with ⟨h1, h2⟩ | ⟨g, c, h1, h2, _, h4⟩
  · refine ⟨none, 0, by rw [h1, h2], by omega, ?_⟩
    rw [h2]
    exact ⟨rfl, by decide, fun h => absurd h (by decide)⟩
  · exact ⟨_, c, h1, h2, h4⟩
theorem BInv.done {wb : World} {b2 L m : Nat} {vs : Nat → Value} {n : Nat → Nat} {k : Nat} {rs : Nat → Value} {gl : List SV} {vg : Value} {w1 w2 : World} (h : BInv wb b2 L m vs n k 64 rs gl vg w1) (hk : k < m) {q : SV} (hq : encS q = rs k) {vg' : Value}
    (hR : Kd.R (Kd.scalar encS encS_one) 29 w2 b2 (fun q => vg'.ownBlock = some q) vg' (gl ++ [q])) (hB : Below wb.heap.size wb w2) (hg : w1.grownBy w2 vg.ownBlock) (hLb : L < b2) :
    BInv wb b2 L m vs n (k + 1) 0 rs (gl ++ [q]) vg' w2 := by
  have hne : ∀ j, j < m → ∀ q, (rs j).ownBlock = some q → some q ≠ vg.ownBlock := by
    intro j hj q hq e
    obtain ⟨_, cur, hG⟩ := gs_block h.gs q e.symm
    exact Kd.R_ne (h.rows.row j hj) hG (by decide) hq.symm
  refine ⟨hB, ⟨fun j hj => ?_, h.rows.dis⟩, fun j hj => h.same j (by omega), h.dis2, fun j hj => ?_, ?_, hR, by simp [h.glen], fun j q' hq' => ?_, Nat.le_trans h.hb2 hg.size, h.hwb⟩
  · rw [← bc_next]
    exact Kd.R_grown (h.rows.row j hj) hg (fun q hq => hne j hj q hq)
  · rcases h.orig j hj with h2 | ⟨g, c, h2, h3, h4, h5⟩
    · exact .inl h2
    · refine .inr ⟨g, c, h2, h3, h4, C_same h5 (fun ad ha => ?_)⟩
      cases ha
      have := h.hb2
      refine hg.block g (by omega) (fun e => ?_)
      obtain ⟨h6, _⟩ := gs_block h.gs g e.symm
      omega
  · obtain ⟨arr, h1, h2⟩ := h.lst
    refine ⟨arr, blk_grown h1 hg (fun e => ?_), h2⟩
    obtain ⟨h6, _⟩ := gs_block h.gs L e.symm
    omega
  · rcases Nat.lt_or_ge j gl.length with hj | hj
    · rw [List.getElem?_append_left hj] at hq'
      exact h.glat j q' hq'
    · rw [List.getElem?_append_right hj] at hq'
      have hj2 : j - gl.length = 0 := by
        rcases Nat.eq_zero_or_pos (j - gl.length) with h6 | h6
        · exact h6
        · rw [List.getElem?_eq_none (by simp; omega)] at hq'
          cases hq'
      rw [hj2] at hq'
      simp only [List.getElem?_cons_zero, Option.some.injEq] at hq'
      subst hq'
      rw [hq, h.glen] at *
      rw [show j = k by omega]
theorem BInv.start {wb : World} {L m : Nat} {vs : Nat → Value} {xs : Nat → List Int} {w1 : World} (hB : Below wb.heap.size wb w1) (hr : Rws w1 wb.heap.size m vs (over xs m 0)) (hL : Lst w1 L m vs) :
    BInv wb w1.heap.size L m vs (fun j => (xs j).length) 0 0 vs [] (.slice none 0 0) w1 := by
  have ho : ∀ j, j < m → over xs m 0 j = mks j (xs j).length := fun j hj => by unfold over; rw [if_pos hj]
  refine ⟨hB, hr.cong (fun j hj => by rw [ho j hj, bc_zero]), fun _ _ => rfl, hr.dis, fun j hj => ?_, hL, Kd.R_nil _ _ _ _ _, rfl, fun j q hq => by simp at hq, Nat.le_refl _, hB.size⟩
  have h1 := hr.row j hj
  rw [ho j hj] at h1
  rcases own_shape h1 with ⟨h2, h3⟩ | ⟨g, c, h2, h3, _, h4, h5⟩
  · rw [mks_len] at h3
    exact .inl ⟨h2, h3⟩
  · rw [mks_len] at h2 h3 h5
    exact .inr ⟨g, c, h2, h3, h4, h5⟩
theorem BInv.gcell {wb : World} {b2 L m : Nat} {vs : Nat → Value} {n : Nat → Nat} {k t : Nat} {rs : Nat → Value} {gl : List SV} {vg : Value} {w1 : World} (h : BInv wb b2 L m vs n k t rs gl vg w1) {j : Nat} (hj : j < k) :
    ∃ g c, vg = .slice (some ⟨g, 0, none⟩) k c ∧ k ≤ c ∧ w1.cell? ⟨g, j, none⟩ = some (rs j) := by
  have ho := Kd.own_of_R (enc := encS) (h1 := encS_one) h.gs
  have hl := h.glen
  rcases ho.2 with ⟨he, hn⟩ | ⟨g, c, cur, he, hb, hg, hc, _, _, ht⟩
  · omega
  · rw [hl] at he hc
    refine ⟨g, c, he, hc, ?_⟩
    rw [blk_cell hg j]
    obtain ⟨q, hq⟩ : ∃ q, gl[j]? = some q := ⟨gl[j], List.getElem?_eq_getElem (by omega)⟩
    rw [← h.glat j q hq]
    have h1 : (cur.toList.take (gl.length * 1))[j]? = (encs encS gl)[j]? := by rw [ht]
    rw [List.getElem?_take, if_pos (by omega)] at h1
    rw [← Array.getElem?_toList, h1]
    simp [encs, hq]
end Go.Proofs.YtnnhcnmggfhkeaaDoor.Wk

/- Lists that were handed out lie apart: the walk of ApartBytes. -/
namespace Go.Proofs.YtnnhcnmggfhkeaaDoor.Wk
open Go.RowKit Go.Proofs.YtnnhcnmggfhkeaaDoorW.PrintWords Go.Proofs.YtnnhcnmggfhkeaaDoorW.PrintLast Go.Proofs.YtnnhcnmggfhkeaaDoorW.PrintMore Go.Proofs.YtnnhcnmggfhkeaaDoor.PWireKnown
set_option linter.unusedVariables false
set_option linter.unusedSimpArgs false

/-- While the lists are written over. -/
structure AInv (wb : World) (L m : Nat) (vs : Nat → Value) (xs : Nat → List Int) (k i : Nat) (w' : World) : Prop where
  below : Below wb.heap.size wb w'
  rows : Rws w' wb.heap.size m vs (over xs k i)
  lst : Lst w' L m vs

theorem below_trans2 {wb w1 w2 : World} (h : Below wb.heap.size wb w1) (k : Below w1.heap.size w1 w2) : Below wb.heap.size wb w2 := below_step h k
theorem info29 : (Tryd.prog.info? 29).map (fun i => (i.zero, i.size, i.bytes)) = some (some (.slice none 0 0), 1, 24) := by kernel_rfl
set_option maxHeartbeats 8000000 in
set_option maxRecDepth 100000 in
theorem Apart (wb w : World) (m L c : Nat) (vs : Nat → Value) (xs : Nat → List Int) (hB : Below wb.heap.size wb w) (hr : Rws w wb.heap.size m vs xs) (hL : Lst w L m vs) (hm : m ≤ 1000) (hn : ∀ j, j < m → (xs j).length ≤ 1000000) :
    Calls Tryd.prog 42 #[.slice (some ⟨L, 0, none⟩) m c] w fun e w' => e = .returned (.bool true) ∧ Below wb.heap.size wb w' := by
  have hi0 : AInv wb L m vs xs 0 0 w := ⟨hB, hr.cong (fun j _ => (over_zero xs j).symm), hL⟩
  have HI0 := Lib.hid hi0
  have HN := Lib.hid hn
  clear hi0 hB hr hL hn
  go_enter Tryd.func42, Tryd.ntmps42
  go_wp2_with fail
  go_loopw [3] (fun v3 wr => ∃ k : Nat, v3 = .int .i64 k ∧ k ≤ m ∧ Hid (AInv wb L m vs xs k 0 wr)) (fun v3 _ => m - (intOf v3).toNat)
  case atStart => exact ⟨0, rfl, Nat.zero_le _, HI0⟩
  case round =>
    clear HI0
    obtain ⟨k, rfl, hk, HI⟩ := hrel
    by_cases hlt : k < m
    · have blt : decide ((k : Int) < (m : Int)) = true := by simp; omega
      have hnk := HN.out k hlt
      generalize wr = wo at *
      go_wp2_with fail
      go_loopw [4] (fun v4 wr => ∃ i : Nat, v4 = .int .i64 i ∧ i ≤ (xs k).length ∧ Hid (AInv wb L m vs xs k i wr)) (fun v4 _ => (xs k).length - (intOf v4).toNat)
      case atStart => exact ⟨0, rfl, Nat.zero_le _, HI⟩
      case round =>
        clear HI
        obtain ⟨i, rfl, hi, HI⟩ := hrel
        by_cases hlt2 : i < (xs k).length
        · obtain ⟨g, ck, hv, hbg, ⟨y, hcell⟩, hfr, hgr, hput⟩ := HI.out.rows.put k i hlt (by rw [over_len xs k i k hi]; exact hlt2) (mkv k i)
          rw [over_len xs k i k hi] at hv
          have s0 := HI.out.lst.cell hlt
          rw [hv] at s0
          obtain ⟨nk, hnk2⟩ : ∃ nk, (xs k).length = nk := ⟨_, rfl⟩
          rw [hnk2] at s0 hlt2 hnk hi
          have blt2 : decide ((i : Int) < (nk : Int)) = true := by simp; omega
          have HMk := Lib.hid (fun W => mark_calls k i (by omega) (by omega) W)
          go_wp2_with fail
          refine start_ (n := 10) (S := fun w' => w'.cell? ⟨L, k, none⟩ = some (.slice (some ⟨g, 0, none⟩) nk ck)) (ds := [9]) #[false, false, false, false, false, false, false, false, false, false] (by kernel_rfl) rfl rfl (s0) (fun hHeld => ?_)
          refine pure_ (i := 0) (N := some 27) (v := ?_) (a' := ?_) #[true, false, false, false, false, false, false, false, false, false] rfl rfl (by kernel_rfl) (fun _ _ _ h => h) (Or.inl ⟨by rfl, ?_⟩) ?_ ?_
          rotate_left
          · intro w'
            go_simp
            with_reducible rfl
          rotate_left
          · simp only [Act.put, List.setIfInBounds_toArray, List.set_cons_zero, List.set_cons_succ, i64_w, i32_w]
            rfl
          refine pure_ (i := 1) (N := some 28) (v := ?_) (a' := ?_) #[true, true, false, false, false, false, false, false, false, false] rfl rfl (by kernel_rfl) (fun _ _ _ h => h) (Or.inl ⟨by rfl, ?_⟩) ?_ ?_
          rotate_left
          · intro w'
            go_simp
            with_reducible rfl
          rotate_left
          · simp only [Act.put, List.setIfInBounds_toArray, List.set_cons_zero, List.set_cons_succ, i64_w, i32_w]
            rfl
          refine pure_ (i := 2) (N := some 29) (v := ?_) (a' := ?_) #[true, true, true, false, false, false, false, false, false, false] rfl rfl (by kernel_rfl) (fun _ _ _ h => h) (Or.inl ⟨by rfl, ?_⟩) ?_ ?_
          rotate_left
          · intro w'
            go_simp
            with_reducible rfl
          rotate_left
          · simp only [Act.put, List.setIfInBounds_toArray, List.set_cons_zero, List.set_cons_succ, i64_w, i32_w]
            rfl
          refine pure_ (i := 4) (N := some 31) (v := ?_) (a' := ?_) #[true, true, true, false, true, false, false, false, false, false] rfl rfl (by kernel_rfl) (fun _ _ _ h => h) (Or.inl ⟨by rfl, ?_⟩) ?_ ?_
          rotate_left
          · intro w'
            go_simp
            with_reducible rfl
          rotate_left
          · simp only [Act.put, List.setIfInBounds_toArray, List.set_cons_zero, List.set_cons_succ, i64_w, i32_w]
            rfl
          refine pure_ (i := 5) (N := some 32) (v := ?_) (a' := ?_) #[true, true, true, false, true, true, false, false, false, false] rfl rfl (by kernel_rfl) (fun _ _ _ h => h) (Or.inl ⟨by rfl, ?_⟩) ?_ ?_
          rotate_left
          · intro w'
            go_simp
            with_reducible rfl
          rotate_left
          · simp only [Act.put, List.setIfInBounds_toArray, List.set_cons_zero, List.set_cons_succ, i64_w, i32_w]
            rfl
          refine pure_ (i := 6) (N := some 33) (v := ?_) (a' := ?_) #[true, true, true, false, true, true, true, false, false, false] rfl rfl (by kernel_rfl) (fun _ _ _ h => h) (Or.inl ⟨by rfl, ?_⟩) ?_ ?_
          rotate_left
          · intro w'
            go_simp
            with_reducible rfl
          rotate_left
          · simp only [Act.put, List.setIfInBounds_toArray, List.set_cons_zero, List.set_cons_succ, i64_w, i32_w]
            rfl
          refine take_ (i := 3) (N := some 30) (v := ?_) (a' := ?_) #[true, true, true, true, true, true, true, false, false, false] rfl rfl (by kernel_rfl) (fun _ _ _ h => h) (Or.inl ⟨by rfl, ?_⟩) hHeld ?_ ?_
          rotate_left
          · intro w' s0
            go_simp
            with_reducible rfl
          rotate_left
          · simp only [Act.put, List.setIfInBounds_toArray, List.set_cons_zero, List.set_cons_succ, i64_w, i32_w]
            rfl
          refine one_ (i := 7) (N := some 34) #[true, true, true, true, true, true, true, true, false, false] rfl rfl (by kernel_rfl) (by decide) (fun K hK => ?_)
          refine goes_ Tryd.func63 (by kernel_rfl) rfl #[.int .i64 k, .int .i64 i] (by rfl) rfl rfl (by simp only [List.map_toArray, List.map_cons, List.map_nil]; rfl) ?_
          with_reducible refine (HMk.out _).mono ?_
          rintro e w3 ⟨rfl, ⟨kd, rfl⟩⟩
          refine ⟨_, rfl, ?_⟩
          refine hK.out _ _ (s0) (fun hHeld => ?_)
          clear hK K
          refine norm_ (a' := ?_) ?_ ?_
          rotate_left
          · show Act.put _ (some 34) _ = _
            simp only [Act.put, List.setIfInBounds_toArray, List.set_cons_zero, List.set_cons_succ, i64_w, i32_w]
            rfl
          refine pure_ (i := 8) (N := some 35) (v := ?_) (a' := ?_) #[true, true, true, true, true, true, true, true, true, false] rfl rfl (by kernel_rfl) (fun _ _ _ h => h) (Or.inl ⟨by rfl, ?_⟩) ?_ ?_
          rotate_left
          · intro w'
            go_simp
            with_reducible rfl
          rotate_left
          · simp only [Act.put, List.setIfInBounds_toArray, List.set_cons_zero, List.set_cons_succ, i64_w, i32_w]
            rfl
          refine last_ (i := 9) (N := none) #[true, true, true, true, true, true, true, true, true, true] rfl rfl (by kernel_rfl) (by decide) (fun K hK => ?_)
          refine skip_ (w1 := ?_) (by rfl) rfl ?_ ?_
          rotate_left
          · go_simp
            rfl
          refine hK.out _ _ ?_
          clear hK K
          refine done_ (by kernel_rfl) ?_
          have hfin : AInv wb L m vs xs k (i + 1) ((wr.drewN (1 + kd)).setCell ⟨g, i, none⟩ (.int .u8 (mkv k i))) :=
            ⟨(pw_below_drewN HI.out.below (1 + kd)).setCell hbg _, (hput.cong (fun j _ => over_put xs k i j (by omega))).heap rfl, (HI.out.lst.grown HI.out.rows hlt hgr).heap rfl⟩
          have HFin := Lib.hid hfin
          clear hfin hput hgr hcell hfr s0 HMk
          go_wp2_with fail
          refine ⟨⟨i + 1, ?_, by omega, HFin⟩, ?_⟩
          · rw [show ((i + 1 : Nat) : Int) = (i : Int) + 1 by omega]
          · rw [hnk2]
            show nk - ((i : Int) + 1).toNat < nk - (i : Int).toNat
            omega
        · have hik : i = (xs k).length := by omega
          subst hik
          have hi1 : AInv wb L m vs xs (k + 1) 0 wr := ⟨HI.out.below, HI.out.rows.cong (fun j _ => over_next xs k j), HI.out.lst⟩
          have HI1 := Lib.hid hi1
          obtain ⟨A0, c0, hv, -, -⟩ := Kd.R_reads (HI.out.rows.row k hlt)
          rw [over_len xs k _ k (Nat.le_refl _)] at hv
          have s0 := HI.out.lst.cell hlt
          rw [hv] at s0
          obtain ⟨nk, hnk2⟩ : ∃ nk, (xs k).length = nk := ⟨_, rfl⟩
          rw [hnk2] at s0 ⊢
          have blt2 : decide ((nk : Int) < (nk : Int)) = false := by simp
          clear hi1 HI
          go_wp2_with fail
          refine ⟨⟨k + 1, ?_, by omega, HI1⟩, ?_⟩
          · rw [show ((k + 1 : Nat) : Int) = (k : Int) + 1 by omega]
          · show m - ((k : Int) + 1).toNat < m - (k : Int).toNat
            omega
    · have hkm : k = m := by omega
      subst hkm
      have blt : decide ((k : Int) < (k : Int)) = false := by simp
      have hb0 := BInv.start HI.out.below HI.out.rows HI.out.lst
      have hLb : L < wr.heap.size := by obtain ⟨arr, h1, _⟩ := HI.out.lst; exact blk_lt h1
      obtain ⟨n, hn⟩ : ∃ n, (fun j => (xs j).length) = n := ⟨_, rfl⟩
      have hnn : ∀ j, j < k → n j ≤ 1000000 := fun j hj => by rw [← hn]; exact HN.out j hj
      rw [hn] at hb0
      obtain ⟨b2, hb2⟩ : ∃ b2, wr.heap.size = b2 := ⟨_, rfl⟩
      rw [hb2] at hb0 hLb
      have HB0 := Lib.hid hb0
      have HNn := Lib.hid hnn
      have HLb := Aside0.mk hLb
      clear hb0 hnn hLb hb2 hn HI HN hk
      generalize wr = wo at *
      go_wp2_with fail
      go_loopw [5, 6] (fun v5 v6 wr => ∃ (k2 : Nat) (rs : Nat → Value) (gl : List SV), v6 = .int .i64 k2 ∧ k2 ≤ k ∧ rs k2 = vs k2 ∧ Hid (BInv wb b2 L k vs n k2 0 rs gl v5 wr)) (fun _ v6 _ => k - (intOf v6).toNat)
      case atStart => exact ⟨0, vs, [], rfl, Nat.zero_le _, rfl, HB0⟩
      case round =>
        clear HB0
        obtain ⟨k2, rs, gl, rfl, hk2, hrs, HI⟩ := hrel
        by_cases hlt2 : k2 < k
        · have blt2 : decide ((k2 : Int) < (k : Int)) = true := by simp; omega
          have hnk := HNn.out k2 hlt2
          obtain ⟨A0, c0, hv, -, -⟩ := HI.out.val hlt2
          have s0 := HI.out.lst.cell hlt2
          rw [hv] at s0
          generalize wr = wi at *
          generalize u5 = vg at *
          go_wp2_with fail
          go_loopw [7, 8] (fun v7 v8 wr => ∃ (t : Nat) (rs : Nat → Value), v8 = .int .i64 t ∧ t ≤ 64 ∧ v7 = rs k2 ∧ Hid (BInv wb b2 L k vs n k2 t rs gl vg wr)) (fun _ v8 _ => 64 - (intOf v8).toNat)
          case atStart => exact ⟨0, rs, rfl, by omega, by rw [hrs]; exact hv.symm, HI⟩
          case round =>
            clear HI s0
            obtain ⟨t, rs2, rfl, ht, rfl, HI⟩ := hrel
            by_cases hlt3 : t < 64
            · have blt3 : decide ((t : Int) < 64) = true := by simp; omega
              have s0 := HI.out.lst.cell hlt2
              rw [hv] at s0
              have hmk := fun W => mark_calls k2 (n k2 + t) (by omega) (by omega) W
              rw [show ((n k2 + t : Nat) : Int) = (n k2 : Int) + t by omega] at hmk
              have HMk := Lib.hid hmk
              have HV := Lib.hid hv
              obtain ⟨nk, hnk2⟩ : ∃ nk, n k2 = nk := ⟨_, rfl⟩
              have HNk := Lib.hid hnk2
              rw [hnk2] at s0 hnk HMk
              clear hmk hv hnk2
              go_wp2_with fail
              refine (HMk.out _).mono ?_
              rintro e w3 ⟨rfl, hd⟩
              have hb3 := HI.out.still (Drawn0.below hd)
              have HI3 := Lib.hid hb3
              have hrow := hb3.rows.row k2 hlt2
              rw [bc_at, HNk.out] at hrow
              have HRow := Aside0.mk hrow
              have HBl := Aside0.mk hb3.below
              clear hb3 hrow hd s0
              go_wp2_with (first | ((with_reducible refine gate_builtin (b := .append) (xs := #[.tmp 50, .tmp 60]) rfl ?_); at_builtin; refine App.append_keeps (Value.int .u8) (h1 := fun _ => rfl) (w0 := wb) wb.heap.size rfl (.tmp 50) (.tmp 60) 29 5 (.int .u8 0) 1 rfl Tryd.underlying29 info5 rfl (by decide) _ (mks k2 (nk + t)) (mkv k2 (nk + t)) _ rfl rfl HRow.out HBl.out HBl.out.size (by rw [mks_len]; omega) ?_; intro v1 w4 h1 h2 h3 h4; have hp := HI3.out.push hlt2 (v1 := v1) (by rw [HNk.out]; exact h1) h2 h3 h4; have HP := Lib.hid hp; clear hp h1 h2 h3 h4))
              refine ⟨⟨t + 1, _, ?_, by omega, ?_, HP⟩, ?_⟩
              · rw [show ((t + 1 : Nat) : Int) = (t : Int) + 1 by omega]
              · unfold updV
                rw [if_pos rfl]
              · show 64 - ((t : Int) + 1).toNat < 64 - (t : Int).toNat
                omega
            · have ht64 : t = 64 := by omega
              subst ht64
              have blt3 : decide ((64 : Int) < 64) = false := by decide
              have hrow := HI.out.rows.row k2 hlt2
              obtain ⟨q, hq⟩ : ∃ q : SV, encS q = rs2 k2 := by
                rcases own_shape hrow with ⟨h1, _⟩ | ⟨g, c, h1, _⟩
                · exact ⟨⟨none, 0, 0⟩, h1.symm⟩
                · exact ⟨⟨_, _, _⟩, h1.symm⟩
              have hgl := HI.out.glen
              have HGl := Lib.hid hgl
              have HQ := Lib.hid hq
              have hnext := HI.out.same (k2 + 1) (by omega)
              have HNx := Lib.hid hnext
              have HGs := Aside0.mk HI.out.gs
              have HBl := Aside0.mk HI.out.below
              have hbw : b2 ≤ wr.heap.size := HI.out.hb2
              have Hbw := Aside0.mk hbw
              have hwb := HI.out.hwb
              have Hwb := Aside0.mk hwb
              clear hrow hgl hq hnext hbw hwb
              generalize hvv : rs2 k2 = vr at *
              have HVr := Lib.hid hvv
              obtain ⟨qA, qn, qc⟩ := q
              have hvr : vr = .slice qA qn qc := HQ.out.symm
              subst hvr
              clear hvv
              go_wp2_with (first | ((with_reducible refine gate_builtin (b := .append) (xs := #[.tmp 62, .tmp 64]) rfl ?_); at_builtin; refine App.append_keeps encS (h1 := encS_one) (w0 := wr) b2 rfl (.tmp 62) (.tmp 64) 86 29 (.slice none 0 0) 24 rfl Tryd.underlying86 info29 rfl (by decide) _ gl ⟨qA, qn, qc⟩ _ rfl rfl HGs.out (Below.refl _ _) Hbw.out (by rw [HGl.out]; omega) ?_; intro v1 w4 h1 h2 h3 h4; have hp := HI.out.done hlt2 (q := ⟨qA, qn, qc⟩) HVr.out.symm h1 (HBl.out.trans (h2.mono Hwb.out)) h3 HLb.out; have HP := Lib.hid hp; clear hp h1 h2 h3 h4))
              refine ⟨⟨k2 + 1, rs2, _, ?_, by omega, HNx.out, HP⟩, ?_⟩
              · rw [show ((k2 + 1 : Nat) : Int) = (k2 : Int) + 1 by omega]
              · show k - ((k2 : Int) + 1).toNat < k - (k2 : Int).toNat
                omega
        · obtain rfl : k2 = k := by omega
          have blt2 : decide ((k2 : Int) < (k2 : Int)) = false := by simp
          have hfin : ∀ j, j < k2 → ∃ A c A' c', vs j = .slice A (n j) c ∧ n j ≤ c ∧ rs j = .slice A' (n j + 64) c' ∧ n j + 64 ≤ c' ∧ Kd.C (Kd.int .u8) wr A (n j) (mks j (n j)) ∧ Kd.C (Kd.int .u8) wr A' (n j + 64) (mks j (n j + 64)) := by
            intro j hj
            obtain ⟨A, c, h1, h2, h3⟩ := HI.out.val hj
            have hr := HI.out.rows.row j hj
            have hbc : bc n k2 0 j = mks j (n j + 64) := by unfold bc; rw [if_pos hj]
            rw [hbc] at hr
            obtain ⟨A', c', h4, h5, h6⟩ := Kd.R_reads hr
            rw [mks_len] at h4 h5 h6
            exact ⟨A, c, A', c', h1, h2, h4, h5, h3, h6⟩
          have hgs := Kd.R_reads HI.out.gs
          obtain ⟨GA, gc, hvg, hgc, hgC⟩ := hgs
          rw [HI.out.glen] at hvg hgc
          have hls := fun j (hj : j < k2) => HI.out.lst.cell hj
          have hgcell : ∀ j, j < k2 → ∃ g, GA = some ⟨g, 0, none⟩ ∧ wr.cell? ⟨g, j, none⟩ = some (rs j) := by
            intro j hj
            obtain ⟨g, c, h1, _, h2⟩ := HI.out.gcell hj
            rw [hvg] at h1
            simp only [Value.slice.injEq] at h1
            exact ⟨g, h1.1, h2⟩
          have HFin := Lib.hid hfin
          have HLs := Lib.hid hls
          have HGc := Lib.hid hgcell
          have HBw := Aside0.mk HI.out.below
          clear hfin hgC hls hgcell hgc HI
          subst hvg
          generalize wr = wf at *
          go_wp2_with fail
          go_loopw [9] (fun v9 wr => ∃ k3 : Nat, v9 = .int .i64 k3 ∧ k3 ≤ k2 ∧ Aside0 (Below wf.heap.size wf wr)) (fun v9 _ => k2 - (intOf v9).toNat)
          case atStart => exact ⟨0, rfl, Nat.zero_le _, ⟨Below.refl _ _⟩⟩
          case round =>
            obtain ⟨k3, rfl, hk3, HW⟩ := hrel
            by_cases hlt4 : k3 < k2
            · have blt4 : decide ((k3 : Int) < (k2 : Int)) = true := by simp; omega
              generalize wr = wg at *
              go_wp2_with fail
              go_loopw [10] (fun v10 wr => ∃ i : Nat, v10 = .int .i64 i ∧ i ≤ n k3 + 64 ∧ Aside0 (Below wf.heap.size wf wr)) (fun v10 _ => n k3 + 64 - (intOf v10).toNat)
              case atStart => exact ⟨0, rfl, Nat.zero_le _, HW⟩
              case round =>
                clear HW
                obtain ⟨i, rfl, hi, HW⟩ := hrel
                obtain ⟨A, c1, A', c2, hv1, hc1, hv2, hc2, hC1, hC2⟩ := HFin.out k3 hlt4
                obtain ⟨g, hGA, hg⟩ := HGc.out k3 hlt4
                have hl := HLs.out k3 hlt4
                have hnk := HNn.out k3 hlt4
                rw [hv2] at hg
                rw [hv1] at hl
                obtain ⟨nk, hnk2⟩ : ∃ nk, n k3 = nk := ⟨_, rfl⟩
                rw [hnk2] at hg hl hc1 hc2 hC1 hC2 hi hnk
                have HNk := Lib.hid hnk2
                subst hGA
                have l0 := (HW.out.cell (World.block_lt_of_cell? wf _ hl)).trans hl
                have g0 := (HW.out.cell (World.block_lt_of_cell? wf _ hg)).trans hg
                by_cases hlt5 : i < nk + 64
                · have blt5 : decide ((i : Int) < (nk : Int) + 64) = true := by simp; omega
                  obtain ⟨ad2, rfl, hb2⟩ := Kd.at_int hC2 i (by omega) (by omega)
                  rw [mks_rd _ _ _ hlt5, Int.toNat_natCast] at hb2
                  have HMk := Lib.hid (fun W => mark_calls k3 i (by omega) (by omega) W)
                  clear hnk2
                  go_wp2_with fail
                  refine (HMk.out _).mono ?_
                  rintro e w3 ⟨rfl, hd⟩
                  have hW3 := below_step HW.out (Drawn0.below hd)
                  have l1 := (hW3.cell (World.block_lt_of_cell? wf _ hl)).trans hl
                  have g1 := (hW3.cell (World.block_lt_of_cell? wf _ hg)).trans hg
                  have b1 := (hW3.cell (World.block_lt_of_cell? wf _ hb2)).trans hb2
                  have HW3 := Aside0.mk hW3
                  have hms : n k3 + 64 - ((i : Int) + 1).toNat < n k3 + 64 - (i : Int).toNat := by rw [HNk.out]; omega
                  have HMs := Aside0.mk hms
                  clear hd hW3 l0 g0 hms
                  by_cases hlt6 : i < nk
                  · have blt6 : decide ((i : Int) < (nk : Int)) = true := by simp; omega
                    obtain ⟨ad1, rfl, ha2⟩ := Kd.at_int hC1 i (by omega) (by omega)
                    rw [mks_rd _ _ _ hlt6, Int.toNat_natCast] at ha2
                    have a1 := (HW3.out.cell (World.block_lt_of_cell? wf _ ha2)).trans ha2
                    go_wp2_with fail
                    refine ⟨⟨i + 1, ?_, by rw [HNk.out]; omega, HW3⟩, HMs.out⟩
                    rw [show ((i + 1 : Nat) : Int) = (i : Int) + 1 by omega]
                  · have blt6 : decide ((i : Int) < (nk : Int)) = false := by simp; omega
                    go_wp2_with fail
                    refine ⟨⟨i + 1, ?_, by rw [HNk.out]; omega, HW3⟩, HMs.out⟩
                    rw [show ((i + 1 : Nat) : Int) = (i : Int) + 1 by omega]
                · have hie : (i : Int) = (nk : Int) + 64 := by omega
                  have blt5 : decide ((i : Int) < (nk : Int) + 64) = false := by simp; omega
                  clear hnk2
                  go_wp2_with fail
                  refine ⟨⟨k3 + 1, ?_, by omega, HW⟩, ?_⟩
                  · rw [show ((k3 + 1 : Nat) : Int) = (k3 : Int) + 1 by omega]
                  · show k2 - ((k3 : Int) + 1).toNat < k2 - (k3 : Int).toNat
                    omega
            · have hk3e : k3 = k2 := by omega
              subst hk3e
              have blt4 : decide ((k3 : Int) < (k3 : Int)) = false := by simp
              go_wp2
              go_ret
              exact ⟨rfl, below_trans2 HBw.out HW.out⟩

theorem Apart2 (wb w : World) (v1 v2 : Value) (l1 l2 : List Int) (m L c : Nat) (arr : Array Value) (hB : Below wb.heap.size wb w) (h1 : Kd.R (Kd.int .u8) 5 w wb.heap.size (fun k => k < m) v1 l1) (h2 : Kd.R (Kd.int .u8) 5 w wb.heap.size (fun k => m ≤ k) v2 l2)
    (hL : w.heap[L]? = some (.cells arr 29 (0, 0))) (ha0 : arr[0]? = some v1) (ha1 : arr[1]? = some v2) (hl1 : l1.length ≤ 1000000) (hl2 : l2.length ≤ 1000000) :
    Calls Tryd.prog 42 #[.slice (some ⟨L, 0, none⟩) 2 c] w fun e w' => e = .returned (.bool true) ∧ Below wb.heap.size wb w' := by
  have two : ∀ j, j < 2 → j = 0 ∨ j = 1 := fun j hj => by omega
  refine Apart wb w 2 L c (fun j => if j = 0 then v1 else v2) (fun j => if j = 0 then l1 else l2) hB ⟨fun j hj => ?_, fun i j hi hj hij q hq => ?_⟩ ⟨arr, hL, fun j hj => ?_⟩ (by omega) (fun j hj => ?_)
  · rcases two j hj with rfl | rfl
    · exact R_own_ok h1
    · exact R_own_ok h2
  · rcases two i hi with rfl | rfl <;> rcases two j hj with rfl | rfl
    · exact absurd rfl hij
    · intro e
      have a1 := h1.1 q hq
      have a2 := h2.1 q e
      have a1' : q < m := a1
      have a2' : m ≤ q := a2
      omega
    · intro e
      have a1 := h2.1 q hq
      have a2 := h1.1 q e
      have a1' : m ≤ q := a1
      have a2' : q < m := a2
      omega
    · exact absurd rfl hij
  · rcases two j hj with rfl | rfl
    · exact ha0
    · exact ha1
  · rcases two j hj with rfl | rfl
    · exact hl1
    · exact hl2
end Go.Proofs.YtnnhcnmggfhkeaaDoor.Wk

/- The walks of WireFrames and WireUnframes. -/
namespace Go.Proofs.YtnnhcnmggfhkeaaDoor.Wk
open Go.RowKit Go.Proofs.YtnnhcnmggfhkeaaDoorW.PrintWords Go.Proofs.YtnnhcnmggfhkeaaDoorW.PrintLast Go.Proofs.YtnnhcnmggfhkeaaDoorW.PrintMore Go.Proofs.YtnnhcnmggfhkeaaDoor.PWireKnown
set_option linter.unusedVariables false
set_option linter.unusedSimpArgs false

theorem frameAns_ref (x : Nat) (p : List Int) (hp : Byt p) (hx : x < 2 ^ 64) (hl : p.length ≤ 140737488351232) : custodyref05_Frame.f 1000001 (x : Int) p = some (frameAns x p) := frame_ok _ x p hp hx hl (by omega)
theorem frameAns_len (x : Nat) (p : List Int) (hx : x < 2 ^ 64) (hl : p.length ≤ 140737488351232) : (frameAns x p).1.length ≤ 100000 := by
  by_cases h : 65536 < p.length
  · rw [frame_big x p h]
    exact Nat.zero_le _
  · rw [frame_small x p h]
    have h1 := enc_length x hx
    have h2 := enc_length p.length (by omega)
    show (frame x p).length ≤ 100000
    unfold frame
    rw [List.length_append, List.length_append, List.length_append, be_length]
    omega
theorem Lent.at_ {w : World} {A : Option Addr} {n c : Nat} {l : List Int} (h : Lent w A n c l) : Kd.C (Kd.int .u8) w A l.length l ∧ l.length ≤ c := ⟨h.reads, by have := h.2.1; omega⟩

set_option maxHeartbeats 8000000 in
set_option maxRecDepth 100000 in
theorem WireFrames_calls (w : World) (x : Nat) (A : Option Addr) (c : Nat) (p : List Int) (hC : Kd.C (Kd.int .u8) w A p.length p) (hc : p.length ≤ c) (hb : Byt p) (hx : x < 2 ^ 64) (hl : p.length ≤ 1000000) (hg0 : w.cell? ⟨0, 0, none⟩ = some handle) :
    Calls Tryd.prog 54 #[.int .u64 (x : Int), .slice A p.length c] w fun e w' => e = .returned (.bool true) ∧ Below w.heap.size w w' := by
  have hf := frameAns_ref x p hb hx (by omega)
  have hlen := frameAns_len x p hx (by omega)
  have Hfr := fun w1 A1 c1 (hC1 : Kd.C (Kd.int .u8) w1 A1 p.length p) (hc1 : p.length ≤ c1) => Frame_calls w1 x A1 c1 p hC1 hc1 hb hx (by omega)
  generalize frameAns x p = q at *
  obtain ⟨f, n⟩ := q
  have hsame := same_ok 100001 f (by dsimp only at hlen; omega) (by dsimp only at hlen; omega)
  have HF := Lib.hid hf
  have HFr := Lib.hid Hfr
  have HS := Lib.hid hsame
  have HC := Aside0.mk hC
  have HG := Lib.hid hg0
  have HLen : Aside0 (f.length ≤ 100000) := ⟨hlen⟩
  clear hf Hfr hsame hC hg0 hlen hb
  go_enter Tryd.func54, Tryd.ntmps54
  go_wp2_with fail
  refine (custodyref05_Frame.calls 1000001 (x : Int) A c p f n w HC.out hc HF.out).mono ?_
  rintro e w1 ⟨v1, rfl, hR1, hB1⟩
  obtain ⟨A1, c1, rfl, hc1, hC1⟩ := Kd.R_reads hR1
  have HC1 := Aside0.mk hC1
  have HB1 := Aside0.mk hB1
  clear hR1 hB1 hC1
  go_wp2_with fail
  refine (Lent_calls w1 p A c (Kd.C_below HC.out HB1.out) hc (by omega)).mono ?_
  rintro e w2 ⟨A2, n2, c2, rfl, hL2, hO2, hB2⟩
  obtain rfl := hL2.1
  have HL2 := Lib.hid hL2
  have HC1b := Aside0.mk (Kd.C_below HC1.out hB2)
  have HB2 := Aside0.mk (below_step HB1.out hB2)
  clear hL2 hO2 hB2
  go_wp2_with fail
  refine (HFr.out w2 A2 c2 HL2.out.at_.1 HL2.out.at_.2).mono ?_
  rintro e w3 ⟨v3, E3, rfl, hR3, hE3, hB3⟩
  obtain ⟨A3, n3, c3, rfl⟩ := R_slice_any hR3
  have HR3 := Aside0.mk hR3
  have HE3 := Lib.hid hE3
  have HB3 := Aside0.mk hB3
  have hs3 := hE3.shape
  clear hR3 hE3 hB3
  go_wp2_with fail
  refine (HFr.out w3 A2 c2 (HL2.out.below HB3.out).at_.1 HL2.out.at_.2).mono ?_
  rintro e w4 ⟨v4, E4, rfl, hR4, hE4, hB4⟩
  obtain ⟨A4, n4, c4, rfl⟩ := R_slice_any hR4
  have HR4 := Aside0.mk hR4
  have HE4 := Lib.hid hE4
  have HB4 := Aside0.mk (below_step HB3.out hB4)
  have hb43 := hB4
  have hs4 := hE4.shape
  have h3 := Kd.R_below (Kd.R_mono (ok' := fun k => k < w3.heap.size) (Kd.R_bound HR3.out) (fun k hk => hk.2.2.1)) hb43
  have h4 := Kd.R_lower (base' := w2.heap.size) (Kd.R_mono (ok' := fun k => w3.heap.size ≤ k) (Kd.R_bound HR4.out) (fun k hk => hk.2.1)) HB3.out.size
  have H3 := Aside0.mk h3
  have H4 := Aside0.mk h4
  obtain ⟨_, _, e3, hc3, hC3⟩ := Kd.R_reads h3
  cases e3
  obtain ⟨_, _, e4, hc4, hC4⟩ := Kd.R_reads h4
  cases e4
  have HC3 := Aside0.mk hC3
  have HC4 := Aside0.mk hC4
  have HC1c := Aside0.mk (Kd.C_below HC1b.out HB4.out)
  have hg4 := ((below_step HB2.out HB4.out).cell (World.block_lt_of_cell? w _ HG.out)).trans HG.out
  have HG4 := Lib.hid hg4
  have bn : (n == n) = true := by simp
  clear hR4 hE4 hB4 hb43 h3 h4 hC3 hC4 hg4 HR3 HR4 HB3 HC1 HC1b hs3 hs4
  go_wp2_with fail
  refine (Plain_Eo HE3.out n w4 HG4.out).mono ?_
  rintro e w5 ⟨rfl, hb5⟩
  have HG5 := Lib.hid ((hb5.cell (World.block_lt_of_cell? w4 _ HG4.out)).trans HG4.out)
  have HB5 := Aside0.mk hb5
  rw [bn]
  clear hb5
  go_wp2_with fail
  refine (Plain_Eo HE4.out n w5 HG5.out).mono ?_
  rintro e w6 ⟨rfl, hb6⟩
  have HB6 := Aside0.mk (below_step HB5.out hb6)
  rw [bn]
  clear hb6 HB5 HG5 HG4
  go_wp2_with fail
  refine (custodyref0_SameBytes.calls 100001 A3 c3 f A1 c1 f true w6 (Kd.C_below HC3.out HB6.out) hc3 (Kd.C_below HC1c.out HB6.out) hc1 HS.out).mono ?_
  rintro e w7 ⟨rfl, hd7⟩
  have HB7 := Aside0.mk (below_step HB6.out (Drawn0.below hd7))
  clear hd7 HB6
  go_wp2_with fail
  refine (custodyref0_SameBytes.calls 100001 A4 c4 f A1 c1 f true w7 (Kd.C_below HC4.out HB7.out) hc4 (Kd.C_below HC1c.out HB7.out) hc1 HS.out).mono ?_
  rintro e w8 ⟨rfl, hd8⟩
  have HB8 := Aside0.mk (below_step HB7.out (Drawn0.below hd8))
  clear hd8 HB7
  go_wp2_with fail
  refine (works_calls w8).mono ?_
  rintro e w9 ⟨rfl, hb9⟩
  have HB9 := Aside0.mk (below_step HB8.out hb9)
  clear hb9 HB8
  go_wp2_with fail
  have hL9 := HL2.out.below (below_step HB4.out HB9.out)
  have hC9 := Kd.C_below HC.out (below_step HB2.out (below_step HB4.out HB9.out))
  refine (Kept_calls w9 p A2 A p.length c2 c hL9 hC9 hc (by omega)).mono ?_
  rintro e w10 ⟨rfl, hd10⟩
  have HB10 := Aside0.mk (below_step HB9.out (Drawn0.below hd10))
  clear hd10 hL9 hC9 HB9
  have hbk := heap_alloc_new w10 (.cells #[.slice A3 f.length c3, .slice A4 f.length c4] 29)
  have hb11 := below_alloc (Below.refl w10.heap.size w10) (.cells #[.slice A3 f.length c3, .slice A4 f.length c4] 29)
  have HBk := Aside0.mk hbk
  have HB11 := Aside0.mk (below_step HB10.out hb11)
  clear hbk hb11
  go_wp2_with fail
  generalize w10.alloc (.cells #[.slice A3 f.length c3, .slice A4 f.length c4] 29) = w11 at *
  refine (Apart2 w2 w11 _ _ f f w3.heap.size w10.heap.size 2 _ (below_step HB4.out HB11.out) (Kd.R_below H3.out HB11.out) (Kd.R_below H4.out HB11.out) HBk.out rfl rfl (by have := HLen.out; omega) (by have := HLen.out; omega)).mono ?_
  rintro e w12 ⟨rfl, hb12⟩
  have HB12 := Aside0.mk hb12
  clear hb12
  go_wp2_with fail
  have hL12 := HL2.out.below HB12.out
  have hC12 := Kd.C_below HC.out (below_step HB2.out HB12.out)
  refine (Kept_calls w12 p A2 A p.length c2 c hL12 hC12 hc (by omega)).mono ?_
  rintro e w13 ⟨rfl, hd13⟩
  have HB13 := Aside0.mk (below_step (below_step HB2.out HB12.out) (Drawn0.below hd13))
  clear hd13
  go_wp2
  go_ret
  exact ⟨rfl, HB13.out⟩

theorem unframe_len (l : List Int) : (unframe l).2.1.length ≤ 65536 := by
  unfold unframe
  split
  · exact Nat.zero_le _
  · split
    · exact Nat.zero_le _
    · split
      · exact Nat.zero_le _
      · unfold rest
        split
        · exact Nat.zero_le _
        · split
          · exact Nat.zero_le _
          · show ((l.drop _).take (num l).1).length ≤ 65536
            rw [List.length_take]
            omega
set_option maxHeartbeats 8000000 in
set_option maxRecDepth 100000 in
theorem WireUnframes_calls (w : World) (A : Option Addr) (c : Nat) (l : List Int) (hC : Kd.C (Kd.int .u8) w A l.length l) (hc : l.length ≤ c) (hb : Byt l) (hl : l.length ≤ 1000000) (hg0 : w.cell? ⟨0, 0, none⟩ = some handle) :
    Calls Tryd.prog 26 #[.slice A l.length c] w fun e w' => e = .returned (.bool true) ∧ Below w.heap.size w w' := by
  have hf := unframe_ok 1000002 l hb (by omega) (by omega)
  have hlen := unframe_len l
  have Hun := fun w1 A1 c1 (hC1 : Kd.C (Kd.int .u8) w1 A1 l.length l) (hc1 : l.length ≤ c1) => Unframe_calls w1 A1 c1 l hC1 hc1 hb (by omega)
  generalize unframe l = q at *
  obtain ⟨x, f, sz, n⟩ := q
  have hf' : custodyref05_Unframe.f 1000002 l = some ((x : Int), f, (sz : Int), n) := hf
  have hsame := same_ok 100001 f (by dsimp only at hlen; omega) (by dsimp only at hlen; omega)
  have HF := Lib.hid hf'
  have HFr := Lib.hid Hun
  have HS := Lib.hid hsame
  have HC := Aside0.mk hC
  have HG := Lib.hid hg0
  have HLen : Aside0 (f.length ≤ 65536) := ⟨hlen⟩
  clear hf hf' Hun hsame hC hg0 hlen hb
  go_enter Tryd.func26, Tryd.ntmps26
  go_wp2_with fail
  refine (custodyref05_Unframe.calls 1000002 A c l x f sz n w HC.out hc HF.out).mono ?_
  rintro e w1 ⟨v1, rfl, hR1, hB1⟩
  obtain ⟨A1, c1, rfl, hc1, hC1⟩ := Kd.R_reads hR1
  have HC1 := Aside0.mk hC1
  have HB1 := Aside0.mk hB1
  clear hR1 hB1 hC1
  go_wp2_with fail
  refine (Lent_calls w1 l A c (Kd.C_below HC.out HB1.out) hc (by omega)).mono ?_
  rintro e w2 ⟨A2, n2, c2, rfl, hL2, hO2, hB2⟩
  obtain rfl := hL2.1
  have HL2 := Lib.hid hL2
  have HC1b := Aside0.mk (Kd.C_below HC1.out hB2)
  have HB2 := Aside0.mk (below_step HB1.out hB2)
  clear hL2 hO2 hB2
  go_wp2_with fail
  refine (HFr.out w2 A2 c2 HL2.out.at_.1 HL2.out.at_.2).mono ?_
  rintro e w3 ⟨v3, E3, rfl, hR3, hE3, hB3⟩
  obtain ⟨A3, n3, c3, rfl⟩ := R_slice_any hR3
  have HR3 := Aside0.mk hR3
  have HE3 := Lib.hid hE3
  have HB3 := Aside0.mk hB3
  clear hR3 hE3 hB3
  go_wp2_with fail
  refine (HFr.out w3 A2 c2 (HL2.out.below HB3.out).at_.1 HL2.out.at_.2).mono ?_
  rintro e w4 ⟨v4, E4, rfl, hR4, hE4, hB4⟩
  obtain ⟨A4, n4, c4, rfl⟩ := R_slice_any hR4
  have HR4 := Aside0.mk hR4
  have HE4 := Lib.hid hE4
  have HB4 := Aside0.mk (below_step HB3.out hB4)
  have hb43 := hB4
  have h3 := Kd.R_below (Kd.R_mono (ok' := fun k => k < w3.heap.size) (Kd.R_bound HR3.out) (fun k hk => hk.2.2.1)) hb43
  have h4 := Kd.R_lower (base' := w2.heap.size) (Kd.R_mono (ok' := fun k => w3.heap.size ≤ k) (Kd.R_bound HR4.out) (fun k hk => hk.2.1)) HB3.out.size
  have H3 := Aside0.mk h3
  have H4 := Aside0.mk h4
  obtain ⟨_, _, e3, hc3, hC3⟩ := Kd.R_reads h3
  cases e3
  obtain ⟨_, _, e4, hc4, hC4⟩ := Kd.R_reads h4
  cases e4
  have HC3 := Aside0.mk hC3
  have HC4 := Aside0.mk hC4
  have HC1c := Aside0.mk (Kd.C_below HC1b.out HB4.out)
  have hg4 := ((below_step HB2.out HB4.out).cell (World.block_lt_of_cell? w _ HG.out)).trans HG.out
  have HG4 := Lib.hid hg4
  have bn : (n == n) = true := by simp
  clear hR4 hE4 hB4 hb43 h3 h4 hC3 hC4 hg4 HR3 HR4 HB3 HC1 HC1b
  go_wp2_with fail
  refine (Plain_Eo HE3.out n w4 HG4.out).mono ?_
  rintro e w5 ⟨rfl, hb5⟩
  have HG5 := Lib.hid ((hb5.cell (World.block_lt_of_cell? w4 _ HG4.out)).trans HG4.out)
  have HB5 := Aside0.mk hb5
  rw [bn]
  clear hb5
  go_wp2_with fail
  refine (Plain_Eo HE4.out n w5 HG5.out).mono ?_
  rintro e w6 ⟨rfl, hb6⟩
  have HB6 := Aside0.mk (below_step HB5.out hb6)
  rw [bn]
  clear hb6 HB5 HG5 HG4
  go_wp2_with fail
  refine (works_calls w6).mono ?_
  rintro e w9 ⟨rfl, hb9⟩
  have HB7 := Aside0.mk (below_step HB6.out hb9)
  clear hb9 HB6
  go_wp2_with fail
  refine (custodyref0_SameBytes.calls 100001 A3 c3 f A1 c1 f true w9 (Kd.C_below HC3.out HB7.out) hc3 (Kd.C_below HC1c.out HB7.out) hc1 HS.out).mono ?_
  rintro e w7 ⟨rfl, hd7⟩
  have HB8 := Aside0.mk (below_step HB7.out (Drawn0.below hd7))
  clear hd7 HB7
  go_wp2_with fail
  refine (custodyref0_SameBytes.calls 100001 A4 c4 f A1 c1 f true w7 (Kd.C_below HC4.out HB8.out) hc4 (Kd.C_below HC1c.out HB8.out) hc1 HS.out).mono ?_
  rintro e w8 ⟨rfl, hd8⟩
  have HB9 := Aside0.mk (below_step HB8.out (Drawn0.below hd8))
  clear hd8 HB8
  go_wp2_with fail
  have hL9 := HL2.out.below (below_step HB4.out HB9.out)
  have hC9 := Kd.C_below HC.out (below_step HB2.out (below_step HB4.out HB9.out))
  refine (Kept_calls w8 l A2 A l.length c2 c hL9 hC9 hc (by omega)).mono ?_
  rintro e w10 ⟨rfl, hd10⟩
  have HB10 := Aside0.mk (below_step HB9.out (Drawn0.below hd10))
  clear hd10 hL9 hC9 HB9
  have hbk := heap_alloc_new w10 (.cells #[.slice A3 f.length c3, .slice A4 f.length c4] 29)
  have hb11 := below_alloc (Below.refl w10.heap.size w10) (.cells #[.slice A3 f.length c3, .slice A4 f.length c4] 29)
  have HBk := Aside0.mk hbk
  have HB11 := Aside0.mk (below_step HB10.out hb11)
  clear hbk hb11
  go_wp2_with fail
  generalize w10.alloc (.cells #[.slice A3 f.length c3, .slice A4 f.length c4] 29) = w11 at *
  refine (Apart2 w2 w11 _ _ f f w3.heap.size w10.heap.size 2 _ (below_step HB4.out HB11.out) (Kd.R_below H3.out HB11.out) (Kd.R_below H4.out HB11.out) HBk.out rfl rfl (by have := HLen.out; omega) (by have := HLen.out; omega)).mono ?_
  rintro e w12 ⟨rfl, hb12⟩
  have HB12 := Aside0.mk hb12
  clear hb12
  go_wp2_with fail
  have hL12 := HL2.out.below HB12.out
  have hC12 := Kd.C_below HC.out (below_step HB2.out HB12.out)
  refine (Kept_calls w12 l A2 A l.length c2 c hL12 hC12 hc (by omega)).mono ?_
  rintro e w13 ⟨rfl, hd13⟩
  have HB13 := Aside0.mk (below_step (below_step HB2.out HB12.out) (Drawn0.below hd13))
  clear hd13
  go_wp2
  go_ret
  exact ⟨rfl, HB13.out⟩
end Go.Proofs.YtnnhcnmggfhkeaaDoor.Wk


/- The walk of tame and TameItems: a message is not too great. -/
import Derived.Test.YtjnpfkjplpkfjaaDoorTgTree
import Derived.Outline
import Derived.WalkSpells
import Derived.Lib.Hide
namespace Go.Proofs.YtjnpfkjplpkfjaaDoor.Tg
open Go.RowKit Go.Proofs.YtjnpfkjplpkfjaaDoorW.PrintWords Go.Proofs.YtjnpfkjplpkfjaaDoorW.PrintLast Go.Proofs.YtjnpfkjplpkfjaaDoorW.PrintMore Go.Proofs.YtjnpfkjplpkfjaaDoor.PTagsPrint
set_option linter.unusedVariables false

theorem blk_frozen {w : World} {g : Nat} {cs : Array Value} {t : TypeId} (h : w.heap[g]? = some (.cells cs t (0, 0))) (i : Nat) : w.frozen? ⟨g, i, none⟩ = false := by
  simp [World.frozen?, h]
theorem blk_set {w : World} {g : Nat} {cs : Array Value} {t : TypeId} {fr : Nat × Nat} (h : w.heap[g]? = some (.cells cs t fr)) (i : Nat) (u : Value) : (w.setCell ⟨g, i, none⟩ u).heap[g]? = some (.cells (cs.setIfInBounds i u) t fr) := by
  simp [World.setCell, Array.getElem?_modify, h]
theorem blk_drewN' {w : World} {g : Nat} {o : Obj} (h : w.heap[g]? = some o) : w.drew.heap[g]? = some o := h

def TamePost (W0 : World) (g : Nat) (l : List S50) (left : Int) (e : Ending) (w' : World) : Prop :=
  ∃ (b : Bool) (lf : Int), e = .returned (.bool b) ∧ Below W0.heap.size W0 w' ∧ w'.heap[g]? = some (.cells #[.int .i64 lf] 3 (0, 0)) ∧ 0 ≤ lf ∧ lf ≤ 100000 ∧ (b = true → lf + cnt l = left)

set_option maxHeartbeats 4000000 in
set_option maxRecDepth 100000 in
theorem tame_calls (W0 : World) (g : Nat) (hg : W0.heap.size ≤ g) : ∀ (n : Nat) (l : List S50) (A : Option Addr) (c : Nat) (w : World) (lv left : Int), cnt l ≤ n → Kd.C k50 W0 A l.length l → l.length ≤ c → Below W0.heap.size W0 w →
    w.heap[g]? = some (.cells #[.int .i64 left] 3 (0, 0)) → 0 ≤ lv → lv ≤ 65536 → 0 ≤ left → left ≤ 100000 →
    Calls Tryd.prog 19 #[.slice A l.length c, .int .i64 lv, .pointer (some ⟨g, 0, none⟩)] w (TamePost W0 g l left) := by
  intro n
  induction n using Nat.strongRecOn with
  | _ n ih =>
    intro l A c w lv left hn hC hc hB hb hv0 hv1 hl0 hl1
    have hc0 : w.cell? ⟨g, 0, none⟩ = some (.int .i64 left) := (blk_cell hb 0).trans rfl
    have hf0 := blk_frozen hb 0
    have HC := Aside0.mk hC
    have HB := Aside0.mk hB
    have HK := Aside0.mk hb
    have IH := Lib.hid ih
    clear hC hB hb ih
    go_enter Tryd.func19, Tryd.ntmps19
    by_cases h1 : (l.length : Int) > left
    · have b1 : decide (left < (l.length : Int)) = true := by simp; omega
      go_wp2
      go_ret
      exact ⟨false, left, rfl, HB.out, HK.out, hl0, hl1, fun h => by cases h⟩
    · have b1 : decide (left < (l.length : Int)) = false := by simp; omega
      by_cases h2 : 0 < (l.length : Int) ∧ lv = 0
      · obtain ⟨h2, rfl⟩ := h2
        have b2 : decide (0 < (l.length : Int)) = true := by simp; omega
        go_wp2
        go_ret
        exact ⟨false, left, rfl, HB.out, HK.out, hl0, hl1, fun h => by cases h⟩
      · have h3 : (decide (0 < (l.length : Int)) = false ∧ decide (0 < l.length) = false) ∨ (decide (0 < (l.length : Int)) = true ∧ decide (0 < l.length) = true ∧ (lv == 0) = false) := by
          by_cases h4 : 0 < (l.length : Int)
          · exact .inr ⟨decide_eq_true h4, decide_eq_true (by omega), by simp; omega⟩
          · exact .inl ⟨decide_eq_false h4, decide_eq_false (by omega)⟩
        have hw1 : wrap64 (left - (l.length : Int)) = left - l.length := by unfold wrap64; omega
        have hv2 : 0 < (l.length : Int) → 1 ≤ lv := fun h => by omega
        rcases h3 with ⟨b2, b4⟩ | ⟨b2, b4, b3⟩
        all_goals
          go_wp2_with fail
          try rw [hw1]
          go_loopw [7] (fun v7 wr => ∃ i lf : Int, v7 = .int .i64 i ∧ 0 ≤ i ∧ i ≤ l.length ∧ 0 ≤ lf ∧ lf ≤ 100000 ∧ Aside0 (lf + cnt l = left + subs (l.drop i.toNat)) ∧ Aside0 (wr.heap[g]? = some (.cells #[.int .i64 lf] 3 (0, 0))) ∧ Aside0 (Below W0.heap.size W0 wr)) (fun v7 _ => l.length - (intOf v7).toNat)
          case atStart => exact ⟨0, left - l.length, rfl, by omega, by omega, by omega, by omega, ⟨by have := subs_le l; simp; omega⟩, ⟨blk_set HK.out 0 _⟩, ⟨HB.out.setCell hg _⟩⟩
          case round =>
            clear HB HK hw1 b1 b2 b4
            obtain ⟨i, lf, rfl, hi0, hi1, hlf0, hlf1, HS, HK, HB⟩ := hrel
            by_cases hlt : i < l.length
            · have blt : decide (i < (l.length : Int)) = true := by simp; omega
              obtain ⟨ad, A4, c4, rfl, hx0, hx1, hx2, hx3, hx4, hl4, hi4⟩ := at_T50 HC.out i hi0 hlt
              replace hx4 := (HB.out.cell (World.block_lt_of_cell? W0 _ hx4)).trans hx4
              have hcn := cnt_sub l i hi0 hlt
              have hS := HS.out
              rw [drop_rd l i hi0 hlt, subs_cons] at hS
              have HS2 := Aside0.mk hS
              clear hS HS
              clear hx0 hx1 hx2 hx3
              have HR4 := Aside0.mk hi4
              have HL4 := Aside0.mk hl4
              clear hi4 hl4
              go_wp2_with fail
              refine (IH.out (cnt (rd_T50 l i).f4) (by omega) (rd_T50 l i).f4 A4 c4 _ (lv - 1) lf (Nat.le_refl _) HR4.out HL4.out HB.out HK.out (by omega) (by omega) hlf0 hlf1).mono ?_
              rintro e w1 ⟨b, lf2, rfl, hB1, hK1, hq0, hq1, hq2⟩
              have HB1 := Aside0.mk hB1
              have HK1 := Aside0.mk hK1
              have HQ := Lib.hid hq2
              clear hB1 hK1 hq2 HB HK
              cases b with
              | true =>
                go_wp2
                refine ⟨⟨i + 1, lf2, rfl, by omega, by omega, hq0, hq1, ⟨by have := HS2.out; have := HQ.out trivial; omega⟩, HK1, HB1⟩, by simp [intOf]; omega⟩
              | false =>
                go_wp2
                go_ret
                exact ⟨false, lf2, rfl, HB1.out, HK1.out, hq0, hq1, fun h => by cases h⟩
            · have blt : decide (i < (l.length : Int)) = false := by simp; omega
              have hS := HS.out
              rw [drop_end l i hlt, subs_nil] at hS
              have HS2 := Aside0.mk hS
              clear hS HS
              go_wp2
              go_ret
              exact ⟨true, lf, rfl, HB.out, HK.out, hlf0, hlf1, fun _ => by have := HS2.out; omega⟩

def TameItemsPost (W0 : World) (l : List S50) (e : Ending) (w' : World) : Prop := ∃ b : Bool, e = .returned (.bool b) ∧ Below W0.heap.size W0 w' ∧ (b = true → cnt l ≤ 100000)
set_option maxHeartbeats 1000000 in
theorem TameItems_calls (w : World) (l : List S50) (A : Option Addr) (c : Nat) (hC : Kd.C k50 w A l.length l) (hc : l.length ≤ c) :
    Calls Tryd.prog 10 #[.slice A l.length c] w (TameItemsPost w l) := by
  have HC := Aside0.mk hC
  clear hC
  go_enter Tryd.func10, Tryd.ntmps10
  go_wp2_with fail
  refine (tame_calls w w.heap.size (Nat.le_refl _) (cnt l) l A c _ 65536 100000 (Nat.le_refl _) HC.out hc (below_alloc (Below.refl _ _) _) (by simpa using heap_alloc_new w _) (by omega) (by omega) (by omega) (by omega)).mono ?_
  rintro e w1 ⟨b, lf, rfl, hB, _, _, _, hb⟩
  have HB := Aside0.mk hB
  have HQ := Lib.hid hb
  clear hB hb
  go_wp2
  go_ret
  exact ⟨b, rfl, HB.out, fun h => by have := HQ.out h; omega⟩

/-- The items that are asked about: few, of few bytes. -/
def FewPost (W0 : World) (l : List S50) (e : Ending) (w' : World) : Prop := ∃ b : Bool, e = .returned (.bool b) ∧ Below W0.heap.size W0 w' ∧ (b = true → cnt l < 10000 ∧ byL l ≤ 16777216)
set_option maxHeartbeats 4000000 in
set_option maxRecDepth 100000 in
theorem few_calls (w : World) (l : List S50) (A : Option Addr) (c : Nat) (hC : Kd.C k50 w A l.length l) (hc : l.length ≤ c) (ho : okL l) :
    Calls Tryd.prog 4 #[.slice A l.length c] w (FewPost w l) := by
  have HC := Aside0.mk hC
  clear hC
  have HO := Lib.hid ho
  clear ho
  go_enter Tryd.func4, Tryd.ntmps4
  go_wp2_with fail
  refine (TameItems_calls _ l A c HC.out hc).mono ?_
  rintro e w1 ⟨b, rfl, hB, hb⟩
  cases b with
  | false =>
    have HB := Aside0.mk hB
    clear hB hb
    go_wp2
    go_ret
    exact ⟨false, rfl, HB.out, fun h => by cases h⟩
  | true =>
    obtain ⟨r, hr, hr2⟩ := parts_f l (by have := hb rfl; omega)
    have HB := Aside0.mk hB
    have HR := Lib.hid hr
    clear hB hb hr
    go_wp2_with fail
    refine (custodyref06_Parts.calls _ A c l 10000 r _ (Kd.C_below HC.out HB.out) hc HR.out).mono ?_
    rintro e w2 ⟨rfl, ⟨nd, rfl⟩⟩
    have HB2 := Aside0.mk (pw_below_drewN HB.out nd)
    clear HB
    by_cases h1 : r < 10000
    · have b1 : decide (r < 10000) = true := decide_eq_true h1
      obtain ⟨r2, hr3, hr4⟩ := size_f l (hr2 h1) HO.out
      have HR2 := Lib.hid hr3
      clear hr3
      go_wp2_with fail
      refine (custodylaw06_size.calls _ A c l r2 _ (Kd.C_below HC.out HB2.out) hc HR2.out).mono ?_
      rintro e w3 ⟨rfl, hB3⟩
      have HB3 := Aside0.mk (below_step HB2.out hB3)
      clear hB3 HB2
      by_cases h2 : r2 ≤ 16777216
      · have b2 : decide (r2 ≤ 16777216) = true := decide_eq_true h2
        go_wp2
        go_ret
        exact ⟨true, rfl, HB3.out, fun _ => ⟨hr2 h1, hr4 h2⟩⟩
      · have b2 : decide (r2 ≤ 16777216) = false := decide_eq_false h2
        go_wp2
        go_ret
        exact ⟨false, rfl, HB3.out, fun h => by cases h⟩
    · have b1 : decide (r < 10000) = false := decide_eq_false h1
      go_wp2
      go_ret
      exact ⟨false, rfl, HB2.out, fun h => by cases h⟩
end Go.Proofs.YtjnpfkjplpkfjaaDoor.Tg

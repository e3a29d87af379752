/- The walks of SameItem and SameItems at equal data. -/
import Derived.Test.YtjnpfkjplpkfjaaDoorTgTame
import Derived.Deep.RegionHeld3
import Derived.Deep.DeepCutAuto
import Derived.StillTailTactics
namespace Go.Proofs.YtjnpfkjplpkfjaaDoor.Tg
open Go.RowKit Go.Proofs.YtjnpfkjplpkfjaaDoorW.PrintWords Go.Proofs.YtjnpfkjplpkfjaaDoorW.PrintLast Go.Proofs.YtjnpfkjplpkfjaaDoorW.PrintMore Go.Proofs.YtjnpfkjplpkfjaaDoor.PTagsPrint
set_option linter.unusedVariables false

set_option maxHeartbeats 8000000 in
set_option maxRecDepth 100000 in
theorem same_calls (x : S50) (A B : Option Addr) (cA cB : Nat) (w : World)
    (ih : ∀ (w' : World), Below w.heap.size w w' → Calls Tryd.prog 42 #[.slice A x.f4.length cA, .slice B x.f4.length cB] w' fun e w'' => e = .returned (.bool true) ∧ Below w'.heap.size w' w'') :
    Calls Tryd.prog 30 #[.agg #[.string x.f0, .string x.f1, .string x.f2, .string x.f3, .slice A x.f4.length cA], .agg #[.string x.f0, .string x.f1, .string x.f2, .string x.f3, .slice B x.f4.length cB]] w
      fun e w' => e = .returned (.bool true) ∧ Below w.heap.size w w' := by
  have IH := Lib.hid ih
  have hu := Tryd.underlying50
  clear ih
  have b0 : (x.f0.toList == x.f0.toList) = true := by simp
  go_enter Tryd.func30, Tryd.ntmps30
  go_wp2_with fail
  have hb : Below w.heap.size w ((w.alloc (.cells #[.string x.f0, .string x.f1, .string x.f2, .string x.f3, .slice A x.f4.length cA] 50)).alloc (.cells #[.string x.f0, .string x.f1, .string x.f2, .string x.f3, .slice B x.f4.length cB] 50)) := below_alloc (below_alloc (Below.refl _ _) _) _
  refine (IH.out _ hb).mono ?_
  rintro e w1 ⟨rfl, hb1⟩
  have HB := Aside0.mk (below_step hb hb1)
  clear hb hb1
  go_wp2
  go_ret
  exact ⟨rfl, HB.out⟩

set_option maxHeartbeats 8000000 in
set_option maxRecDepth 100000 in
theorem sames_calls : ∀ (n : Nat) (l : List S50) (A B : Option Addr) (cA cB : Nat) (w : World), cnt l ≤ n → Kd.C k50 w A l.length l → Kd.C k50 w B l.length l → l.length ≤ cA → l.length ≤ cB → cnt l ≤ 1000000 →
    Calls Tryd.prog 42 #[.slice A l.length cA, .slice B l.length cB] w fun e w' => e = .returned (.bool true) ∧ Below w.heap.size w w' := by
  intro n
  induction n using Nat.strongRecOn with
  | _ n ih =>
    intro l A B cA cB w hn hA hB hcA hcB hm
    have HA := Aside0.mk hA
    have HB := Aside0.mk hB
    have IH := Lib.hid ih
    have hlen := cnt_len l
    have hu := Tryd.underlying50
    have b0 : ((l.length : Int) != (l.length : Int)) = false := by simp
    clear hA hB ih
    go_enter Tryd.func42, Tryd.ntmps42
    go_wp2_with fail
    go_loopw [5] (fun v5 wr => ∃ i : Int, v5 = .int .i64 i ∧ 0 ≤ i ∧ i ≤ l.length ∧ Aside0 (Below w.heap.size w wr)) (fun v5 _ => l.length - (intOf v5).toNat)
    case atStart => exact ⟨0, rfl, by omega, by omega, ⟨Below.refl _ _⟩⟩
    case round =>
      obtain ⟨i, rfl, hi0, hi1, HW⟩ := hrel
      by_cases hlt : i < l.length
      · have blt : decide (i < (l.length : Int)) = true := by simp; omega
        obtain ⟨ad, A4, c4, rfl, hx0, hx1, hx2, hx3, hx4, hl4, hi4⟩ := at_T50 HA.out i hi0 hlt
        obtain ⟨bd, B4, e4, rfl, hy0, hy1, hy2, hy3, hy4, hm4, hj4⟩ := at_T50 HB.out i hi0 hlt
        replace hx0 := (HW.out.cell (World.block_lt_of_cell? w _ hx0)).trans hx0
        replace hx1 := (HW.out.cell (World.block_lt_of_cell? w _ hx1)).trans hx1
        replace hx2 := (HW.out.cell (World.block_lt_of_cell? w _ hx2)).trans hx2
        replace hx3 := (HW.out.cell (World.block_lt_of_cell? w _ hx3)).trans hx3
        replace hx4 := (HW.out.cell (World.block_lt_of_cell? w _ hx4)).trans hx4
        replace hy0 := (HW.out.cell (World.block_lt_of_cell? w _ hy0)).trans hy0
        replace hy1 := (HW.out.cell (World.block_lt_of_cell? w _ hy1)).trans hy1
        replace hy2 := (HW.out.cell (World.block_lt_of_cell? w _ hy2)).trans hy2
        replace hy3 := (HW.out.cell (World.block_lt_of_cell? w _ hy3)).trans hy3
        replace hy4 := (HW.out.cell (World.block_lt_of_cell? w _ hy4)).trans hy4
        have hcn := cnt_sub l i hi0 hlt
        have HR4 := Aside0.mk hi4
        have HS4 := Aside0.mk hj4
        clear hi4 hj4
        generalize rd_T50 l i = x at *
        have hcall := same_calls x A4 B4 c4 e4 wr.drew (fun w' hb => IH.out (cnt x.f4) (by omega) x.f4 A4 B4 c4 e4 w' (Nat.le_refl _) (Kd.C_below HR4.out (below_step HW.out.drew hb)) (Kd.C_below HS4.out (below_step HW.out.drew hb)) hl4 hm4 (by omega))
        have HCALL := Lib.hid hcall
        clear hcall
        go_wp2_with fail
        go_still_tail 8, (by kernel_rfl)
        change wpList _ _ _ _ _ wr.drew
        have HW2 := Aside0.mk (show Below w.heap.size w wr.drew from HW.out.drew)
        generalize wr.drew = w2 at *
        clear HW hx0 hx1 hx2 hx3 hx4 hy0 hy1 hy2 hy3 hy4
        go_wp2_with fail
        refine HCALL.out.mono ?_
        rintro e w1 ⟨rfl, hb1⟩
        have HW3 := Aside0.mk (below_step HW2.out hb1)
        clear hb1
        go_wp2_with fail
        refine ⟨⟨i + 1, rfl, by omega, by omega, HW3⟩, by simp [intOf]; omega⟩
      · have blt : decide (i < (l.length : Int)) = false := by simp; omega
        go_wp2
        go_ret
        exact ⟨rfl, HW.out⟩
end Go.Proofs.YtjnpfkjplpkfjaaDoor.Tg

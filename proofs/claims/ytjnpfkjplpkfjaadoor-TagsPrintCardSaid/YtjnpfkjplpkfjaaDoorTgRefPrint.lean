/- The walk of the document's lines and Print. -/
import Derived.Test.YtjnpfkjplpkfjaaDoorTgSpec
namespace Go.Proofs.YtjnpfkjplpkfjaaDoor.Tg
open Go.RowKit Go.Proofs.YtjnpfkjplpkfjaaDoorW.PrintWords Go.Proofs.YtjnpfkjplpkfjaaDoorW.PrintLast Go.Proofs.YtjnpfkjplpkfjaaDoorW.PrintMore Go.Proofs.YtjnpfkjplpkfjaaDoor.PTagsPrint
set_option linter.unusedVariables false
set_option linter.unusedSimpArgs false

theorem list_app (a b : ByteArray) : (a ++ b).toList = a.toList ++ b.toList := by
  rw [ByteArray.toList_eq, ByteArray.toList_eq, ByteArray.toList_eq]
  simp
def Told (r : Out) (s : ByteArray) (no : Int) : Prop := match r with
  | .ok b => s.toList = b ∧ no = 0
  | .error n => s = ⟨#[]⟩ ∧ no = n ∧ n ≠ 0
def LinesPost (W0 : World) (r : Out) (e : Ending) (w' : World) : Prop :=
  ∃ s no, e = .returned (.tuple #[.string s, .int .i64 no]) ∧ Below W0.heap.size W0 w' ∧ Told r s no
theorem get_ok {l : List S50} (h : okL l) (i : Int) (h0 : 0 ≤ i) (h1 : i < l.length) : (rd_T50 l i).f0.size ≤ 140737488351232 ∧ (rd_T50 l i).f1.size ≤ 140737488351232 ∧ (rd_T50 l i).f2.size ≤ 140737488351232 ∧ (rd_T50 l i).f3.size ≤ 140737488351232 ∧ okL (rd_T50 l i).f4 := by
  have hd : ∀ (l : List S50) (j : Nat), okL l → okL (l.drop j) := by
    intro l
    induction l with
    | nil => intro j h; simpa using h
    | cons x l ih =>
      intro j h
      cases j with
      | zero => simpa using h
      | succ j => rw [okL_cons] at h; simpa using ih j h.2
  have := hd l i.toNat h
  rw [drop_rd l i h0 h1, okL_cons] at this
  exact this.1

set_option maxHeartbeats 8000000 in
set_option maxRecDepth 100000 in
theorem lines_calls : ∀ (n : Nat) (l : List S50) (A : Option Addr) (c : Nat) (w : World) (d : Int), cnt l ≤ n → Kd.C k50 w A l.length l → l.length ≤ c → okL l → room l ≤ 1073741824 → 0 ≤ d → d ≤ 8 →
    Calls Tryd.prog 13 #[.slice A l.length c, .int .i64 d] w (LinesPost w (lnL l d)) := by
  intro n
  induction n using Nat.strongRecOn with
  | _ n ih =>
    intro l A c w d hn hC hc ho hm hd0 hd1
    have HC := Aside0.mk hC
    have HO := Lib.hid ho
    have IH := Lib.hid ih
    have HN := Lib.hid hn
    have HM := Lib.hid hm
    have HD := Lib.hid hd1
    have hu := Tryd.underlying50
    have hlen := cnt_len l
    have hroom : cnt l ≤ 33554432 := by unfold room at hm; omega
    clear hC ho ih hn hm hd1
    go_enter Tryd.func13, Tryd.ntmps13
    go_wp2_with fail
    go_loopw [6, 7] (fun v6 v7 wr => ∃ (t : ByteArray) (i : Int), v6 = .string t ∧ v7 = .int .i64 i ∧ 0 ≤ i ∧ i ≤ l.length ∧ Aside0 (lnL l d = app t.toList (lnL (l.drop i.toNat) d)) ∧ Aside0 (t.size + room (l.drop i.toNat) ≤ room l) ∧ Aside0 (Below w.heap.size w wr)) (fun _ v7 _ => l.length - (intOf v7).toNat)
    case atStart => exact ⟨⟨#[]⟩, 0, rfl, rfl, by omega, by omega, ⟨by simp; cases lnL l d <;> rfl⟩, ⟨by show 0 + room (l.drop 0) ≤ room l; simp⟩, ⟨Below.refl _ _⟩⟩
    case round =>
      obtain ⟨t, i, rfl, rfl, hi0, hi1, HT, HS, HB⟩ := hrel
      by_cases hlt : i < l.length
      · have blt : decide (i < (l.length : Int)) = true := by simp; omega
        obtain ⟨ad, A4, c4, rfl, hx0, hx1, hx2, hx3, hx4, hl4, hi4⟩ := at_T50 HC.out i hi0 hlt
        replace hx0 := (HB.out.cell (World.block_lt_of_cell? w _ hx0)).trans hx0
        replace hx1 := (HB.out.cell (World.block_lt_of_cell? w _ hx1)).trans hx1
        replace hx2 := (HB.out.cell (World.block_lt_of_cell? w _ hx2)).trans hx2
        replace hx3 := (HB.out.cell (World.block_lt_of_cell? w _ hx3)).trans hx3
        replace hx4 := (HB.out.cell (World.block_lt_of_cell? w _ hx4)).trans hx4
        have HR4 := Aside0.mk hi4
        have HL4 := Aside0.mk hl4
        have hok := get_ok HO.out i hi0 hlt
        have hcn := cnt_sub l i hi0 hlt
        have hdr := drop_rd l i hi0 hlt
        have hT := HT.out
        have hS := HS.out
        rw [hdr] at hT hS
        rw [room_cons] at hS
        clear HT HS hdr hi4 hl4
        generalize rd_T50 l i = x at *
        have HT := Lib.hid hT
        have HS := Lib.hid hS
        have HOK := Lib.hid hok
        have HCN := Lib.hid hcn
        clear hT hS hok hcn
        go_wp2_with fail
        obtain ⟨kw, hkw⟩ := wrong_is x d HOK.out.2.1 HOK.out.2.2.1 HOK.out.2.2.2.1
        refine (custodyref06_wrong.calls kw x.f0 x.f1 x.f2 x.f3 A4 c4 x.f4 d (wrn x d) _ (Kd.C_alloc (Kd.C_below HR4.out HB.out) _) HL4.out hkw).mono ?_
        rintro e w1 ⟨rfl, hB1⟩
        have hB2 : Below w.heap.size w w1 := below_step (below_alloc HB.out _) hB1
        have hk1 : w1.heap[wr.heap.size]? = some (.cells #[.string x.f0, .string x.f1, .string x.f2, .string x.f3, .slice A4 x.f4.length c4] 50 (0, 0)) := blk_below (by simpa using heap_alloc_new wr _) hB1
        have hy0 : w1.cell? ⟨wr.heap.size, 0, none⟩ = some (.string x.f0) := (blk_cell hk1 0).trans rfl
        have hy1 : w1.cell? ⟨wr.heap.size, 1, none⟩ = some (.string x.f1) := (blk_cell hk1 1).trans rfl
        have hy2 : w1.cell? ⟨wr.heap.size, 2, none⟩ = some (.string x.f2) := (blk_cell hk1 2).trans rfl
        have hy3 : w1.cell? ⟨wr.heap.size, 3, none⟩ = some (.string x.f3) := (blk_cell hk1 3).trans rfl
        have hy4 : w1.cell? ⟨wr.heap.size, 4, none⟩ = some (.slice A4 x.f4.length c4) := (blk_cell hk1 4).trans rfl
        have hg : w.heap.size ≤ wr.heap.size := below_size HB.out
        have HG := Lib.hid hg
        have HB2 := Aside0.mk hB2
        have HK1 := Aside0.mk hk1
        clear hB1 hB2 hk1 hx0 hx1 hx2 hx3 hx4 hg HB hkw
        generalize wr.heap.size = g at *
        have HW := Lib.hid (wrn_pos x d HOK.out.2.2.1)
        by_cases hz : wrn x d = 0
        · have bz : (wrn x d != 0) = false := by simp [hz]
          by_cases htag : x.f0.toList = []
          · have btag : (x.f0.toList != ([] : List UInt8)) = false := by simp [htag]
            have hd8 := wrn_depth hz htag
            go_wp2_with fail
            refine (IH.out (cnt x.f4) (by have := HCN.out; have := HN.out; omega) x.f4 A4 c4 w1 (d + 1) (Nat.le_refl _) (Kd.C_below HR4.out HB2.out) HL4.out HOK.out.2.2.2.2 (by have := HS.out; have := HM.out; omega) (by omega) (by omega)).mono ?_
            rintro e w2 ⟨s, no, rfl, hB3, hs⟩
            have hk2 := blk_below HK1.out hB3
            have hz0 : w2.cell? ⟨g, 0, none⟩ = some (.string x.f0) := (blk_cell hk2 0).trans rfl
            have hz3 : w2.cell? ⟨g, 3, none⟩ = some (.string x.f3) := (blk_cell hk2 3).trans rfl
            have HB3 := Aside0.mk (below_step HB2.out hB3)
            clear hB3 hk2 HK1 HB2 hy0 hy1 hy2 hy3 hy4
            cases hr : lnL x.f4 (d + 1) with
            | error no' =>
              rw [hr] at hs
              obtain ⟨rfl, rfl, hno⟩ := hs
              have bno : (no != 0) = true := by simp [hno]
              go_wp2
              go_ret2
              refine ⟨⟨#[]⟩, no, rfl, HB3.out, ?_⟩
              rw [HT.out, lnL_err (n := no) (by rw [lnI_eq, if_pos hz, if_pos htag, hr]; rfl)]
              exact ⟨rfl, rfl, hno⟩
            | ok b =>
              have hb := lnL_len (cnt x.f4) x.f4 (d + 1) b (Nat.le_refl _) hr
              rw [hr] at hs
              obtain ⟨hs, rfl⟩ := hs
              have hsz : s.size ≤ room x.f4 := by rw [← list_size, hs]; exact hb
              have hss : t.size ≤ 1073741824 ∧ s.size ≤ 1073741824 ∧ x.f3.size ≤ 1073741824 := by have := HS.out; have := HM.out; omega
              obtain ⟨hs1, hs2, hs3⟩ := hss
              have e1 : (⟨#[58, 49, 54, 82, 58]⟩ : ByteArray).size = 5 := rfl
              have e2 : (⟨#[10]⟩ : ByteArray).size = 1 := rfl
              have e3 : (⟨#[58, 49, 54, 83, 58]⟩ : ByteArray).size = 5 := rfl
              go_wp2_with fail
              refine ⟨⟨_, i + 1, rfl, rfl, by omega, by omega, ⟨?_⟩, ⟨?_⟩, HB3⟩, by simp [intOf]; omega⟩
              · rw [HT.out, lnL_ok (b := _) (by rw [lnI_eq, if_pos hz, if_pos htag, hr]; rfl), app_app]
                simp [list_app, hs]
              · have := HS.out
                simp only [ByteArray.size_append, e1, e2, e3]
                omega
          · have btag : (x.f0.toList != ([] : List UInt8)) = true := by simp [htag]
            have btag2 : (x.f0.toList == ([] : List UInt8)) = false := by simp [htag]
            have btag3 : x.f0.toList.isEmpty = false := by simp [htag]
            have hss : t.size ≤ 1073741824 ∧ x.f0.size ≤ 1073741824 ∧ x.f1.size ≤ 1073741824 ∧ x.f2.size ≤ 1073741824 := by have := HS.out; have := HM.out; omega
            obtain ⟨hs1, hs2, hs3, hs4⟩ := hss
            have e1 : (⟨#[58]⟩ : ByteArray).size = 1 := rfl
            have e2 : (⟨#[10]⟩ : ByteArray).size = 1 := rfl
            have e3 : (⟨#[47, 47]⟩ : ByteArray).size = 2 := rfl
            have e4 : (⟨#[]⟩ : ByteArray).size = 0 := rfl
            by_cases hq : x.f1.toList = []
            · have bq : (x.f1.toList != ([] : List UInt8)) = false := by simp [hq]
              go_wp2_with fail
              refine ⟨⟨_, i + 1, rfl, rfl, by omega, by omega, ⟨?_⟩, ⟨?_⟩, HB2⟩, by simp [intOf]; omega⟩
              · rw [HT.out, lnL_ok (b := _) (by rw [lnI_eq, if_pos hz, if_neg htag]), app_app]
                simp [list_app, field, hq]
              · have := HS.out
                simp only [ByteArray.size_append, e1, e2, e3, e4]
                omega
            · have bq : (x.f1.toList != ([] : List UInt8)) = true := by simp [hq]
              have bq2 : (x.f1.toList == ([] : List UInt8)) = false := by simp [hq]
              have bq3 : x.f1.toList.isEmpty = false := by simp [hq]
              go_wp2_with fail
              refine ⟨⟨_, i + 1, rfl, rfl, by omega, by omega, ⟨?_⟩, ⟨?_⟩, HB2⟩, by simp [intOf]; omega⟩
              · rw [HT.out, lnL_ok (b := _) (by rw [lnI_eq, if_pos hz, if_neg htag]), app_app]
                simp [list_app, field, hq]
              · have := HS.out
                simp only [ByteArray.size_append, e1, e2, e3, e4]
                omega
        · have bz : (wrn x d != 0) = true := by simp [hz]
          go_wp2
          go_ret2
          refine ⟨⟨#[]⟩, wrn x d, rfl, HB2.out, ?_⟩
          rw [HT.out, lnL_err (n := wrn x d) (by rw [lnI_eq, if_neg hz])]
          exact ⟨rfl, rfl, hz⟩
      · have blt : decide (i < (l.length : Int)) = false := by simp; omega
        have hT := HT.out
        rw [drop_end l i hlt] at hT
        have HT2 := Lib.hid hT
        clear hT HT
        go_wp2
        go_ret2
        refine ⟨t, 0, rfl, HB.out, ?_⟩
        rw [HT2.out]
        simp [lnL, app, Told]

/-- The whole text, or the error. -/
def whole : Out → Out
  | .ok b => if 1048576 < b.length then .error 5 else .ok b
  | .error n => .error n
set_option maxHeartbeats 4000000 in
set_option maxRecDepth 100000 in
theorem refPrint_calls (l : List S50) (A : Option Addr) (c : Nat) (w : World) (hC : Kd.C k50 w A l.length l) (hc : l.length ≤ c) (ho : okL l) (hm : room l ≤ 1073741824) :
    Calls Tryd.prog 5 #[.slice A l.length c] w (LinesPost w (whole (lnL l 0))) := by
  go_enter Tryd.func5, Tryd.ntmps5
  go_wp2_with fail
  refine (lines_calls (cnt l) l A c w 0 (Nat.le_refl _) hC hc ho hm (by omega) (by omega)).mono ?_
  rintro e w1 ⟨s, no, rfl, hB, hs⟩
  have HB := Aside0.mk hB
  clear hB hC ho hm
  cases hr : lnL l 0 with
  | error n =>
    rw [hr] at hs
    obtain ⟨rfl, rfl, hno⟩ := hs
    have b1 : (no == 0) = false := by simp [hno]
    have b2 : (no != 0) = true := by simp [hno]
    go_wp2
    go_ret2
    refine ⟨_, _, rfl, HB.out, ?_⟩
    rw [hr]
    exact ⟨rfl, rfl, hno⟩
  | ok b =>
    rw [hr] at hs
    obtain ⟨rfl, rfl⟩ := hs
    have hz := list_size s
    by_cases hl : 1048576 < s.size
    · have b1 : decide (1048576 < (s.size : Int)) = true := by simp; omega
      have b2 : decide (1048576 < s.size) = true := by simp; omega
      go_wp2
      go_ret2
      refine ⟨_, _, rfl, HB.out, ?_⟩
      rw [hr]
      simp only [whole]
      rw [if_pos (by omega)]
      exact ⟨rfl, rfl, by decide⟩
    · have b1 : decide (1048576 < (s.size : Int)) = false := by simp; omega
      have b2 : decide (1048576 < s.size) = false := by simp; omega
      go_wp2
      go_ret2
      refine ⟨_, _, rfl, HB.out, ?_⟩
      rw [hr]
      simp only [whole]
      rw [if_neg (by omega)]
      exact ⟨rfl, rfl⟩
end Go.Proofs.YtjnpfkjplpkfjaaDoor.Tg

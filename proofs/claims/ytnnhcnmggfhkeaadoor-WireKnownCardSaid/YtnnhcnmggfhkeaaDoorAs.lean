/- errors.As at a *api.Fault, and custodykit's Num and Plain, at this seat's errors. After the guide's worked text Toyas. -/
import Derived.Test.YtnnhcnmggfhkeaaDoorErr
namespace Go.Proofs.YtnnhcnmggfhkeaaDoor.Err
open Go.RowKit Go.Extern.Stop Go.Stop Go.Extern Go.Proofs.YtnnhcnmggfhkeaaDoorW.PrintWords
set_option linter.unusedVariables false
set_option linter.unusedSimpArgs false
theorem valueOfP (t : Addr) (w : World) : (xValueOf #[.iface 75 (.pointer (some t))]).run Tryd.prog w = .ok (.agg #[.pointer (some ⟨1, 75, none⟩), .pointer (some ⟨w.heap.size, 0, none⟩), .int .u64 150]) (w.alloc (.cells #[.pointer (some t)] 75)) := by kernel_rfl
theorem typeP (a : Addr) (w : World) : (xType #[.agg #[.pointer (some ⟨1, 75, none⟩), .pointer (some a), .int .u64 150]]).run Tryd.prog w = .ok (.iface 130 (.agg #[.pointer (some ⟨1, 75, none⟩)])) w := by kernel_rfl
theorem methodKind (h : Value) (w : World) : (Go.method 274 130 (.agg #[h]) "Kind").run Tryd.prog w = .ok (94, h) w := by kernel_rfl
theorem methodElem (h : Value) (w : World) : (Go.method 274 130 (.agg #[h]) "Elem").run Tryd.prog w = .ok (108, .agg #[h]) w := by kernel_rfl
theorem methodImplements (h : Value) (w : World) : (Go.method 274 130 (.agg #[h]) "Implements").run Tryd.prog w = .ok (109, .agg #[h]) w := by kernel_rfl
theorem methodAssignableTo (h : Value) (w : World) : (Go.method 274 130 (.agg #[h]) "AssignableTo").run Tryd.prog w = .ok (106, .agg #[h]) w := by kernel_rfl
theorem kindP  (w : World) : (xKind #[.pointer (some ⟨1, 75, none⟩)]).run Tryd.prog w = .ok (.int .u8 22) w := by kernel_rfl
theorem kindF  (w : World) : (xKind #[.pointer (some ⟨1, 72, none⟩)]).run Tryd.prog w = .ok (.int .u8 25) w := by kernel_rfl
theorem elemP  (w : World) : (xElem #[.agg #[.pointer (some ⟨1, 75, none⟩)]]).run Tryd.prog w = .ok (.iface 130 (.agg #[.pointer (some ⟨1, 72, none⟩)])) w := by kernel_rfl
theorem implementsF  (w : World) : (xImplements #[.agg #[.pointer (some ⟨1, 72, none⟩)], .iface 130 (.agg #[.pointer (some ⟨1, 37, none⟩)])]).run Tryd.prog w = .ok (.bool true) w := by kernel_rfl
theorem assignE  (w : World) : (xAssignableTo #[.agg #[.pointer (some ⟨1, 70, none⟩)], .iface 130 (.agg #[.pointer (some ⟨1, 72, none⟩)])]).run Tryd.prog w = .ok (.bool false) w := by kernel_rfl
theorem noAsE (v : Value) (xT : TypeId) (w : World) : (Instr.typeAssert (.iface 70 v) xT 134 true).run Tryd.prog w = .ok (.tuple #[.nilIface, .bool false]) w := run_typeAssert_lacksB Tryd.underlying134 (by kernel_rfl) (by kernel_rfl) v xT w
theorem noAsW0 (v : Value) (xT : TypeId) (w : World) : (Instr.typeAssert (.iface 78 v) xT 134 true).run Tryd.prog w = .ok (.tuple #[.nilIface, .bool false]) w := run_typeAssert_lacksB Tryd.underlying134 (by kernel_rfl) (by kernel_rfl) v xT w
theorem typeOfW0 (v : Value) (w : World) : (xTypeOf #[.iface 78 v]).run Tryd.prog w = .ok (.iface 130 (.agg #[.pointer (some ⟨1, 78, none⟩)])) w := by kernel_rfl
theorem assignW0  (w : World) : (xAssignableTo #[.agg #[.pointer (some ⟨1, 78, none⟩)], .iface 130 (.agg #[.pointer (some ⟨1, 72, none⟩)])]).run Tryd.prog w = .ok (.bool false) w := by kernel_rfl
theorem rlm (z : Sem Value) (f : TypeId → Addr → Nat → Nat → Sem Value) (v : Value) :
    ReflectliteValue.method z f #[v] = (do match ← ReflectliteValue.parts v with | none => z | some (t, a, fl) => f t a fl (fl % 32)) := rfl
theorem partsP (a : Addr) (w : World) : (ReflectliteValue.parts (.agg #[.pointer (some ⟨1, 75, none⟩), .pointer (some a), .int .u64 150])).run Tryd.prog w = .ok (some (75, a, 150)) w := by kernel_rfl
theorem isNilP (a p : Addr) (W : World) (ha : W.cell? a = some (.pointer (some p))) : (xIsNil #[.agg #[.pointer (some ⟨1, 75, none⟩), .pointer (some a), .int .u64 150]]).run Tryd.prog W = .ok (.bool false) W := by
  unfold xIsNil
  rw [rlm]
  simp only [Sem.run_bind, partsP, Result.andThen]
  simp [ReflectliteValue.isNil, loadVar, isAgg, underlying, Tryd.underlying75, ha, Result.andThen]
set_option maxHeartbeats 8000000 in
set_option maxRecDepth 100000 in
theorem as_errno (c : Int) (t : Addr) (w : World) (hg : w.cell? ⟨0, 0, none⟩ = some (.iface 130 (.agg #[.pointer (some ⟨1, 37, none⟩)]))) :
    Calls Tryd.prog 33 #[.iface 70 (.int .i64 c), .iface 75 (.pointer (some t))] w fun e w' => e = .returned (.bool false) ∧ Below w.heap.size w w' := by
  have kxTypeOf := call_xTypeOf
  have kxValueOf := call_xValueOf
  have kxType := call_xType
  have kxIsNil := call_xIsNil
  have kxKind := call_xKind
  have kxElem := call_xElem
  have kxImplements := call_xImplements
  have kxAssignableTo := call_xAssignableTo
  have qisTypeOf := isTypeOf
  have qvalueOfP := valueOfP
  have qtypeP := typeP
  have qmethodKind := methodKind
  have qmethodElem := methodElem
  have qmethodImplements := methodImplements
  have qmethodAssignableTo := methodAssignableTo
  have qkindP := kindP
  have qkindF := kindF
  have qelemP := elemP
  have qimplementsF := implementsF
  have qassignE := assignE
  have qnoAsE := noAsE
  have qnoUnE := noUnE
  have qnoUnsE := noUnsE
  have n8 := isNilP ⟨w.heap.size, 0, none⟩ t ((w.alloc (.cells #[.pointer (some t)] 75)).alloc (.cells #[.pointer (some ⟨1, 75, none⟩), .pointer (some ⟨w.heap.size, 0, none⟩), .int .u64 150] 110)) (by simp)
  have hlt : 0 < w.heap.size := by
    rcases Nat.eq_zero_or_pos w.heap.size with h0 | h
    · simp [World.cell?, h0] at hg
    · exact h
  have hg2 : ((w.alloc (.cells #[.pointer (some t)] 75)).alloc (.cells #[.pointer (some ⟨1, 75, none⟩), .pointer (some ⟨w.heap.size, 0, none⟩), .int .u64 150] 110)).cell? ⟨0, 0, none⟩ = some (.iface 130 (.agg #[.pointer (some ⟨1, 37, none⟩)])) := by
    rw [World.cell?_alloc_lt _ _ ⟨0, 0, none⟩ (by simp), World.cell?_alloc_lt _ _ ⟨0, 0, none⟩ hlt]; exact hg
  go_enter Tryd.func33, Tryd.ntmps33
  go_wp2
  refine wp_loop_rounds 1 ?_
  rw [rounds_succ]
  go_wp2
  go_ret
  exact ⟨rfl, by repeat (first | exact Below.refl _ _ | apply below_alloc)⟩
set_option maxHeartbeats 8000000 in
set_option maxRecDepth 100000 in
theorem as_W0 (s0 : ByteArray) (c : Int) (t : Addr) (w : World) (hg : w.cell? ⟨0, 0, none⟩ = some (.iface 130 (.agg #[.pointer (some ⟨1, 37, none⟩)]))) :
    Calls Tryd.prog 33 #[.iface 78 (.agg #[.string s0, .int .i64 c]), .iface 75 (.pointer (some t))] w fun e w' => e = .returned (.bool false) ∧ Below w.heap.size w w' := by
  have kxTypeOf := call_xTypeOf
  have kxValueOf := call_xValueOf
  have kxType := call_xType
  have kxIsNil := call_xIsNil
  have kxKind := call_xKind
  have kxElem := call_xElem
  have kxImplements := call_xImplements
  have kxAssignableTo := call_xAssignableTo
  have qisTypeOf := isTypeOf
  have qvalueOfP := valueOfP
  have qtypeP := typeP
  have qmethodKind := methodKind
  have qmethodElem := methodElem
  have qmethodImplements := methodImplements
  have qmethodAssignableTo := methodAssignableTo
  have qkindP := kindP
  have qkindF := kindF
  have qelemP := elemP
  have qimplementsF := implementsF
  have qassignE := assignE
  have qnoAsE := noAsE
  have qnoUnE := noUnE
  have qnoUnsE := noUnsE
  have rnoAsW0 := noAsW0
  have rhasUnW0 := hasUnW0
  have rmethodUnW0 := methodUnW0
  have rtypeOfW0 := typeOfW0
  have rassignW0 := assignW0
  have n8 := isNilP ⟨w.heap.size, 0, none⟩ t ((w.alloc (.cells #[.pointer (some t)] 75)).alloc (.cells #[.pointer (some ⟨1, 75, none⟩), .pointer (some ⟨w.heap.size, 0, none⟩), .int .u64 150] 110)) (by simp)
  have hlt : 0 < w.heap.size := by
    rcases Nat.eq_zero_or_pos w.heap.size with h0 | h
    · simp [World.cell?, h0] at hg
    · exact h
  have hg2 : ((w.alloc (.cells #[.pointer (some t)] 75)).alloc (.cells #[.pointer (some ⟨1, 75, none⟩), .pointer (some ⟨w.heap.size, 0, none⟩), .int .u64 150] 110)).cell? ⟨0, 0, none⟩ = some (.iface 130 (.agg #[.pointer (some ⟨1, 37, none⟩)])) := by
    rw [World.cell?_alloc_lt _ _ ⟨0, 0, none⟩ (by simp), World.cell?_alloc_lt _ _ ⟨0, 0, none⟩ hlt]; exact hg
  go_enter Tryd.func33, Tryd.ntmps33
  go_wp2
  refine wp_loop_rounds 2 ?_
  rw [rounds_succ]
  go_wp2_with (first | (go_at_call 101; refine (unwrapW0 s0 c _).mono ?_; rintro e w1 ⟨rfl, hb1⟩; have HB1 := Lib.hid hb1; clear hb1))
  rw [rounds_succ]
  go_wp2
  go_ret
  exact ⟨rfl, below_step (by repeat (first | exact Below.refl _ _ | apply below_alloc)) HB1.out⟩
/-- An error of number c that tells no place. -/
def ErrOf (e : Value) (c : Int) : Prop := e = .iface 70 (.int .i64 c) ∨ ∃ (s0 : ByteArray), e = .iface 78 (.agg #[.string s0, .int .i64 c])
theorem ErrOf.is {e : Value} {c : Int} (h : ErrOf e c) (d : Int) (w : World) : Calls Tryd.prog 56 #[e, .iface 70 (.int .i64 d)] w fun e w' => e = .returned (.bool (c == d)) ∧ Below w.heap.size w w' := by
  rcases h with rfl | ⟨s0, rfl⟩
  · exact (is_errno c d w).mono fun _ _ ⟨h1, h2⟩ => ⟨h1, h2 ▸ Below.refl _ _⟩
  · exact is_W0 s0 c d w
theorem ErrOf.as_ {e : Value} {c : Int} (h : ErrOf e c) (t : Addr) (w : World) (hg : w.cell? ⟨0, 0, none⟩ = some (.iface 130 (.agg #[.pointer (some ⟨1, 37, none⟩)]))) : Calls Tryd.prog 33 #[e, .iface 75 (.pointer (some t))] w fun e w' => e = .returned (.bool false) ∧ Below w.heap.size w w' := by
  rcases h with rfl | ⟨s0, rfl⟩
  · exact as_errno c t w hg
  · exact as_W0 s0 c t w hg
theorem ErrOf.iface {e : Value} {c : Int} (h : ErrOf e c) : ∃ t v, e = .iface t v := by
  rcases h with rfl | ⟨s0, rfl⟩
  all_goals exact ⟨_, _, rfl⟩
set_option maxHeartbeats 1000000 in
theorem Num_nil (w : World) : Calls Tryd.prog 32 #[.nilIface] w fun e w' => e = .returned (.int .i64 0) ∧ w = w' := by
  go_enter Tryd.func32, Tryd.ntmps32
  go_wp2
  go_ret
  exact ⟨rfl, rfl⟩
set_option maxHeartbeats 4000000 in
theorem Num_of {E : Value} {c : Int} (h : ErrOf E c) (hc0 : 1 ≤ c) (hc1 : c ≤ 24) (w : World) : Calls Tryd.prog 32 #[E] w fun e w' => e = .returned (.int .i64 c) ∧ Below w.heap.size w w' := by
  have H := Lib.hid (ErrOf.is h)
  obtain ⟨t, v, rfl⟩ := h.iface
  clear h
  go_enter Tryd.func32, Tryd.ntmps32
  go_wp2_with fail
  go_loopw [3, 4] (fun v3 v4 wr => ∃ n : Int, v3 = .int .i64 (if c < n then c else 0) ∧ v4 = .int .i64 n ∧ 1 ≤ n ∧ n ≤ 25 ∧ Aside0 (Below w.heap.size w wr)) (fun _ v4 _ => 25 - (intOf v4).toNat)
  case atStart => exact ⟨1, by rw [if_neg (by omega)], rfl, by omega, by omega, ⟨Below.refl _ _⟩⟩
  case round =>
    obtain ⟨n, rfl, rfl, hn0, hn1, HB⟩ := hrel
    by_cases hlt : n ≤ 24
    · have b1 : decide (n ≤ 24) = true := by simp; omega
      by_cases hcn : c = n
      · have b2 : (c == n) = true := by simp [hcn]
        obtain ⟨f, hf⟩ : ∃ f, f = (if c < n then c else 0) := ⟨_, rfl⟩
        have hf0 : f = 0 := by rw [hf, if_neg (by omega)]
        have hf2 : (if c < n + 1 then c else 0) = n := by rw [if_pos (by omega)]; exact hcn
        rw [← hf, hf0]
        have HF := Lib.hid hf2
        clear hf hf0 hf2 hcn f
        go_wp2_with fail
        refine (H.out n _).mono ?_
        rintro e w1 ⟨rfl, hb1⟩
        have HB1 := Aside0.mk (below_step HB.out hb1)
        clear hb1
        go_wp2
        exact ⟨⟨n + 1, by rw [HF.out], rfl, by omega, by omega, HB1⟩, by simp [intOf]; omega⟩
      · have b2 : (c == n) = false := by simp [hcn]
        have hf2 : (if c < n + 1 then c else 0) = (if c < n then c else 0) := by
          by_cases h : c < n
          · rw [if_pos h, if_pos (by omega)]
          · rw [if_neg h, if_neg (by omega)]
        have HF := Lib.hid hf2
        clear hf2 hcn
        generalize (if c < n then c else 0) = f at *
        go_wp2_with fail
        refine (H.out n _).mono ?_
        rintro e w1 ⟨rfl, hb1⟩
        have HB1 := Aside0.mk (below_step HB.out hb1)
        clear hb1
        go_wp2
        exact ⟨⟨n + 1, by rw [HF.out], rfl, by omega, by omega, HB1⟩, by simp [intOf]; omega⟩
    · have b1 : decide (n ≤ 24) = false := by simp; omega
      rw [if_pos (show c < n by omega)]
      have b2 : (c == 0) = false := by simp; omega
      go_wp2_with fail
      refine (H.out 0 _).mono ?_
      rintro e w1 ⟨rfl, hb1⟩
      have HB1 := Aside0.mk (below_step HB.out hb1)
      clear hb1
      go_wp2
      go_ret
      exact ⟨rfl, HB1.out⟩
set_option maxHeartbeats 1000000 in
theorem Plain_nil (n : Int) (w : World) : Calls Tryd.prog 14 #[.nilIface, .int .i64 n] w fun e w' => e = .returned (.bool (0 == n)) ∧ Below w.heap.size w w' := by
  by_cases hn : (0 : Int) = n
  · have b : ((0 : Int) == n) = true := by simp [hn]
    clear hn
    go_enter Tryd.func14, Tryd.ntmps14
    go_wp2_with (first | (go_at_call 32; refine (Num_nil _).mono ?_; rintro e w1 ⟨rfl, rfl⟩))
    go_ret
    exact ⟨by rw [b]; rfl, by repeat (first | exact Below.refl _ _ | apply below_alloc)⟩
  · have b : ((0 : Int) == n) = false := by simp [hn]
    clear hn
    go_enter Tryd.func14, Tryd.ntmps14
    go_wp2_with (first | (go_at_call 32; refine (Num_nil _).mono ?_; rintro e w1 ⟨rfl, rfl⟩))
    go_ret
    exact ⟨by rw [b]; rfl, by repeat (first | exact Below.refl _ _ | apply below_alloc)⟩
set_option maxHeartbeats 2000000 in
theorem Plain_of {E : Value} {c : Int} (h : ErrOf E c) (hc0 : 1 ≤ c) (hc1 : c ≤ 24) (n : Int) (w : World) (hg : w.cell? ⟨0, 0, none⟩ = some (.iface 130 (.agg #[.pointer (some ⟨1, 37, none⟩)]))) :
    Calls Tryd.prog 14 #[E, .int .i64 n] w fun e w' => e = .returned (.bool (c == n)) ∧ Below w.heap.size w w' := by
  have H := Lib.hid (Num_of h hc0 hc1)
  have H2 := Lib.hid (ErrOf.as_ h)
  have HG := Lib.hid hg
  obtain ⟨t, v, rfl⟩ := h.iface
  clear h hg
  go_enter Tryd.func14, Tryd.ntmps14
  go_wp2_with fail
  refine (H.out _).mono ?_
  rintro e w1 ⟨rfl, hb1⟩
  have hb2 := below_step (below_alloc (Below.refl _ _) _) hb1
  have hg1 := (hb2.cell (World.block_lt_of_cell? w _ HG.out)).trans HG.out
  have HB := Aside0.mk hb2
  have HG1 := Lib.hid hg1
  clear hb1 hb2 hg1
  by_cases hn : c = n
  · have b : (c == n) = true := by simp [hn]
    clear hn
    go_wp2_with fail
    refine (H2.out _ _ HG1.out).mono ?_
    rintro e w2 ⟨rfl, hb1⟩
    have HB1 := Aside0.mk (below_step HB.out hb1)
    clear hb1
    go_wp2
    go_ret
    exact ⟨by rw [b]; rfl, HB1.out⟩
  · have b : (c == n) = false := by simp [hn]
    clear hn
    go_wp2
    go_ret
    exact ⟨by rw [b]; rfl, HB.out⟩
end Go.Proofs.YtnnhcnmggfhkeaaDoor.Err

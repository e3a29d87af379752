/- errors.Is, errors.As and custodykit's Num and Plain at this seat's errors: api.Errno and the structs that wrap one. After the guide's worked texts Sentry and Toyas. -/
import Derived.Test.YtnnhcnmggfhkeaaDoorProg
import Derived.WalkKit
import Derived.LaidEql
import Derived.Stop.Asserts
import Derived.RowKitTokens
import Derived.Lib.Hide
import Derived.Below
import Derived.Outline
import Derived.Test.YtnnhcnmggfhkeaaDoorKit
namespace Go.Proofs.YtnnhcnmggfhkeaaDoor.Err
open Go.RowKit Go.Extern.Stop Go.Stop Go.Extern Go.Proofs.YtnnhcnmggfhkeaaDoorW.PrintWords
set_option linter.unusedVariables false
set_option linter.unusedSimpArgs false

section
variable {P : Program} (w : World)
theorem run_equalIn_iface_int (d : Nat) {ti tn : TypeId} {ms : Array (String × TypeId)} {i : TypeInfo} {k : IntKind} (a b : Int)
    (hi : P.underlying ti = some (.interface ms)) (hn : P.underlying tn = some (.int k)) (hinfo : P.info? tn = some i) (hcomp : i.comparable = true) :
    (Op.equalIn (d + 2) ti (.iface tn (.int k a)) (.iface tn (.int k b))).run P w = .ok (a == b) w := by
  simp [Op.equalIn, run_underlying hi, run_underlying hn, typeInfo, hinfo, hcomp]
theorem run_eql_iface_int {ti tn : TypeId} {ms : Array (String × TypeId)} {i : TypeInfo} {k : IntKind} (a b : Int)
    (hi : P.underlying ti = some (.interface ms)) (hn : P.underlying tn = some (.int k)) (hinfo : P.info? tn = some i) (hcomp : i.comparable = true) :
    (binOp .eql ti (.iface tn (.int k a)) (.iface tn (.int k b))).run P w = .ok (.bool (a == b)) w := by
  simp only [binOp]
  simp [Op.equal, Op.maxDepth, run_equalIn_iface_int w 9998 a b hi hn hinfo hcomp]
end

def xTypeOf : Array Value → Sem Value := ReflectliteType.typeOf
theorem call_xTypeOf (args : Array Value) (w : World) : (callFunc 73 args).run Tryd.prog w = ((xTypeOf args).run Tryd.prog w).andThen fun v w' => .ok (.value v) w' := @run_callFunc_extern Tryd.prog 73 _ xTypeOf Tryd.func73 (by kernel_rfl) (by kernel_rfl) (by kernel_rfl) (by kernel_rfl) args w
def xComparable : Array Value → Sem Value := ReflectliteType.method fun t => do Rtype.noPackHeld "Comparable" t; pure (.bool (← typeInfo t).comparable)
theorem call_xComparable (args : Array Value) (w : World) : (callFunc 107 args).run Tryd.prog w = ((xComparable args).run Tryd.prog w).andThen fun v w' => .ok (.value v) w' := @run_callFunc_extern Tryd.prog 107 _ xComparable Tryd.func107 (by kernel_rfl) (by kernel_rfl) (by kernel_rfl) (by kernel_rfl) args w
def xValueOf : Array Value → Sem Value := fun args => ReflectliteValue.unpack (args.getD 0 (.tuple #[]))
theorem call_xValueOf (args : Array Value) (w : World) : (callFunc 57 args).run Tryd.prog w = ((xValueOf args).run Tryd.prog w).andThen fun v w' => .ok (.value v) w' := @run_callFunc_extern Tryd.prog 57 _ xValueOf Tryd.func57 (by kernel_rfl) (by kernel_rfl) (by kernel_rfl) (by kernel_rfl) args w
def xType : Array Value → Sem Value := ReflectliteValue.methodAny (ReflectliteValue.valueError "reflectlite.Value.Type" 0) fun t _ _ _ => ReflectliteType.toType t
theorem call_xType (args : Array Value) (w : World) : (callFunc 58 args).run Tryd.prog w = ((xType args).run Tryd.prog w).andThen fun v w' => .ok (.value v) w' := @run_callFunc_extern Tryd.prog 58 _ xType Tryd.func58 (by kernel_rfl) (by kernel_rfl) (by kernel_rfl) (by kernel_rfl) args w
def xIsNil : Array Value → Sem Value := ReflectliteValue.method (ReflectliteValue.valueError "reflectlite.Value.IsNil" 0) ReflectliteValue.isNil
theorem call_xIsNil (args : Array Value) (w : World) : (callFunc 59 args).run Tryd.prog w = ((xIsNil args).run Tryd.prog w).andThen fun v w' => .ok (.value v) w' := @run_callFunc_extern Tryd.prog 59 _ xIsNil Tryd.func59 (by kernel_rfl) (by kernel_rfl) (by kernel_rfl) (by kernel_rfl) args w
def xElemV : Array Value → Sem Value := ReflectliteValue.method (ReflectliteValue.valueError "reflectlite.Value.Elem" 0) ReflectliteValue.elem
def xSet : Array Value → Sem Value := ReflectliteValue.set
def xKind : Array Value → Sem Value := ReflectliteType.abiMethod fun t => do pure (.int .u8 (← Rtype.kind t))
theorem call_xKind (args : Array Value) (w : World) : (callFunc 94 args).run Tryd.prog w = ((xKind args).run Tryd.prog w).andThen fun v w' => .ok (.value v) w' := @run_callFunc_extern Tryd.prog 94 _ xKind Tryd.func94 (by kernel_rfl) (by kernel_rfl) (by kernel_rfl) (by kernel_rfl) args w
def xElem : Array Value → Sem Value := ReflectliteType.method ReflectliteType.elem
theorem call_xElem (args : Array Value) (w : World) : (callFunc 108 args).run Tryd.prog w = ((xElem args).run Tryd.prog w).andThen fun v w' => .ok (.value v) w' := @run_callFunc_extern Tryd.prog 108 _ xElem Tryd.func108 (by kernel_rfl) (by kernel_rfl) (by kernel_rfl) (by kernel_rfl) args w
def xImplements : Array Value → Sem Value := ReflectliteType.relation "Implements" ReflectliteType.implements_
theorem call_xImplements (args : Array Value) (w : World) : (callFunc 109 args).run Tryd.prog w = ((xImplements args).run Tryd.prog w).andThen fun v w' => .ok (.value v) w' := @run_callFunc_extern Tryd.prog 109 _ xImplements Tryd.func109 (by kernel_rfl) (by kernel_rfl) (by kernel_rfl) (by kernel_rfl) args w
def xAssignableTo : Array Value → Sem Value := ReflectliteType.relation "AssignableTo" ReflectliteType.assignableTo
theorem call_xAssignableTo (args : Array Value) (w : World) : (callFunc 106 args).run Tryd.prog w = ((xAssignableTo args).run Tryd.prog w).andThen fun v w' => .ok (.value v) w' := @run_callFunc_extern Tryd.prog 106 _ xAssignableTo Tryd.func106 (by kernel_rfl) (by kernel_rfl) (by kernel_rfl) (by kernel_rfl) args w
theorem isTypeOf (v : Value) (w : World) : (xTypeOf #[.iface 70 v]).run Tryd.prog w = .ok (.iface 130 (.agg #[.pointer (some ⟨1, 70, none⟩)])) w := by kernel_rfl
theorem isComparable  (w : World) : (xComparable #[.agg #[.pointer (some ⟨1, 70, none⟩)]]).run Tryd.prog w = .ok (.bool true) w := by kernel_rfl
theorem isMethodComparable (v : Value) (w : World) : (Go.method 274 130 v "Comparable").run Tryd.prog w = .ok (107, v) w := by kernel_rfl
theorem errnoComp : (Tryd.prog.info? 70).map (·.comparable) = some true := by kernel_rfl
theorem noIsE (v : Value) (xT : TypeId) (w : World) : (Instr.typeAssert (.iface 70 v) xT 143 true).run Tryd.prog w = .ok (.tuple #[.nilIface, .bool false]) w := run_typeAssert_lacksB Tryd.underlying143 (by kernel_rfl) (by kernel_rfl) v xT w
theorem noUnE (v : Value) (xT : TypeId) (w : World) : (Instr.typeAssert (.iface 70 v) xT 137 true).run Tryd.prog w = .ok (.tuple #[.nilIface, .bool false]) w := run_typeAssert_lacksB Tryd.underlying137 (by kernel_rfl) (by kernel_rfl) v xT w
theorem noUnsE (v : Value) (xT : TypeId) (w : World) : (Instr.typeAssert (.iface 70 v) xT 138 true).run Tryd.prog w = .ok (.tuple #[.nilIface, .bool false]) w := run_typeAssert_lacksB Tryd.underlying138 (by kernel_rfl) (by kernel_rfl) v xT w
theorem noIsW0 (v : Value) (xT : TypeId) (w : World) : (Instr.typeAssert (.iface 78 v) xT 143 true).run Tryd.prog w = .ok (.tuple #[.nilIface, .bool false]) w := run_typeAssert_lacksB Tryd.underlying143 (by kernel_rfl) (by kernel_rfl) v xT w
theorem hasUnW0 (v : Value) (xT : TypeId) (w : World) : (Instr.typeAssert (.iface 78 v) xT 137 true).run Tryd.prog w = .ok (.tuple #[.iface 78 v, .bool true]) w := run_typeAssert_hasB Tryd.underlying137 (by kernel_rfl) v xT w
theorem methodUnW0 (v : Value) (w : World) : (Go.method 274 78 v "Unwrap").run Tryd.prog w = .ok (101, v) w := by kernel_rfl
set_option maxHeartbeats 1000000 in
theorem unwrapW0 (s0 : ByteArray) (c : Int) (w : World) : Calls Tryd.prog 101 #[.agg #[.string s0, .int .i64 c]] w fun e w' => e = .returned (.iface 70 (.int .i64 c)) ∧ Below w.heap.size w w' := by
  have hu := Tryd.underlying78
  go_enter Tryd.func101, Tryd.ntmps101
  go_wp2
  go_ret
  exact ⟨rfl, by first | exact Below.refl _ _ | exact below_alloc (Below.refl _ _) _⟩
set_option maxHeartbeats 4000000 in
set_option maxRecDepth 100000 in
theorem is_errno (c d : Int) (w : World) : Calls Tryd.prog 56 #[.iface 70 (.int .i64 c), .iface 70 (.int .i64 d)] w fun e w' => e = .returned (.bool (c == d)) ∧ w' = w := by
  obtain ⟨i, hi, hcmp⟩ := Option.map_eq_some_iff.1 errnoComp
  have h1 := call_xTypeOf
  have h2 := call_xComparable
  have tT := isTypeOf
  have cT := isComparable
  have mR := isMethodComparable
  have nE := noIsE
  have uE := noUnE
  have vE := noUnsE
  have heq := run_eql_iface_int (P := Tryd.prog) w c d Tryd.underlying37 Tryd.underlying70 hi hcmp
  clear hi
  by_cases hcd : c = d
  · have hb : (c == d) = true := by simp [hcd]
    clear hcd
    go_enter Tryd.func56, Tryd.ntmps56
    go_wp2
    refine wp_loop_rounds 1 ?_
    rw [rounds_succ]
    go_wp2
    go_ret
    exact ⟨by rw [hb]; rfl, rfl⟩
  · have hb : (c == d) = false := by simp [hcd]
    clear hcd
    go_enter Tryd.func56, Tryd.ntmps56
    go_wp2
    refine wp_loop_rounds 1 ?_
    rw [rounds_succ]
    go_wp2
    go_ret
    exact ⟨by rw [hb]; rfl, rfl⟩
set_option maxHeartbeats 4000000 in
set_option maxRecDepth 100000 in
theorem is_W0 (s0 : ByteArray) (c : Int) (d : Int) (w : World) : Calls Tryd.prog 56 #[.iface 78 (.agg #[.string s0, .int .i64 c]), .iface 70 (.int .i64 d)] w fun e w' => e = .returned (.bool (c == d)) ∧ Below w.heap.size w w' := by
  obtain ⟨i, hi, hcmp⟩ := Option.map_eq_some_iff.1 errnoComp
  have h1 := call_xTypeOf
  have h2 := call_xComparable
  have tT := isTypeOf
  have cT := isComparable
  have mR := isMethodComparable
  have nE := noIsE
  have uE := noUnE
  have vE := noUnsE
  have nW := noIsW0
  have uW := hasUnW0
  have mU := methodUnW0
  have heq := fun w => run_eql_iface_int (P := Tryd.prog) w c d Tryd.underlying37 Tryd.underlying70 hi hcmp
  have hty := run_eql_iface_types (P := Tryd.prog) 78 70 (.agg #[.string s0, .int .i64 c]) (.int .i64 d) Tryd.underlying37 (by decide)
  clear hi
  by_cases hcd : c = d
  · have hb : (c == d) = true := by simp [hcd]
    clear hcd
    go_enter Tryd.func56, Tryd.ntmps56
    go_wp2
    refine wp_loop_rounds 2 ?_
    rw [rounds_succ]
    go_wp2_with (first | (go_at_call 101; refine (unwrapW0 s0 c _).mono ?_; rintro e w1 ⟨rfl, hb1⟩; have HB1 := Lib.hid hb1; clear hb1))
    rw [rounds_succ]
    go_wp2
    go_ret
    exact ⟨by rw [hb]; rfl, HB1.out⟩
  · have hb : (c == d) = false := by simp [hcd]
    clear hcd
    go_enter Tryd.func56, Tryd.ntmps56
    go_wp2
    refine wp_loop_rounds 2 ?_
    rw [rounds_succ]
    go_wp2_with (first | (go_at_call 101; refine (unwrapW0 s0 c _).mono ?_; rintro e w1 ⟨rfl, hb1⟩; have HB1 := Lib.hid hb1; clear hb1))
    rw [rounds_succ]
    go_wp2
    go_ret
    exact ⟨by rw [hb]; rfl, HB1.out⟩
end Go.Proofs.YtnnhcnmggfhkeaaDoor.Err

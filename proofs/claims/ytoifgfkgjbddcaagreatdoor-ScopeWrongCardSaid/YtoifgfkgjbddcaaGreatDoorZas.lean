/- A part of the abstract machine and of the proof that the program does what it reckons; no conditions. -/
import Derived.Test.YtoifgfkgjbddcaaGreatDoorZr
import Derived.Test.YtoifgfkgjbddcaaGreatDoorProg
import Derived.WalkKit
import Derived.LaidEql
import Derived.Stop.Asserts
import Derived.RowKitTokens
set_option linter.all false
namespace Go.Proofs.YtoifgfkgjbddcaaGreatDoor.errorsAs
open Go.RowKit Go.Extern.Stop Go.Stop Go.Extern
set_option linter.all false
set_option maxRecDepth 100000
theorem valueOf77 (t : Addr) (w : World) : (ReflectliteValue.unpack (.iface 77 (.pointer (some t)))).run Tryz.prog w
    = .ok (.agg #[Value.pointer (some ⟨4, 77, none⟩), .pointer (some ⟨w.heap.size, 0, none⟩), .int .u64 150]) (w.alloc (.cells #[.pointer (some t)] 77)) := by kernel_rfl
theorem type77 (a : Addr) (w : World) : (ReflectliteValue.methodAny (ReflectliteValue.valueError "reflectlite.Value.Type" 0) (fun t _ _ _ => ReflectliteType.toType t) #[.agg #[Value.pointer (some ⟨4, 77, none⟩), .pointer (some a), .int .u64 150]]).run Tryz.prog w
    = .ok ((Value.iface 186 (.agg #[.pointer (some ⟨4, 77, none⟩)]))) w := by kernel_rfl
theorem methodKind (h : Value) (w : World) : (Go.method 429 186 (.agg #[h]) "Kind").run Tryz.prog w = .ok (219, h) w := by kernel_rfl
theorem kind77 (w : World) : ((ReflectliteType.abiMethod fun t => Functor.map (fun a : Nat => Value.int IntKind.u8 (a : Int)) (Rtype.kind t)) #[Value.pointer (some ⟨4, 77, none⟩)]).run Tryz.prog w = .ok (.int .u8 22) w := by kernel_rfl
theorem kind75 (w : World) : ((ReflectliteType.abiMethod fun t => Functor.map (fun a : Nat => Value.int IntKind.u8 (a : Int)) (Rtype.kind t)) #[Value.pointer (some ⟨4, 75, none⟩)]).run Tryz.prog w = .ok (.int .u8 25) w := by kernel_rfl
theorem rlm (z : Sem Value) (f : TypeId → Addr → Nat → Nat → Sem Value) (v : Value) :
    ReflectliteValue.method z f #[v] = (do match ← ReflectliteValue.parts v with | none => z | some (t, a, fl) => f t a fl (fl % 32)) := rfl
theorem parts77 (a : Addr) (w : World) : (ReflectliteValue.parts (.agg #[Value.pointer (some ⟨4, 77, none⟩), .pointer (some a), .int .u64 150])).run Tryz.prog w = .ok (some (77, a, 150)) w := by kernel_rfl
theorem isNil77 (a p : Addr) (W : World) (ha : W.cell? a = some (.pointer (some p))) :
    (ReflectliteValue.method (ReflectliteValue.valueError "reflectlite.Value.IsNil" 0) ReflectliteValue.isNil #[.agg #[Value.pointer (some ⟨4, 77, none⟩), .pointer (some a), .int .u64 150]]).run Tryz.prog W = .ok (.bool false) W := by
  rw [rlm]
  simp only [Sem.run_bind, parts77, Result.andThen]
  simp [ReflectliteValue.isNil, loadVar, isAgg, underlying, Tryz.underlying77, ha, Result.andThen]
theorem methodElem (h : Value) (w : World) : (Go.method 429 186 (.agg #[h]) "Elem").run Tryz.prog w = .ok (229, .agg #[h]) w := by kernel_rfl
theorem methodImplements (h : Value) (w : World) : (Go.method 429 186 (.agg #[h]) "Implements").run Tryz.prog w = .ok (230, .agg #[h]) w := by kernel_rfl
theorem methodAssignableTo (h : Value) (w : World) : (Go.method 429 186 (.agg #[h]) "AssignableTo").run Tryz.prog w = .ok (227, .agg #[h]) w := by kernel_rfl
theorem elem77 (w : World) : (ReflectliteType.method ReflectliteType.elem #[.agg #[Value.pointer (some ⟨4, 77, none⟩)]]).run Tryz.prog w = .ok ((Value.iface 186 (.agg #[.pointer (some ⟨4, 75, none⟩)]))) w := by kernel_rfl
theorem implements75 (w : World) : (ReflectliteType.relation "Implements" ReflectliteType.implements_ #[.agg #[Value.pointer (some ⟨4, 75, none⟩)], (Value.iface 186 (.agg #[.pointer (some ⟨4, 71, none⟩)]))]).run Tryz.prog w = .ok (.bool true) w := by kernel_rfl
theorem typeOf75 (v : Value) (w : World) : (ReflectliteType.typeOf #[.iface 75 v]).run Tryz.prog w = .ok ((Value.iface 186 (.agg #[.pointer (some ⟨4, 75, none⟩)]))) w := by kernel_rfl
theorem assignable75 (w : World) : (ReflectliteType.relation "AssignableTo" ReflectliteType.assignableTo #[.agg #[Value.pointer (some ⟨4, 75, none⟩)], (Value.iface 186 (.agg #[.pointer (some ⟨4, 75, none⟩)]))]).run Tryz.prog w = .ok (.bool true) w := by kernel_rfl
theorem valueOf75 (a e : Int) (w : World) : (ReflectliteValue.unpack (.iface 75 (.agg #[.int .i64 a, .int .i64 e]))).run Tryz.prog w
    = .ok (.agg #[Value.pointer (some ⟨4, 75, none⟩), .pointer (some ⟨w.heap.size, 0, none⟩), .int .u64 153]) (w.alloc (.cells #[.int .i64 a, .int .i64 e] 75)) := by kernel_rfl
theorem elemOf77 (w : World) : (Rtype.elem? 77).run Tryz.prog w = .ok (some 75) w := by kernel_rfl
theorem mk75 (p : Addr) (w : World) : (ReflectliteValue.mk 75 p ReflectliteValue.flagAddr).run Tryz.prog w = .ok (.agg #[Value.pointer (some ⟨4, 75, none⟩), .pointer (some p), .int .u64 409]) w := by kernel_rfl
theorem elemV77 (a p : Addr) (W : World) (ha : W.cell? a = some (.pointer (some p))) :
    (ReflectliteValue.method (ReflectliteValue.valueError "reflectlite.Value.Elem" 0) ReflectliteValue.elem #[.agg #[Value.pointer (some ⟨4, 77, none⟩), .pointer (some a), .int .u64 150]]).run Tryz.prog W
      = .ok (.agg #[Value.pointer (some ⟨4, 75, none⟩), .pointer (some p), .int .u64 409]) W := by
  rw [rlm]
  simp only [Sem.run_bind, parts77, Result.andThen]
  simp [ReflectliteValue.elem, loadVar, isAgg, underlying, Tryz.underlying77, ha, Result.andThen, elemOf77, mk75]
theorem rls (v x : Value) : ReflectliteValue.set #[v, x] = (do
    let (some (dst, a, fl), some (src, b, _)) := (← ReflectliteValue.parts v, ← ReflectliteValue.parts x)
      | unsupported (.noEntry "extern/(internal/reflectlite.Value).Set.zeroValue")
    if fl / ReflectliteValue.flagAddr % 2 == 0 then unsupported (.noEntry "extern/(internal/reflectlite.Value).Set.unaddressable")
    let val ← loadVar src b
    if ← Rtype.directlyAssignable dst src then storeVar dst a val
    else if ← Rtype.implements dst src then
      if (← Rtype.kind src) == 20 then
        match val with
        | .nilIface => unsupported (.noEntry "extern/reflectlite: a nil value of one interface type handed on as a value of another")
        | _ => storeVar dst a val
      else storeVar dst a (.iface src val)
    else panicString ("reflectlite.Set: value of type " ++ (← Rtype.spelt src) ++ " is not assignable to type " ++ (← Rtype.spelt dst))
    pure (.tuple #[])) := rfl
theorem parts75a (a : Addr) (w : World) : (ReflectliteValue.parts (.agg #[Value.pointer (some ⟨4, 75, none⟩), .pointer (some a), .int .u64 409])).run Tryz.prog w = .ok (some (75, a, 409)) w := by kernel_rfl
theorem parts75 (a : Addr) (w : World) : (ReflectliteValue.parts (.agg #[Value.pointer (some ⟨4, 75, none⟩), .pointer (some a), .int .u64 153])).run Tryz.prog w = .ok (some (75, a, 153)) w := by kernel_rfl
theorem direct75 (w : World) : (Rtype.directlyAssignable 75 75).run Tryz.prog w = .ok true w := by kernel_rfl
theorem size75 (w : World) : (sizeOf 75).run Tryz.prog w = .ok 2 w := by kernel_rfl
theorem isAgg75 (w : World) : (isAgg 75).run Tryz.prog w = .ok true w := by kernel_rfl
theorem set75 (ta b : Addr) (x y : Value) (W W' : World) (hb : W.cell? b = some x) (hb1 : W.cell? (b.add 1) = some y) (hs : (storeVar 75 ta (.agg #[x, y])).run Tryz.prog W = .ok () W') :
    (ReflectliteValue.set #[.agg #[Value.pointer (some ⟨4, 75, none⟩), .pointer (some ta), .int .u64 409], .agg #[Value.pointer (some ⟨4, 75, none⟩), .pointer (some b), .int .u64 153]]).run Tryz.prog W = .ok (.tuple #[]) W' := by
  rw [rls]
  have hl : (loadVar 75 b).run Tryz.prog W = .ok (.agg #[x, y]) W := by
    refine Dt.loadVar_many (us := [x, y]) (by kernel_rfl) (by kernel_rfl) fun j u hu => ?_
    match j, hu with
    | 0, hu => simp at hu; subst hu; rw [show b.add 0 = b from by cases b; rfl]; exact hb
    | 1, hu => simp at hu; subst hu; exact hb1
    | j + 2, hu => simp at hu
  simp only [Sem.run_bind, parts75a, parts75, Result.andThen, hl, direct75]
  simp [ReflectliteValue.flagAddr, hl, hs, Result.andThen, direct75]

set_option maxHeartbeats 4000000 in
/-- errors.as: the error's own type is the target's. -/
theorem as41 (a e : Int) (t p : Addr) (w w' : World) (g : Value) (hp : w.cell? p = some (.pointer (some t))) (hs : (storeVar 75 t (.agg #[.int .i64 a, .int .i64 e])).run Tryz.prog ((w.alloc (.cells #[Value.pointer (some ⟨4, 77, none⟩), .pointer (some p), .int .u64 150] 111)).alloc (.cells #[.int .i64 a, .int .i64 e] 75)) = .ok () w') :
    Calls Tryz.prog 41 #[.iface 75 (.agg #[.int .i64 a, .int .i64 e]), g, .agg #[Value.pointer (some ⟨4, 77, none⟩), .pointer (some p), .int .u64 150], (Value.iface 186 (.agg #[.pointer (some ⟨4, 75, none⟩)]))] w fun ev w2 => ev = .returned (.bool true) ∧ w2 = w' := by
  have h38 := @run_callFunc_extern Tryz.prog 38 _ (fun args => ReflectliteValue.unpack (args.getD 0 (.tuple #[]))) Tryz.func38 (by kernel_rfl) (by kernel_rfl) (by kernel_rfl) (by kernel_rfl)
  have h89 := @run_callFunc_extern Tryz.prog 89 _ ReflectliteType.typeOf Tryz.func89 (by kernel_rfl) (by kernel_rfl) (by kernel_rfl) (by kernel_rfl)
  have h227 := @run_callFunc_extern Tryz.prog 227 _ (ReflectliteType.relation "AssignableTo" ReflectliteType.assignableTo) Tryz.func227 (by kernel_rfl) (by kernel_rfl) (by kernel_rfl) (by kernel_rfl)
  have h90 := @run_callFunc_extern Tryz.prog 90 _ (ReflectliteValue.method (ReflectliteValue.valueError "reflectlite.Value.Elem" 0) ReflectliteValue.elem) Tryz.func90 (by kernel_rfl) (by kernel_rfl) (by kernel_rfl) (by kernel_rfl)
  have h91 := @run_callFunc_extern Tryz.prog 91 _ ReflectliteValue.set Tryz.func91 (by kernel_rfl) (by kernel_rfl) (by kernel_rfl) (by kernel_rfl)
  have tO := typeOf75
  have mA := methodAssignableTo
  have a75 := assignable75
  have v75 := valueOf75
  have hlt : p.block < w.heap.size := by
    rcases Nat.lt_or_ge p.block w.heap.size with h | h
    · exact h
    · simp [World.cell?, Array.getElem?_eq_none h] at hp
  have el := elemV77 p t (w.alloc (.cells #[Value.pointer (some ⟨4, 77, none⟩), .pointer (some p), .int .u64 150] 111)) (by rw [World.cell?_alloc_lt _ _ p hlt]; exact hp)
  have st := set75 t ⟨w.heap.size + 1, 0, none⟩ (.int .i64 a) (.int .i64 e) _ w'
    (by rw [World.cell?_alloc_at _ _ _ _ (by simp)]; rfl)
    (by rw [show (⟨w.heap.size + 1, 0, none⟩ : Addr).add 1 = ⟨w.heap.size + 1, 1, none⟩ from rfl, World.cell?_alloc_at _ _ _ _ (by simp)]; rfl) hs
  go_enter Tryz.func41, Tryz.ntmps41
  go_wp2
  refine wp_loop_rounds 1 ?_
  rw [rounds_succ]
  go_wp2
  go_ret
  exact ⟨rfl, rfl⟩

set_option maxHeartbeats 4000000 in
/-- errors.As, at such an error and such a target. -/
theorem as21 (a e : Int) (t : Addr) (w w' : World) (hg : w.cell? ⟨0, 0, none⟩ = some (Value.iface 186 (.agg #[Value.pointer (some ⟨4, 71, none⟩)])))
    (hs : (storeVar 75 t (.agg #[.int .i64 a, .int .i64 e])).run Tryz.prog ((((w.alloc (.cells #[.pointer (some t)] 77)).alloc (.cells #[Value.pointer (some ⟨4, 77, none⟩), .pointer (some ⟨w.heap.size, 0, none⟩), .int .u64 150] 111)).alloc (.cells #[Value.pointer (some ⟨4, 77, none⟩), .pointer (some ⟨w.heap.size, 0, none⟩), .int .u64 150] 111)).alloc (.cells #[.int .i64 a, .int .i64 e] 75)) = .ok () w') :
    Calls Tryz.prog 21 #[.iface 75 (.agg #[.int .i64 a, .int .i64 e]), .iface 77 (.pointer (some t))] w fun ev w2 => ev = .returned (.bool true) ∧ w2 = w' := by
  have h38 := @run_callFunc_extern Tryz.prog 38 _ (fun args => ReflectliteValue.unpack (args.getD 0 (.tuple #[]))) Tryz.func38 (by kernel_rfl) (by kernel_rfl) (by kernel_rfl) (by kernel_rfl)
  have h39 := @run_callFunc_extern Tryz.prog 39 _ (ReflectliteValue.methodAny (ReflectliteValue.valueError "reflectlite.Value.Type" 0) (fun t _ _ _ => ReflectliteType.toType t)) Tryz.func39 (by kernel_rfl) (by kernel_rfl) (by kernel_rfl) (by kernel_rfl)
  have h40 := @run_callFunc_extern Tryz.prog 40 _ (ReflectliteValue.method (ReflectliteValue.valueError "reflectlite.Value.IsNil" 0) ReflectliteValue.isNil) Tryz.func40 (by kernel_rfl) (by kernel_rfl) (by kernel_rfl) (by kernel_rfl)
  have h219 := @run_callFunc_extern Tryz.prog 219 _ (ReflectliteType.abiMethod fun t => do pure (.int .u8 (← Rtype.kind t))) Tryz.func219 (by kernel_rfl) (by kernel_rfl) (by kernel_rfl) (by kernel_rfl)
  have h229 := @run_callFunc_extern Tryz.prog 229 _ (ReflectliteType.method ReflectliteType.elem) Tryz.func229 (by kernel_rfl) (by kernel_rfl) (by kernel_rfl) (by kernel_rfl)
  have h230 := @run_callFunc_extern Tryz.prog 230 _ (ReflectliteType.relation "Implements" ReflectliteType.implements_) Tryz.func230 (by kernel_rfl) (by kernel_rfl) (by kernel_rfl) (by kernel_rfl)
  have f38 := valueOf77
  have f39 := type77
  have mK := methodKind
  have mE := methodElem
  have mI := methodImplements
  have k77 := kind77
  have k75 := kind75
  have e77 := elem77
  have i75 := implements75
  have n40 := isNil77 ⟨w.heap.size, 0, none⟩ t ((w.alloc (.cells #[.pointer (some t)] 77)).alloc (.cells #[Value.pointer (some ⟨4, 77, none⟩), .pointer (some ⟨w.heap.size, 0, none⟩), .int .u64 150] 111)) (by simp)
  have hlt : 0 < w.heap.size := by
    rcases Nat.eq_zero_or_pos w.heap.size with h0 | h
    · simp [World.cell?, h0] at hg
    · exact h
  have hg2 : ((w.alloc (.cells #[.pointer (some t)] 77)).alloc (.cells #[Value.pointer (some ⟨4, 77, none⟩), .pointer (some ⟨w.heap.size, 0, none⟩), .int .u64 150] 111)).cell? ⟨0, 0, none⟩ = some (Value.iface 186 (.agg #[Value.pointer (some ⟨4, 71, none⟩)])) := by
    rw [World.cell?_alloc_lt _ _ ⟨0, 0, none⟩ (by simp), World.cell?_alloc_lt _ _ ⟨0, 0, none⟩ hlt]; exact hg
  have hp : ((w.alloc (.cells #[.pointer (some t)] 77)).alloc (.cells #[Value.pointer (some ⟨4, 77, none⟩), .pointer (some ⟨w.heap.size, 0, none⟩), .int .u64 150] 111)).cell? ⟨w.heap.size, 0, none⟩ = some (.pointer (some t)) := by
    rw [World.cell?_alloc_lt _ _ ⟨w.heap.size, 0, none⟩ (by simp)]; simp
  have h89 := @run_callFunc_extern Tryz.prog 89 _ ReflectliteType.typeOf Tryz.func89 (by kernel_rfl) (by kernel_rfl) (by kernel_rfl) (by kernel_rfl)
  have h227 := @run_callFunc_extern Tryz.prog 227 _ (ReflectliteType.relation "AssignableTo" ReflectliteType.assignableTo) Tryz.func227 (by kernel_rfl) (by kernel_rfl) (by kernel_rfl) (by kernel_rfl)
  have h90 := @run_callFunc_extern Tryz.prog 90 _ (ReflectliteValue.method (ReflectliteValue.valueError "reflectlite.Value.Elem" 0) ReflectliteValue.elem) Tryz.func90 (by kernel_rfl) (by kernel_rfl) (by kernel_rfl) (by kernel_rfl)
  have h91 := @run_callFunc_extern Tryz.prog 91 _ ReflectliteValue.set Tryz.func91 (by kernel_rfl) (by kernel_rfl) (by kernel_rfl) (by kernel_rfl)
  have tO := typeOf75
  have mA := methodAssignableTo
  have a75 := assignable75
  have v75 := valueOf75
  have el := elemV77 ⟨w.heap.size, 0, none⟩ t (((w.alloc (.cells #[.pointer (some t)] 77)).alloc (.cells #[Value.pointer (some ⟨4, 77, none⟩), .pointer (some ⟨w.heap.size, 0, none⟩), .int .u64 150] 111)).alloc (.cells #[Value.pointer (some ⟨4, 77, none⟩), .pointer (some ⟨w.heap.size, 0, none⟩), .int .u64 150] 111)) (by rw [World.cell?_alloc_lt _ _ ⟨w.heap.size, 0, none⟩ (by simp; omega)]; exact hp)
  have st := set75 t ⟨w.heap.size + 1 + 1 + 1, 0, none⟩ (.int .i64 a) (.int .i64 e) ((((w.alloc (.cells #[.pointer (some t)] 77)).alloc (.cells #[Value.pointer (some ⟨4, 77, none⟩), .pointer (some ⟨w.heap.size, 0, none⟩), .int .u64 150] 111)).alloc (.cells #[Value.pointer (some ⟨4, 77, none⟩), .pointer (some ⟨w.heap.size, 0, none⟩), .int .u64 150] 111)).alloc (.cells #[.int .i64 a, .int .i64 e] 75)) w'
    (by rw [World.cell?_alloc_at _ _ _ _ (by simp)]; rfl)
    (by rw [show (⟨w.heap.size + 1 + 1 + 1, 0, none⟩ : Addr).add 1 = ⟨w.heap.size + 1 + 1 + 1, 1, none⟩ from rfl, World.cell?_alloc_at _ _ _ _ (by simp)]; rfl) hs
  go_enter Tryz.func21, Tryz.ntmps21
  go_wp2
  refine wp_loop_rounds 1 ?_
  rw [rounds_succ]
  go_wp2
  trace_state
  go_ret
  exact ⟨rfl, rfl⟩
end Go.Proofs.YtoifgfkgjbddcaaGreatDoor.errorsAs

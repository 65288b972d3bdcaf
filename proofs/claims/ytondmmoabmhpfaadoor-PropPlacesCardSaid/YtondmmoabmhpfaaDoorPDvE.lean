import Derived.Test.YtondmmoabmhpfaaDoorProg
import Derived.WalkKit
import Derived.WalkSpells
import Derived.LaidEql
import Derived.Outline
import Derived.Lib.Hide
import Derived.KernelRfl
import Derived.Stop.Asserts
import Derived.RowKitTokens
import Derived.Deep.LoopGhost
section
namespace Dv
open Go Go.RowKit Go.Proofs
set_option linter.unusedVariables false

def ErrV (W : World) : Nat → Value → Int → Prop
  | 0, v, n => v = .iface 58 (.int .i64 n)
  | d + 1, v, n => ∃ g L u, v = .iface 70 (.pointer (some ⟨g, 0, none⟩)) ∧ W.heap[g]? = some (.cells #[.string L, u] 72 (0, 0)) ∧ ErrV W d u n
def ErrN (W : World) (v : Value) (n : Int) : Prop := 1 ≤ n ∧ n ≤ 9 ∧ ∃ d, ErrV W d v n
theorem ErrV.below {w W : World} (hb : Below w.heap.size w W) : ∀ (d : Nat) {v : Value} {n : Int}, ErrV w d v n → ErrV W d v n
  | 0, _, _, h => h
  | d + 1, _, _, ⟨g, L, u, e, hg, hu⟩ => ⟨g, L, u, e, (hb.block g (Array.getElem?_eq_some_iff.1 hg).1).trans hg, ErrV.below hb d hu⟩

theorem ErrV.form {W : World} {d : Nat} {v : Value} {n : Int} (h : ErrV W d v n) : ∃ t x, v = .iface t x := by
  cases d with
  | zero => exact ⟨_, _, h⟩
  | succ d => obtain ⟨g, L, u, e, _⟩ := h; exact ⟨_, _, e⟩
theorem at_nil (L : ByteArray) (w : World) : Calls Tryd.prog 22 #[.string L, .nilIface] w fun e w' => e = .returned .nilIface ∧ w = w' := by
  go_enter Tryd.func22, Tryd.ntmps22
  go_wp2
  go_ret
  exact ⟨rfl, rfl⟩
theorem at_some (L : ByteArray) (v : Value) (n : Int) (w : World) (h : ErrN w v n) : Calls Tryd.prog 22 #[.string L, v] w fun e w' => ∃ v', e = .returned v' ∧ ErrN w' v' n ∧ Below w.heap.size w w' := by
  obtain ⟨h1, h2, d, hd⟩ := h
  have hv : ∃ t x, v = .iface t x := by
    cases d with
    | zero => exact ⟨_, _, hd⟩
    | succ d => obtain ⟨g, L, u, e, _⟩ := hd; exact ⟨_, _, e⟩
  obtain ⟨t, x, rfl⟩ := hv
  have H := Lib.hid hd
  clear hd
  go_enter Tryd.func22, Tryd.ntmps22
  go_wp2
  go_ret
  exact ⟨_, rfl, ⟨h1, h2, d + 1, _, _, _, rfl, heap_alloc_new w _, ErrV.below (Below.alloc (Below.refl _ _) (Nat.le_refl _) _) d H.out⟩, (Below.refl _ _).alloc (Nat.le_refl _) _⟩
end Dv
end
section
namespace Dv
open Go Go.RowKit Go.Proofs Go.Extern.Stop Go.Stop Go.Extern
theorem valueOf250 (t : Addr) (w : World) : (ReflectliteValue.unpack (.iface 69 (.pointer (some t)))).run Tryd.prog w
    = .ok (.agg #[.pointer (some ⟨4, 69, none⟩), .pointer (some ⟨w.heap.size, 0, none⟩), .int .u64 150]) (w.alloc (.cells #[.pointer (some t)] 69)) := by kernel_rfl
theorem type250 (a : Addr) (w : World) : (ReflectliteValue.methodAny (ReflectliteValue.valueError "reflectlite.Value.Type" 0) (fun t _ _ _ => ReflectliteType.toType t) #[.agg #[.pointer (some ⟨4, 69, none⟩), .pointer (some a), .int .u64 150]]).run Tryd.prog w
    = .ok (.iface 107 (.agg #[.pointer (some ⟨4, 69, none⟩)])) w := by kernel_rfl
theorem methodKind (h : Value) (w : World) : (Go.method 260 107 (.agg #[h]) "Kind").run Tryd.prog w = .ok (86, h) w := by kernel_rfl
theorem kind250 (w : World) : ((ReflectliteType.abiMethod fun t => (fun a : Nat => Value.int IntKind.u8 (a : Int)) <$> Rtype.kind t) #[.pointer (some ⟨4, 69, none⟩)]).run Tryd.prog w = .ok (.int .u8 22) w := by kernel_rfl
theorem kind144 (w : World) : ((ReflectliteType.abiMethod fun t => (fun a : Nat => Value.int IntKind.u8 (a : Int)) <$> Rtype.kind t) #[.pointer (some ⟨4, 58, none⟩)]).run Tryd.prog w = .ok (.int .u8 2) w := by kernel_rfl
theorem rlm (z : Sem Value) (f : TypeId → Addr → Nat → Nat → Sem Value) (v : Value) :
    ReflectliteValue.method z f #[v] = (do match ← ReflectliteValue.parts v with | none => z | some (t, a, fl) => f t a fl (fl % 32)) := rfl
theorem parts250 (a : Addr) (w : World) : (ReflectliteValue.parts (.agg #[.pointer (some ⟨4, 69, none⟩), .pointer (some a), .int .u64 150])).run Tryd.prog w = .ok (some (69, a, 150)) w := by kernel_rfl
theorem isNil250 (a p : Addr) (W : World) (ha : W.cell? a = some (.pointer (some p))) :
    (ReflectliteValue.method (ReflectliteValue.valueError "reflectlite.Value.IsNil" 0) ReflectliteValue.isNil #[.agg #[.pointer (some ⟨4, 69, none⟩), .pointer (some a), .int .u64 150]]).run Tryd.prog W = .ok (.bool false) W := by
  rw [rlm]
  simp only [Sem.run_bind, parts250, Result.andThen]
  simp [ReflectliteValue.isNil, loadVar, isAgg, underlying, Tryd.underlying69, ha, Result.andThen]
theorem methodElem (h : Value) (w : World) : (Go.method 260 107 (.agg #[h]) "Elem").run Tryd.prog w = .ok (98, .agg #[h]) w := by kernel_rfl
theorem methodImplements (h : Value) (w : World) : (Go.method 260 107 (.agg #[h]) "Implements").run Tryd.prog w = .ok (99, .agg #[h]) w := by kernel_rfl
theorem methodAssignableTo (h : Value) (w : World) : (Go.method 260 107 (.agg #[h]) "AssignableTo").run Tryd.prog w = .ok (96, .agg #[h]) w := by kernel_rfl
theorem elem250 (w : World) : (ReflectliteType.method ReflectliteType.elem #[.agg #[.pointer (some ⟨4, 69, none⟩)]]).run Tryd.prog w = .ok (.iface 107 (.agg #[.pointer (some ⟨4, 58, none⟩)])) w := by kernel_rfl
theorem implements144 (w : World) : (ReflectliteType.relation "Implements" ReflectliteType.implements_ #[.agg #[.pointer (some ⟨4, 58, none⟩)], .iface 107 (.agg #[.pointer (some ⟨4, 27, none⟩)])]).run Tryd.prog w = .ok (.bool true) w := by kernel_rfl
theorem typeOf144 (v : Value) (w : World) : (ReflectliteType.typeOf #[.iface 58 v]).run Tryd.prog w = .ok (.iface 107 (.agg #[.pointer (some ⟨4, 58, none⟩)])) w := by kernel_rfl
theorem typeOf241 (v : Value) (w : World) : (ReflectliteType.typeOf #[.iface 70 v]).run Tryd.prog w = .ok (.iface 107 (.agg #[.pointer (some ⟨4, 70, none⟩)])) w := by kernel_rfl
theorem assignable144 (w : World) : (ReflectliteType.relation "AssignableTo" ReflectliteType.assignableTo #[.agg #[.pointer (some ⟨4, 58, none⟩)], .iface 107 (.agg #[.pointer (some ⟨4, 58, none⟩)])]).run Tryd.prog w = .ok (.bool true) w := by kernel_rfl
theorem assignable241 (w : World) : (ReflectliteType.relation "AssignableTo" ReflectliteType.assignableTo #[.agg #[.pointer (some ⟨4, 70, none⟩)], .iface 107 (.agg #[.pointer (some ⟨4, 58, none⟩)])]).run Tryd.prog w = .ok (.bool false) w := by kernel_rfl
theorem valueOf144 (n : Int) (w : World) : (ReflectliteValue.unpack (.iface 58 (.int .i64 n))).run Tryd.prog w
    = .ok (.agg #[.pointer (some ⟨4, 58, none⟩), .pointer (some ⟨w.heap.size, 0, none⟩), .int .u64 130]) (w.alloc (.cells #[.int .i64 n] 58)) := by kernel_rfl
theorem elemOf250 (w : World) : (Rtype.elem? 69).run Tryd.prog w = .ok (some 58) w := by kernel_rfl
theorem mk144 (p : Addr) (w : World) : (ReflectliteValue.mk 58 p ReflectliteValue.flagAddr).run Tryd.prog w = .ok (.agg #[.pointer (some ⟨4, 58, none⟩), .pointer (some p), .int .u64 386]) w := by kernel_rfl
theorem elemV250 (a p : Addr) (W : World) (ha : W.cell? a = some (.pointer (some p))) :
    (ReflectliteValue.method (ReflectliteValue.valueError "reflectlite.Value.Elem" 0) ReflectliteValue.elem #[.agg #[.pointer (some ⟨4, 69, none⟩), .pointer (some a), .int .u64 150]]).run Tryd.prog W
      = .ok (.agg #[.pointer (some ⟨4, 58, none⟩), .pointer (some p), .int .u64 386]) W := by
  rw [rlm]
  simp only [Sem.run_bind, parts250, Result.andThen]
  simp [ReflectliteValue.elem, loadVar, isAgg, underlying, Tryd.underlying69, ha, Result.andThen, elemOf250, mk144]
theorem rls (v x : Value) : ReflectliteValue.set #[v, x] = (do
    let (some (dst, a, fl), some (src, b, _)) := (← ReflectliteValue.parts v, ← ReflectliteValue.parts x)
      | unsupported (.noEntry "extern/(internal/reflectlite.Value).Set.zeroValue")
    if fl / ReflectliteValue.flagAddr % 2 == 0 then unsupported (.noEntry "extern/(internal/reflectlite.Value).Set.unaddressable")
    let val ← loadVar src b
    if ← Rtype.directlyAssignable dst src then storeVar dst a val
    else if ← Rtype.implements dst src then
      if (← Rtype.kind src) == 20 then
        match val with
        | .nilIface => unsupported (.noEntry "extern/reflectlite: a nil value of one interface type handed on as a value of another")
        | _ => storeVar dst a val
      else storeVar dst a (.iface src val)
    else panicString ("reflectlite.Set: value of type " ++ (← Rtype.spelt src) ++ " is not assignable to type " ++ (← Rtype.spelt dst))
    pure (.tuple #[])) := rfl
theorem parts144a (a : Addr) (w : World) : (ReflectliteValue.parts (.agg #[.pointer (some ⟨4, 58, none⟩), .pointer (some a), .int .u64 386])).run Tryd.prog w = .ok (some (58, a, 386)) w := by kernel_rfl
theorem parts144 (a : Addr) (w : World) : (ReflectliteValue.parts (.agg #[.pointer (some ⟨4, 58, none⟩), .pointer (some a), .int .u64 130])).run Tryd.prog w = .ok (some (58, a, 130)) w := by kernel_rfl
theorem direct144 (w : World) : (Rtype.directlyAssignable 58 58).run Tryd.prog w = .ok true w := by kernel_rfl
theorem set144 (ta b : Addr) (n : Int) (old : Value) (W : World) (hb : W.cell? b = some (.int .i64 n)) (ht : W.cell? ta = some old) (hf : W.frozen? ta = false) :
    (ReflectliteValue.set #[.agg #[.pointer (some ⟨4, 58, none⟩), .pointer (some ta), .int .u64 386], .agg #[.pointer (some ⟨4, 58, none⟩), .pointer (some b), .int .u64 130]]).run Tryd.prog W
      = .ok (.tuple #[]) (W.setCell ta (.int .i64 n)) := by
  rw [rls]
  simp only [Sem.run_bind, parts144a, parts144, Result.andThen]
  simp [ReflectliteValue.flagAddr, loadVar, isAgg, underlying, Tryd.underlying58, hb, Result.andThen, direct144, storeVar, Value.cells, storeCells, Addr.add]
  rw [run_store Tryd.prog W ta _ _ (by rfl)]
  simp [ht, hf]
end Dv
end
section
namespace Dv
open Go Go.RowKit Go.Proofs Go.Extern.Stop Go.Stop Go.Extern
theorem noAs241 (v : Value) (xT : TypeId) (w : World) : (Instr.typeAssert (.iface 70 v) xT 119 true).run Tryd.prog w = .ok (.tuple #[.nilIface, .bool false]) w := run_typeAssert_lacksB Tryd.underlying119 (by kernel_rfl) (by kernel_rfl) v xT w
theorem hasUnwrap241 (v : Value) (xT : TypeId) (w : World) : (Instr.typeAssert (.iface 70 v) xT 112 true).run Tryd.prog w = .ok (.tuple #[.iface 70 v, .bool true]) w := run_typeAssert_hasB Tryd.underlying112 (by kernel_rfl) v xT w
theorem methodUnwrap (g : Addr) (w : World) : (Go.method 260 70 (.pointer (some g)) "Unwrap").run Tryd.prog w = .ok (91, .pointer (some g)) w := by kernel_rfl
set_option maxRecDepth 100000 in
set_option maxHeartbeats 4000000 in
theorem as_any (d : Nat) (v : Value) (n old : Int) (tb : Nat) (a : Addr) (w : World) (hv : ErrV w d v n) (ha : w.cell? a = some (.pointer (some ⟨tb, 0, none⟩))) (ht : w.heap[tb]? = some (.cells #[.int .i64 old] 58 (0, 0))) :
    Calls Tryd.prog 57 #[v, .iface 69 (.pointer (some ⟨tb, 0, none⟩)), .agg #[.pointer (some ⟨4, 69, none⟩), .pointer (some a), .int .u64 150], .iface 107 (.agg #[.pointer (some ⟨4, 58, none⟩)])] w fun e w' => e = .returned (.bool true) ∧ w.grownBy w' (some tb) ∧ w'.heap[tb]? = some (.cells #[.int .i64 n] 58 (0, 0)) := by
  have h211 := @run_callFunc_extern Tryd.prog 49 _ ReflectliteType.typeOf Tryd.func49 (by kernel_rfl) (by kernel_rfl) (by kernel_rfl) (by kernel_rfl)
  have h431 := @run_callFunc_extern Tryd.prog 96 _ (ReflectliteType.relation "AssignableTo" ReflectliteType.assignableTo) Tryd.func96 (by kernel_rfl) (by kernel_rfl) (by kernel_rfl) (by kernel_rfl)
  have h320 := @run_callFunc_extern Tryd.prog 63 _ (ReflectliteValue.method (ReflectliteValue.valueError "reflectlite.Value.Elem" 0) ReflectliteValue.elem) Tryd.func63 (by kernel_rfl) (by kernel_rfl) (by kernel_rfl) (by kernel_rfl)
  have h321 := @run_callFunc_extern Tryd.prog 64 _ ReflectliteValue.set Tryd.func64 (by kernel_rfl) (by kernel_rfl) (by kernel_rfl) (by kernel_rfl)
  have h252 := @run_callFunc_extern Tryd.prog 54 _ (fun args => ReflectliteValue.unpack (args.getD 0 (.tuple #[]))) Tryd.func54 (by kernel_rfl) (by kernel_rfl) (by kernel_rfl) (by kernel_rfl)
  have tO := typeOf144
  have tP := typeOf241
  have mA := methodAssignableTo
  have aA := assignable144
  have aB := assignable241
  have vO := valueOf144
  have nA := noAs241
  have mU := methodUnwrap
  have hU := hasUnwrap241
  have hlt : a.block < w.heap.size := World.block_lt_of_cell? w a ha
  have htl : tb < w.heap.size := (Array.getElem?_eq_some_iff.1 ht).1
  have HV := Lib.hid hv
  clear hv
  have HT := Lib.hid ht
  clear ht
  go_enter Tryd.func57, Tryd.ntmps57
  go_wp2
  obtain ⟨W0, hW0⟩ : ∃ W0, W0 = w.alloc (.cells #[.pointer (some ⟨4, 69, none⟩), .pointer (some a), .int .u64 150] 95) := ⟨_, rfl⟩
  go_loopg [0] (d + 1) (fun gk v0 wr => ∃ d', d' < gk ∧ ErrV wr d' v0 n ∧ wr = w.alloc (.cells #[.pointer (some ⟨4, 69, none⟩), .pointer (some a), .int .u64 150] 95))
  case atStart => exact ⟨d, by omega, ErrV.below ((Below.refl _ _).alloc (Nat.le_refl _) _) d HV.out, rfl⟩
  case round =>
    obtain ⟨d', hd', hv', rfl⟩ := hrel
    clear hW0
    cases d' with
    | zero =>
      cases hv'
      have el := elemV250 a ⟨tb, 0, none⟩ (w.alloc (.cells #[.pointer (some ⟨4, 69, none⟩), .pointer (some a), .int .u64 150] 95)) (by rw [World.cell?_alloc_lt _ _ _ hlt]; exact ha)
      have st := set144 ⟨tb, 0, none⟩ ⟨w.heap.size + 1, 0, none⟩ n (.int .i64 old) ((w.alloc (.cells #[.pointer (some ⟨4, 69, none⟩), .pointer (some a), .int .u64 150] 95)).alloc (.cells #[.int .i64 n] 58)) (by rw [World.cell?_alloc_at _ _ _ _ (by simp)]; rfl) (by rw [World.cell?_alloc_lt _ _ _ (by simp; omega), World.cell?_alloc_lt _ _ _ htl]; exact cell_of_row w tb 0 _ _ _ HT.out) (by rw [World.frozen?_alloc_old _ _ _ (by simp; omega), World.frozen?_alloc_old _ _ _ (Nat.ne_of_lt htl)]; have := HT.out; simp [World.frozen?, this])
      go_wp2
      go_ret
      refine ⟨rfl, ⟨rfl, rfl, rfl, by simp [World.setCell, World.alloc]; omega, fun i hi hne => ?_⟩, ?_⟩
      · rw [Below.heap_alloc _ _ i (by simp [World.setCell, World.alloc]; omega), Below.heap_alloc _ _ i (by simp [World.setCell]; omega)]
        exact Below.heap_setCell w _ _ i (fun e => hne (by rw [e]))
      · rw [Below.heap_alloc _ _ tb (by simp [World.setCell, World.alloc]; omega), Below.heap_alloc _ _ tb (by simp [World.setCell]; omega)]
        have := HT.out
        simp [World.setCell, Array.getElem?_modify, this]
    | succ d' =>
      obtain ⟨g, L, u, rfl, hg, hu⟩ := hv'
      obtain ⟨tu, xu, rfl⟩ := hu.form
      have hc : (w.alloc (.cells #[.pointer (some ⟨4, 69, none⟩), .pointer (some a), .int .u64 150] 95)).cell? ⟨g, 1, none⟩ = some (.iface tu xu) := (cell_of_row _ g 1 _ _ _ hg).trans rfl
      have HU := Lib.hid hu
      clear hg hu
      go_wp2
      go_roundg (d' + 1)
      case rel => exact ⟨d', by omega, HU.out, rfl⟩
      case measure => omega
end Dv
end
section
namespace Dv
open Go Go.RowKit Go.Proofs Go.Extern.Stop Go.Stop Go.Extern
def GErr (w : World) : Prop := w.cell? ⟨0, 0, none⟩ = some (.iface 107 (.agg #[.pointer (some ⟨4, 27, none⟩)]))
theorem GErr.below {w W : World} (h : GErr w) (hb : Below w.heap.size w W) : GErr W := (hb.cell (World.block_lt_of_cell? w _ h)).trans h
theorem grown_after_below {w a b : World} {row : Option Nat} (h : Below w.heap.size w a) (k : a.grownBy b row) : w.grownBy b row :=
  ⟨k.os.trans h.os, k.tape.trans h.tape, k.output.trans h.output, Nat.le_trans h.size k.size, fun i hi hn => (k.block i (Nat.lt_of_lt_of_le hi h.size) hn).trans (h.block i hi)⟩
set_option maxRecDepth 100000 in
set_option maxHeartbeats 4000000 in
theorem As_any (d : Nat) (v : Value) (n old : Int) (tb : Nat) (w : World) (hG : GErr w) (hv : ErrV w d v n) (ht : w.heap[tb]? = some (.cells #[.int .i64 old] 58 (0, 0))) :
    Calls Tryd.prog 34 #[v, .iface 69 (.pointer (some ⟨tb, 0, none⟩))] w fun e w' => e = .returned (.bool true) ∧ w.grownBy w' (some tb) ∧ w'.heap[tb]? = some (.cells #[.int .i64 n] 58 (0, 0)) := by
  have h252 := @run_callFunc_extern Tryd.prog 54 _ (fun args => ReflectliteValue.unpack (args.getD 0 (.tuple #[]))) Tryd.func54 (by kernel_rfl) (by kernel_rfl) (by kernel_rfl) (by kernel_rfl)
  have h253 := @run_callFunc_extern Tryd.prog 55 _ (ReflectliteValue.methodAny (ReflectliteValue.valueError "reflectlite.Value.Type" 0) (fun t _ _ _ => ReflectliteType.toType t)) Tryd.func55 (by kernel_rfl) (by kernel_rfl) (by kernel_rfl) (by kernel_rfl)
  have h254 := @run_callFunc_extern Tryd.prog 56 _ (ReflectliteValue.method (ReflectliteValue.valueError "reflectlite.Value.IsNil" 0) ReflectliteValue.isNil) Tryd.func56 (by kernel_rfl) (by kernel_rfl) (by kernel_rfl) (by kernel_rfl)
  have h420 := @run_callFunc_extern Tryd.prog 86 _ (ReflectliteType.abiMethod fun t => do pure (.int .u8 (← Rtype.kind t))) Tryd.func86 (by kernel_rfl) (by kernel_rfl) (by kernel_rfl) (by kernel_rfl)
  have h433 := @run_callFunc_extern Tryd.prog 98 _ (ReflectliteType.method ReflectliteType.elem) Tryd.func98 (by kernel_rfl) (by kernel_rfl) (by kernel_rfl) (by kernel_rfl)
  have h434 := @run_callFunc_extern Tryd.prog 99 _ (ReflectliteType.relation "Implements" ReflectliteType.implements_) Tryd.func99 (by kernel_rfl) (by kernel_rfl) (by kernel_rfl) (by kernel_rfl)
  have f6 := valueOf250
  have f7 := type250
  have mK := methodKind
  have mE := methodElem
  have mI := methodImplements
  have k250 := kind250
  have k144 := kind144
  have e250 := elem250
  have i144 := implements144
  have n8 := isNil250 ⟨w.heap.size, 0, none⟩ ⟨tb, 0, none⟩ ((w.alloc (.cells #[.pointer (some ⟨tb, 0, none⟩)] 69)).alloc (.cells #[.pointer (some ⟨4, 69, none⟩), .pointer (some ⟨w.heap.size, 0, none⟩), .int .u64 150] 95)) (by simp)
  have hlt : 0 < w.heap.size := World.block_lt_of_cell? w ⟨0, 0, none⟩ hG
  have hg2 : ((w.alloc (.cells #[.pointer (some ⟨tb, 0, none⟩)] 69)).alloc (.cells #[.pointer (some ⟨4, 69, none⟩), .pointer (some ⟨w.heap.size, 0, none⟩), .int .u64 150] 95)).cell? ⟨0, 0, none⟩ = some (.iface 107 (.agg #[.pointer (some ⟨4, 27, none⟩)])) := by
    rw [World.cell?_alloc_lt _ _ ⟨0, 0, none⟩ (by simp), World.cell?_alloc_lt _ _ ⟨0, 0, none⟩ hlt]; exact hG
  have htl : tb < w.heap.size := (Array.getElem?_eq_some_iff.1 ht).1
  have hb1 : Below w.heap.size w ((w.alloc (.cells #[.pointer (some ⟨tb, 0, none⟩)] 69)).alloc (.cells #[.pointer (some ⟨4, 69, none⟩), .pointer (some ⟨w.heap.size, 0, none⟩), .int .u64 150] 95)) := ((Below.refl _ _).alloc (Nat.le_refl _) _).alloc (by simp) _
  have C := as_any d v n old tb ⟨w.heap.size, 0, none⟩ ((w.alloc (.cells #[.pointer (some ⟨tb, 0, none⟩)] 69)).alloc (.cells #[.pointer (some ⟨4, 69, none⟩), .pointer (some ⟨w.heap.size, 0, none⟩), .int .u64 150] 95)) (ErrV.below hb1 d hv) (by simp) ((hb1.block tb htl).trans ht)
  have CC := Lib.hid C
  clear C
  obtain ⟨t, x, rfl⟩ := hv.form
  have HB := Lib.hid hb1
  clear hb1 ht hv hG
  go_enter Tryd.func34, Tryd.ntmps34
  go_wp2_with fail
  refine CC.out.mono ?_
  rintro e w' ⟨rfl, hg, hc⟩
  have HG := Lib.hid (grown_after_below HB.out hg)
  have HC := Lib.hid hc
  clear hg hc
  go_wp2
  go_ret
  exact ⟨rfl, HG.out, HC.out⟩

def Err (W : World) (v : Value) (n : Int) : Prop := (v = .nilIface ∧ n = 0) ∨ (1 ≤ n ∧ n ≤ 9 ∧ ∃ d, ErrV W d v n)
theorem Num_any (v : Value) (n : Int) (w : World) (hG : GErr w) (hv : Err w v n) :
    Calls Tryd.prog 21 #[v] w fun e w' => e = .returned (.int .i64 n) ∧ Below w.heap.size w w' := by
  rcases hv with ⟨rfl, rfl⟩ | ⟨h1, h2, d, hd⟩
  · go_enter Tryd.func21, Tryd.ntmps21
    go_wp2
    go_ret
    exact ⟨rfl, Below.refl _ _⟩
  · obtain ⟨t, x, rfl⟩ := hd.form
    have hb := (Below.refl w.heap.size w).alloc (Nat.le_refl _) (.cells #[.int .i64 0] 58)
    have C := As_any d (.iface t x) n 0 w.heap.size (w.alloc (.cells #[.int .i64 0] 58)) (GErr.below hG hb) (ErrV.below hb d hd) (heap_alloc_new w _)
    have CC := Lib.hid C
    have HB := Lib.hid hb
    clear C hd hG hb
    go_enter Tryd.func21, Tryd.ntmps21
    go_wp2_with fail
    refine CC.out.mono ?_
    rintro e w' ⟨rfl, hg, hc⟩
    have hcell : w'.cell? ⟨w.heap.size, 0, none⟩ = some (.int .i64 n) := (cell_of_row _ _ 0 _ _ _ hc).trans rfl
    have HG := Lib.hid hg
    clear hg hc
    go_wp2
    go_ret
    exact ⟨rfl, HB.out.grown HG.out (Nat.le_of_lt (by simp)) (by simp)⟩
end Dv
end
section
namespace Dv
open Go Go.RowKit Go.Proofs Go.Extern.Stop Go.Stop Go.Extern
theorem fail_At (L : ByteArray) (v : Value) (n : Int) (w : World) (h : Err w v n) : Calls Tryd.prog 22 #[.string L, v] w fun e w' => ∃ v', e = .returned v' ∧ Err w' v' n ∧ Below w.heap.size w w' := by
  rcases h with ⟨rfl, rfl⟩ | h
  · exact (at_nil L w).mono fun e w' ⟨h1, h2⟩ => ⟨_, h1, .inl ⟨rfl, rfl⟩, h2 ▸ Below.refl _ _⟩
  · exact (at_some L v n w h).mono fun e w' ⟨v', h1, h2, h3⟩ => ⟨v', h1, .inr h2, h3⟩
theorem Err.below {w W : World} {v : Value} {n : Int} (h : Err w v n) (hb : Below w.heap.size w W) : Err W v n := by
  rcases h with h | ⟨h1, h2, d, hd⟩
  · exact .inl h
  · exact .inr ⟨h1, h2, d, ErrV.below hb d hd⟩
theorem _root_.Go.RowKit.Below.then_ {w w1 w2 : World} (h : Below w.heap.size w w1) (k : Below w1.heap.size w1 w2) : Below w.heap.size w w2 :=
  h.trans ⟨k.os, k.tape, k.output, k.size, fun i hi => k.block i (Nat.lt_of_lt_of_le hi h.size)⟩
theorem Err.no (w : World) (n : Int) (h1 : 1 ≤ n) (h2 : n ≤ 9) : Err w (.iface 58 (.int .i64 n)) n := .inr ⟨h1, h2, 0, rfl⟩
end Dv
end

import Derived.Test.YtdnmliidmnfijaaDoorProg
import Derived.WalkKit
import Derived.WalkSpells
import Derived.LaidEql
import Derived.Outline
import Derived.Lib.Hide
import Derived.KernelRfl
import Derived.Stop.Asserts
import Derived.RowKitTokens
import Derived.Deep.LoopGhost
import Derived.Lib.IfaceEq
section
namespace Dv
open Go Go.RowKit Go.Proofs
set_option linter.unusedVariables false

def ErrV (W : World) : Nat → Value → Int → Prop
  | 0, v, n => v = .iface 50 (.int .i64 n)
  | d + 1, v, n => ∃ g L u, v = .iface 61 (.pointer (some ⟨g, 0, none⟩)) ∧ W.heap[g]? = some (.cells #[.string L, u] 63 (0, 0)) ∧ ErrV W d u n
def ErrN (W : World) (v : Value) (n : Int) : Prop := 1 ≤ n ∧ n ≤ 9 ∧ ∃ d, ErrV W d v n
theorem ErrV.below {w W : World} (hb : Below w.heap.size w W) : ∀ (d : Nat) {v : Value} {n : Int}, ErrV w d v n → ErrV W d v n
  | 0, _, _, h => h
  | d + 1, _, _, ⟨g, L, u, e, hg, hu⟩ => ⟨g, L, u, e, (hb.block g (Array.getElem?_eq_some_iff.1 hg).1).trans hg, ErrV.below hb d hu⟩

theorem ErrV.form {W : World} {d : Nat} {v : Value} {n : Int} (h : ErrV W d v n) : ∃ t x, v = .iface t x := by
  cases d with
  | zero => exact ⟨_, _, h⟩
  | succ d => obtain ⟨g, L, u, e, _⟩ := h; exact ⟨_, _, e⟩
theorem at_nil (L : ByteArray) (w : World) : Calls Tryd.prog 12 #[.string L, .nilIface] w fun e w' => e = .returned .nilIface ∧ w = w' := by
  go_enter Tryd.func12, Tryd.ntmps12
  go_wp2
  go_ret
  exact ⟨rfl, rfl⟩
theorem at_some (L : ByteArray) (v : Value) (n : Int) (w : World) (h : ErrN w v n) : Calls Tryd.prog 12 #[.string L, v] w fun e w' => ∃ v', e = .returned v' ∧ ErrN w' v' n ∧ Below w.heap.size w w' := by
  obtain ⟨h1, h2, d, hd⟩ := h
  have hv : ∃ t x, v = .iface t x := by
    cases d with
    | zero => exact ⟨_, _, hd⟩
    | succ d => obtain ⟨g, L, u, e, _⟩ := hd; exact ⟨_, _, e⟩
  obtain ⟨t, x, rfl⟩ := hv
  have H := Lib.hid hd
  clear hd
  go_enter Tryd.func12, Tryd.ntmps12
  go_wp2
  go_ret
  exact ⟨_, rfl, ⟨h1, h2, d + 1, _, _, _, rfl, heap_alloc_new w _, ErrV.below (Below.alloc (Below.refl _ _) (Nat.le_refl _) _) d H.out⟩, (Below.refl _ _).alloc (Nat.le_refl _) _⟩
end Dv
end
section
namespace Dv
open Go Go.RowKit Go.Proofs Go.Extern.Stop Go.Stop Go.Extern
theorem valueOf250 (t : Addr) (w : World) : (ReflectliteValue.unpack (.iface 65 (.pointer (some t)))).run Tryd.prog w
    = .ok (.agg #[.pointer (some ⟨4, 65, none⟩), .pointer (some ⟨w.heap.size, 0, none⟩), .int .u64 150]) (w.alloc (.cells #[.pointer (some t)] 65)) := by kernel_rfl
theorem type250 (a : Addr) (w : World) : (ReflectliteValue.methodAny (ReflectliteValue.valueError "reflectlite.Value.Type" 0) (fun t _ _ _ => ReflectliteType.toType t) #[.agg #[.pointer (some ⟨4, 65, none⟩), .pointer (some a), .int .u64 150]]).run Tryd.prog w
    = .ok (.iface 76 (.agg #[.pointer (some ⟨4, 65, none⟩)])) w := by kernel_rfl
theorem methodKind (h : Value) (w : World) : (Go.method 273 76 (.agg #[h]) "Kind").run Tryd.prog w = .ok (82, h) w := by kernel_rfl
theorem kind250 (w : World) : ((ReflectliteType.abiMethod fun t => (fun a : Nat => Value.int IntKind.u8 (a : Int)) <$> Rtype.kind t) #[.pointer (some ⟨4, 65, none⟩)]).run Tryd.prog w = .ok (.int .u8 22) w := by kernel_rfl
theorem kind144 (w : World) : ((ReflectliteType.abiMethod fun t => (fun a : Nat => Value.int IntKind.u8 (a : Int)) <$> Rtype.kind t) #[.pointer (some ⟨4, 50, none⟩)]).run Tryd.prog w = .ok (.int .u8 2) w := by kernel_rfl
theorem rlm (z : Sem Value) (f : TypeId → Addr → Nat → Nat → Sem Value) (v : Value) :
    ReflectliteValue.method z f #[v] = (do match ← ReflectliteValue.parts v with | none => z | some (t, a, fl) => f t a fl (fl % 32)) := rfl
theorem parts250 (a : Addr) (w : World) : (ReflectliteValue.parts (.agg #[.pointer (some ⟨4, 65, none⟩), .pointer (some a), .int .u64 150])).run Tryd.prog w = .ok (some (65, a, 150)) w := by kernel_rfl
theorem isNil250 (a p : Addr) (W : World) (ha : W.cell? a = some (.pointer (some p))) :
    (ReflectliteValue.method (ReflectliteValue.valueError "reflectlite.Value.IsNil" 0) ReflectliteValue.isNil #[.agg #[.pointer (some ⟨4, 65, none⟩), .pointer (some a), .int .u64 150]]).run Tryd.prog W = .ok (.bool false) W := by
  rw [rlm]
  simp only [Sem.run_bind, parts250, Result.andThen]
  simp [ReflectliteValue.isNil, loadVar, isAgg, underlying, Tryd.underlying65, ha, Result.andThen]
theorem methodElem (h : Value) (w : World) : (Go.method 273 76 (.agg #[h]) "Elem").run Tryd.prog w = .ok (91, .agg #[h]) w := by kernel_rfl
theorem methodImplements (h : Value) (w : World) : (Go.method 273 76 (.agg #[h]) "Implements").run Tryd.prog w = .ok (92, .agg #[h]) w := by kernel_rfl
theorem methodAssignableTo (h : Value) (w : World) : (Go.method 273 76 (.agg #[h]) "AssignableTo").run Tryd.prog w = .ok (89, .agg #[h]) w := by kernel_rfl
theorem elem250 (w : World) : (ReflectliteType.method ReflectliteType.elem #[.agg #[.pointer (some ⟨4, 65, none⟩)]]).run Tryd.prog w = .ok (.iface 76 (.agg #[.pointer (some ⟨4, 50, none⟩)])) w := by kernel_rfl
theorem implements144 (w : World) : (ReflectliteType.relation "Implements" ReflectliteType.implements_ #[.agg #[.pointer (some ⟨4, 50, none⟩)], .iface 76 (.agg #[.pointer (some ⟨4, 30, none⟩)])]).run Tryd.prog w = .ok (.bool true) w := by kernel_rfl
theorem typeOf144 (v : Value) (w : World) : (ReflectliteType.typeOf #[.iface 50 v]).run Tryd.prog w = .ok (.iface 76 (.agg #[.pointer (some ⟨4, 50, none⟩)])) w := by kernel_rfl
theorem typeOf241 (v : Value) (w : World) : (ReflectliteType.typeOf #[.iface 61 v]).run Tryd.prog w = .ok (.iface 76 (.agg #[.pointer (some ⟨4, 61, none⟩)])) w := by kernel_rfl
theorem assignable144 (w : World) : (ReflectliteType.relation "AssignableTo" ReflectliteType.assignableTo #[.agg #[.pointer (some ⟨4, 50, none⟩)], .iface 76 (.agg #[.pointer (some ⟨4, 50, none⟩)])]).run Tryd.prog w = .ok (.bool true) w := by kernel_rfl
theorem assignable241 (w : World) : (ReflectliteType.relation "AssignableTo" ReflectliteType.assignableTo #[.agg #[.pointer (some ⟨4, 61, none⟩)], .iface 76 (.agg #[.pointer (some ⟨4, 50, none⟩)])]).run Tryd.prog w = .ok (.bool false) w := by kernel_rfl
theorem valueOf144 (n : Int) (w : World) : (ReflectliteValue.unpack (.iface 50 (.int .i64 n))).run Tryd.prog w
    = .ok (.agg #[.pointer (some ⟨4, 50, none⟩), .pointer (some ⟨w.heap.size, 0, none⟩), .int .u64 130]) (w.alloc (.cells #[.int .i64 n] 50)) := by kernel_rfl
theorem elemOf250 (w : World) : (Rtype.elem? 65).run Tryd.prog w = .ok (some 50) w := by kernel_rfl
theorem mk144 (p : Addr) (w : World) : (ReflectliteValue.mk 50 p ReflectliteValue.flagAddr).run Tryd.prog w = .ok (.agg #[.pointer (some ⟨4, 50, none⟩), .pointer (some p), .int .u64 386]) w := by kernel_rfl
theorem elemV250 (a p : Addr) (W : World) (ha : W.cell? a = some (.pointer (some p))) :
    (ReflectliteValue.method (ReflectliteValue.valueError "reflectlite.Value.Elem" 0) ReflectliteValue.elem #[.agg #[.pointer (some ⟨4, 65, none⟩), .pointer (some a), .int .u64 150]]).run Tryd.prog W
      = .ok (.agg #[.pointer (some ⟨4, 50, none⟩), .pointer (some p), .int .u64 386]) W := by
  rw [rlm]
  simp only [Sem.run_bind, parts250, Result.andThen]
  simp [ReflectliteValue.elem, loadVar, isAgg, underlying, Tryd.underlying65, ha, Result.andThen, elemOf250, mk144]
theorem rls (v x : Value) : ReflectliteValue.set #[v, x] = (do
    let (some (dst, a, fl), some (src, b, _)) := (← ReflectliteValue.parts v, ← ReflectliteValue.parts x)
      | unsupported (.noEntry "extern/(internal/reflectlite.Value).Set.zeroValue")
    if fl / ReflectliteValue.flagAddr % 2 == 0 then unsupported (.noEntry "extern/(internal/reflectlite.Value).Set.unaddressable")
    let val ← loadVar src b
    if ← Rtype.directlyAssignable dst src then storeVar dst a val
    else if ← Rtype.implements dst src then
      if (← Rtype.kind src) == 20 then
        match val with
        | .nilIface => unsupported (.noEntry "extern/reflectlite: a nil value of one interface type handed on as a value of another")
        | _ => storeVar dst a val
      else storeVar dst a (.iface src val)
    else panicString ("reflectlite.Set: value of type " ++ (← Rtype.spelt src) ++ " is not assignable to type " ++ (← Rtype.spelt dst))
    pure (.tuple #[])) := rfl
theorem parts144a (a : Addr) (w : World) : (ReflectliteValue.parts (.agg #[.pointer (some ⟨4, 50, none⟩), .pointer (some a), .int .u64 386])).run Tryd.prog w = .ok (some (50, a, 386)) w := by kernel_rfl
theorem parts144 (a : Addr) (w : World) : (ReflectliteValue.parts (.agg #[.pointer (some ⟨4, 50, none⟩), .pointer (some a), .int .u64 130])).run Tryd.prog w = .ok (some (50, a, 130)) w := by kernel_rfl
theorem direct144 (w : World) : (Rtype.directlyAssignable 50 50).run Tryd.prog w = .ok true w := by kernel_rfl
theorem set144 (ta b : Addr) (n : Int) (old : Value) (W : World) (hb : W.cell? b = some (.int .i64 n)) (ht : W.cell? ta = some old) (hf : W.frozen? ta = false) :
    (ReflectliteValue.set #[.agg #[.pointer (some ⟨4, 50, none⟩), .pointer (some ta), .int .u64 386], .agg #[.pointer (some ⟨4, 50, none⟩), .pointer (some b), .int .u64 130]]).run Tryd.prog W
      = .ok (.tuple #[]) (W.setCell ta (.int .i64 n)) := by
  rw [rls]
  simp only [Sem.run_bind, parts144a, parts144, Result.andThen]
  simp [ReflectliteValue.flagAddr, loadVar, isAgg, underlying, Tryd.underlying50, hb, Result.andThen, direct144, storeVar, Value.cells, storeCells, Addr.add]
  rw [run_store Tryd.prog W ta _ _ (by rfl)]
  simp [ht, hf]
end Dv
end
section
namespace Dv
open Go Go.RowKit Go.Proofs Go.Extern.Stop Go.Stop Go.Extern
theorem noAs241 (v : Value) (xT : TypeId) (w : World) : (Instr.typeAssert (.iface 61 v) xT 108 true).run Tryd.prog w = .ok (.tuple #[.nilIface, .bool false]) w := run_typeAssert_lacksB Tryd.underlying108 (by kernel_rfl) (by kernel_rfl) v xT w
theorem hasUnwrap241 (v : Value) (xT : TypeId) (w : World) : (Instr.typeAssert (.iface 61 v) xT 81 true).run Tryd.prog w = .ok (.tuple #[.iface 61 v, .bool true]) w := run_typeAssert_hasB Tryd.underlying81 (by kernel_rfl) v xT w
theorem methodUnwrap (g : Addr) (w : World) : (Go.method 273 61 (.pointer (some g)) "Unwrap").run Tryd.prog w = .ok (87, .pointer (some g)) w := by kernel_rfl
set_option maxRecDepth 100000 in
set_option maxHeartbeats 4000000 in
theorem as_any (d : Nat) (v : Value) (n old : Int) (tb : Nat) (a : Addr) (w : World) (hv : ErrV w d v n) (ha : w.cell? a = some (.pointer (some ⟨tb, 0, none⟩))) (ht : w.heap[tb]? = some (.cells #[.int .i64 old] 50 (0, 0))) :
    Calls Tryd.prog 27 #[v, .iface 65 (.pointer (some ⟨tb, 0, none⟩)), .agg #[.pointer (some ⟨4, 65, none⟩), .pointer (some a), .int .u64 150], .iface 76 (.agg #[.pointer (some ⟨4, 50, none⟩)])] w fun e w' => e = .returned (.bool true) ∧ w.grownBy w' (some tb) ∧ w'.heap[tb]? = some (.cells #[.int .i64 n] 50 (0, 0)) := by
  have h211 := @run_callFunc_extern Tryd.prog 17 _ ReflectliteType.typeOf Tryd.func17 (by kernel_rfl) (by kernel_rfl) (by kernel_rfl) (by kernel_rfl)
  have h431 := @run_callFunc_extern Tryd.prog 89 _ (ReflectliteType.relation "AssignableTo" ReflectliteType.assignableTo) Tryd.func89 (by kernel_rfl) (by kernel_rfl) (by kernel_rfl) (by kernel_rfl)
  have h320 := @run_callFunc_extern Tryd.prog 42 _ (ReflectliteValue.method (ReflectliteValue.valueError "reflectlite.Value.Elem" 0) ReflectliteValue.elem) Tryd.func42 (by kernel_rfl) (by kernel_rfl) (by kernel_rfl) (by kernel_rfl)
  have h321 := @run_callFunc_extern Tryd.prog 43 _ ReflectliteValue.set Tryd.func43 (by kernel_rfl) (by kernel_rfl) (by kernel_rfl) (by kernel_rfl)
  have h252 := @run_callFunc_extern Tryd.prog 24 _ (fun args => ReflectliteValue.unpack (args.getD 0 (.tuple #[]))) Tryd.func24 (by kernel_rfl) (by kernel_rfl) (by kernel_rfl) (by kernel_rfl)
  have tO := typeOf144
  have tP := typeOf241
  have mA := methodAssignableTo
  have aA := assignable144
  have aB := assignable241
  have vO := valueOf144
  have nA := noAs241
  have mU := methodUnwrap
  have hU := hasUnwrap241
  have hlt : a.block < w.heap.size := World.block_lt_of_cell? w a ha
  have htl : tb < w.heap.size := (Array.getElem?_eq_some_iff.1 ht).1
  have HV := Lib.hid hv
  clear hv
  have HT := Lib.hid ht
  clear ht
  go_enter Tryd.func27, Tryd.ntmps27
  go_wp2
  obtain ⟨W0, hW0⟩ : ∃ W0, W0 = w.alloc (.cells #[.pointer (some ⟨4, 65, none⟩), .pointer (some a), .int .u64 150] 89) := ⟨_, rfl⟩
  go_loopg [0] (d + 1) (fun gk v0 wr => ∃ d', d' < gk ∧ ErrV wr d' v0 n ∧ wr = w.alloc (.cells #[.pointer (some ⟨4, 65, none⟩), .pointer (some a), .int .u64 150] 89))
  case atStart => exact ⟨d, by omega, ErrV.below ((Below.refl _ _).alloc (Nat.le_refl _) _) d HV.out, rfl⟩
  case round =>
    obtain ⟨d', hd', hv', rfl⟩ := hrel
    clear hW0
    cases d' with
    | zero =>
      cases hv'
      have el := elemV250 a ⟨tb, 0, none⟩ (w.alloc (.cells #[.pointer (some ⟨4, 65, none⟩), .pointer (some a), .int .u64 150] 89)) (by rw [World.cell?_alloc_lt _ _ _ hlt]; exact ha)
      have st := set144 ⟨tb, 0, none⟩ ⟨w.heap.size + 1, 0, none⟩ n (.int .i64 old) ((w.alloc (.cells #[.pointer (some ⟨4, 65, none⟩), .pointer (some a), .int .u64 150] 89)).alloc (.cells #[.int .i64 n] 50)) (by rw [World.cell?_alloc_at _ _ _ _ (by simp)]; rfl) (by rw [World.cell?_alloc_lt _ _ _ (by simp; omega), World.cell?_alloc_lt _ _ _ htl]; exact cell_of_row w tb 0 _ _ _ HT.out) (by rw [World.frozen?_alloc_old _ _ _ (by simp; omega), World.frozen?_alloc_old _ _ _ (Nat.ne_of_lt htl)]; have := HT.out; simp [World.frozen?, this])
      go_wp2
      go_ret
      refine ⟨rfl, ⟨rfl, rfl, rfl, by simp [World.setCell, World.alloc]; omega, fun i hi hne => ?_⟩, ?_⟩
      · rw [Below.heap_alloc _ _ i (by simp [World.setCell, World.alloc]; omega), Below.heap_alloc _ _ i (by simp [World.setCell]; omega)]
        exact Below.heap_setCell w _ _ i (fun e => hne (by rw [e]))
      · rw [Below.heap_alloc _ _ tb (by simp [World.setCell, World.alloc]; omega), Below.heap_alloc _ _ tb (by simp [World.setCell]; omega)]
        have := HT.out
        simp [World.setCell, Array.getElem?_modify, this]
    | succ d' =>
      obtain ⟨g, L, u, rfl, hg, hu⟩ := hv'
      obtain ⟨tu, xu, rfl⟩ := hu.form
      have hc : (w.alloc (.cells #[.pointer (some ⟨4, 65, none⟩), .pointer (some a), .int .u64 150] 89)).cell? ⟨g, 1, none⟩ = some (.iface tu xu) := (cell_of_row _ g 1 _ _ _ hg).trans rfl
      have HU := Lib.hid hu
      clear hg hu
      go_wp2
      go_roundg (d' + 1)
      case rel => exact ⟨d', by omega, HU.out, rfl⟩
      case measure => omega
end Dv
end
section
namespace Dv
open Go Go.RowKit Go.Proofs Go.Extern.Stop Go.Stop Go.Extern
def GErr (w : World) : Prop := w.cell? ⟨0, 0, none⟩ = some (.iface 76 (.agg #[.pointer (some ⟨4, 30, none⟩)]))
theorem GErr.below {w W : World} (h : GErr w) (hb : Below w.heap.size w W) : GErr W := (hb.cell (World.block_lt_of_cell? w _ h)).trans h
theorem grown_after_below {w a b : World} {row : Option Nat} (h : Below w.heap.size w a) (k : a.grownBy b row) : w.grownBy b row :=
  ⟨k.os.trans h.os, k.tape.trans h.tape, k.output.trans h.output, Nat.le_trans h.size k.size, fun i hi hn => (k.block i (Nat.lt_of_lt_of_le hi h.size) hn).trans (h.block i hi)⟩
set_option maxRecDepth 100000 in
set_option maxHeartbeats 4000000 in
theorem As_any (d : Nat) (v : Value) (n old : Int) (tb : Nat) (w : World) (hG : GErr w) (hv : ErrV w d v n) (ht : w.heap[tb]? = some (.cells #[.int .i64 old] 50 (0, 0))) :
    Calls Tryd.prog 19 #[v, .iface 65 (.pointer (some ⟨tb, 0, none⟩))] w fun e w' => e = .returned (.bool true) ∧ w.grownBy w' (some tb) ∧ w'.heap[tb]? = some (.cells #[.int .i64 n] 50 (0, 0)) := by
  have h252 := @run_callFunc_extern Tryd.prog 24 _ (fun args => ReflectliteValue.unpack (args.getD 0 (.tuple #[]))) Tryd.func24 (by kernel_rfl) (by kernel_rfl) (by kernel_rfl) (by kernel_rfl)
  have h253 := @run_callFunc_extern Tryd.prog 25 _ (ReflectliteValue.methodAny (ReflectliteValue.valueError "reflectlite.Value.Type" 0) (fun t _ _ _ => ReflectliteType.toType t)) Tryd.func25 (by kernel_rfl) (by kernel_rfl) (by kernel_rfl) (by kernel_rfl)
  have h254 := @run_callFunc_extern Tryd.prog 26 _ (ReflectliteValue.method (ReflectliteValue.valueError "reflectlite.Value.IsNil" 0) ReflectliteValue.isNil) Tryd.func26 (by kernel_rfl) (by kernel_rfl) (by kernel_rfl) (by kernel_rfl)
  have h420 := @run_callFunc_extern Tryd.prog 82 _ (ReflectliteType.abiMethod fun t => do pure (.int .u8 (← Rtype.kind t))) Tryd.func82 (by kernel_rfl) (by kernel_rfl) (by kernel_rfl) (by kernel_rfl)
  have h433 := @run_callFunc_extern Tryd.prog 91 _ (ReflectliteType.method ReflectliteType.elem) Tryd.func91 (by kernel_rfl) (by kernel_rfl) (by kernel_rfl) (by kernel_rfl)
  have h434 := @run_callFunc_extern Tryd.prog 92 _ (ReflectliteType.relation "Implements" ReflectliteType.implements_) Tryd.func92 (by kernel_rfl) (by kernel_rfl) (by kernel_rfl) (by kernel_rfl)
  have f6 := valueOf250
  have f7 := type250
  have mK := methodKind
  have mE := methodElem
  have mI := methodImplements
  have k250 := kind250
  have k144 := kind144
  have e250 := elem250
  have i144 := implements144
  have n8 := isNil250 ⟨w.heap.size, 0, none⟩ ⟨tb, 0, none⟩ ((w.alloc (.cells #[.pointer (some ⟨tb, 0, none⟩)] 65)).alloc (.cells #[.pointer (some ⟨4, 65, none⟩), .pointer (some ⟨w.heap.size, 0, none⟩), .int .u64 150] 89)) (by simp)
  have hlt : 0 < w.heap.size := World.block_lt_of_cell? w ⟨0, 0, none⟩ hG
  have hg2 : ((w.alloc (.cells #[.pointer (some ⟨tb, 0, none⟩)] 65)).alloc (.cells #[.pointer (some ⟨4, 65, none⟩), .pointer (some ⟨w.heap.size, 0, none⟩), .int .u64 150] 89)).cell? ⟨0, 0, none⟩ = some (.iface 76 (.agg #[.pointer (some ⟨4, 30, none⟩)])) := by
    rw [World.cell?_alloc_lt _ _ ⟨0, 0, none⟩ (by simp), World.cell?_alloc_lt _ _ ⟨0, 0, none⟩ hlt]; exact hG
  have htl : tb < w.heap.size := (Array.getElem?_eq_some_iff.1 ht).1
  have hb1 : Below w.heap.size w ((w.alloc (.cells #[.pointer (some ⟨tb, 0, none⟩)] 65)).alloc (.cells #[.pointer (some ⟨4, 65, none⟩), .pointer (some ⟨w.heap.size, 0, none⟩), .int .u64 150] 89)) := ((Below.refl _ _).alloc (Nat.le_refl _) _).alloc (by simp) _
  have C := as_any d v n old tb ⟨w.heap.size, 0, none⟩ ((w.alloc (.cells #[.pointer (some ⟨tb, 0, none⟩)] 65)).alloc (.cells #[.pointer (some ⟨4, 65, none⟩), .pointer (some ⟨w.heap.size, 0, none⟩), .int .u64 150] 89)) (ErrV.below hb1 d hv) (by simp) ((hb1.block tb htl).trans ht)
  have CC := Lib.hid C
  clear C
  obtain ⟨t, x, rfl⟩ := hv.form
  have HB := Lib.hid hb1
  clear hb1 ht hv hG
  go_enter Tryd.func19, Tryd.ntmps19
  go_wp2_with fail
  refine CC.out.mono ?_
  rintro e w' ⟨rfl, hg, hc⟩
  have HG := Lib.hid (grown_after_below HB.out hg)
  have HC := Lib.hid hc
  clear hg hc
  go_wp2
  go_ret
  exact ⟨rfl, HG.out, HC.out⟩

def Err (W : World) (v : Value) (n : Int) : Prop := (v = .nilIface ∧ n = 0) ∨ (1 ≤ n ∧ n ≤ 9 ∧ ∃ d, ErrV W d v n)
theorem Num_any (v : Value) (n : Int) (w : World) (hG : GErr w) (hv : Err w v n) :
    Calls Tryd.prog 13 #[v] w fun e w' => e = .returned (.int .i64 n) ∧ Below w.heap.size w w' := by
  rcases hv with ⟨rfl, rfl⟩ | ⟨h1, h2, d, hd⟩
  · go_enter Tryd.func13, Tryd.ntmps13
    go_wp2
    go_ret
    exact ⟨rfl, Below.refl _ _⟩
  · obtain ⟨t, x, rfl⟩ := hd.form
    have hb := (Below.refl w.heap.size w).alloc (Nat.le_refl _) (.cells #[.int .i64 0] 50)
    have C := As_any d (.iface t x) n 0 w.heap.size (w.alloc (.cells #[.int .i64 0] 50)) (GErr.below hG hb) (ErrV.below hb d hd) (heap_alloc_new w _)
    have CC := Lib.hid C
    have HB := Lib.hid hb
    clear C hd hG hb
    go_enter Tryd.func13, Tryd.ntmps13
    go_wp2_with fail
    refine CC.out.mono ?_
    rintro e w' ⟨rfl, hg, hc⟩
    have hcell : w'.cell? ⟨w.heap.size, 0, none⟩ = some (.int .i64 n) := (cell_of_row _ _ 0 _ _ _ hc).trans rfl
    have HG := Lib.hid hg
    clear hg hc
    go_wp2
    go_ret
    exact ⟨rfl, HB.out.grown HG.out (Nat.le_of_lt (by simp)) (by simp)⟩
end Dv
end
section
namespace Dv
open Go Go.RowKit Go.Proofs Go.Extern.Stop Go.Stop Go.Extern
theorem fail_At (L : ByteArray) (v : Value) (n : Int) (w : World) (h : Err w v n) : Calls Tryd.prog 12 #[.string L, v] w fun e w' => ∃ v', e = .returned v' ∧ Err w' v' n ∧ Below w.heap.size w w' := by
  rcases h with ⟨rfl, rfl⟩ | h
  · exact (at_nil L w).mono fun e w' ⟨h1, h2⟩ => ⟨_, h1, .inl ⟨rfl, rfl⟩, h2 ▸ Below.refl _ _⟩
  · exact (at_some L v n w h).mono fun e w' ⟨v', h1, h2, h3⟩ => ⟨v', h1, .inr h2, h3⟩
theorem Err.below {w W : World} {v : Value} {n : Int} (h : Err w v n) (hb : Below w.heap.size w W) : Err W v n := by
  rcases h with h | ⟨h1, h2, d, hd⟩
  · exact .inl h
  · exact .inr ⟨h1, h2, d, ErrV.below hb d hd⟩
theorem _root_.Go.RowKit.Below.then_ {w w1 w2 : World} (h : Below w.heap.size w w1) (k : Below w1.heap.size w1 w2) : Below w.heap.size w w2 :=
  h.trans ⟨k.os, k.tape, k.output, k.size, fun i hi => k.block i (Nat.lt_of_lt_of_le hi h.size)⟩
theorem Err.no (w : World) (n : Int) (h1 : 1 ≤ n) (h2 : n ≤ 9) : Err w (.iface 50 (.int .i64 n)) n := .inr ⟨h1, h2, 0, rfl⟩
end Dv
end
section
namespace Dv
open Go Go.RowKit Go.Proofs Go.Extern.Stop Go.Stop Go.Extern
def cmpF : Array Value → Sem Value := ReflectliteType.method fun t => do Rtype.noPackHeld "Comparable" t; pure (.bool (← typeInfo t).comparable)
theorem cmp144 (w : World) : (cmpF #[.agg #[.pointer (some ⟨4, 50, none⟩)]]).run Tryd.prog w = .ok (.bool true) w := by kernel_rfl
theorem methodComparable (h : Value) (w : World) : (Go.method 273 76 (.agg #[h]) "Comparable").run Tryd.prog w = .ok (90, .agg #[h]) w := by kernel_rfl
theorem noIs144 (v : Value) (xT : TypeId) (w : World) : (Instr.typeAssert (.iface 50 v) xT 78 true).run Tryd.prog w = .ok (.tuple #[.nilIface, .bool false]) w := run_typeAssert_lacksB Tryd.underlying78 (by kernel_rfl) (by kernel_rfl) v xT w
theorem noIs241 (v : Value) (xT : TypeId) (w : World) : (Instr.typeAssert (.iface 61 v) xT 78 true).run Tryd.prog w = .ok (.tuple #[.nilIface, .bool false]) w := run_typeAssert_lacksB Tryd.underlying78 (by kernel_rfl) (by kernel_rfl) v xT w
theorem noUnwrap144 (v : Value) (xT : TypeId) (w : World) : (Instr.typeAssert (.iface 50 v) xT 81 true).run Tryd.prog w = .ok (.tuple #[.nilIface, .bool false]) w := run_typeAssert_lacksB Tryd.underlying81 (by kernel_rfl) (by kernel_rfl) v xT w
theorem noUnwraps144 (v : Value) (xT : TypeId) (w : World) : (Instr.typeAssert (.iface 50 v) xT 83 true).run Tryd.prog w = .ok (.tuple #[.nilIface, .bool false]) w := run_typeAssert_lacksB Tryd.underlying83 (by kernel_rfl) (by kernel_rfl) v xT w
theorem eqNum (n m : Int) (w : World) : (binOp .eql 30 (.iface 50 (.int .i64 n)) (.iface 50 (.int .i64 m))).run Tryd.prog w = .ok (.bool (n == m)) w :=
  Go.Lib.run_eql_iface_int w n m Tryd.underlying30 (by kernel_rfl) Tryd.underlying50
theorem eqFault (v u : Value) (w : World) : (binOp .eql 30 (.iface 61 v) (.iface 50 u)).run Tryd.prog w = .ok (.bool false) w :=
  run_eql_iface_types 61 50 v u Tryd.underlying30 (by decide) w
set_option maxRecDepth 100000 in
set_option maxHeartbeats 4000000 in
theorem is_any (d : Nat) (v : Value) (n m : Int) (w : World) (hv : ErrV w d v n) :
    Calls Tryd.prog 18 #[v, .iface 50 (.int .i64 m), .bool true] w fun e w' => e = .returned (.bool (n == m)) ∧ w = w' := by
  have nA := noIs144
  have nB := noIs241
  have uA := noUnwrap144
  have uB := noUnwraps144
  have hU := hasUnwrap241
  have mU := methodUnwrap
  have eN := eqNum
  have eF := eqFault
  have HV := Lib.hid hv
  clear hv
  go_enter Tryd.func18, Tryd.ntmps18
  go_wp2
  go_loopg [0] (d + 1) (fun gk v0 wr => ∃ d', d' < gk ∧ ErrV wr d' v0 n ∧ wr = w)
  case atStart => exact ⟨d, by omega, HV.out, rfl⟩
  case round =>
    obtain ⟨d', hd', hv', rfl⟩ := hrel
    cases d' with
    | zero =>
      cases hv'
      cases hnm : (n == m)
      · go_wp2
        go_ret
        exact ⟨by rw [hnm]; rfl, rfl⟩
      · go_wp2
        go_ret
        exact ⟨by rw [hnm]; rfl, rfl⟩
    | succ d' =>
      obtain ⟨g, L, u, rfl, hg, hu⟩ := hv'
      obtain ⟨tu, xu, rfl⟩ := hu.form
      have hc : wr.cell? ⟨g, 1, none⟩ = some (.iface tu xu) := (cell_of_row _ g 1 _ _ _ hg).trans rfl
      have HU := Lib.hid hu
      clear hg hu
      go_wp2
      go_roundg (d' + 1)
      case rel => exact ⟨d', by omega, HU.out, rfl⟩
      case measure => omega
set_option maxRecDepth 100000 in
set_option maxHeartbeats 4000000 in
theorem Is_any (v : Value) (n m : Int) (w : World) (hv : Err w v n) (hm : 1 ≤ m) :
    Calls Tryd.prog 11 #[v, .iface 50 (.int .i64 m)] w fun e w' => e = .returned (.bool (n == m)) ∧ w = w' := by
  have h49 := @run_callFunc_extern Tryd.prog 17 _ ReflectliteType.typeOf Tryd.func17 (by kernel_rfl) (by kernel_rfl) (by kernel_rfl) (by kernel_rfl)
  have h97 := @run_callFunc_extern Tryd.prog 90 _ cmpF Tryd.func90 (by kernel_rfl) (by kernel_rfl) (by kernel_rfl) (by kernel_rfl)
  have tO := typeOf144
  have cC := cmp144
  have mC := methodComparable
  rcases hv with ⟨rfl, rfl⟩ | ⟨h1, h2, d, hd⟩
  · have e0 : ((0 : Int) == m) = false := by simp; omega
    have hn := run_eql_iface_nil_left (P := Tryd.prog) w 50 (.int .i64 m) Tryd.underlying30
    rw [e0]
    go_enter Tryd.func11, Tryd.ntmps11
    go_wp2
    go_ret
    exact ⟨rfl, rfl⟩
  · have C := Lib.hid (is_any d v n m w hd)
    obtain ⟨t, x, rfl⟩ := hd.form
    clear hd
    go_enter Tryd.func11, Tryd.ntmps11
    go_wp2_with fail
    refine C.out.mono ?_
    rintro e w' ⟨rfl, rfl⟩
    go_wp2
    go_ret
    exact ⟨rfl, rfl⟩
end Dv
end

import Derived.Test.YtaenlmjllmcamaaDoorKDvE1
import Derived.Test.YtaenlmjllmcamaaDoorKDvE2
import Derived.Deep.LoopGhost
namespace Dv
open Go Go.RowKit Go.Proofs Go.Extern.Stop Go.Stop Go.Extern
theorem noAs241 (v : Value) (xT : TypeId) (w : World) : (Instr.typeAssert (.iface 99 v) xT 156 true).run Tryd.prog w = .ok (.tuple #[.nilIface, .bool false]) w := run_typeAssert_lacksB Tryd.underlying156 (by kernel_rfl) (by kernel_rfl) v xT w
theorem hasUnwrap241 (v : Value) (xT : TypeId) (w : World) : (Instr.typeAssert (.iface 99 v) xT 138 true).run Tryd.prog w = .ok (.tuple #[.iface 99 v, .bool true]) w := run_typeAssert_hasB Tryd.underlying138 (by kernel_rfl) v xT w
theorem methodUnwrap (g : Addr) (w : World) : (Go.method 305 99 (.pointer (some g)) "Unwrap").run Tryd.prog w = .ok (126, .pointer (some g)) w := by kernel_rfl
set_option maxRecDepth 100000 in
set_option maxHeartbeats 4000000 in
theorem as_any (d : Nat) (v : Value) (n old : Int) (tb : Nat) (a : Addr) (w : World) (hv : ErrV w d v n) (ha : w.cell? a = some (.pointer (some ⟨tb, 0, none⟩))) (ht : w.heap[tb]? = some (.cells #[.int .i64 old] 77 (0, 0))) :
    Calls Tryd.prog 78 #[v, .iface 103 (.pointer (some ⟨tb, 0, none⟩)), .agg #[.pointer (some ⟨4, 103, none⟩), .pointer (some a), .int .u64 150], .iface 133 (.agg #[.pointer (some ⟨4, 77, none⟩)])] w fun e w' => e = .returned (.bool true) ∧ w.grownBy w' (some tb) ∧ w'.heap[tb]? = some (.cells #[.int .i64 n] 77 (0, 0)) := by
  have h211 := @run_callFunc_extern Tryd.prog 65 _ ReflectliteType.typeOf Tryd.func65 (by kernel_rfl) (by kernel_rfl) (by kernel_rfl) (by kernel_rfl)
  have h431 := @run_callFunc_extern Tryd.prog 131 _ (ReflectliteType.relation "AssignableTo" ReflectliteType.assignableTo) Tryd.func131 (by kernel_rfl) (by kernel_rfl) (by kernel_rfl) (by kernel_rfl)
  have h320 := @run_callFunc_extern Tryd.prog 89 _ (ReflectliteValue.method (ReflectliteValue.valueError "reflectlite.Value.Elem" 0) ReflectliteValue.elem) Tryd.func89 (by kernel_rfl) (by kernel_rfl) (by kernel_rfl) (by kernel_rfl)
  have h321 := @run_callFunc_extern Tryd.prog 90 _ ReflectliteValue.set Tryd.func90 (by kernel_rfl) (by kernel_rfl) (by kernel_rfl) (by kernel_rfl)
  have h252 := @run_callFunc_extern Tryd.prog 75 _ (fun args => ReflectliteValue.unpack (args.getD 0 (.tuple #[]))) Tryd.func75 (by kernel_rfl) (by kernel_rfl) (by kernel_rfl) (by kernel_rfl)
  have tO := typeOf144
  have tP := typeOf241
  have mA := methodAssignableTo
  have aA := assignable144
  have aB := assignable241
  have vO := valueOf144
  have nA := noAs241
  have mU := methodUnwrap
  have hU := hasUnwrap241
  have hlt : a.block < w.heap.size := World.block_lt_of_cell? w a ha
  have htl : tb < w.heap.size := (Array.getElem?_eq_some_iff.1 ht).1
  have HV := Lib.hid hv
  clear hv
  have HT := Lib.hid ht
  clear ht
  go_enter Tryd.func78, Tryd.ntmps78
  go_wp2
  obtain ⟨W0, hW0⟩ : ∃ W0, W0 = w.alloc (.cells #[.pointer (some ⟨4, 103, none⟩), .pointer (some a), .int .u64 150] 124) := ⟨_, rfl⟩
  go_loopg [0] (d + 1) (fun gk v0 wr => ∃ d', d' < gk ∧ ErrV wr d' v0 n ∧ wr = w.alloc (.cells #[.pointer (some ⟨4, 103, none⟩), .pointer (some a), .int .u64 150] 124))
  case atStart => exact ⟨d, by omega, ErrV.below ((Below.refl _ _).alloc (Nat.le_refl _) _) d HV.out, rfl⟩
  case round =>
    obtain ⟨d', hd', hv', rfl⟩ := hrel
    clear hW0
    cases d' with
    | zero =>
      cases hv'
      have el := elemV250 a ⟨tb, 0, none⟩ (w.alloc (.cells #[.pointer (some ⟨4, 103, none⟩), .pointer (some a), .int .u64 150] 124)) (by rw [World.cell?_alloc_lt _ _ _ hlt]; exact ha)
      have st := set144 ⟨tb, 0, none⟩ ⟨w.heap.size + 1, 0, none⟩ n (.int .i64 old) ((w.alloc (.cells #[.pointer (some ⟨4, 103, none⟩), .pointer (some a), .int .u64 150] 124)).alloc (.cells #[.int .i64 n] 77)) (by rw [World.cell?_alloc_at _ _ _ _ (by simp)]; rfl) (by rw [World.cell?_alloc_lt _ _ _ (by simp; omega), World.cell?_alloc_lt _ _ _ htl]; exact cell_of_row w tb 0 _ _ _ HT.out) (by rw [World.frozen?_alloc_old _ _ _ (by simp; omega), World.frozen?_alloc_old _ _ _ (Nat.ne_of_lt htl)]; have := HT.out; simp [World.frozen?, this])
      go_wp2
      go_ret
      refine ⟨rfl, ⟨rfl, rfl, rfl, by simp [World.setCell, World.alloc]; omega, fun i hi hne => ?_⟩, ?_⟩
      · rw [Below.heap_alloc _ _ i (by simp [World.setCell, World.alloc]; omega), Below.heap_alloc _ _ i (by simp [World.setCell]; omega)]
        exact Below.heap_setCell w _ _ i (fun e => hne (by rw [e]))
      · rw [Below.heap_alloc _ _ tb (by simp [World.setCell, World.alloc]; omega), Below.heap_alloc _ _ tb (by simp [World.setCell]; omega)]
        have := HT.out
        simp [World.setCell, Array.getElem?_modify, this]
    | succ d' =>
      obtain ⟨g, L, u, rfl, hg, hu⟩ := hv'
      obtain ⟨tu, xu, rfl⟩ := hu.form
      have hc : (w.alloc (.cells #[.pointer (some ⟨4, 103, none⟩), .pointer (some a), .int .u64 150] 124)).cell? ⟨g, 1, none⟩ = some (.iface tu xu) := (cell_of_row _ g 1 _ _ _ hg).trans rfl
      have HU := Lib.hid hu
      clear hg hu
      go_wp2
      go_roundg (d' + 1)
      case rel => exact ⟨d', by omega, HU.out, rfl⟩
      case measure => omega
end Dv

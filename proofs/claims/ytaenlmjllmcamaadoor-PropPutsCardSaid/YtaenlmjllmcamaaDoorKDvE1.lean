import Derived.Test.YtaenlmjllmcamaaDoorProg
import Derived.WalkKit
import Derived.WalkSpells
import Derived.LaidEql
import Derived.Outline
import Derived.Lib.Hide
import Derived.KernelRfl
namespace Dv
open Go Go.RowKit Go.Proofs
set_option linter.unusedVariables false

def ErrV (W : World) : Nat → Value → Int → Prop
  | 0, v, n => v = .iface 77 (.int .i64 n)
  | d + 1, v, n => ∃ g L u, v = .iface 99 (.pointer (some ⟨g, 0, none⟩)) ∧ W.heap[g]? = some (.cells #[.string L, u] 101 (0, 0)) ∧ ErrV W d u n
def ErrN (W : World) (v : Value) (n : Int) : Prop := 1 ≤ n ∧ n ≤ 9 ∧ ∃ d, ErrV W d v n
theorem ErrV.below {w W : World} (hb : Below w.heap.size w W) : ∀ (d : Nat) {v : Value} {n : Int}, ErrV w d v n → ErrV W d v n
  | 0, _, _, h => h
  | d + 1, _, _, ⟨g, L, u, e, hg, hu⟩ => ⟨g, L, u, e, (hb.block g (Array.getElem?_eq_some_iff.1 hg).1).trans hg, ErrV.below hb d hu⟩

theorem ErrV.form {W : World} {d : Nat} {v : Value} {n : Int} (h : ErrV W d v n) : ∃ t x, v = .iface t x := by
  cases d with
  | zero => exact ⟨_, _, h⟩
  | succ d => obtain ⟨g, L, u, e, _⟩ := h; exact ⟨_, _, e⟩
theorem at_nil (L : ByteArray) (w : World) : Calls Tryd.prog 37 #[.string L, .nilIface] w fun e w' => e = .returned .nilIface ∧ w = w' := by
  go_enter Tryd.func37, Tryd.ntmps37
  go_wp2
  go_ret
  exact ⟨rfl, rfl⟩
theorem at_some (L : ByteArray) (v : Value) (n : Int) (w : World) (h : ErrN w v n) : Calls Tryd.prog 37 #[.string L, v] w fun e w' => ∃ v', e = .returned v' ∧ ErrN w' v' n ∧ Below w.heap.size w w' := by
  obtain ⟨h1, h2, d, hd⟩ := h
  have hv : ∃ t x, v = .iface t x := by
    cases d with
    | zero => exact ⟨_, _, hd⟩
    | succ d => obtain ⟨g, L, u, e, _⟩ := hd; exact ⟨_, _, e⟩
  obtain ⟨t, x, rfl⟩ := hv
  have H := Lib.hid hd
  clear hd
  go_enter Tryd.func37, Tryd.ntmps37
  go_wp2
  go_ret
  exact ⟨_, rfl, ⟨h1, h2, d + 1, _, _, _, rfl, heap_alloc_new w _, ErrV.below (Below.alloc (Below.refl _ _) (Nat.le_refl _) _) d H.out⟩, (Below.refl _ _).alloc (Nat.le_refl _) _⟩
end Dv

import Derived.Test.YtondmmoabmhpfaaDoorMG6
import Derived.Test.YtondmmoabmhpfaaDoorMG11
import Derived.Test.YtondmmoabmhpfaaDoorMV2
import Derived.Test.YtondmmoabmhpfaaDoorMQ7
import Derived.Test.YtondmmoabmhpfaaDoorMQ6
import Derived.Outline
import Derived.Deep.DeepMust
set_option linter.unusedVariables false
set_option linter.unusedSimpArgs false
namespace Go.Proofs.YtondmmoabmhpfaaDoor.Q
open Go.RowKit Go.Proofs.YtondmmoabmhpfaaDoorW.PrintWords Go.Proofs.YtondmmoabmhpfaaDoorW.PrintLast Go.Proofs.YtondmmoabmhpfaaDoorW.PrintMore
structure Qb (w W : World) (g : Nat) (A0 : Option Addr) (n0 c0 : Nat) (P : Int) (A2 : Option Addr) (n2 c2 : Nat) : Prop where
  below : Below w.heap.size w W
  row : W.heap[g]? = some (.cells #[.slice A0 n0 c0, .int .i64 P, .slice A2 n2 c2] 37 (0, 0))
theorem Qb.after {w W W1 : World} {g : Nat} {A0 : Option Addr} {n0 c0 : Nat} {P : Int} {A2 : Option Addr} {n2 c2 : Nat} (h : Qb w W g A0 n0 c0 P A2 n2 c2) (hb : Below W.heap.size W W1) : Qb w W1 g A0 n0 c0 P A2 n2 c2 := ⟨h.below.then_ hb, (hb.block g (Array.getElem?_eq_some_iff.1 h.row).1).trans h.row⟩
theorem Qb.facts {w W : World} {g : Nat} {A0 : Option Addr} {n0 c0 : Nat} {P : Int} {A2 : Option Addr} {n2 c2 : Nat} (h : Qb w W g A0 n0 c0 P A2 n2 c2) : W.cell? ⟨g, 0, none⟩ = some (.slice A0 n0 c0) ∧ W.cell? ⟨g, 1, none⟩ = some (.int .i64 P) ∧ W.cell? ⟨g, 2, none⟩ = some (.slice A2 n2 c2) :=
  ⟨(cell_of_row _ _ 0 _ _ _ h.row).trans rfl, (cell_of_row _ _ 1 _ _ _ h.row).trans rfl, (cell_of_row _ _ 2 _ _ _ h.row).trans rfl⟩
theorem CopyBytes_l0 (l : List Int) (hl : l.length ≤ 1000000000) : ∀ (d k i : Nat), i + d = l.length → d < k → dovecoteref0_CopyBytes.l0 k l (l.take i) i = some l
  | 0, k + 1, i, h, hk => by rw [dovecoteref0_CopyBytes.l0, if_neg (by omega), List.take_of_length_le (by omega)]
  | d + 1, k + 1, i, h, hk => by
    rw [dovecoteref0_CopyBytes.l0, if_pos (by omega), if_pos (by omega), if_pos (by rw [List.length_take]; omega), show wrap64 ((i : Int) + 1) = ((i + 1 : Nat) : Int) by unfold wrap64; omega]
    rw [show l.take i ++ [rd l (i : Int)] = l.take (i + 1) by
      rw [List.take_succ_eq_append_getElem (by omega)]; unfold rd; rw [Int.toNat_natCast, List.getD_eq_getElem?_getD, List.getElem?_eq_getElem (by omega)]; rfl]
    exact CopyBytes_l0 l hl d k (i + 1) (by omega) (by omega)
theorem CopyBytes_f (l : List Int) (hl : l.length ≤ 1000000000) : dovecoteref0_CopyBytes.f (l.length + 1) l = some l :=
  CopyBytes_l0 l hl l.length _ 0 (by omega) (Nat.lt_succ_self _)
end Go.Proofs.YtondmmoabmhpfaaDoor.Q

import Derived.Test.YtondmmoabmhpfaaDoorMG8
import Derived.Test.YtondmmoabmhpfaaDoorMQ2
import Derived.Test.YtondmmoabmhpfaaDoorMQ10
import Derived.Outline
import Derived.Deep.DeepMust
import Derived.Deep.RegionHeld3
set_option linter.unusedVariables false
set_option linter.unusedSimpArgs false
namespace Go.Proofs.YtondmmoabmhpfaaDoor.Q
open Go.RowKit Go.Proofs.YtondmmoabmhpfaaDoorW.PrintWords Go.Proofs.YtondmmoabmhpfaaDoorW.PrintLast Go.Proofs.YtondmmoabmhpfaaDoorW.PrintMore
theorem Row.below {W W1 : World} {b : Nat} {i j : Int} {s t : ByteArray} (h : Row W b i j s t) (hb : Below W.heap.size W W1) : Row W1 b i j s t := (hb.block b (Array.getElem?_eq_some_iff.1 h).1).trans h
theorem Row.far {W : World} {b : Nat} {i j : Int} {s t : ByteArray} (h : Row W b i j s t) {b' : Nat} (hne : b ≠ b') (k : Nat) (u : Value) : Row (W.setCell ⟨b', k, none⟩ u) b i j s t := (Below.heap_setCell W ⟨b', k, none⟩ u b hne).trans h
theorem Row.lt {W : World} {b : Nat} {i j : Int} {s t : ByteArray} (h : Row W b i j s t) : b < W.heap.size := (Array.getElem?_eq_some_iff.1 h).1
structure Two (w W : World) (b : Nat) (i j : Int) (s t : ByteArray) : Prop where
  below : Below w.heap.size w W
  out : Row W w.heap.size 0 0 ⟨#[]⟩ ⟨#[]⟩
  row : Row W b i j s t
  ne : w.heap.size < b
theorem Two.after {w W W1 : World} {b : Nat} {i j : Int} {s t : ByteArray} (h : Two w W b i j s t) (hb : Below W.heap.size W W1) : Two w W1 b i j s t := ⟨h.below.then_ hb, h.out.below hb, h.row.below hb, h.ne⟩
theorem Two.set1 {w W : World} {b : Nat} {i j : Int} {s t : ByteArray} (h : Two w W b i j s t) (u : Int) : Two w (W.setCell ⟨b, 1, none⟩ (.int .i64 u)) b i u s t := ⟨h.below.setCell (Nat.le_of_lt h.ne) _, h.out.far (Nat.ne_of_lt h.ne) _ _, h.row.set1 u, h.ne⟩
theorem Two.set2 {w W : World} {b : Nat} {i j : Int} {s t : ByteArray} (h : Two w W b i j s t) (u : ByteArray) : Two w (W.setCell ⟨b, 2, none⟩ (.string u)) b i j u t := ⟨h.below.setCell (Nat.le_of_lt h.ne) _, h.out.far (Nat.ne_of_lt h.ne) _ _, h.row.set2 u, h.ne⟩
theorem Two.set3 {w W : World} {b : Nat} {i j : Int} {s t : ByteArray} (h : Two w W b i j s t) (u : ByteArray) : Two w (W.setCell ⟨b, 3, none⟩ (.string u)) b i j s u := ⟨h.below.setCell (Nat.le_of_lt h.ne) _, h.out.far (Nat.ne_of_lt h.ne) _ _, h.row.set3 u, h.ne⟩
end Go.Proofs.YtondmmoabmhpfaaDoor.Q

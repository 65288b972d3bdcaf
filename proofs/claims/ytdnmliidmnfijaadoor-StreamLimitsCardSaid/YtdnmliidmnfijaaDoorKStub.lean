import Derived.Test.YtdnmliidmnfijaaDoorKDvS1
namespace Go.Proofs.YtdnmliidmnfijaaDoor.Q
open Go.RowKit Go.Proofs.YtdnmliidmnfijaaDoorW.PrintWords Go.Proofs.YtdnmliidmnfijaaDoorW.PrintLast Go.Proofs.YtdnmliidmnfijaaDoorW.PrintMore
def byteOk (x : Int) : Prop := 0 ≤ x ∧ x ≤ 255
instance (x : Int) : Decidable (byteOk x) := by unfold byteOk; infer_instance
def getBin (l : List Int) : ByteArray × Int × Int :=
  if l.length < 2 then (⟨#[]⟩, 0, 3) else if (l.length : Int) < 2 + (rd l 0 * 256 + rd l 1) then (⟨#[]⟩, 0, 3) else (strOfNums ((l.take (2 + (rd l 0 * 256 + rd l 1)).toNat).drop 2), 2 + (rd l 0 * 256 + rd l 1), 0)
theorem i64_or256 {x y : Int} (hx₀ : 0 ≤ x) (hx : x < 4294967296) (h₀ : 0 ≤ y) (h₁ : y < 256) : Go.bits .or .i64 (x * 256) y = x * 256 + y :=
  bits_join .i64 63 (by decide) R.wraps_i64 8 (x * 256) y (by omega) (by omega) (by omega) h₀ (by omega) (by omega)
def bok (l : List Int) : Prop := ∀ x ∈ l, byteOk x
instance (l : List Int) : Decidable (bok l) := by unfold bok; infer_instance
theorem bok_rd {l : List Int} (h : bok l) (i : Int) (h0 : 0 ≤ i) (h1 : i < l.length) : byteOk (rd l i) := by
  unfold rd
  rw [List.getD_eq_getElem?_getD, List.getElem?_eq_getElem (by omega)]
  exact h _ (List.getElem_mem _)
def dovecoteref1_GetBin.f (l : List Int) : Option (ByteArray × Int × Int) := if bok l then some (getBin l) else none
def getText (l : List Int) : ByteArray × Int × Int := if (getBin l).2.2 = 0 then (if Dv.utf (getBin l).1.data.toList then getBin l else (⟨#[]⟩, 0, 1)) else getBin l

theorem strOfNums_size (l : List Int) : (strOfNums l).size = l.length := by simp [strOfNums, ByteArray.size]
theorem getBin_size (l : List Int) (h : bok l) : (getBin l).1.size ≤ 65535 := by
  unfold getBin
  split
  · simp [ByteArray.size]
  · rename_i h2
    have h0 := bok_rd h 0 (by omega) (by omega)
    have h1 := bok_rd h 1 (by omega) (by omega)
    unfold byteOk at h0 h1
    split
    · simp [ByteArray.size]
    · simp only [strOfNums_size, List.length_drop, List.length_take]; omega
def dovecoteref1_GetText.f (l : List Int) : Option (ByteArray × Int × Int) := if bok l then some (getText l) else none
end Go.Proofs.YtdnmliidmnfijaaDoor.Q

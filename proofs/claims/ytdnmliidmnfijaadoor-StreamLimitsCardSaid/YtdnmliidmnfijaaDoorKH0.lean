import Derived.Test.YtdnmliidmnfijaaDoorKG0
set_option linter.unusedVariables false
set_option linter.unusedSimpArgs false
namespace Go.Proofs.YtdnmliidmnfijaaDoor.Q
open Go.RowKit Go.Proofs.YtdnmliidmnfijaaDoorW.PrintWords Go.Proofs.YtdnmliidmnfijaaDoorW.PrintLast Go.Proofs.YtdnmliidmnfijaaDoorW.PrintMore
structure RS where
  l : List Int
  e : Int
def RS.must (s : RS) (so : Bool) : RS := if s.e = 0 ∧ so = false then ⟨s.l, 1⟩ else s
def rStr (g : List Int → ByteArray × Int × Int) (s : RS) : ByteArray × RS := if s.e ≠ 0 then (⟨#[]⟩, s) else ((g s.l).1, ⟨s.l.drop (g s.l).2.1.toNat, (g s.l).2.2⟩)
def rProps (pl : Int) (s : RS) : List S112 × RS := if s.e ≠ 0 then ([], s) else ((get3 s.l pl).1, ⟨s.l.drop (get3 s.l pl).2.1.toNat, (get3 s.l pl).2.2⟩)
def RS.ok (s : RS) : Prop := bok s.l ∧ 0 ≤ s.e
theorem rStr_len (g : List Int → ByteArray × Int × Int) (s : RS) : (rStr g s).2.l.length ≤ s.l.length := by
  unfold rStr
  split
  · exact Nat.le_refl _
  · simp
theorem rText_ok {s : RS} (h : s.ok) : (rStr getText s).2.ok := by
  unfold rStr
  split
  · exact h
  · exact ⟨bok_drop h.1 _, show 0 ≤ (getText s.l).2.2 by rcases getText_good s.l h.1 with g | g <;> omega⟩
end Go.Proofs.YtdnmliidmnfijaaDoor.Q

import Derived.Test.YtdnmliidmnfijaaDoorKH1
set_option linter.unusedVariables false
set_option linter.unusedSimpArgs false
namespace Go.Proofs.YtdnmliidmnfijaaDoor.Q
open Go.RowKit Go.Proofs.YtdnmliidmnfijaaDoorW.PrintWords Go.Proofs.YtdnmliidmnfijaaDoorW.PrintLast Go.Proofs.YtdnmliidmnfijaaDoorW.PrintMore
theorem cutN (A : Option Addr) (c : Nat) (q : List Int) (w0 : World) (hc : q.length ≤ c) (hr : Kd.C (Kd.int .u8) w0 A q.length q) (n : Int) (h0 : 0 ≤ n) (hn : n ≤ q.length) :
    ∃ A', (∀ W : World, (Instr.slice 25 (.slice A q.length c) (some (.int .i64 n)) none none).run Tryd.prog W = .ok (.slice A' (q.drop n.toNat).length (c - n.toNat)) W) ∧ Kd.C (Kd.int .u8) w0 A' (q.drop n.toNat).length (q.drop n.toNat) ∧ (q.drop n.toNat).length ≤ c - n.toNat := by
  obtain ⟨i0, hi, _, hsz, _⟩ := info_parts qinfo5
  obtain ⟨A', h1, h2, h3⟩ := print_drop_of (P := Tryd.prog) (Value.int .u8) 0 25 5 .i64 Tryd.underlying25 hi hsz A c q n h0 (by omega) hc
  exact ⟨A', h1, Kd.C_of_reads (h1 := fun _ => rfl) (h2 _ (Kd.reads_of_C hr)), h3⟩
end Go.Proofs.YtdnmliidmnfijaaDoor.Q

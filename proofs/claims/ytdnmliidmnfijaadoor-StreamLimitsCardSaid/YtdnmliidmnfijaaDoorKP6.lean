import Derived.Test.YtdnmliidmnfijaaDoorKP5
import Derived.Test.YtdnmliidmnfijaaDoorKT1
import Derived.Outline
namespace Go.Proofs.YtdnmliidmnfijaaDoor.Q
open Go.RowKit Go.Proofs.YtdnmliidmnfijaaDoorW.PrintWords Go.Proofs.YtdnmliidmnfijaaDoorW.PrintLast Go.Proofs.YtdnmliidmnfijaaDoorW.PrintMore
set_option maxHeartbeats 1000000 in
theorem prop_Check (A : Option Addr) (c : Nat) (l : List S112) (pl : Int) (w : World) (hr : Kd.C k112 w A l.length l) (hsz : ∀ p ∈ l, p.f2.size ≤ 140737488351232 ∧ p.f3.size ≤ 140737488351232) (hT : Dv.GTab w) :
    Calls Tryd.prog 52 #[.slice A l.length c, .int .i64 pl] w fun e w' => ∃ v, e = .returned v ∧ Dv.Err w' v (chk3 l pl) ∧ Below w.heap.size w w' := by
  have C := Lib.hid (prop_ask A c l pl w hr hsz hT)
  have hm := hr.2.1
  clear hr hsz hT
  generalize chk3 l pl = r at *
  go_enter Tryd.func52, Tryd.ntmps52
  go_wp2_with (first | (go_at_call 58; refine C.out.mono ?_; rintro e w1 ⟨v, rfl, he, hb⟩) | (go_at_call 12; refine (Dv.fail_At _ _ _ _ he).mono ?_; rintro e w2 ⟨v2, rfl, he2, hb2⟩))
  go_ret
  exact ⟨_, rfl, he2, hb.then_ hb2⟩
end Go.Proofs.YtdnmliidmnfijaaDoor.Q

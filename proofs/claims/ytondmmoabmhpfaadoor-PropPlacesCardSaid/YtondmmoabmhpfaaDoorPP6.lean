import Derived.Test.YtondmmoabmhpfaaDoorPP5
import Derived.Test.YtondmmoabmhpfaaDoorPT1
import Derived.Test.YtondmmoabmhpfaaDoorPQ10
import Derived.Outline
namespace Go.Proofs.YtondmmoabmhpfaaDoor.Q
open Go.RowKit Go.Proofs.YtondmmoabmhpfaaDoorW.PrintWords Go.Proofs.YtondmmoabmhpfaaDoorW.PrintLast Go.Proofs.YtondmmoabmhpfaaDoorW.PrintMore
set_option maxHeartbeats 1000000 in
theorem prop_Check (A : Option Addr) (c : Nat) (l : List S24) (pl : Int) (w : World) (hr : Kd.C k24 w A l.length l) (hsz : ∀ p ∈ l, p.f2.size ≤ 140737488351232 ∧ p.f3.size ≤ 140737488351232) (hT : Dv.GTab w) :
    Calls Tryd.prog 9 #[.slice A l.length c, .int .i64 pl] w fun e w' => ∃ v, e = .returned v ∧ Dv.Err w' v (chk3 l pl) ∧ Below w.heap.size w w' := by
  have C := Lib.hid (prop_ask A c l pl w hr hsz hT)
  have hm := hr.2.1
  clear hr hsz hT
  generalize chk3 l pl = r at *
  go_enter Tryd.func9, Tryd.ntmps9
  go_wp2_with (first | (go_at_call 23; refine C.out.mono ?_; rintro e w1 ⟨v, rfl, he, hb⟩) | (go_at_call 22; refine (Dv.fail_At _ _ _ _ he).mono ?_; rintro e w2 ⟨v2, rfl, he2, hb2⟩))
  go_ret
  exact ⟨_, rfl, he2, hb.then_ hb2⟩
theorem put_f (s : ByteArray) (hs : s.size ≤ 65535) : text_put.f s = some (bin s) := by
  unfold text_put.f bin
  simp only [Option.bind_some]
  rw [if_pos (by simp; omega)]
theorem PutBin_ok (s : ByteArray) (w : World) (hs : s.size ≤ 65535) : Calls Tryd.prog 41 #[.string s] w fun e w' => ∃ v, e = .returned (.tuple #[v, .nilIface]) ∧ Kd.R (Kd.int .u8) 5 w' w.heap.size (fun _ => True) v (bin s) ∧ Below w.heap.size w w' := by
  have C := fun w => Lib.hid (text_put.calls s (bin s) w (put_f s hs))
  have d1 : decide ((65535 : Int) < (s.size : Int)) = false := decide_eq_false (by omega)
  have d2 : decide (65535 < s.size) = false := decide_eq_false (by omega)
  clear hs
  go_enter Tryd.func41, Tryd.ntmps41
  go_wp2_with (go_at_call 62; refine (C _).out.mono ?_; rintro e w1 ⟨v, rfl, ho, hb⟩; have HO := Lib.hid ho; have HB := Lib.hid hb; clear ho hb)
  go_ret2
  exact ⟨_, rfl, HO.out, HB.out⟩
theorem Put_ok (s : ByteArray) (w : World) (hc : Dv.chk s = 0) (hT : Dv.GTab w) : Calls Tryd.prog 40 #[.string s] w fun e w' => ∃ v, e = .returned (.tuple #[v, .nilIface]) ∧ Kd.R (Kd.int .u8) 5 w' w.heap.size (fun _ => True) v (bin s) ∧ Below w.heap.size w w' := by
  have hs := chk_size hc
  have C := fun w => Lib.hid (text_put.calls s (bin s) w (put_f s hs))
  have K := Lib.hid (Check_ok s w (by omega) hT hc)
  clear hs hc hT
  go_enter Tryd.func40, Tryd.ntmps40
  go_wp2_with (first | (go_at_call 58; refine K.out.mono ?_; rintro e w0 ⟨rfl, hb0⟩; have HB0 := Lib.hid hb0; clear hb0) | (go_at_call 62; refine (C _).out.mono ?_; rintro e w1 ⟨v, rfl, ho, hb⟩; have HO := Lib.hid ho; have HB := Lib.hid hb; clear ho hb))
  go_ret2
  exact ⟨_, rfl, Kd.R_lower HO.out HB0.out.size, HB0.out.then_ HB.out⟩
end Go.Proofs.YtondmmoabmhpfaaDoor.Q

import Derived.Test.YtdnmliidmnfijaaDoorKQ6
import Derived.Test.YtdnmliidmnfijaaDoorKT1
import Derived.Test.YtdnmliidmnfijaaDoorKDvE
import Derived.Test.YtdnmliidmnfijaaDoorKDvVar
import Derived.Outline
set_option linter.unusedVariables false
set_option linter.unusedSimpArgs false
namespace Go.Proofs.YtdnmliidmnfijaaDoor.Q
open Go.RowKit Go.Proofs.YtdnmliidmnfijaaDoorW.PrintWords Go.Proofs.YtdnmliidmnfijaaDoorW.PrintLast Go.Proofs.YtdnmliidmnfijaaDoorW.PrintMore
set_option maxRecDepth 100000 in
set_option maxHeartbeats 2000000 in
theorem vget_e (A : Option Addr) (c : Nat) (l : List Int) (n : Int) (w : World) (hr : Kd.C (Kd.int .u8) w A l.length l) (hc : l.length ≤ c) (hw : varint_whole.f 5 l = some (0, some n)) (h1 : 1 ≤ n) (h2 : n ≤ 9) :
    Calls Tryd.prog 22 #[.slice A l.length c] w fun e w' => ∃ v, e = .returned (.tuple #[.int .i64 0, .int .i64 0, v]) ∧ Dv.Err w' v n ∧ Below w.heap.size w w' := by
  have C0 := varint_whole.calls 5 A c l 0 (some n) w hr hc hw
  rw [errW_some] at C0
  have C := Lib.hid C0
  clear C0
  have HN := fun w => Lib.hid (Dv.Err.no w n h1 h2)
  have hm := hr.2.1
  clear hr hc hw h1 h2
  go_enter Tryd.func22, Tryd.ntmps22
  go_wp2_with (first | (go_at_call 33; refine C.out.mono ?_; rintro e w1 ⟨rfl, hd⟩; have HD := Lib.hid hd.below; clear hd) | (go_at_call 12; refine (Dv.fail_At _ _ _ _ (HN _).out).mono ?_; rintro e w2 ⟨v, rfl, he, hb⟩; have HE := Lib.hid he; have HB := Lib.hid hb; clear he hb))
  go_ret3
  exact ⟨v, rfl, HE.out, HD.out.then_ HB.out⟩
theorem or0 {y : Int} (h0 : 0 ≤ y) (h : y < 4294967296) : Go.bits .or .i64 0 y = y := by
  have := bits_join .i64 63 (by decide) R.wraps_i64 40 0 y (by omega) (by omega) (by omega) h0 (by omega) (by omega)
  simpa using this
theorem w64 {y : Int} (h0 : 0 ≤ y) (h : y < 4294967296) : wrap64 y = y := by unfold wrap64; omega
theorem vexp1 {b0 : Int}  (h0 : 0 ≤ b0 ∧ b0 < 128) : (Go.bits .or .i64 0 (wrap64 (Go.bits .and .u8 b0 127))) = b0 := by
  rw [and127 b0 (by omega) (by omega)]
  rw [w64 (y := b0 % 128) (by omega) (by omega)]
  rw [or0 (y := b0 % 128) (by omega) (by omega)]
  omega
set_option maxRecDepth 100000 in
set_option maxHeartbeats 2000000 in
theorem vget_1 (A : Option Addr) (c : Nat) (l : List Int) (w : World) (hr : Kd.C (Kd.int .u8) w A l.length l) (hc : l.length ≤ c) (hw : varint_whole.f 5 l = some (1, none)) (hl : 1 ≤ l.length) (b0 : Int) (e0 : rd l 0 = b0)  (h0 : 0 ≤ b0 ∧ b0 < 128) :
    Calls Tryd.prog 22 #[.slice A l.length c] w fun e w' => ∃ v, e = .returned (.tuple #[.int .i64 (b0), .int .i64 1, v]) ∧ Dv.Err w' v 0 ∧ Below w.heap.size w w' := by
  have C0 := varint_whole.calls 5 A c l 1 none w hr hc hw
  rw [errW_none] at C0
  have C := Lib.hid C0
  clear C0
  obtain ⟨ad0, ea0, hc0⟩ := Kd.at_int hr 0 (by omega) (by omega)
  cases ea0
  have hm := hr.2.1
  rw [show (0 : Int).toNat = 0 from rfl, Addr.add_zero', e0] at hc0
  have q0 : (0 < l.length) = True := eq_true (by omega)
  have q0i : ((0 : Int) < (l.length : Int)) = True := eq_true (by omega)
  clear hr hc hw hl e0
  have HV := Lib.hid (vexp1  h0)
  clear h0
  go_enter Tryd.func22, Tryd.ntmps22
  go_wp2_with (first | (go_at_call 33; refine C.out.mono ?_; rintro e w1 ⟨rfl, hd⟩; obtain ⟨nd, rfl⟩ := hd))
  go_ret3
  refine ⟨.nilIface, ?_, .inl ⟨rfl, rfl⟩, Drawn0.below ⟨⟨nd, rfl⟩⟩⟩
  show Ending.returned (.tuple #[.int .i64 (Go.bits .or .i64 0 (wrap64 (Go.bits .and .u8 b0 127))), .int .i64 1, .nilIface]) = _
  rw [HV.out]
theorem vexp2 {b0 b1 : Int} (h0 : 0 ≤ b0 ∧ b0 ≤ 255) (h1 : 0 ≤ b1 ∧ b1 < 128) : (Go.bits .or .i64 (Go.bits .or .i64 0 (wrap64 ((wrap64 (Go.bits .and .u8 b1 127)) * 128))) (wrap64 (Go.bits .and .u8 b0 127))) = b0 % 128 + b1 * 128 := by
  rw [and127 b0 (by omega) (by omega), and127 b1 (by omega) (by omega)]
  rw [w64 (y := b0 % 128) (by omega) (by omega), w64 (y := b1 % 128) (by omega) (by omega)]
  rw [w64 (y := b1 % 128 * 128) (by omega) (by omega)]
  rw [or0 (y := b1 % 128 * 128) (by omega) (by omega)]
  rw [bits_join .i64 63 (by decide) R.wraps_i64 7 (b1 % 128 * 128) (b0 % 128) (by omega) (by omega) (by omega) (by omega) (by omega) (by omega)]
  omega
set_option maxRecDepth 100000 in
set_option maxHeartbeats 2000000 in
theorem vget_2 (A : Option Addr) (c : Nat) (l : List Int) (w : World) (hr : Kd.C (Kd.int .u8) w A l.length l) (hc : l.length ≤ c) (hw : varint_whole.f 5 l = some (2, none)) (hl : 2 ≤ l.length) (b0 b1 : Int) (e0 : rd l 0 = b0) (e1 : rd l 1 = b1) (h0 : 0 ≤ b0 ∧ b0 ≤ 255) (h1 : 0 < b1 ∧ b1 < 128) :
    Calls Tryd.prog 22 #[.slice A l.length c] w fun e w' => ∃ v, e = .returned (.tuple #[.int .i64 (b0 % 128 + b1 * 128), .int .i64 2, v]) ∧ Dv.Err w' v 0 ∧ Below w.heap.size w w' := by
  have C0 := varint_whole.calls 5 A c l 2 none w hr hc hw
  rw [errW_none] at C0
  have C := Lib.hid C0
  clear C0
  obtain ⟨ad0, ea0, hc0⟩ := Kd.at_int hr 0 (by omega) (by omega)
  obtain ⟨ad1, ea1, hc1⟩ := Kd.at_int hr 1 (by omega) (by omega)
  cases ea0
  cases ea1
  have hm := hr.2.1
  rw [show (0 : Int).toNat = 0 from rfl, Addr.add_zero', e0] at hc0
  rw [show (1 : Int).toNat = 1 from rfl, e1] at hc1
  have hc1' : w.cell? { block := ad0.block, off := ad0.off + 1 } = some (.int .u8 b1) := by simpa [Addr.add] using hc1
  have q0 : (0 < l.length) = True := eq_true (by omega)
  have q0i : ((0 : Int) < (l.length : Int)) = True := eq_true (by omega)
  have q1 : (1 < l.length) = True := eq_true (by omega)
  have q1i : ((1 : Int) < (l.length : Int)) = True := eq_true (by omega)
  clear hc1
  have d1 : (b1 == 0) = false := by simp; omega
  clear hr hc hw hl e0 e1
  have HV := Lib.hid (vexp2 h0 ⟨by omega, h1.2⟩)
  clear h0 h1
  go_enter Tryd.func22, Tryd.ntmps22
  go_wp2_with (first | (go_at_call 33; refine C.out.mono ?_; rintro e w1 ⟨rfl, hd⟩; obtain ⟨nd, rfl⟩ := hd))
  go_ret3
  refine ⟨.nilIface, ?_, .inl ⟨rfl, rfl⟩, Drawn0.below ⟨⟨nd, rfl⟩⟩⟩
  show Ending.returned (.tuple #[.int .i64 (Go.bits .or .i64 (Go.bits .or .i64 0 (wrap64 ((wrap64 (Go.bits .and .u8 b1 127)) * 128))) (wrap64 (Go.bits .and .u8 b0 127))), .int .i64 2, .nilIface]) = _
  rw [HV.out]
set_option maxRecDepth 100000 in
set_option maxHeartbeats 2000000 in
theorem vget_2b (A : Option Addr) (c : Nat) (l : List Int) (w : World) (hr : Kd.C (Kd.int .u8) w A l.length l) (hc : l.length ≤ c) (hw : varint_whole.f 5 l = some (2, none)) (hl : 2 ≤ l.length) (b0 b1 : Int) (e0 : rd l 0 = b0) (e1 : rd l 1 = b1) (h0 : 0 ≤ b0 ∧ b0 ≤ 255) (h1 : b1 = 0) :
    Calls Tryd.prog 22 #[.slice A l.length c] w fun e w' => ∃ v, e = .returned (.tuple #[.int .i64 0, .int .i64 0, v]) ∧ Dv.Err w' v 1 ∧ Below w.heap.size w w' := by
  have C0 := varint_whole.calls 5 A c l 2 none w hr hc hw
  rw [errW_none] at C0
  have C := Lib.hid C0
  clear C0
  obtain ⟨ad0, ea0, hc0⟩ := Kd.at_int hr 0 (by omega) (by omega)
  obtain ⟨ad1, ea1, hc1⟩ := Kd.at_int hr 1 (by omega) (by omega)
  cases ea0
  cases ea1
  have hm := hr.2.1
  rw [show (0 : Int).toNat = 0 from rfl, Addr.add_zero', e0] at hc0
  rw [show (1 : Int).toNat = 1 from rfl, e1] at hc1
  have hc1' : w.cell? { block := ad0.block, off := ad0.off + 1 } = some (.int .u8 b1) := by simpa [Addr.add] using hc1
  have q0 : (0 < l.length) = True := eq_true (by omega)
  have q0i : ((0 : Int) < (l.length : Int)) = True := eq_true (by omega)
  have q1 : (1 < l.length) = True := eq_true (by omega)
  have q1i : ((1 : Int) < (l.length : Int)) = True := eq_true (by omega)
  clear hc1
  subst h1
  clear hr hc hw hl e0 e1
  clear h0
  go_enter Tryd.func22, Tryd.ntmps22
  go_wp2_with (first | (go_at_call 33; refine C.out.mono ?_; rintro e w1 ⟨rfl, hd⟩; obtain ⟨nd, rfl⟩ := hd) | (go_at_call 12; refine (Dv.fail_At _ _ _ _ (Dv.Err.no _ 1 (by decide) (by decide))).mono ?_; rintro e w2 ⟨v, rfl, he, hb⟩; have HE := Lib.hid he; have HB := Lib.hid hb; clear he hb))
  go_ret3
  exact ⟨v, rfl, HE.out, (Drawn0.below ⟨⟨nd, rfl⟩⟩).then_ HB.out⟩
theorem vexp3 {b0 b1 b2 : Int} (h0 : 0 ≤ b0 ∧ b0 ≤ 255) (h1 : 0 ≤ b1 ∧ b1 ≤ 255) (h2 : 0 ≤ b2 ∧ b2 < 128) : (Go.bits .or .i64 (Go.bits .or .i64 (Go.bits .or .i64 0 (wrap64 ((wrap64 (Go.bits .and .u8 b2 127)) * 16384))) (wrap64 ((wrap64 (Go.bits .and .u8 b1 127)) * 128))) (wrap64 (Go.bits .and .u8 b0 127))) = b0 % 128 + b1 % 128 * 128 + b2 * 16384 := by
  rw [and127 b0 (by omega) (by omega), and127 b1 (by omega) (by omega), and127 b2 (by omega) (by omega)]
  rw [w64 (y := b0 % 128) (by omega) (by omega), w64 (y := b1 % 128) (by omega) (by omega), w64 (y := b2 % 128) (by omega) (by omega)]
  rw [w64 (y := b2 % 128 * 16384) (by omega) (by omega), w64 (y := b1 % 128 * 128) (by omega) (by omega)]
  rw [or0 (y := b2 % 128 * 16384) (by omega) (by omega)]
  rw [bits_join .i64 63 (by decide) R.wraps_i64 14 (b2 % 128 * 16384) (b1 % 128 * 128) (by omega) (by omega) (by omega) (by omega) (by omega) (by omega)]
  rw [bits_join .i64 63 (by decide) R.wraps_i64 7 (b2 % 128 * 16384 + b1 % 128 * 128) (b0 % 128) (by omega) (by omega) (by omega) (by omega) (by omega) (by omega)]
  omega
set_option maxRecDepth 100000 in
set_option maxHeartbeats 2000000 in
theorem vget_3 (A : Option Addr) (c : Nat) (l : List Int) (w : World) (hr : Kd.C (Kd.int .u8) w A l.length l) (hc : l.length ≤ c) (hw : varint_whole.f 5 l = some (3, none)) (hl : 3 ≤ l.length) (b0 b1 b2 : Int) (e0 : rd l 0 = b0) (e1 : rd l 1 = b1) (e2 : rd l 2 = b2) (h0 : 0 ≤ b0 ∧ b0 ≤ 255) (h1 : 0 ≤ b1 ∧ b1 ≤ 255) (h2 : 0 < b2 ∧ b2 < 128) :
    Calls Tryd.prog 22 #[.slice A l.length c] w fun e w' => ∃ v, e = .returned (.tuple #[.int .i64 (b0 % 128 + b1 % 128 * 128 + b2 * 16384), .int .i64 3, v]) ∧ Dv.Err w' v 0 ∧ Below w.heap.size w w' := by
  have C0 := varint_whole.calls 5 A c l 3 none w hr hc hw
  rw [errW_none] at C0
  have C := Lib.hid C0
  clear C0
  obtain ⟨ad0, ea0, hc0⟩ := Kd.at_int hr 0 (by omega) (by omega)
  obtain ⟨ad1, ea1, hc1⟩ := Kd.at_int hr 1 (by omega) (by omega)
  obtain ⟨ad2, ea2, hc2⟩ := Kd.at_int hr 2 (by omega) (by omega)
  cases ea0
  cases ea1
  cases ea2
  have hm := hr.2.1
  rw [show (0 : Int).toNat = 0 from rfl, Addr.add_zero', e0] at hc0
  rw [show (1 : Int).toNat = 1 from rfl, e1] at hc1
  have hc1' : w.cell? { block := ad0.block, off := ad0.off + 1 } = some (.int .u8 b1) := by simpa [Addr.add] using hc1
  rw [show (2 : Int).toNat = 2 from rfl, e2] at hc2
  have hc2' : w.cell? { block := ad0.block, off := ad0.off + 2 } = some (.int .u8 b2) := by simpa [Addr.add] using hc2
  have q0 : (0 < l.length) = True := eq_true (by omega)
  have q0i : ((0 : Int) < (l.length : Int)) = True := eq_true (by omega)
  have q1 : (1 < l.length) = True := eq_true (by omega)
  have q1i : ((1 : Int) < (l.length : Int)) = True := eq_true (by omega)
  have q2 : (2 < l.length) = True := eq_true (by omega)
  have q2i : ((2 : Int) < (l.length : Int)) = True := eq_true (by omega)
  clear hc1 hc2
  have d1 : (b2 == 0) = false := by simp; omega
  clear hr hc hw hl e0 e1 e2
  have HV := Lib.hid (vexp3 h0 h1 ⟨by omega, h2.2⟩)
  clear h0 h1 h2
  go_enter Tryd.func22, Tryd.ntmps22
  go_wp2_with (first | (go_at_call 33; refine C.out.mono ?_; rintro e w1 ⟨rfl, hd⟩; obtain ⟨nd, rfl⟩ := hd))
  go_ret3
  refine ⟨.nilIface, ?_, .inl ⟨rfl, rfl⟩, Drawn0.below ⟨⟨nd, rfl⟩⟩⟩
  show Ending.returned (.tuple #[.int .i64 (Go.bits .or .i64 (Go.bits .or .i64 (Go.bits .or .i64 0 (wrap64 ((wrap64 (Go.bits .and .u8 b2 127)) * 16384))) (wrap64 ((wrap64 (Go.bits .and .u8 b1 127)) * 128))) (wrap64 (Go.bits .and .u8 b0 127))), .int .i64 3, .nilIface]) = _
  rw [HV.out]
set_option maxRecDepth 100000 in
set_option maxHeartbeats 2000000 in
theorem vget_3b (A : Option Addr) (c : Nat) (l : List Int) (w : World) (hr : Kd.C (Kd.int .u8) w A l.length l) (hc : l.length ≤ c) (hw : varint_whole.f 5 l = some (3, none)) (hl : 3 ≤ l.length) (b0 b1 b2 : Int) (e0 : rd l 0 = b0) (e1 : rd l 1 = b1) (e2 : rd l 2 = b2) (h0 : 0 ≤ b0 ∧ b0 ≤ 255) (h1 : 0 ≤ b1 ∧ b1 ≤ 255) (h2 : b2 = 0) :
    Calls Tryd.prog 22 #[.slice A l.length c] w fun e w' => ∃ v, e = .returned (.tuple #[.int .i64 0, .int .i64 0, v]) ∧ Dv.Err w' v 1 ∧ Below w.heap.size w w' := by
  have C0 := varint_whole.calls 5 A c l 3 none w hr hc hw
  rw [errW_none] at C0
  have C := Lib.hid C0
  clear C0
  obtain ⟨ad0, ea0, hc0⟩ := Kd.at_int hr 0 (by omega) (by omega)
  obtain ⟨ad1, ea1, hc1⟩ := Kd.at_int hr 1 (by omega) (by omega)
  obtain ⟨ad2, ea2, hc2⟩ := Kd.at_int hr 2 (by omega) (by omega)
  cases ea0
  cases ea1
  cases ea2
  have hm := hr.2.1
  rw [show (0 : Int).toNat = 0 from rfl, Addr.add_zero', e0] at hc0
  rw [show (1 : Int).toNat = 1 from rfl, e1] at hc1
  have hc1' : w.cell? { block := ad0.block, off := ad0.off + 1 } = some (.int .u8 b1) := by simpa [Addr.add] using hc1
  rw [show (2 : Int).toNat = 2 from rfl, e2] at hc2
  have hc2' : w.cell? { block := ad0.block, off := ad0.off + 2 } = some (.int .u8 b2) := by simpa [Addr.add] using hc2
  have q0 : (0 < l.length) = True := eq_true (by omega)
  have q0i : ((0 : Int) < (l.length : Int)) = True := eq_true (by omega)
  have q1 : (1 < l.length) = True := eq_true (by omega)
  have q1i : ((1 : Int) < (l.length : Int)) = True := eq_true (by omega)
  have q2 : (2 < l.length) = True := eq_true (by omega)
  have q2i : ((2 : Int) < (l.length : Int)) = True := eq_true (by omega)
  clear hc1 hc2
  subst h2
  clear hr hc hw hl e0 e1 e2
  clear h0 h1
  go_enter Tryd.func22, Tryd.ntmps22
  go_wp2_with (first | (go_at_call 33; refine C.out.mono ?_; rintro e w1 ⟨rfl, hd⟩; obtain ⟨nd, rfl⟩ := hd) | (go_at_call 12; refine (Dv.fail_At _ _ _ _ (Dv.Err.no _ 1 (by decide) (by decide))).mono ?_; rintro e w2 ⟨v, rfl, he, hb⟩; have HE := Lib.hid he; have HB := Lib.hid hb; clear he hb))
  go_ret3
  exact ⟨v, rfl, HE.out, (Drawn0.below ⟨⟨nd, rfl⟩⟩).then_ HB.out⟩
theorem vexp4 {b0 b1 b2 b3 : Int} (h0 : 0 ≤ b0 ∧ b0 ≤ 255) (h1 : 0 ≤ b1 ∧ b1 ≤ 255) (h2 : 0 ≤ b2 ∧ b2 ≤ 255) (h3 : 0 ≤ b3 ∧ b3 < 128) : (Go.bits .or .i64 (Go.bits .or .i64 (Go.bits .or .i64 (Go.bits .or .i64 0 (wrap64 ((wrap64 b3) * 2097152))) (wrap64 ((wrap64 (Go.bits .and .u8 b2 127)) * 16384))) (wrap64 ((wrap64 (Go.bits .and .u8 b1 127)) * 128))) (wrap64 (Go.bits .and .u8 b0 127))) = b0 % 128 + b1 % 128 * 128 + b2 % 128 * 16384 + b3 * 2097152 := by
  rw [and127 b0 (by omega) (by omega), and127 b1 (by omega) (by omega), and127 b2 (by omega) (by omega)]
  rw [w64 (y := b0 % 128) (by omega) (by omega), w64 (y := b1 % 128) (by omega) (by omega), w64 (y := b2 % 128) (by omega) (by omega), w64 (y := b3) (by omega) (by omega)]
  rw [w64 (y := b3 * 2097152) (by omega) (by omega), w64 (y := b2 % 128 * 16384) (by omega) (by omega), w64 (y := b1 % 128 * 128) (by omega) (by omega)]
  rw [or0 (y := b3 * 2097152) (by omega) (by omega)]
  rw [bits_join .i64 63 (by decide) R.wraps_i64 21 (b3 * 2097152) (b2 % 128 * 16384) (by omega) (by omega) (by omega) (by omega) (by omega) (by omega)]
  rw [bits_join .i64 63 (by decide) R.wraps_i64 14 (b3 * 2097152 + b2 % 128 * 16384) (b1 % 128 * 128) (by omega) (by omega) (by omega) (by omega) (by omega) (by omega)]
  rw [bits_join .i64 63 (by decide) R.wraps_i64 7 (b3 * 2097152 + b2 % 128 * 16384 + b1 % 128 * 128) (b0 % 128) (by omega) (by omega) (by omega) (by omega) (by omega) (by omega)]
  omega
set_option maxRecDepth 100000 in
set_option maxHeartbeats 2000000 in
theorem vget_4 (A : Option Addr) (c : Nat) (l : List Int) (w : World) (hr : Kd.C (Kd.int .u8) w A l.length l) (hc : l.length ≤ c) (hw : varint_whole.f 5 l = some (4, none)) (hl : 4 ≤ l.length) (b0 b1 b2 b3 : Int) (e0 : rd l 0 = b0) (e1 : rd l 1 = b1) (e2 : rd l 2 = b2) (e3 : rd l 3 = b3) (h0 : 0 ≤ b0 ∧ b0 ≤ 255) (h1 : 0 ≤ b1 ∧ b1 ≤ 255) (h2 : 0 ≤ b2 ∧ b2 ≤ 255) (h3 : 0 < b3 ∧ b3 < 128) :
    Calls Tryd.prog 22 #[.slice A l.length c] w fun e w' => ∃ v, e = .returned (.tuple #[.int .i64 (b0 % 128 + b1 % 128 * 128 + b2 % 128 * 16384 + b3 * 2097152), .int .i64 4, v]) ∧ Dv.Err w' v 0 ∧ Below w.heap.size w w' := by
  have C0 := varint_whole.calls 5 A c l 4 none w hr hc hw
  rw [errW_none] at C0
  have C := Lib.hid C0
  clear C0
  obtain ⟨ad0, ea0, hc0⟩ := Kd.at_int hr 0 (by omega) (by omega)
  obtain ⟨ad1, ea1, hc1⟩ := Kd.at_int hr 1 (by omega) (by omega)
  obtain ⟨ad2, ea2, hc2⟩ := Kd.at_int hr 2 (by omega) (by omega)
  obtain ⟨ad3, ea3, hc3⟩ := Kd.at_int hr 3 (by omega) (by omega)
  cases ea0
  cases ea1
  cases ea2
  cases ea3
  have hm := hr.2.1
  rw [show (0 : Int).toNat = 0 from rfl, Addr.add_zero', e0] at hc0
  rw [show (1 : Int).toNat = 1 from rfl, e1] at hc1
  have hc1' : w.cell? { block := ad0.block, off := ad0.off + 1 } = some (.int .u8 b1) := by simpa [Addr.add] using hc1
  rw [show (2 : Int).toNat = 2 from rfl, e2] at hc2
  have hc2' : w.cell? { block := ad0.block, off := ad0.off + 2 } = some (.int .u8 b2) := by simpa [Addr.add] using hc2
  rw [show (3 : Int).toNat = 3 from rfl, e3] at hc3
  have hc3' : w.cell? { block := ad0.block, off := ad0.off + 3 } = some (.int .u8 b3) := by simpa [Addr.add] using hc3
  have q0 : (0 < l.length) = True := eq_true (by omega)
  have q0i : ((0 : Int) < (l.length : Int)) = True := eq_true (by omega)
  have q1 : (1 < l.length) = True := eq_true (by omega)
  have q1i : ((1 : Int) < (l.length : Int)) = True := eq_true (by omega)
  have q2 : (2 < l.length) = True := eq_true (by omega)
  have q2i : ((2 : Int) < (l.length : Int)) = True := eq_true (by omega)
  have q3 : (3 < l.length) = True := eq_true (by omega)
  have q3i : ((3 : Int) < (l.length : Int)) = True := eq_true (by omega)
  clear hc1 hc2 hc3
  have d1 : (b3 == 0) = false := by simp; omega
  clear hr hc hw hl e0 e1 e2 e3
  have HV := Lib.hid (vexp4 h0 h1 h2 ⟨by omega, h3.2⟩)
  clear h0 h1 h2 h3
  go_enter Tryd.func22, Tryd.ntmps22
  go_wp2_with (first | (go_at_call 33; refine C.out.mono ?_; rintro e w1 ⟨rfl, hd⟩; obtain ⟨nd, rfl⟩ := hd))
  go_ret3
  refine ⟨.nilIface, ?_, .inl ⟨rfl, rfl⟩, Drawn0.below ⟨⟨nd, rfl⟩⟩⟩
  show Ending.returned (.tuple #[.int .i64 (Go.bits .or .i64 (Go.bits .or .i64 (Go.bits .or .i64 (Go.bits .or .i64 0 (wrap64 ((wrap64 b3) * 2097152))) (wrap64 ((wrap64 (Go.bits .and .u8 b2 127)) * 16384))) (wrap64 ((wrap64 (Go.bits .and .u8 b1 127)) * 128))) (wrap64 (Go.bits .and .u8 b0 127))), .int .i64 4, .nilIface]) = _
  rw [HV.out]
set_option maxRecDepth 100000 in
set_option maxHeartbeats 2000000 in
theorem vget_4b (A : Option Addr) (c : Nat) (l : List Int) (w : World) (hr : Kd.C (Kd.int .u8) w A l.length l) (hc : l.length ≤ c) (hw : varint_whole.f 5 l = some (4, none)) (hl : 4 ≤ l.length) (b0 b1 b2 b3 : Int) (e0 : rd l 0 = b0) (e1 : rd l 1 = b1) (e2 : rd l 2 = b2) (e3 : rd l 3 = b3) (h0 : 0 ≤ b0 ∧ b0 ≤ 255) (h1 : 0 ≤ b1 ∧ b1 ≤ 255) (h2 : 0 ≤ b2 ∧ b2 ≤ 255) (h3 : b3 = 0) :
    Calls Tryd.prog 22 #[.slice A l.length c] w fun e w' => ∃ v, e = .returned (.tuple #[.int .i64 0, .int .i64 0, v]) ∧ Dv.Err w' v 1 ∧ Below w.heap.size w w' := by
  have C0 := varint_whole.calls 5 A c l 4 none w hr hc hw
  rw [errW_none] at C0
  have C := Lib.hid C0
  clear C0
  obtain ⟨ad0, ea0, hc0⟩ := Kd.at_int hr 0 (by omega) (by omega)
  obtain ⟨ad1, ea1, hc1⟩ := Kd.at_int hr 1 (by omega) (by omega)
  obtain ⟨ad2, ea2, hc2⟩ := Kd.at_int hr 2 (by omega) (by omega)
  obtain ⟨ad3, ea3, hc3⟩ := Kd.at_int hr 3 (by omega) (by omega)
  cases ea0
  cases ea1
  cases ea2
  cases ea3
  have hm := hr.2.1
  rw [show (0 : Int).toNat = 0 from rfl, Addr.add_zero', e0] at hc0
  rw [show (1 : Int).toNat = 1 from rfl, e1] at hc1
  have hc1' : w.cell? { block := ad0.block, off := ad0.off + 1 } = some (.int .u8 b1) := by simpa [Addr.add] using hc1
  rw [show (2 : Int).toNat = 2 from rfl, e2] at hc2
  have hc2' : w.cell? { block := ad0.block, off := ad0.off + 2 } = some (.int .u8 b2) := by simpa [Addr.add] using hc2
  rw [show (3 : Int).toNat = 3 from rfl, e3] at hc3
  have hc3' : w.cell? { block := ad0.block, off := ad0.off + 3 } = some (.int .u8 b3) := by simpa [Addr.add] using hc3
  have q0 : (0 < l.length) = True := eq_true (by omega)
  have q0i : ((0 : Int) < (l.length : Int)) = True := eq_true (by omega)
  have q1 : (1 < l.length) = True := eq_true (by omega)
  have q1i : ((1 : Int) < (l.length : Int)) = True := eq_true (by omega)
  have q2 : (2 < l.length) = True := eq_true (by omega)
  have q2i : ((2 : Int) < (l.length : Int)) = True := eq_true (by omega)
  have q3 : (3 < l.length) = True := eq_true (by omega)
  have q3i : ((3 : Int) < (l.length : Int)) = True := eq_true (by omega)
  clear hc1 hc2 hc3
  subst h3
  clear hr hc hw hl e0 e1 e2 e3
  clear h0 h1 h2
  go_enter Tryd.func22, Tryd.ntmps22
  go_wp2_with (first | (go_at_call 33; refine C.out.mono ?_; rintro e w1 ⟨rfl, hd⟩; obtain ⟨nd, rfl⟩ := hd) | (go_at_call 12; refine (Dv.fail_At _ _ _ _ (Dv.Err.no _ 1 (by decide) (by decide))).mono ?_; rintro e w2 ⟨v, rfl, he, hb⟩; have HE := Lib.hid he; have HB := Lib.hid hb; clear he hb))
  go_ret3
  exact ⟨v, rfl, HE.out, (Drawn0.below ⟨⟨nd, rfl⟩⟩).then_ HB.out⟩
theorem wl0 {k : Nat} {l : List Int} {i : Nat} (hi : i < 4) (h : i + 1 ≤ l.length) (h0 : ¬ rd l i < 128) : varint_whole.l0 (k + 1) l i = varint_whole.l0 k l ((i + 1 : Nat) : Int) := by
  rw [varint_whole.l0, if_pos (by omega), if_neg (by omega), if_pos (by omega), if_pos (by omega), if_neg h0, show wrap64 ((i : Int) + 1) = ((i + 1 : Nat) : Int) by unfold wrap64; omega]
theorem wl_ok {k : Nat} {l : List Int} {i : Nat} (hi : i < 4) (h : i + 1 ≤ l.length) (h0 : rd l i < 128) : varint_whole.l0 (k + 1) l i = some (((i + 1 : Nat) : Int), none) := by
  rw [varint_whole.l0, if_pos (by omega), if_neg (by omega), if_pos (by omega), if_pos (by omega), if_pos h0, show wrap64 ((i : Int) + 1) = ((i + 1 : Nat) : Int) by unfold wrap64; omega]
theorem wl_short {k : Nat} {l : List Int} {i : Nat} (hi : i < 4) (h : l.length = i) : varint_whole.l0 (k + 1) l i = some (0, some 3) := by
  rw [varint_whole.l0, if_pos (by omega), if_pos (by omega)]
theorem wl_form {k : Nat} {l : List Int} : varint_whole.l0 (k + 1) l (4 : Nat) = some (0, some 1) := by
  rw [varint_whole.l0, if_neg (by omega)]
theorem varint_Get (A : Option Addr) (c : Nat) (l : List Int) (w : World) (hr : Kd.C (Kd.int .u8) w A l.length l) (hc : l.length ≤ c) (hb : bok l) :
    Calls Tryd.prog 22 #[.slice A l.length c] w fun e w' => ∃ v, e = .returned (.tuple #[.int .i64 (Dv.varGet l).1, .int .i64 (Dv.varGet l).2.1, v]) ∧ Dv.Err w' v (Dv.varGet l).2.2 ∧ Below w.heap.size w w' := by
  have wf : ∀ r, varint_whole.l0 5 l (0 : Nat) = some r → varint_whole.f 5 l = some r := fun r h => h
  by_cases L0 : l.length = 0
  · obtain rfl : l = [] := List.length_eq_zero_iff.1 L0
    exact vget_e A c [] 3 w hr hc (wf _ (wl_short (by omega) rfl)) (by omega) (by omega)
  have hd : ∀ i, i < l.length → rd l (i : Nat) = l.getD i 0 := fun i _ => by unfold rd; rw [Int.toNat_natCast]
  obtain ⟨b0, r1, rfl⟩ : ∃ x y, l = x :: y := by
    cases l with
    | nil => exact absurd rfl L0
    | cons x y => exact ⟨x, y, rfl⟩
  have g0 : 0 ≤ b0 ∧ b0 ≤ 255 := hb b0 (by simp)
  have p0 : rd (b0 :: r1) ((0 : Nat) : Int) = b0 := rfl
  have p0' : rd (b0 :: r1) ((0 : Nat) : Int) = b0 := rfl
  by_cases c0 : b0 < 128
  · have e : Dv.varGet (b0 :: r1) = (b0, 1, 0) := by simp only [Dv.varGet]; rw [if_pos c0]
    rw [e]
    exact vget_1 A c _ w hr hc (wf _ (wl_ok (by omega) (by simp) (by rw [p0']; exact c0))) (by simp) b0 rfl ⟨g0.1, c0⟩
  by_cases L1 : r1 = []
  · subst L1
    have e : Dv.varGet (b0 :: []) = (0, 0, 3) := by simp only [Dv.varGet]; rw [if_neg c0]
    rw [e]
    exact vget_e A c _ 3 w hr hc (wf _ ((wl0 (by omega) (by simp) (by rw [p0']; omega)).trans (wl_short (by omega) (by simp)))) (by omega) (by omega)
  obtain ⟨b1, r2, rfl⟩ : ∃ x y, r1 = x :: y := by
    cases r1 with
    | nil => exact absurd rfl L1
    | cons x y => exact ⟨x, y, rfl⟩
  have g1 : 0 ≤ b1 ∧ b1 ≤ 255 := hb b1 (by simp)
  have p1 : rd (b0 :: b1 :: r2) ((1 : Nat) : Int) = b1 := rfl
  have p0' : rd (b0 :: b1 :: r2) ((0 : Nat) : Int) = b0 := rfl
  have p1' : rd (b0 :: b1 :: r2) ((1 : Nat) : Int) = b1 := rfl
  by_cases c1 : b1 < 128
  · by_cases d1 : b1 = 0
    · have e : Dv.varGet (b0 :: b1 :: r2) = (0, 0, 1) := by simp only [Dv.varGet]; rw [if_neg c0, if_pos c1, if_pos d1]
      rw [e]
      exact vget_2b A c _ w hr hc (wf _ ((wl0 (by omega) (by simp) (by rw [p0']; omega)).trans (wl_ok (by omega) (by simp) (by rw [p1']; exact c1)))) (by simp) b0 b1 rfl rfl g0 d1
    · have e : Dv.varGet (b0 :: b1 :: r2) = (b0 % 128 + b1 * 128, 2, 0) := by simp only [Dv.varGet]; rw [if_neg c0, if_pos c1, if_neg d1]
      rw [e]
      exact vget_2 A c _ w hr hc (wf _ ((wl0 (by omega) (by simp) (by rw [p0']; omega)).trans (wl_ok (by omega) (by simp) (by rw [p1']; exact c1)))) (by simp) b0 b1 rfl rfl g0 ⟨by omega, c1⟩
  by_cases L2 : r2 = []
  · subst L2
    have e : Dv.varGet (b0 :: b1 :: []) = (0, 0, 3) := by simp only [Dv.varGet]; rw [if_neg c0, if_neg c1]
    rw [e]
    exact vget_e A c _ 3 w hr hc (wf _ ((wl0 (by omega) (by simp) (by rw [p0']; omega)).trans ((wl0 (by omega) (by simp) (by rw [p1']; omega)).trans (wl_short (by omega) (by simp))))) (by omega) (by omega)
  obtain ⟨b2, r3, rfl⟩ : ∃ x y, r2 = x :: y := by
    cases r2 with
    | nil => exact absurd rfl L2
    | cons x y => exact ⟨x, y, rfl⟩
  have g2 : 0 ≤ b2 ∧ b2 ≤ 255 := hb b2 (by simp)
  have p2 : rd (b0 :: b1 :: b2 :: r3) ((2 : Nat) : Int) = b2 := rfl
  have p0' : rd (b0 :: b1 :: b2 :: r3) ((0 : Nat) : Int) = b0 := rfl
  have p1' : rd (b0 :: b1 :: b2 :: r3) ((1 : Nat) : Int) = b1 := rfl
  have p2' : rd (b0 :: b1 :: b2 :: r3) ((2 : Nat) : Int) = b2 := rfl
  by_cases c2 : b2 < 128
  · by_cases d2 : b2 = 0
    · have e : Dv.varGet (b0 :: b1 :: b2 :: r3) = (0, 0, 1) := by simp only [Dv.varGet]; rw [if_neg c0, if_neg c1, if_pos c2, if_pos d2]
      rw [e]
      exact vget_3b A c _ w hr hc (wf _ ((wl0 (by omega) (by simp) (by rw [p0']; omega)).trans ((wl0 (by omega) (by simp) (by rw [p1']; omega)).trans (wl_ok (by omega) (by simp) (by rw [p2']; exact c2))))) (by simp) b0 b1 b2 rfl rfl rfl g0 g1 d2
    · have e : Dv.varGet (b0 :: b1 :: b2 :: r3) = (b0 % 128 + b1 % 128 * 128 + b2 * 16384, 3, 0) := by simp only [Dv.varGet]; rw [if_neg c0, if_neg c1, if_pos c2, if_neg d2]
      rw [e]
      exact vget_3 A c _ w hr hc (wf _ ((wl0 (by omega) (by simp) (by rw [p0']; omega)).trans ((wl0 (by omega) (by simp) (by rw [p1']; omega)).trans (wl_ok (by omega) (by simp) (by rw [p2']; exact c2))))) (by simp) b0 b1 b2 rfl rfl rfl g0 g1 ⟨by omega, c2⟩
  by_cases L3 : r3 = []
  · subst L3
    have e : Dv.varGet (b0 :: b1 :: b2 :: []) = (0, 0, 3) := by simp only [Dv.varGet]; rw [if_neg c0, if_neg c1, if_neg c2]
    rw [e]
    exact vget_e A c _ 3 w hr hc (wf _ ((wl0 (by omega) (by simp) (by rw [p0']; omega)).trans ((wl0 (by omega) (by simp) (by rw [p1']; omega)).trans ((wl0 (by omega) (by simp) (by rw [p2']; omega)).trans (wl_short (by omega) (by simp)))))) (by omega) (by omega)
  obtain ⟨b3, r4, rfl⟩ : ∃ x y, r3 = x :: y := by
    cases r3 with
    | nil => exact absurd rfl L3
    | cons x y => exact ⟨x, y, rfl⟩
  have g3 : 0 ≤ b3 ∧ b3 ≤ 255 := hb b3 (by simp)
  have p3 : rd (b0 :: b1 :: b2 :: b3 :: r4) ((3 : Nat) : Int) = b3 := rfl
  have p0' : rd (b0 :: b1 :: b2 :: b3 :: r4) ((0 : Nat) : Int) = b0 := rfl
  have p1' : rd (b0 :: b1 :: b2 :: b3 :: r4) ((1 : Nat) : Int) = b1 := rfl
  have p2' : rd (b0 :: b1 :: b2 :: b3 :: r4) ((2 : Nat) : Int) = b2 := rfl
  have p3' : rd (b0 :: b1 :: b2 :: b3 :: r4) ((3 : Nat) : Int) = b3 := rfl
  by_cases c3 : b3 < 128
  · by_cases d3 : b3 = 0
    · have e : Dv.varGet (b0 :: b1 :: b2 :: b3 :: r4) = (0, 0, 1) := by simp only [Dv.varGet]; rw [if_neg c0, if_neg c1, if_neg c2, if_pos c3, if_pos d3]
      rw [e]
      exact vget_4b A c _ w hr hc (wf _ ((wl0 (by omega) (by simp) (by rw [p0']; omega)).trans ((wl0 (by omega) (by simp) (by rw [p1']; omega)).trans ((wl0 (by omega) (by simp) (by rw [p2']; omega)).trans (wl_ok (by omega) (by simp) (by rw [p3']; exact c3)))))) (by simp) b0 b1 b2 b3 rfl rfl rfl rfl g0 g1 g2 d3
    · have e : Dv.varGet (b0 :: b1 :: b2 :: b3 :: r4) = (b0 % 128 + b1 % 128 * 128 + b2 % 128 * 16384 + b3 * 2097152, 4, 0) := by simp only [Dv.varGet]; rw [if_neg c0, if_neg c1, if_neg c2, if_pos c3, if_neg d3]
      rw [e]
      exact vget_4 A c _ w hr hc (wf _ ((wl0 (by omega) (by simp) (by rw [p0']; omega)).trans ((wl0 (by omega) (by simp) (by rw [p1']; omega)).trans ((wl0 (by omega) (by simp) (by rw [p2']; omega)).trans (wl_ok (by omega) (by simp) (by rw [p3']; exact c3)))))) (by simp) b0 b1 b2 b3 rfl rfl rfl rfl g0 g1 g2 ⟨by omega, c3⟩
  have e : Dv.varGet (b0 :: b1 :: b2 :: b3 :: r4) = (0, 0, 1) := by simp only [Dv.varGet]; rw [if_neg c0, if_neg c1, if_neg c2, if_neg c3]
  rw [e]
  exact vget_e A c _ 1 w hr hc (wf _ ((wl0 (by omega) (by simp) (by rw [p0']; omega)).trans ((wl0 (by omega) (by simp) (by rw [p1']; omega)).trans ((wl0 (by omega) (by simp) (by rw [p2']; omega)).trans ((wl0 (by omega) (by simp) (by rw [p3']; omega)).trans (wl_form)))))) (by omega) (by omega)
end Go.Proofs.YtdnmliidmnfijaaDoor.Q

import Derived.Test.YtondmmoabmhpfaaDoorPStub
import Derived.Test.YtondmmoabmhpfaaDoorPQ9
import Derived.Test.YtondmmoabmhpfaaDoorPDvVar
import Derived.Outline
namespace Go.Proofs.YtondmmoabmhpfaaDoor.Q
open Go.RowKit Go.Proofs.YtondmmoabmhpfaaDoorW.PrintWords Go.Proofs.YtondmmoabmhpfaaDoorW.PrintLast Go.Proofs.YtondmmoabmhpfaaDoorW.PrintMore
theorem groups1 (n : Int) (h0 : 0 ≤ n) (h : n < 128) : varint_groups.f 5 n = some 1 := by
  unfold varint_groups.f; rw [varint_groups.l0, if_neg (by omega)]
theorem groups2 (n : Int) (h0 : 128 ≤ n) (h : n < 16384) : varint_groups.f 5 n = some 2 := by
  unfold varint_groups.f; rw [varint_groups.l0, if_pos (by omega), varint_groups.l0, if_neg (by omega)]; simp [wrap64]
theorem groups3 (n : Int) (h0 : 16384 ≤ n) (h : n < 2097152) : varint_groups.f 5 n = some 3 := by
  unfold varint_groups.f; rw [varint_groups.l0, if_pos (by omega), varint_groups.l0, if_pos (by omega), varint_groups.l0, if_neg (by omega)]; simp [wrap64]
theorem groups4 (n : Int) (h0 : 2097152 ≤ n) (h : n ≤ 268435455) : varint_groups.f 5 n = some 4 := by
  unfold varint_groups.f; rw [varint_groups.l0, if_pos (by omega), varint_groups.l0, if_pos (by omega), varint_groups.l0, if_pos (by omega), varint_groups.l0, if_neg (by omega)]; simp [wrap64]
theorem or128 (x : Int) (h0 : 0 ≤ x) (h1 : x < 256) : Go.bits .or .u8 x 128 = x % 128 + 128 := by
  have h : ∀ y : Fin 256, Go.bits .or .u8 (y.val : Int) 128 = (y.val : Int) % 128 + 128 := by decide +kernel
  have := h ⟨x.toNat, by omega⟩
  simpa [Int.toNat_of_nonneg h0] using this
theorem and127 (x : Int) (h0 : 0 ≤ x) (h1 : x < 256) : Go.bits .and .u8 x 127 = x % 128 := bits_mask .u8 8 (by decide) wraps_u8 7 (by decide) x h0 (by omega)
theorem R_made (w W : World) (hb : Below w.heap.size w W) (xs : List Int) (hl : xs.length ≤ 9223372036854775807) : Kd.R (Kd.int .u8) 5 (W.alloc (.cells (nums .u8 xs).toArray 5)) w.heap.size (fun _ => True) (.slice (some ⟨W.heap.size, 0, none⟩) xs.length xs.length) xs :=
  Kd.R_of_own (own_lit W w.heap.size 5 .u8 xs hb.size hl) (fun _ _ => trivial)

set_option maxRecDepth 100000 in
set_option maxHeartbeats 2000000 in
theorem Put1 (n : Int) (w : World) (h0 : 0 ≤ n) (h : n < 128) : Calls Tryd.prog 28 #[.int .i64 n] w fun e w' => ∃ v, e = .returned (.tuple #[v, .nilIface]) ∧ Kd.R (Kd.int .u8) 5 w' w.heap.size (fun _ => True) v (Dv.varPut n) ∧ Below w.heap.size w w' := by
  have C := Lib.hid (varint_groups.calls 5 n 1 w (groups1 n (by omega) (by omega)))
  have q1 : decide (n < 0) = false := decide_eq_false (by omega)
  have q2 : decide (268435455 < n) = false := decide_eq_false (by omega)
  have hv := Lib.hid (show Dv.varPut n = [n] by unfold Dv.varPut; rw [if_pos h])
  have b0 : Go.bits .and .u8 (Go.bits .or .u8 (n % 256) 128) 127 = n := by rw [or128 _ (by omega) (by omega), and127 _ (by omega) (by omega)]; omega
  have c0 : Go.bits .and .u8 (Go.bits .or .u8 (n) 128) 127 = n := by rw [or128 _ (by omega) (by omega), and127 _ (by omega) (by omega)]; omega
  have hmk : ∀ W, (Instr.makeSlice 35 (.int .i64 1) (.int .i64 1)).run Tryd.prog W = .ok (.slice (some ⟨W.heap.size, 0, none⟩) 1 1) (W.alloc (.cells #[.int .u8 0] 5)) := fun _ => by kernel_rfl
  go_enter Tryd.func28, Tryd.ntmps28
  go_wp2_with (go_at_call 42; refine C.out.mono ?_; rintro e w1 ⟨rfl, hd⟩; have HD := Lib.hid hd; clear hd)
  go_ret2
  rw [hv.out]
  exact ⟨_, rfl, R_made w w1 HD.out.below [n] (by simp), HD.out.below.alloc HD.out.below.size _⟩

set_option maxRecDepth 100000 in
set_option maxHeartbeats 2000000 in
theorem Put2 (n : Int) (w : World) (h0 : 128 ≤ n) (h : n < 16384) : Calls Tryd.prog 28 #[.int .i64 n] w fun e w' => ∃ v, e = .returned (.tuple #[v, .nilIface]) ∧ Kd.R (Kd.int .u8) 5 w' w.heap.size (fun _ => True) v (Dv.varPut n) ∧ Below w.heap.size w w' := by
  have C := Lib.hid (varint_groups.calls 5 n 2 w (groups2 n (by omega) (by omega)))
  have q1 : decide (n < 0) = false := decide_eq_false (by omega)
  have q2 : decide (268435455 < n) = false := decide_eq_false (by omega)
  have hv := Lib.hid (show Dv.varPut n = [n % 128 + 128, n / 128] by unfold Dv.varPut; rw [if_neg (by omega), if_pos h])
  have b0 : Go.bits .or .u8 (n % 256) 128 = n % 128 + 128 := by rw [or128 _ (by omega) (by omega)]; omega
  have b1 : Go.bits .and .u8 (Go.bits .or .u8 (n / 128 % 256) 128) 127 = n / 128 := by rw [or128 _ (by omega) (by omega), and127 _ (by omega) (by omega)]; omega
  have c1 : Go.bits .and .u8 (Go.bits .or .u8 (n / 128) 128) 127 = n / 128 := by rw [or128 _ (by omega) (by omega), and127 _ (by omega) (by omega)]; omega
  have hmk : ∀ W, (Instr.makeSlice 35 (.int .i64 2) (.int .i64 2)).run Tryd.prog W = .ok (.slice (some ⟨W.heap.size, 0, none⟩) 2 2) (W.alloc (.cells #[.int .u8 0, .int .u8 0] 5)) := fun _ => by kernel_rfl
  go_enter Tryd.func28, Tryd.ntmps28
  go_wp2_with (go_at_call 42; refine C.out.mono ?_; rintro e w1 ⟨rfl, hd⟩; have HD := Lib.hid hd; clear hd)
  go_ret2
  rw [hv.out]
  exact ⟨_, rfl, R_made w w1 HD.out.below [n % 128 + 128, n / 128] (by simp), HD.out.below.alloc HD.out.below.size _⟩

set_option maxRecDepth 100000 in
set_option maxHeartbeats 2000000 in
theorem Put3 (n : Int) (w : World) (h0 : 16384 ≤ n) (h : n < 2097152) : Calls Tryd.prog 28 #[.int .i64 n] w fun e w' => ∃ v, e = .returned (.tuple #[v, .nilIface]) ∧ Kd.R (Kd.int .u8) 5 w' w.heap.size (fun _ => True) v (Dv.varPut n) ∧ Below w.heap.size w w' := by
  have C := Lib.hid (varint_groups.calls 5 n 3 w (groups3 n (by omega) (by omega)))
  have q1 : decide (n < 0) = false := decide_eq_false (by omega)
  have q2 : decide (268435455 < n) = false := decide_eq_false (by omega)
  have hv := Lib.hid (show Dv.varPut n = [n % 128 + 128, n / 128 % 128 + 128, n / 16384] by unfold Dv.varPut; rw [if_neg (by omega), if_neg (by omega), if_pos h])
  have b0 : Go.bits .or .u8 (n % 256) 128 = n % 128 + 128 := by rw [or128 _ (by omega) (by omega)]; omega
  have b1 : Go.bits .or .u8 (n / 128 % 256) 128 = n / 128 % 128 + 128 := by rw [or128 _ (by omega) (by omega)]; omega
  have b2 : Go.bits .and .u8 (Go.bits .or .u8 (n / 16384 % 256) 128) 127 = n / 16384 := by rw [or128 _ (by omega) (by omega), and127 _ (by omega) (by omega)]; omega
  have c2 : Go.bits .and .u8 (Go.bits .or .u8 (n / 16384) 128) 127 = n / 16384 := by rw [or128 _ (by omega) (by omega), and127 _ (by omega) (by omega)]; omega
  have hmk : ∀ W, (Instr.makeSlice 35 (.int .i64 3) (.int .i64 3)).run Tryd.prog W = .ok (.slice (some ⟨W.heap.size, 0, none⟩) 3 3) (W.alloc (.cells #[.int .u8 0, .int .u8 0, .int .u8 0] 5)) := fun _ => by kernel_rfl
  go_enter Tryd.func28, Tryd.ntmps28
  go_wp2_with (go_at_call 42; refine C.out.mono ?_; rintro e w1 ⟨rfl, hd⟩; have HD := Lib.hid hd; clear hd)
  go_ret2
  rw [hv.out]
  exact ⟨_, rfl, R_made w w1 HD.out.below [n % 128 + 128, n / 128 % 128 + 128, n / 16384] (by simp), HD.out.below.alloc HD.out.below.size _⟩

set_option maxRecDepth 100000 in
set_option maxHeartbeats 2000000 in
theorem Put4 (n : Int) (w : World) (h0 : 2097152 ≤ n) (h : n < 268435456) : Calls Tryd.prog 28 #[.int .i64 n] w fun e w' => ∃ v, e = .returned (.tuple #[v, .nilIface]) ∧ Kd.R (Kd.int .u8) 5 w' w.heap.size (fun _ => True) v (Dv.varPut n) ∧ Below w.heap.size w w' := by
  have C := Lib.hid (varint_groups.calls 5 n 4 w (groups4 n (by omega) (by omega)))
  have q1 : decide (n < 0) = false := decide_eq_false (by omega)
  have q2 : decide (268435455 < n) = false := decide_eq_false (by omega)
  have hv := Lib.hid (show Dv.varPut n = [n % 128 + 128, n / 128 % 128 + 128, n / 16384 % 128 + 128, n / 2097152] by unfold Dv.varPut; rw [if_neg (by omega), if_neg (by omega), if_neg (by omega)])
  have b0 : Go.bits .or .u8 (n % 256) 128 = n % 128 + 128 := by rw [or128 _ (by omega) (by omega)]; omega
  have b1 : Go.bits .or .u8 (n / 128 % 256) 128 = n / 128 % 128 + 128 := by rw [or128 _ (by omega) (by omega)]; omega
  have b2 : Go.bits .or .u8 (n / 16384 % 256) 128 = n / 16384 % 128 + 128 := by rw [or128 _ (by omega) (by omega)]; omega
  have b3 : Go.bits .and .u8 (Go.bits .or .u8 (n / 2097152 % 256) 128) 127 = n / 2097152 := by rw [or128 _ (by omega) (by omega), and127 _ (by omega) (by omega)]; omega
  have c3 : Go.bits .and .u8 (Go.bits .or .u8 (n / 2097152) 128) 127 = n / 2097152 := by rw [or128 _ (by omega) (by omega), and127 _ (by omega) (by omega)]; omega
  have hmk : ∀ W, (Instr.makeSlice 35 (.int .i64 4) (.int .i64 4)).run Tryd.prog W = .ok (.slice (some ⟨W.heap.size, 0, none⟩) 4 4) (W.alloc (.cells #[.int .u8 0, .int .u8 0, .int .u8 0, .int .u8 0] 5)) := fun _ => by kernel_rfl
  go_enter Tryd.func28, Tryd.ntmps28
  go_wp2_with (go_at_call 42; refine C.out.mono ?_; rintro e w1 ⟨rfl, hd⟩; have HD := Lib.hid hd; clear hd)
  go_ret2
  rw [hv.out]
  exact ⟨_, rfl, R_made w w1 HD.out.below [n % 128 + 128, n / 128 % 128 + 128, n / 16384 % 128 + 128, n / 2097152] (by simp), HD.out.below.alloc HD.out.below.size _⟩
theorem varint_Put (n : Int) (w : World) (h0 : 0 ≤ n) (h : n ≤ 268435455) : Calls Tryd.prog 28 #[.int .i64 n] w fun e w' => ∃ v, e = .returned (.tuple #[v, .nilIface]) ∧ Kd.R (Kd.int .u8) 5 w' w.heap.size (fun _ => True) v (Dv.varPut n) ∧ Below w.heap.size w w' := by
  by_cases h1 : n < 128
  · exact Put1 n w h0 h1
  by_cases h2 : n < 16384
  · exact Put2 n w (by omega) h2
  by_cases h3 : n < 2097152
  · exact Put3 n w (by omega) h3
  · exact Put4 n w (by omega) (by omega)
end Go.Proofs.YtondmmoabmhpfaaDoor.Q

import Derived.Test.YtondmmoabmhpfaaDoorPR
import Derived.Test.YtondmmoabmhpfaaDoorPDvX1
import Derived.Outline
import Derived.Deep.DeepMust
namespace Go.Proofs.YtondmmoabmhpfaaDoor.Q
open Go.RowKit Go.Proofs.YtondmmoabmhpfaaDoorW.PrintWords Go.Proofs.YtondmmoabmhpfaaDoorW.PrintLast Go.Proofs.YtondmmoabmhpfaaDoorW.PrintMore
theorem V_bytes (w : World) (s : ByteArray) (hs : s.size ≤ 140737488351232) : Kd.V (Kd.int .u8) 5 (Lib.bytesWorld w 5 s) (Lib.bytesWorld w 5 s).heap.size (fun _ => True) (.slice (some ⟨w.heap.size, 0, none⟩) s.size (grownCap w s.size 0 5)) (bytesOf s) := by
  have hl := bytesOf_length s
  refine ⟨some ⟨w.heap.size, 0, none⟩, grownCap w s.size 0 5, by rw [hl], by rw [hl]; exact grownCap_ge _ _ _ _, fun W' hW => ?_⟩
  rw [hl]
  refine Kd.C_of_reads (d := (0 : Int)) ?_
  obtain ⟨h1, h2, h3⟩ := bytes_reads w 5 s (by omega)
  refine ⟨h1, h2, fun hn => ?_⟩
  obtain ⟨ad, e, hc⟩ := h3 hn
  cases e
  refine ⟨_, rfl, fun j hj => ?_⟩
  rw [← hc j hj]
  exact World.cell?_of_block (hW _ trivial (by rw [add_plain, Lib.bytesWorld_size]; simp))

theorem qinfo5 : (Tryd.prog.info? 5).map (fun i => (i.zero, i.size, i.bytes)) = some (some (.int .u8 0), 1, 1) := by kernel_rfl
def bin (s : ByteArray) : List Int := [((s.size : Int) / 256) % 256, (s.size : Int) % 256] ++ bytesOf s
def dovecoteref1_Check.f (a0 : ByteArray) : Option Int := if a0.size ≤ 140737488351232 then some (Dv.chk a0) else none
def dovecoteref1_Bin.f (a0 : ByteArray) : Option (List Int) := if a0.size ≤ 140737488351232 then some (bin a0) else none
set_option maxRecDepth 100000 in
set_option maxHeartbeats 1000000 in
theorem check_calls (a0 : ByteArray) (w : World) (hs : a0.size ≤ 140737488351232) :
    Calls Tryd.prog 38 #[.string a0] w fun e w' => e = .returned (.int .i64 (Dv.chk a0)) ∧ Below w.heap.size w w' := by
  have kb := fun W => print_bytes (P := Tryd.prog) 9 35 5 Tryd.underlying9 Tryd.underlying35 Tryd.underlying5 a0 W
  have hC : Calls Tryd.prog 61 #[.slice (some ⟨w.heap.size, 0, none⟩) a0.size (grownCap w a0.size 0 5)] (Lib.bytesWorld w 5 a0) fun e w' => e = .returned (.bool (Dv.utf a0.data.toList)) ∧ Below (Lib.bytesWorld w 5 a0).heap.size (Lib.bytesWorld w 5 a0) w' := by
    have h := R.dovecoteref1_Utf.calls (a0.data.toList.length + 7) (fun _ => True) (some ⟨w.heap.size, 0, none⟩) (grownCap w a0.size 0 5) (bytesOf a0) (Dv.utf a0.data.toList) (Lib.bytesWorld w 5 a0) (by rw [bytesOf_length]; exact V_bytes w a0 hs) (R.Utf_f a0.data.toList)
    rwa [bytesOf_length] at h
  have hb0 : Below w.heap.size w (Lib.bytesWorld w 5 a0) := bytes_below (Below.refl _ _) (Nat.le_refl _) 5 a0
  unfold Dv.chk
  generalize Dv.utf a0.data.toList = u at *
  have HC := Lib.hid hC
  have HB := Lib.hid hb0
  clear hC hb0
  cases u with
  | false =>
    have HS := Aside0.mk hs
    clear hs
    go_enter Tryd.func38, Tryd.ntmps38
    go_wp2_with (go_at_call 61; refine HC.out.mono ?_; rintro e w1 ⟨rfl, hb⟩)
    go_ret
    exact ⟨rfl, HB.out.then_ hb⟩
  | true =>
    by_cases hl : a0.size ≤ 65535
    · have HS := Aside0.mk hs
      clear hs
      go_enter Tryd.func38, Tryd.ntmps38
      go_wp2_with (go_at_call 61; refine HC.out.mono ?_; rintro e w1 ⟨rfl, hb⟩)
      go_ret
      exact ⟨rfl, HB.out.then_ hb⟩
    · have HS := Aside0.mk hs
      clear hs
      go_enter Tryd.func38, Tryd.ntmps38
      go_wp2_with (go_at_call 61; refine HC.out.mono ?_; rintro e w1 ⟨rfl, hb⟩)
      go_ret
      exact ⟨rfl, HB.out.then_ hb⟩
theorem dovecoteref1_Check.calls (a0 : ByteArray) (r : Int) (w : World) (h : dovecoteref1_Check.f a0 = some r) :
    Calls Tryd.prog 38 #[.string a0] w fun e w' => e = .returned (.int .i64 r) ∧ Below w.heap.size w w' := by
  unfold dovecoteref1_Check.f at h
  split at h
  · rename_i hs; cases h; exact check_calls a0 w hs
  · cases h
end Go.Proofs.YtondmmoabmhpfaaDoor.Q

import Derived.Test.YtaenlmjllmcamaaDoorKDvPU
import Derived.Test.YtaenlmjllmcamaaDoorKDvX1
import Derived.Outline
import Derived.Deep.DeepMust
namespace Go.Proofs.YtaenlmjllmcamaaDoor.Q
open Go.RowKit Go.Proofs.YtaenlmjllmcamaaDoorW.PrintWords Go.Proofs.YtaenlmjllmcamaaDoorW.PrintLast Go.Proofs.YtaenlmjllmcamaaDoorW.PrintMore
theorem V_bytes (w : World) (s : ByteArray) (hs : s.size ≤ 140737488351232) : Kd.V (Kd.int .u8) 5 (Lib.bytesWorld w 5 s) (Lib.bytesWorld w 5 s).heap.size (fun _ => True) (.slice (some ⟨w.heap.size, 0, none⟩) s.size (grownCap w s.size 0 5)) (bytesOf s) := by
  have hl := bytesOf_length s
  refine ⟨some ⟨w.heap.size, 0, none⟩, grownCap w s.size 0 5, by rw [hl], by rw [hl]; exact grownCap_ge _ _ _ _, fun W' hW => ?_⟩
  rw [hl]
  refine Kd.C_of_reads (d := (0 : Int)) ?_
  obtain ⟨h1, h2, h3⟩ := bytes_reads w 5 s (by omega)
  refine ⟨h1, h2, fun hn => ?_⟩
  obtain ⟨ad, e, hc⟩ := h3 hn
  cases e
  refine ⟨_, rfl, fun j hj => ?_⟩
  rw [← hc j hj]
  exact World.cell?_of_block (hW _ trivial (by rw [add_plain, Lib.bytesWorld_size]; simp))

theorem C_bytes (w : World) (s : ByteArray) (hs : s.size ≤ 140737488351232) : Kd.C (Kd.int .u8) (Lib.bytesWorld w 5 s) (some ⟨w.heap.size, 0, none⟩) s.size (bytesOf s) := by
  have h := (Kd.V_reads' (V_bytes w s hs)).2.2
  rw [bytesOf_length] at h
  exact h
theorem qinfo5 : (Tryd.prog.info? 5).map (fun i => (i.zero, i.size, i.bytes)) = some (some (.int .u8 0), 1, 1) := by kernel_rfl
def bin (s : ByteArray) : List Int := [((s.size : Int) / 256) % 256, (s.size : Int) % 256] ++ bytesOf s
def dovecoteref1_Check.f (a0 : ByteArray) : Option Int := if a0.size ≤ 140737488351232 then some (Dv.chk a0) else none
def dovecoteref1_Bin.f (a0 : ByteArray) : Option (List Int) := if a0.size ≤ 140737488351232 then some (bin a0) else none
set_option maxRecDepth 100000 in
set_option maxHeartbeats 1000000 in
theorem bin_calls (a0 : ByteArray) (w : World) (hs : a0.size ≤ 140737488351232) :
    Calls Tryd.prog 51 #[.string a0] w fun e w' => ∃ v0_ : Value, e = .returned (v0_) ∧ Kd.R (Kd.int .u8) 5 w' w.heap.size (fun _ => True) v0_ (bin a0) ∧ Below w.heap.size w w' := by
  have kb := fun W => print_bytes (P := Tryd.prog) 9 24 5 Tryd.underlying9 Tryd.underlying24 Tryd.underlying5 a0 W
  have HC := fun W => Aside0.mk (C_bytes W a0 hs)
  have HS := Aside0.mk hs
  clear hs
  go_enter Tryd.func51, Tryd.ntmps51
  go_wp2_with (first
    | ((with_reducible refine gate_dst (N := 10) rfl ?_); refine Kd.R_lit (Kd.int .u8) w.heap.size 5 ?hg (N := 10) ?hd (xs := [((a0.size : Int) / 256) % 256, (a0.size : Int) % 256]) (inner := [.int .u8 (((a0.size : Int) / 256) % 256), .int .u8 ((a0.size : Int) % 256)]) (ok := fun _ => True) (okp := fun _ => True) ?hr ?hp (fun _ hk => hk) trivial (Below.refl _ _) (Nat.le_refl _) (by simp) ?_; (case hd => rfl); (case hg => rfl); (case hr => first | (go_simp; done) | (go_simp; rfl)); (case hp => exact (Reps.one (show Kd.M (Kd.int .u8) _ _ _ (((a0.size : Int) / 256) % 256) [.int .u8 (((a0.size : Int) / 256) % 256)] from rfl) (Reps.one (show Kd.M (Kd.int .u8) _ _ _ ((a0.size : Int) % 256) [.int .u8 ((a0.size : Int) % 256)] from rfl) (Reps.none _ _)))); intro v10 w10 ho10 hb10 hg10 hn10; have HO := Aside0.mk ho10; have HB := Aside0.mk hb10; clear ho10 hb10 hg10 hn10)
    | ((with_reducible refine gate_builtin (b := .append) (xs := #[.tmp 10, .tmp 12]) rfl ?_); at_builtin; go_must (refine Kd.R_append_row (Value.int .u8) 0 (h1 := fun _ => rfl) (w0 := w) w.heap.size rfl (.tmp 10) (.tmp 12) 24 5 (.int .u8 0) 1 rfl Tryd.underlying24 qinfo5 rfl (by omega) v10 _ (bytesOf a0) _ a0.size _ (fun _ => True) rfl rfl (fun _ _ => trivial) (Kd.R_below HO.out (bytes_below (Below.refl _ _) (Nat.le_refl _) 5 a0)) (HC w10).out (bytes_below HB.out HB.out.size 5 a0) (by rw [Lib.bytesWorld_size]; have := HB.out.size; omega) (by have := HS.out; simp; omega) ?_); intro v11 w11 ho11 hb11 hg11 hat11; have HO11 := Aside0.mk ho11; have HB11 := Aside0.mk hb11; clear ho11 hb11 hg11 hat11))
  go_ret
  exact ⟨_, rfl, HO11.out, HB11.out⟩
theorem dovecoteref1_Bin.calls (a0 : ByteArray) (r : List Int) (w : World) (h : dovecoteref1_Bin.f a0 = some r) :
    Calls Tryd.prog 51 #[.string a0] w fun e w' => ∃ v0_ : Value, e = .returned (v0_) ∧ Kd.R (Kd.int .u8) 5 w' w.heap.size (fun _ => True) v0_ r ∧ Below w.heap.size w w' := by
  unfold dovecoteref1_Bin.f at h
  split at h
  · rename_i hs; cases h; exact bin_calls a0 w hs
  · cases h

set_option maxRecDepth 100000 in
set_option maxHeartbeats 1000000 in
theorem check_calls (a0 : ByteArray) (w : World) (hs : a0.size ≤ 140737488351232) :
    Calls Tryd.prog 49 #[.string a0] w fun e w' => e = .returned (.int .i64 (Dv.chk a0)) ∧ Below w.heap.size w w' := by
  have kb := fun W => print_bytes (P := Tryd.prog) 9 24 5 Tryd.underlying9 Tryd.underlying24 Tryd.underlying5 a0 W
  have hC : Calls Tryd.prog 72 #[.slice (some ⟨w.heap.size, 0, none⟩) a0.size (grownCap w a0.size 0 5)] (Lib.bytesWorld w 5 a0) fun e w' => e = .returned (.bool (Dv.utf a0.data.toList)) ∧ Below (Lib.bytesWorld w 5 a0).heap.size (Lib.bytesWorld w 5 a0) w' := by
    have h := R.dovecoteref1_Utf.calls (a0.data.toList.length + 7) (fun _ => True) (some ⟨w.heap.size, 0, none⟩) (grownCap w a0.size 0 5) (bytesOf a0) (Dv.utf a0.data.toList) (Lib.bytesWorld w 5 a0) (by rw [bytesOf_length]; exact V_bytes w a0 hs) (R.Utf_f a0.data.toList)
    rwa [bytesOf_length] at h
  have hb0 : Below w.heap.size w (Lib.bytesWorld w 5 a0) := bytes_below (Below.refl _ _) (Nat.le_refl _) 5 a0
  unfold Dv.chk
  generalize Dv.utf a0.data.toList = u at *
  have HC := Lib.hid hC
  have HB := Lib.hid hb0
  clear hC hb0
  cases u with
  | false =>
    have HS := Aside0.mk hs
    clear hs
    go_enter Tryd.func49, Tryd.ntmps49
    go_wp2_with (go_at_call 72; refine HC.out.mono ?_; rintro e w1 ⟨rfl, hb⟩)
    go_ret
    exact ⟨rfl, HB.out.then_ hb⟩
  | true =>
    by_cases hl : a0.size ≤ 65535
    · have HS := Aside0.mk hs
      clear hs
      go_enter Tryd.func49, Tryd.ntmps49
      go_wp2_with (go_at_call 72; refine HC.out.mono ?_; rintro e w1 ⟨rfl, hb⟩)
      go_ret
      exact ⟨rfl, HB.out.then_ hb⟩
    · have HS := Aside0.mk hs
      clear hs
      go_enter Tryd.func49, Tryd.ntmps49
      go_wp2_with (go_at_call 72; refine HC.out.mono ?_; rintro e w1 ⟨rfl, hb⟩)
      go_ret
      exact ⟨rfl, HB.out.then_ hb⟩
theorem dovecoteref1_Check.calls (a0 : ByteArray) (r : Int) (w : World) (h : dovecoteref1_Check.f a0 = some r) :
    Calls Tryd.prog 49 #[.string a0] w fun e w' => e = .returned (.int .i64 r) ∧ Below w.heap.size w w' := by
  unfold dovecoteref1_Check.f at h
  split at h
  · rename_i hs; cases h; exact check_calls a0 w hs
  · cases h
end Go.Proofs.YtaenlmjllmcamaaDoor.Q

import Derived.Test.YtdnmliidmnfijaaDoorKH14
import Derived.Test.YtdnmliidmnfijaaDoorKQ6
import Derived.Deep.MidRow
set_option linter.unusedVariables false
set_option linter.unusedSimpArgs false
namespace Go.Proofs.YtdnmliidmnfijaaDoor.Q
open Go.RowKit Go.Proofs.YtdnmliidmnfijaaDoorW.PrintWords Go.Proofs.YtdnmliidmnfijaaDoorW.PrintLast Go.Proofs.YtdnmliidmnfijaaDoorW.PrintMore
theorem eqpackets_tab6 : rtab .any (opsOf Tryd.f14 6) = dovecoteref0_EqWills.T6 := by kernel_rfl
set_option maxRecDepth 100000 in
set_option maxHeartbeats 4000000 in
theorem EqPackets_ping (w : World) (b1 o1 b2 cap : Nat) (A1 A2 A3 A4 A5 A6 A7 : Option Addr) (c1 c2 c3 c4 c5 c6 c7 : Nat) (h1 : Kd.C k112 w A1 0 []) (h2 : Kd.C k115 w A2 0 []) (h3 : Kd.C Kd.string w A3 0 []) (h4 : Kd.C Kd.string w A4 0 []) (h5 : Kd.C k117 w A5 0 []) (h6 : Kd.C Kd.string w A6 0 []) (h7 : Kd.C (Kd.int .i64) w A7 0 []) (hA : w.rangeAt b1 o1 [.int .i64 12, .bool false, .int .i64 0, .bool false, .string ⟨#[]⟩, .int .i64 0, .string ⟨#[]⟩, .slice A1 0 c1, .string ⟨#[]⟩, .bool false, .int .i64 0, .slice A2 0 c2, .slice A3 0 c3, .slice A4 0 c4, .int .i64 0, .bool false, .slice A5 0 c5, .slice A6 0 c6, .slice A7 0 c7]) (hB : w.rangeAt b2 0 [.int .i64 12, .bool false, .int .i64 0, .bool false, .string ⟨#[]⟩, .int .i64 0, .string ⟨#[]⟩, .slice none 0 0, .string ⟨#[]⟩, .bool false, .int .i64 0, .slice none 0 0, .slice none 0 0, .slice none 0 0, .int .i64 0, .bool false, .slice none 0 0, .slice none 0 0, .slice none 0 0]) :
    Calls Tryd.prog 14 #[.slice (some ⟨b1, o1, none⟩) 1 cap, .slice (some ⟨b2, 0, none⟩) 1 1] w fun e w' => e = .returned (.bool true) ∧ Below w.heap.size w w' := by
  have E := Lib.hid (fun W (hW : Below w.heap.size w W) => EqPacket_ping W A1 A2 A3 A4 A5 A6 A7 c1 c2 c3 c4 c5 c6 c7 (Kd.C_below h1 hW) (Kd.C_below h2 hW) (Kd.C_below h3 hW) (Kd.C_below h4 hW) (Kd.C_below h5 hW) (Kd.C_below h6 hW) (Kd.C_below h7 hW))
  have HA := Lib.hid hA
  have HB := Lib.hid hB
  clear hA hB h1 h2 h3 h4 h5 h6 h7
  go_enter Tryd.func14, Tryd.ntmps14
  go_wp2_with fail
  refine wp_loop_rounds 2 ?_
  rw [rounds_succ]
  go_upto_region 6 with fail
  refine start_ (n := 10) (S := fun w' => w'.rangeAt b1 o1 [.int .i64 12, .bool false, .int .i64 0, .bool false, .string ⟨#[]⟩, .int .i64 0, .string ⟨#[]⟩, .slice A1 0 c1, .string ⟨#[]⟩, .bool false, .int .i64 0, .slice A2 0 c2, .slice A3 0 c3, .slice A4 0 c4, .int .i64 0, .bool false, .slice A5 0 c5, .slice A6 0 c6, .slice A7 0 c7] ∧ w'.rangeAt b2 0 [.int .i64 12, .bool false, .int .i64 0, .bool false, .string ⟨#[]⟩, .int .i64 0, .string ⟨#[]⟩, .slice none 0 0, .string ⟨#[]⟩, .bool false, .int .i64 0, .slice none 0 0, .slice none 0 0, .slice none 0 0, .int .i64 0, .bool false, .slice none 0 0, .slice none 0 0, .slice none 0 0]) (ds := []) #[false, false, false, false, false, false, false, false, false, false] (by kernel_rfl) rfl rfl ⟨HA.out, HB.out⟩ (fun hHeld => ?_)
  refine with_tabW eqpackets_tab6 dovecoteref0_EqWills.bits6 (fun HT_ HW_ => ?_)
  refine pure_ (i := 0) (N := some 17) (v := ?_) (a' := ?_) #[true, false, false, false, false, false, false, false, false, false] rfl rfl (any_of HT_.out (by kernel_rfl)) (fun _ _ _ h => h) (Or.inl ⟨by rfl, ?_⟩) ?_ ?_
  rotate_left
  · intro w'
    go_simp
    with_reducible rfl
  rotate_left
  · simp only [Act.put, List.setIfInBounds_toArray, List.set_cons_zero, List.set_cons_succ, i64_w, i32_w]
    rfl
  refine pure_ (i := 1) (N := some 18) (v := ?_) (a' := ?_) #[true, true, false, false, false, false, false, false, false, false] rfl rfl (any_of HT_.out (by kernel_rfl)) (fun _ _ _ h => h) (Or.inl ⟨by rfl, ?_⟩) ?_ ?_
  rotate_left
  · intro w'
    go_simp
    with_reducible rfl
  rotate_left
  · simp only [Act.put, List.setIfInBounds_toArray, List.set_cons_zero, List.set_cons_succ, i64_w, i32_w]
    rfl
  refine pure_ (i := 2) (N := some 19) (v := ?_) (a' := ?_) #[true, true, true, false, false, false, false, false, false, false] rfl rfl (any_of HT_.out (by kernel_rfl)) (fun _ _ _ h => h) (Or.inl ⟨by rfl, ?_⟩) ?_ ?_
  rotate_left
  · intro w'
    go_simp
    with_reducible rfl
  rotate_left
  · simp only [Act.put, List.setIfInBounds_toArray, List.set_cons_zero, List.set_cons_succ, i64_w, i32_w]
    rfl
  refine pure_ (i := 4) (N := some 21) (v := ?_) (a' := ?_) #[true, true, true, false, true, false, false, false, false, false] rfl rfl (any_of HT_.out (by kernel_rfl)) (fun _ _ _ h => h) (Or.inl ⟨by rfl, ?_⟩) ?_ ?_
  rotate_left
  · intro w'
    go_simp
    with_reducible rfl
  rotate_left
  · simp only [Act.put, List.setIfInBounds_toArray, List.set_cons_zero, List.set_cons_succ, i64_w, i32_w]
    rfl
  refine pure_ (i := 5) (N := some 22) (v := ?_) (a' := ?_) #[true, true, true, false, true, true, false, false, false, false] rfl rfl (any_of HT_.out (by kernel_rfl)) (fun _ _ _ h => h) (Or.inl ⟨by rfl, ?_⟩) ?_ ?_
  rotate_left
  · intro w'
    go_simp
    with_reducible rfl
  rotate_left
  · simp only [Act.put, List.setIfInBounds_toArray, List.set_cons_zero, List.set_cons_succ, i64_w, i32_w]
    rfl
  refine pure_ (i := 6) (N := some 23) (v := ?_) (a' := ?_) #[true, true, true, false, true, true, true, false, false, false] rfl rfl (any_of HT_.out (by kernel_rfl)) (fun _ _ _ h => h) (Or.inl ⟨by rfl, ?_⟩) ?_ ?_
  rotate_left
  · intro w'
    go_simp
    with_reducible rfl
  rotate_left
  · simp only [Act.put, List.setIfInBounds_toArray, List.set_cons_zero, List.set_cons_succ, i64_w, i32_w]
    rfl
  refine take_ (i := 3) (N := some 20) (v := .agg #[.int .i64 12, .bool false, .int .i64 0, .bool false, .string ⟨#[]⟩, .int .i64 0, .string ⟨#[]⟩, .slice A1 0 c1, .string ⟨#[]⟩, .bool false, .int .i64 0, .slice A2 0 c2, .slice A3 0 c3, .slice A4 0 c4, .int .i64 0, .bool false, .slice A5 0 c5, .slice A6 0 c6, .slice A7 0 c7]) (a' := ?_) #[true, true, true, true, true, true, true, false, false, false] rfl rfl (take_ofW HT_.out HW_.out (by kernel_rfl)) (fun _ _ _ h => h) (yieldsIf_load_mid (by rfl) 40 _ rfl b1 o1 (by rfl) [.int .i64 12, .bool false, .int .i64 0, .bool false, .string ⟨#[]⟩, .int .i64 0, .string ⟨#[]⟩, .slice A1 0 c1, .string ⟨#[]⟩, .bool false, .int .i64 0, .slice A2 0 c2, .slice A3 0 c3, .slice A4 0 c4, .int .i64 0, .bool false, .slice A5 0 c5, .slice A6 0 c6, .slice A7 0 c7] _ (fun _ h => h.1) Tryd.underlying40 rfl (by kernel_rfl)) hHeld ?_ ?_
  rotate_left
  · simp only [Act.put, List.setIfInBounds_toArray, List.set_cons_zero, List.set_cons_succ, i64_w, i32_w]
    rfl
  refine take_ (i := 7) (N := some 24) (v := .agg #[.int .i64 12, .bool false, .int .i64 0, .bool false, .string ⟨#[]⟩, .int .i64 0, .string ⟨#[]⟩, .slice none 0 0, .string ⟨#[]⟩, .bool false, .int .i64 0, .slice none 0 0, .slice none 0 0, .slice none 0 0, .int .i64 0, .bool false, .slice none 0 0, .slice none 0 0, .slice none 0 0]) (a' := ?_) #[true, true, true, true, true, true, true, true, false, false] rfl rfl (take_ofW HT_.out HW_.out (by kernel_rfl)) (fun _ _ _ h => h) (yieldsIf_load_mid (by rfl) 40 _ rfl b2 0 (by rfl) [.int .i64 12, .bool false, .int .i64 0, .bool false, .string ⟨#[]⟩, .int .i64 0, .string ⟨#[]⟩, .slice none 0 0, .string ⟨#[]⟩, .bool false, .int .i64 0, .slice none 0 0, .slice none 0 0, .slice none 0 0, .int .i64 0, .bool false, .slice none 0 0, .slice none 0 0, .slice none 0 0] _ (fun _ h => h.2) Tryd.underlying40 rfl (by kernel_rfl)) hHeld ?_ ?_
  rotate_left
  · simp only [Act.put, List.setIfInBounds_toArray, List.set_cons_zero, List.set_cons_succ, i64_w, i32_w]
    rfl
  refine one_ (i := 8) (N := some 25) #[true, true, true, true, true, true, true, true, true, false] rfl rfl (one_of HT_.out (by kernel_rfl)) (by decide) (fun K hK => ?_)
  refine goes_ Tryd.func20 (by kernel_rfl) rfl #[.agg #[.int .i64 12, .bool false, .int .i64 0, .bool false, .string ⟨#[]⟩, .int .i64 0, .string ⟨#[]⟩, .slice A1 0 c1, .string ⟨#[]⟩, .bool false, .int .i64 0, .slice A2 0 c2, .slice A3 0 c3, .slice A4 0 c4, .int .i64 0, .bool false, .slice A5 0 c5, .slice A6 0 c6, .slice A7 0 c7], .agg #[.int .i64 12, .bool false, .int .i64 0, .bool false, .string ⟨#[]⟩, .int .i64 0, .string ⟨#[]⟩, .slice none 0 0, .string ⟨#[]⟩, .bool false, .int .i64 0, .slice none 0 0, .slice none 0 0, .slice none 0 0, .int .i64 0, .bool false, .slice none 0 0, .slice none 0 0, .slice none 0 0]] (by rfl) rfl rfl (by (try simp only [List.map_toArray, List.map_cons, List.map_nil]); first | done | rfl) ?_
  refine (E.out _ (by exact Drawn0.below ⟨⟨1, rfl⟩⟩)).mono ?_
  rintro e w10 ⟨rfl, hb⟩
  have hb2 : Below w.heap.size w w10 := (Drawn0.below (w := w) (w' := w.drew) ⟨⟨1, rfl⟩⟩).then_ hb
  have HB2 := Lib.hid hb2
  refine ⟨_, rfl, ?_⟩
  refine hK.out _ _ ⟨fun j v hv => ?_, fun j v hv => ?_⟩ (fun hHeld => ?_)
  · have := HA.out j v hv
    exact (hb2.cell (World.block_lt_of_cell? w _ this)).trans this
  · have := HB.out j v hv
    exact (hb2.cell (World.block_lt_of_cell? w _ this)).trans this
  clear hK K hb hb2
  refine norm_ (a' := ?_) ?_ ?_
  rotate_left
  · show Act.put _ (some 25) _ = _
    simp only [Act.put, List.setIfInBounds_toArray, List.set_cons_zero, List.set_cons_succ, i64_w, i32_w]
    rfl
  refine pure_ (i := 9) (N := some 26) (v := ?_) (a' := ?_) #[true, true, true, true, true, true, true, true, true, true] rfl rfl (any_of HT_.out (by kernel_rfl)) (fun _ _ _ h => h) (Or.inl ⟨by rfl, ?_⟩) ?_ ?_
  rotate_left
  · intro w'
    go_simp
    with_reducible rfl
  rotate_left
  · simp only [Act.put, List.setIfInBounds_toArray, List.set_cons_zero, List.set_cons_succ, i64_w, i32_w]
    rfl
  refine done_ (done_of HT_.out (by kernel_rfl)) ?_
  go_wp2_with fail
  rw [rounds_succ]
  go_wp2
  go_ret
  exact ⟨rfl, HB2.out⟩
end Go.Proofs.YtdnmliidmnfijaaDoor.Q

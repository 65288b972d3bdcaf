import Derived.Test.YtondmmoabmhpfaaDoorKG8
import Derived.Test.YtondmmoabmhpfaaDoorKQ2
import Derived.Test.YtondmmoabmhpfaaDoorKQ10
import Derived.Outline
import Derived.Deep.DeepMust
import Derived.Deep.RegionHeld3
import Derived.RegionTactic
import Derived.BigRegion
import Derived.ChangeAlike
import Derived.Test.YtondmmoabmhpfaaDoorKG9
set_option linter.unusedVariables false
set_option linter.unusedSimpArgs false
namespace Go.Proofs.YtondmmoabmhpfaaDoor.Q
open Go.RowKit Go.Proofs.YtondmmoabmhpfaaDoorW.PrintWords Go.Proofs.YtondmmoabmhpfaaDoorW.PrintLast Go.Proofs.YtondmmoabmhpfaaDoorW.PrintMore
set_option maxRecDepth 100000 in
set_option maxHeartbeats 4000000 in
theorem ref3_num1s (A : Option Addr) (c : Nat) (l : List Int) (w : World) (hr : Kd.C (Kd.int .u8) w A l.length l) (hc : l.length ≤ c) (hb : bok l) (id sz : Int) (hv : Dv.varGet l = (id, sz, 0)) (hk : kindOf id = 1) (hl : (l.drop sz.toNat).length < 1) :
    Calls Tryd.prog 33 #[.slice A l.length c] w fun e w' => e = .returned (.tuple #[.agg #[.int .i64 id, .int .i64 0, .string ⟨#[]⟩, .string ⟨#[]⟩], .int .i64 0]) ∧ Below w.heap.size w w' := by
  have hg := varGet_good l hb
  have hbr := bok_drop hb sz.toNat
  rw [hv] at hg
  dsimp only at hg
  have hm := hr.2.1
  obtain ⟨A2, hcut, hr2, hc2⟩ : ∃ A', (∀ W : World, (Instr.slice 35 (.slice A l.length c) (some (.int .i64 sz)) none none).run Tryd.prog W = .ok (.slice A' (l.drop sz.toNat).length (c - sz.toNat)) W) ∧ Kd.C (Kd.int .u8) w A' (l.drop sz.toNat).length (l.drop sz.toNat) ∧ (l.drop sz.toNat).length ≤ c - sz.toNat := by
    obtain ⟨i0, hi, _, hsz, _⟩ := info_parts qinfo5
    obtain ⟨A', h1, h2, h3⟩ := print_drop_of (P := Tryd.prog) (Value.int .u8) 0 35 5 .i64 Tryd.underlying35 hi hsz A c l sz (by omega) (by omega) hc
    exact ⟨A', h1, Kd.C_of_reads (h1 := fun _ => rfl) (h2 _ (Kd.reads_of_C hr)), h3⟩
  have CC := Lib.hid (dovecoteref1_Get.calls 20 A c l id sz 0 (w.alloc (.cells #[.int .i64 0, .int .i64 0, .string ⟨#[]⟩, .string ⟨#[]⟩] 24)) (Kd.C_below hr (below_alloc (Below.refl _ _) _)) hc (rget3 hb hv))
  have CK := Lib.hid (fun w => dovecoteref3_kind.calls 10 id 1 w (by rw [← hk]; exact kind_f id))
  have HR2 := Lib.hid hr2
  have HC2 := Lib.hid hc2
  have HBR := Lib.hid hbr
  obtain ⟨hsz0, hsz4⟩ : 0 ≤ sz ∧ sz ≤ 4 := by omega
  have hr63 := hr2.2.1
  have hlt : (l.drop sz.toNat).length < 1 := hl
  clear hr hb hv hk hr2 hc2 hbr hg
  generalize l.drop sz.toNat = r at *
  generalize c - sz.toNat = c2 at *
  have d1 : decide (r.length < 1) = true := decide_eq_true hlt
  have d2 : decide ((r.length : Int) < 1) = true := decide_eq_true (by omega)
  clear hlt hl
  go_enter Tryd.func33, Tryd.ntmps33
  go_wp2_with fail
  refine CC.out.mono ?_
  rintro e w2 ⟨rfl, hb2⟩
  have hT := Two.start id hb2
  have HT := Lib.hid hT
  clear hb2 hT
  go_wp2_with fail
  refine (CK.out _).mono ?_
  rintro e w3 ⟨rfl, hd⟩
  have hT3 := HT.out.after hd.below
  clear hd HT
  generalize w2.heap.size = b at *
  obtain ⟨⟨x0, x1, x2, x3⟩, f0, f1, f2, f3⟩ := hT3.row.facts
  obtain ⟨⟨y0, y1, y2, y3⟩, g0, g1, g2, g3⟩ := hT3.out.facts
  obtain ⟨n1, n2⟩ := hT3.nes
  have HT3 := Lib.hid hT3
  clear hT3
  go_wp2_with fail
  refine (CK.out _).mono ?_
  rintro e w4 ⟨rfl, hd⟩
  have hT4 := HT3.out.after hd.below
  clear hd HT3 x0 x1 x2 x3 y0 y1 y2 y3 f0 f1 f2 f3 g0 g1 g2 g3 n1 n2
  obtain ⟨⟨x0, x1, x2, x3⟩, f0, f1, f2, f3⟩ := hT4.row.facts
  obtain ⟨⟨y0, y1, y2, y3⟩, g0, g1, g2, g3⟩ := hT4.out.facts
  obtain ⟨n1, n2⟩ := hT4.nes
  have HT4 := Lib.hid hT4
  clear hT4
  go_wp2
  refine bodyPost_ret (v := .tuple #[.agg #[.int .i64 id, .int .i64 0, .string ⟨#[]⟩, .string ⟨#[]⟩], .int .i64 0]) (by simp [results, Tryd.results33, go_sem, x0, x1, x2, x3, y0, y1, y2, y3]) rfl ⟨rfl, ?_⟩
  exact HT4.out.ends _ _ _ _
set_option maxRecDepth 100000 in
set_option maxHeartbeats 4000000 in
theorem ref3_num1 (A : Option Addr) (c : Nat) (l : List Int) (w : World) (hr : Kd.C (Kd.int .u8) w A l.length l) (hc : l.length ≤ c) (hb : bok l) (id sz : Int) (hv : Dv.varGet l = (id, sz, 0)) (hk : kindOf id = 1) (hl : 1 ≤ (l.drop sz.toNat).length) :
    Calls Tryd.prog 33 #[.slice A l.length c] w fun e w' => e = .returned (.tuple #[.agg #[.int .i64 id, .int .i64 (be ((l.drop sz.toNat).take 1)), .string ⟨#[]⟩, .string ⟨#[]⟩], .int .i64 (sz + 1)]) ∧ Below w.heap.size w w' := by
  have hg := varGet_good l hb
  have hbr := bok_drop hb sz.toNat
  rw [hv] at hg
  dsimp only at hg
  have hm := hr.2.1
  obtain ⟨A2, hcut, hr2, hc2⟩ : ∃ A', (∀ W : World, (Instr.slice 35 (.slice A l.length c) (some (.int .i64 sz)) none none).run Tryd.prog W = .ok (.slice A' (l.drop sz.toNat).length (c - sz.toNat)) W) ∧ Kd.C (Kd.int .u8) w A' (l.drop sz.toNat).length (l.drop sz.toNat) ∧ (l.drop sz.toNat).length ≤ c - sz.toNat := by
    obtain ⟨i0, hi, _, hsz, _⟩ := info_parts qinfo5
    obtain ⟨A', h1, h2, h3⟩ := print_drop_of (P := Tryd.prog) (Value.int .u8) 0 35 5 .i64 Tryd.underlying35 hi hsz A c l sz (by omega) (by omega) hc
    exact ⟨A', h1, Kd.C_of_reads (h1 := fun _ => rfl) (h2 _ (Kd.reads_of_C hr)), h3⟩
  have CC := Lib.hid (dovecoteref1_Get.calls 20 A c l id sz 0 (w.alloc (.cells #[.int .i64 0, .int .i64 0, .string ⟨#[]⟩, .string ⟨#[]⟩] 24)) (Kd.C_below hr (below_alloc (Below.refl _ _) _)) hc (rget3 hb hv))
  have CK := Lib.hid (fun w => dovecoteref3_kind.calls 10 id 1 w (by rw [← hk]; exact kind_f id))
  have HR2 := Lib.hid hr2
  have HC2 := Lib.hid hc2
  have HBR := Lib.hid hbr
  obtain ⟨hsz0, hsz4⟩ : 0 ≤ sz ∧ sz ≤ 4 := by omega
  have hr63 := hr2.2.1
  have hlt : 1 ≤ (l.drop sz.toNat).length := hl
  clear hr hb hv hk hr2 hc2 hbr hg
  generalize l.drop sz.toNat = r at *
  generalize c - sz.toNat = c2 at *
  have d1 : decide (r.length < 1) = false := decide_eq_false (by omega)
  have d2 : decide ((r.length : Int) < 1) = false := decide_eq_false (by omega)
  have HLT := Lib.hid hlt
  clear hlt hl
  go_enter Tryd.func33, Tryd.ntmps33
  go_wp2_with fail
  refine CC.out.mono ?_
  rintro e w2 ⟨rfl, hb2⟩
  have hT := Two.start id hb2
  have HT := Lib.hid hT
  clear hb2 hT
  go_wp2_with fail
  refine (CK.out _).mono ?_
  rintro e w3 ⟨rfl, hd⟩
  have hT3 := HT.out.after hd.below
  clear hd HT
  generalize w2.heap.size = b at *
  obtain ⟨⟨x0, x1, x2, x3⟩, f0, f1, f2, f3⟩ := hT3.row.facts
  obtain ⟨⟨y0, y1, y2, y3⟩, g0, g1, g2, g3⟩ := hT3.out.facts
  obtain ⟨n1, n2⟩ := hT3.nes
  have HT3 := Lib.hid hT3
  clear hT3
  go_wp2_with fail
  refine (CK.out _).mono ?_
  rintro e w4 ⟨rfl, hd⟩
  have hT4 := HT3.out.after hd.below
  clear hd HT3 x0 x1 x2 x3 y0 y1 y2 y3 f0 f1 f2 f3 g0 g1 g2 g3 n1 n2
  have HT4 := Lib.hid hT4
  clear hT4
  go_wp2_with fail
  go_loopw [9] (fun i wr => ∃ j : Nat, j ≤ 1 ∧ i = .int .i64 j ∧ Two w wr b id (be (r.take j)) ⟨#[]⟩ ⟨#[]⟩) (fun i _ => 1 - (intOf i).toNat)
  case atStart => exact ⟨0, by decide, rfl, HT4.out⟩
  case round =>
    obtain ⟨j, hj, rfl, hTj⟩ := hrel
    clear HT4 d1 d2
    by_cases hjk : j < 1
    · have d3 : decide ((j : Int) < 1) = true := decide_eq_true (by omega)
      obtain ⟨hV0, hV1⟩ := be_small r HBR.out j (by omega) (by have := HLT.out; omega)
      obtain ⟨ad, ea, hc0⟩ := Kd.at_int HR2.out (j : Int) (by omega) (by have := HLT.out; omega)
      cases ea
      have hx := bok_rd HBR.out (j : Int) (by omega) (by have := HLT.out; omega)
      have hbt := be_take r j (by have := HLT.out; omega)
      rw [show r.getD j 0 = rd r (j : Int) by unfold rd; rw [Int.toNat_natCast]] at hbt
      have HBT := Lib.hid hbt
      obtain ⟨hx0, hx1⟩ := hx
      have hadb : (ad.add j).block < w.heap.size := by have := World.block_lt_of_cell? _ _ hc0; simpa using this
      replace hc0 := (hTj.below.cell (World.block_lt_of_cell? _ _ hc0)).trans hc0
      rw [Int.toNat_natCast] at hc0
      have hnb : b ≠ (ad.add j).block := by have h2 := hTj.ne; omega
      clear hadb
      have i0 : (0 : Int) ≤ (j : Int) := by omega
      have i1 : (j : Int) < (r.length : Int) := by have := HLT.out; omega
      have i1n : (j < r.length) = True := eq_true (by have := HLT.out; omega)
      clear hbt
      generalize rd r (j : Int) = x at *
      generalize be (r.take j) = V at *
      have hor := i64_or256 (x := V) (y := x) hV0 (by omega) hx0 (by omega)
      obtain ⟨⟨x0, x1, x2, x3⟩, f0, f1, f2, f3⟩ := hTj.row.facts
      obtain ⟨⟨y0, y1, y2, y3⟩, g0, g1, g2, g3⟩ := hTj.out.facts
      obtain ⟨n1, n2⟩ := hTj.nes
      have HTj := Lib.hid hTj
      clear hTj
      have w1 : IntKind.i64.wrap (V * 256) = V * 256 := by rw [IntKind.wrap_i64]; omega
      have w2 : IntKind.i64.wrap x = x := by rw [IntKind.wrap_i64]; omega
      go_wp2_with fail
      go_region
      clear w1 w2 hor
      go_wp2_with fail
      go_roundw
      case rel => exact ⟨j + 1, by omega, by go_num, by rw [HBT.out]; exact (HTj.out.set1 _).after (Drawn0.below ⟨⟨1, rfl⟩⟩)⟩
      case measure => simp [intOf]; omega
    · obtain rfl : j = 1 := by omega
      have d3 : decide (((1 : Nat) : Int) < 1) = false := by decide
      obtain ⟨⟨x0, x1, x2, x3⟩, f0, f1, f2, f3⟩ := hTj.row.facts
      obtain ⟨⟨y0, y1, y2, y3⟩, g0, g1, g2, g3⟩ := hTj.out.facts
      obtain ⟨n1, n2⟩ := hTj.nes
      have HTj := Lib.hid hTj
      clear hTj
      go_wp2
      refine bodyPost_ret (v := .tuple #[.agg #[.int .i64 id, .int .i64 (be (r.take 1)), .string ⟨#[]⟩, .string ⟨#[]⟩], .int .i64 (sz + 1)]) (by simp [results, Tryd.results33, go_sem, x0, x1, x2, x3, y0, y1, y2, y3]) rfl ⟨rfl, ?_⟩
      exact HTj.out.ends _ _ _ _
set_option maxRecDepth 100000 in
set_option maxHeartbeats 4000000 in
theorem ref3_num2s (A : Option Addr) (c : Nat) (l : List Int) (w : World) (hr : Kd.C (Kd.int .u8) w A l.length l) (hc : l.length ≤ c) (hb : bok l) (id sz : Int) (hv : Dv.varGet l = (id, sz, 0)) (hk : kindOf id = 2) (hl : (l.drop sz.toNat).length < 2) :
    Calls Tryd.prog 33 #[.slice A l.length c] w fun e w' => e = .returned (.tuple #[.agg #[.int .i64 id, .int .i64 0, .string ⟨#[]⟩, .string ⟨#[]⟩], .int .i64 0]) ∧ Below w.heap.size w w' := by
  have hg := varGet_good l hb
  have hbr := bok_drop hb sz.toNat
  rw [hv] at hg
  dsimp only at hg
  have hm := hr.2.1
  obtain ⟨A2, hcut, hr2, hc2⟩ : ∃ A', (∀ W : World, (Instr.slice 35 (.slice A l.length c) (some (.int .i64 sz)) none none).run Tryd.prog W = .ok (.slice A' (l.drop sz.toNat).length (c - sz.toNat)) W) ∧ Kd.C (Kd.int .u8) w A' (l.drop sz.toNat).length (l.drop sz.toNat) ∧ (l.drop sz.toNat).length ≤ c - sz.toNat := by
    obtain ⟨i0, hi, _, hsz, _⟩ := info_parts qinfo5
    obtain ⟨A', h1, h2, h3⟩ := print_drop_of (P := Tryd.prog) (Value.int .u8) 0 35 5 .i64 Tryd.underlying35 hi hsz A c l sz (by omega) (by omega) hc
    exact ⟨A', h1, Kd.C_of_reads (h1 := fun _ => rfl) (h2 _ (Kd.reads_of_C hr)), h3⟩
  have CC := Lib.hid (dovecoteref1_Get.calls 20 A c l id sz 0 (w.alloc (.cells #[.int .i64 0, .int .i64 0, .string ⟨#[]⟩, .string ⟨#[]⟩] 24)) (Kd.C_below hr (below_alloc (Below.refl _ _) _)) hc (rget3 hb hv))
  have CK := Lib.hid (fun w => dovecoteref3_kind.calls 10 id 2 w (by rw [← hk]; exact kind_f id))
  have HR2 := Lib.hid hr2
  have HC2 := Lib.hid hc2
  have HBR := Lib.hid hbr
  obtain ⟨hsz0, hsz4⟩ : 0 ≤ sz ∧ sz ≤ 4 := by omega
  have hr63 := hr2.2.1
  have hlt : (l.drop sz.toNat).length < 2 := hl
  clear hr hb hv hk hr2 hc2 hbr hg
  generalize l.drop sz.toNat = r at *
  generalize c - sz.toNat = c2 at *
  have d1 : decide (r.length < 2) = true := decide_eq_true hlt
  have d2 : decide ((r.length : Int) < 2) = true := decide_eq_true (by omega)
  clear hlt hl
  go_enter Tryd.func33, Tryd.ntmps33
  go_wp2_with fail
  refine CC.out.mono ?_
  rintro e w2 ⟨rfl, hb2⟩
  have hT := Two.start id hb2
  have HT := Lib.hid hT
  clear hb2 hT
  go_wp2_with fail
  refine (CK.out _).mono ?_
  rintro e w3 ⟨rfl, hd⟩
  have hT3 := HT.out.after hd.below
  clear hd HT
  generalize w2.heap.size = b at *
  obtain ⟨⟨x0, x1, x2, x3⟩, f0, f1, f2, f3⟩ := hT3.row.facts
  obtain ⟨⟨y0, y1, y2, y3⟩, g0, g1, g2, g3⟩ := hT3.out.facts
  obtain ⟨n1, n2⟩ := hT3.nes
  have HT3 := Lib.hid hT3
  clear hT3
  go_wp2_with fail
  refine (CK.out _).mono ?_
  rintro e w4 ⟨rfl, hd⟩
  have hT4 := HT3.out.after hd.below
  clear hd HT3 x0 x1 x2 x3 y0 y1 y2 y3 f0 f1 f2 f3 g0 g1 g2 g3 n1 n2
  obtain ⟨⟨x0, x1, x2, x3⟩, f0, f1, f2, f3⟩ := hT4.row.facts
  obtain ⟨⟨y0, y1, y2, y3⟩, g0, g1, g2, g3⟩ := hT4.out.facts
  obtain ⟨n1, n2⟩ := hT4.nes
  have HT4 := Lib.hid hT4
  clear hT4
  go_wp2
  refine bodyPost_ret (v := .tuple #[.agg #[.int .i64 id, .int .i64 0, .string ⟨#[]⟩, .string ⟨#[]⟩], .int .i64 0]) (by simp [results, Tryd.results33, go_sem, x0, x1, x2, x3, y0, y1, y2, y3]) rfl ⟨rfl, ?_⟩
  exact HT4.out.ends _ _ _ _
set_option maxRecDepth 100000 in
set_option maxHeartbeats 4000000 in
theorem ref3_num2 (A : Option Addr) (c : Nat) (l : List Int) (w : World) (hr : Kd.C (Kd.int .u8) w A l.length l) (hc : l.length ≤ c) (hb : bok l) (id sz : Int) (hv : Dv.varGet l = (id, sz, 0)) (hk : kindOf id = 2) (hl : 2 ≤ (l.drop sz.toNat).length) :
    Calls Tryd.prog 33 #[.slice A l.length c] w fun e w' => e = .returned (.tuple #[.agg #[.int .i64 id, .int .i64 (be ((l.drop sz.toNat).take 2)), .string ⟨#[]⟩, .string ⟨#[]⟩], .int .i64 (sz + 2)]) ∧ Below w.heap.size w w' := by
  have hg := varGet_good l hb
  have hbr := bok_drop hb sz.toNat
  rw [hv] at hg
  dsimp only at hg
  have hm := hr.2.1
  obtain ⟨A2, hcut, hr2, hc2⟩ : ∃ A', (∀ W : World, (Instr.slice 35 (.slice A l.length c) (some (.int .i64 sz)) none none).run Tryd.prog W = .ok (.slice A' (l.drop sz.toNat).length (c - sz.toNat)) W) ∧ Kd.C (Kd.int .u8) w A' (l.drop sz.toNat).length (l.drop sz.toNat) ∧ (l.drop sz.toNat).length ≤ c - sz.toNat := by
    obtain ⟨i0, hi, _, hsz, _⟩ := info_parts qinfo5
    obtain ⟨A', h1, h2, h3⟩ := print_drop_of (P := Tryd.prog) (Value.int .u8) 0 35 5 .i64 Tryd.underlying35 hi hsz A c l sz (by omega) (by omega) hc
    exact ⟨A', h1, Kd.C_of_reads (h1 := fun _ => rfl) (h2 _ (Kd.reads_of_C hr)), h3⟩
  have CC := Lib.hid (dovecoteref1_Get.calls 20 A c l id sz 0 (w.alloc (.cells #[.int .i64 0, .int .i64 0, .string ⟨#[]⟩, .string ⟨#[]⟩] 24)) (Kd.C_below hr (below_alloc (Below.refl _ _) _)) hc (rget3 hb hv))
  have CK := Lib.hid (fun w => dovecoteref3_kind.calls 10 id 2 w (by rw [← hk]; exact kind_f id))
  have HR2 := Lib.hid hr2
  have HC2 := Lib.hid hc2
  have HBR := Lib.hid hbr
  obtain ⟨hsz0, hsz4⟩ : 0 ≤ sz ∧ sz ≤ 4 := by omega
  have hr63 := hr2.2.1
  have hlt : 2 ≤ (l.drop sz.toNat).length := hl
  clear hr hb hv hk hr2 hc2 hbr hg
  generalize l.drop sz.toNat = r at *
  generalize c - sz.toNat = c2 at *
  have d1 : decide (r.length < 2) = false := decide_eq_false (by omega)
  have d2 : decide ((r.length : Int) < 2) = false := decide_eq_false (by omega)
  have HLT := Lib.hid hlt
  clear hlt hl
  go_enter Tryd.func33, Tryd.ntmps33
  go_wp2_with fail
  refine CC.out.mono ?_
  rintro e w2 ⟨rfl, hb2⟩
  have hT := Two.start id hb2
  have HT := Lib.hid hT
  clear hb2 hT
  go_wp2_with fail
  refine (CK.out _).mono ?_
  rintro e w3 ⟨rfl, hd⟩
  have hT3 := HT.out.after hd.below
  clear hd HT
  generalize w2.heap.size = b at *
  obtain ⟨⟨x0, x1, x2, x3⟩, f0, f1, f2, f3⟩ := hT3.row.facts
  obtain ⟨⟨y0, y1, y2, y3⟩, g0, g1, g2, g3⟩ := hT3.out.facts
  obtain ⟨n1, n2⟩ := hT3.nes
  have HT3 := Lib.hid hT3
  clear hT3
  go_wp2_with fail
  refine (CK.out _).mono ?_
  rintro e w4 ⟨rfl, hd⟩
  have hT4 := HT3.out.after hd.below
  clear hd HT3 x0 x1 x2 x3 y0 y1 y2 y3 f0 f1 f2 f3 g0 g1 g2 g3 n1 n2
  have HT4 := Lib.hid hT4
  clear hT4
  go_wp2_with fail
  go_loopw [9] (fun i wr => ∃ j : Nat, j ≤ 2 ∧ i = .int .i64 j ∧ Two w wr b id (be (r.take j)) ⟨#[]⟩ ⟨#[]⟩) (fun i _ => 2 - (intOf i).toNat)
  case atStart => exact ⟨0, by decide, rfl, HT4.out⟩
  case round =>
    obtain ⟨j, hj, rfl, hTj⟩ := hrel
    clear HT4 d1 d2
    by_cases hjk : j < 2
    · have d3 : decide ((j : Int) < 2) = true := decide_eq_true (by omega)
      obtain ⟨hV0, hV1⟩ := be_small r HBR.out j (by omega) (by have := HLT.out; omega)
      obtain ⟨ad, ea, hc0⟩ := Kd.at_int HR2.out (j : Int) (by omega) (by have := HLT.out; omega)
      cases ea
      have hx := bok_rd HBR.out (j : Int) (by omega) (by have := HLT.out; omega)
      have hbt := be_take r j (by have := HLT.out; omega)
      rw [show r.getD j 0 = rd r (j : Int) by unfold rd; rw [Int.toNat_natCast]] at hbt
      have HBT := Lib.hid hbt
      obtain ⟨hx0, hx1⟩ := hx
      have hadb : (ad.add j).block < w.heap.size := by have := World.block_lt_of_cell? _ _ hc0; simpa using this
      replace hc0 := (hTj.below.cell (World.block_lt_of_cell? _ _ hc0)).trans hc0
      rw [Int.toNat_natCast] at hc0
      have hnb : b ≠ (ad.add j).block := by have h2 := hTj.ne; omega
      clear hadb
      have i0 : (0 : Int) ≤ (j : Int) := by omega
      have i1 : (j : Int) < (r.length : Int) := by have := HLT.out; omega
      have i1n : (j < r.length) = True := eq_true (by have := HLT.out; omega)
      clear hbt
      generalize rd r (j : Int) = x at *
      generalize be (r.take j) = V at *
      have hor := i64_or256 (x := V) (y := x) hV0 (by omega) hx0 (by omega)
      obtain ⟨⟨x0, x1, x2, x3⟩, f0, f1, f2, f3⟩ := hTj.row.facts
      obtain ⟨⟨y0, y1, y2, y3⟩, g0, g1, g2, g3⟩ := hTj.out.facts
      obtain ⟨n1, n2⟩ := hTj.nes
      have HTj := Lib.hid hTj
      clear hTj
      have w1 : IntKind.i64.wrap (V * 256) = V * 256 := by rw [IntKind.wrap_i64]; omega
      have w2 : IntKind.i64.wrap x = x := by rw [IntKind.wrap_i64]; omega
      go_wp2_with fail
      go_region
      clear w1 w2 hor
      go_wp2_with fail
      go_roundw
      case rel => exact ⟨j + 1, by omega, by go_num, by rw [HBT.out]; exact (HTj.out.set1 _).after (Drawn0.below ⟨⟨1, rfl⟩⟩)⟩
      case measure => simp [intOf]; omega
    · obtain rfl : j = 2 := by omega
      have d3 : decide (((2 : Nat) : Int) < 2) = false := by decide
      obtain ⟨⟨x0, x1, x2, x3⟩, f0, f1, f2, f3⟩ := hTj.row.facts
      obtain ⟨⟨y0, y1, y2, y3⟩, g0, g1, g2, g3⟩ := hTj.out.facts
      obtain ⟨n1, n2⟩ := hTj.nes
      have HTj := Lib.hid hTj
      clear hTj
      go_wp2
      refine bodyPost_ret (v := .tuple #[.agg #[.int .i64 id, .int .i64 (be (r.take 2)), .string ⟨#[]⟩, .string ⟨#[]⟩], .int .i64 (sz + 2)]) (by simp [results, Tryd.results33, go_sem, x0, x1, x2, x3, y0, y1, y2, y3]) rfl ⟨rfl, ?_⟩
      exact HTj.out.ends _ _ _ _
set_option maxRecDepth 100000 in
set_option maxHeartbeats 4000000 in
theorem ref3_num4s (A : Option Addr) (c : Nat) (l : List Int) (w : World) (hr : Kd.C (Kd.int .u8) w A l.length l) (hc : l.length ≤ c) (hb : bok l) (id sz : Int) (hv : Dv.varGet l = (id, sz, 0)) (hk : kindOf id = 4) (hl : (l.drop sz.toNat).length < 4) :
    Calls Tryd.prog 33 #[.slice A l.length c] w fun e w' => e = .returned (.tuple #[.agg #[.int .i64 id, .int .i64 0, .string ⟨#[]⟩, .string ⟨#[]⟩], .int .i64 0]) ∧ Below w.heap.size w w' := by
  have hg := varGet_good l hb
  have hbr := bok_drop hb sz.toNat
  rw [hv] at hg
  dsimp only at hg
  have hm := hr.2.1
  obtain ⟨A2, hcut, hr2, hc2⟩ : ∃ A', (∀ W : World, (Instr.slice 35 (.slice A l.length c) (some (.int .i64 sz)) none none).run Tryd.prog W = .ok (.slice A' (l.drop sz.toNat).length (c - sz.toNat)) W) ∧ Kd.C (Kd.int .u8) w A' (l.drop sz.toNat).length (l.drop sz.toNat) ∧ (l.drop sz.toNat).length ≤ c - sz.toNat := by
    obtain ⟨i0, hi, _, hsz, _⟩ := info_parts qinfo5
    obtain ⟨A', h1, h2, h3⟩ := print_drop_of (P := Tryd.prog) (Value.int .u8) 0 35 5 .i64 Tryd.underlying35 hi hsz A c l sz (by omega) (by omega) hc
    exact ⟨A', h1, Kd.C_of_reads (h1 := fun _ => rfl) (h2 _ (Kd.reads_of_C hr)), h3⟩
  have CC := Lib.hid (dovecoteref1_Get.calls 20 A c l id sz 0 (w.alloc (.cells #[.int .i64 0, .int .i64 0, .string ⟨#[]⟩, .string ⟨#[]⟩] 24)) (Kd.C_below hr (below_alloc (Below.refl _ _) _)) hc (rget3 hb hv))
  have CK := Lib.hid (fun w => dovecoteref3_kind.calls 10 id 4 w (by rw [← hk]; exact kind_f id))
  have HR2 := Lib.hid hr2
  have HC2 := Lib.hid hc2
  have HBR := Lib.hid hbr
  obtain ⟨hsz0, hsz4⟩ : 0 ≤ sz ∧ sz ≤ 4 := by omega
  have hr63 := hr2.2.1
  have hlt : (l.drop sz.toNat).length < 4 := hl
  clear hr hb hv hk hr2 hc2 hbr hg
  generalize l.drop sz.toNat = r at *
  generalize c - sz.toNat = c2 at *
  have d1 : decide (r.length < 4) = true := decide_eq_true hlt
  have d2 : decide ((r.length : Int) < 4) = true := decide_eq_true (by omega)
  clear hlt hl
  go_enter Tryd.func33, Tryd.ntmps33
  go_wp2_with fail
  refine CC.out.mono ?_
  rintro e w2 ⟨rfl, hb2⟩
  have hT := Two.start id hb2
  have HT := Lib.hid hT
  clear hb2 hT
  go_wp2_with fail
  refine (CK.out _).mono ?_
  rintro e w3 ⟨rfl, hd⟩
  have hT3 := HT.out.after hd.below
  clear hd HT
  generalize w2.heap.size = b at *
  obtain ⟨⟨x0, x1, x2, x3⟩, f0, f1, f2, f3⟩ := hT3.row.facts
  obtain ⟨⟨y0, y1, y2, y3⟩, g0, g1, g2, g3⟩ := hT3.out.facts
  obtain ⟨n1, n2⟩ := hT3.nes
  have HT3 := Lib.hid hT3
  clear hT3
  go_wp2_with fail
  refine (CK.out _).mono ?_
  rintro e w4 ⟨rfl, hd⟩
  have hT4 := HT3.out.after hd.below
  clear hd HT3 x0 x1 x2 x3 y0 y1 y2 y3 f0 f1 f2 f3 g0 g1 g2 g3 n1 n2
  obtain ⟨⟨x0, x1, x2, x3⟩, f0, f1, f2, f3⟩ := hT4.row.facts
  obtain ⟨⟨y0, y1, y2, y3⟩, g0, g1, g2, g3⟩ := hT4.out.facts
  obtain ⟨n1, n2⟩ := hT4.nes
  have HT4 := Lib.hid hT4
  clear hT4
  go_wp2
  refine bodyPost_ret (v := .tuple #[.agg #[.int .i64 id, .int .i64 0, .string ⟨#[]⟩, .string ⟨#[]⟩], .int .i64 0]) (by simp [results, Tryd.results33, go_sem, x0, x1, x2, x3, y0, y1, y2, y3]) rfl ⟨rfl, ?_⟩
  exact HT4.out.ends _ _ _ _
set_option maxRecDepth 100000 in
set_option maxHeartbeats 4000000 in
theorem ref3_num4 (A : Option Addr) (c : Nat) (l : List Int) (w : World) (hr : Kd.C (Kd.int .u8) w A l.length l) (hc : l.length ≤ c) (hb : bok l) (id sz : Int) (hv : Dv.varGet l = (id, sz, 0)) (hk : kindOf id = 4) (hl : 4 ≤ (l.drop sz.toNat).length) :
    Calls Tryd.prog 33 #[.slice A l.length c] w fun e w' => e = .returned (.tuple #[.agg #[.int .i64 id, .int .i64 (be ((l.drop sz.toNat).take 4)), .string ⟨#[]⟩, .string ⟨#[]⟩], .int .i64 (sz + 4)]) ∧ Below w.heap.size w w' := by
  have hg := varGet_good l hb
  have hbr := bok_drop hb sz.toNat
  rw [hv] at hg
  dsimp only at hg
  have hm := hr.2.1
  obtain ⟨A2, hcut, hr2, hc2⟩ : ∃ A', (∀ W : World, (Instr.slice 35 (.slice A l.length c) (some (.int .i64 sz)) none none).run Tryd.prog W = .ok (.slice A' (l.drop sz.toNat).length (c - sz.toNat)) W) ∧ Kd.C (Kd.int .u8) w A' (l.drop sz.toNat).length (l.drop sz.toNat) ∧ (l.drop sz.toNat).length ≤ c - sz.toNat := by
    obtain ⟨i0, hi, _, hsz, _⟩ := info_parts qinfo5
    obtain ⟨A', h1, h2, h3⟩ := print_drop_of (P := Tryd.prog) (Value.int .u8) 0 35 5 .i64 Tryd.underlying35 hi hsz A c l sz (by omega) (by omega) hc
    exact ⟨A', h1, Kd.C_of_reads (h1 := fun _ => rfl) (h2 _ (Kd.reads_of_C hr)), h3⟩
  have CC := Lib.hid (dovecoteref1_Get.calls 20 A c l id sz 0 (w.alloc (.cells #[.int .i64 0, .int .i64 0, .string ⟨#[]⟩, .string ⟨#[]⟩] 24)) (Kd.C_below hr (below_alloc (Below.refl _ _) _)) hc (rget3 hb hv))
  have CK := Lib.hid (fun w => dovecoteref3_kind.calls 10 id 4 w (by rw [← hk]; exact kind_f id))
  have HR2 := Lib.hid hr2
  have HC2 := Lib.hid hc2
  have HBR := Lib.hid hbr
  obtain ⟨hsz0, hsz4⟩ : 0 ≤ sz ∧ sz ≤ 4 := by omega
  have hr63 := hr2.2.1
  have hlt : 4 ≤ (l.drop sz.toNat).length := hl
  clear hr hb hv hk hr2 hc2 hbr hg
  generalize l.drop sz.toNat = r at *
  generalize c - sz.toNat = c2 at *
  have d1 : decide (r.length < 4) = false := decide_eq_false (by omega)
  have d2 : decide ((r.length : Int) < 4) = false := decide_eq_false (by omega)
  have HLT := Lib.hid hlt
  clear hlt hl
  go_enter Tryd.func33, Tryd.ntmps33
  go_wp2_with fail
  refine CC.out.mono ?_
  rintro e w2 ⟨rfl, hb2⟩
  have hT := Two.start id hb2
  have HT := Lib.hid hT
  clear hb2 hT
  go_wp2_with fail
  refine (CK.out _).mono ?_
  rintro e w3 ⟨rfl, hd⟩
  have hT3 := HT.out.after hd.below
  clear hd HT
  generalize w2.heap.size = b at *
  obtain ⟨⟨x0, x1, x2, x3⟩, f0, f1, f2, f3⟩ := hT3.row.facts
  obtain ⟨⟨y0, y1, y2, y3⟩, g0, g1, g2, g3⟩ := hT3.out.facts
  obtain ⟨n1, n2⟩ := hT3.nes
  have HT3 := Lib.hid hT3
  clear hT3
  go_wp2_with fail
  refine (CK.out _).mono ?_
  rintro e w4 ⟨rfl, hd⟩
  have hT4 := HT3.out.after hd.below
  clear hd HT3 x0 x1 x2 x3 y0 y1 y2 y3 f0 f1 f2 f3 g0 g1 g2 g3 n1 n2
  have HT4 := Lib.hid hT4
  clear hT4
  go_wp2_with fail
  go_loopw [9] (fun i wr => ∃ j : Nat, j ≤ 4 ∧ i = .int .i64 j ∧ Two w wr b id (be (r.take j)) ⟨#[]⟩ ⟨#[]⟩) (fun i _ => 4 - (intOf i).toNat)
  case atStart => exact ⟨0, by decide, rfl, HT4.out⟩
  case round =>
    obtain ⟨j, hj, rfl, hTj⟩ := hrel
    clear HT4 d1 d2
    by_cases hjk : j < 4
    · have d3 : decide ((j : Int) < 4) = true := decide_eq_true (by omega)
      obtain ⟨hV0, hV1⟩ := be_small r HBR.out j (by omega) (by have := HLT.out; omega)
      obtain ⟨ad, ea, hc0⟩ := Kd.at_int HR2.out (j : Int) (by omega) (by have := HLT.out; omega)
      cases ea
      have hx := bok_rd HBR.out (j : Int) (by omega) (by have := HLT.out; omega)
      have hbt := be_take r j (by have := HLT.out; omega)
      rw [show r.getD j 0 = rd r (j : Int) by unfold rd; rw [Int.toNat_natCast]] at hbt
      have HBT := Lib.hid hbt
      obtain ⟨hx0, hx1⟩ := hx
      have hadb : (ad.add j).block < w.heap.size := by have := World.block_lt_of_cell? _ _ hc0; simpa using this
      replace hc0 := (hTj.below.cell (World.block_lt_of_cell? _ _ hc0)).trans hc0
      rw [Int.toNat_natCast] at hc0
      have hnb : b ≠ (ad.add j).block := by have h2 := hTj.ne; omega
      clear hadb
      have i0 : (0 : Int) ≤ (j : Int) := by omega
      have i1 : (j : Int) < (r.length : Int) := by have := HLT.out; omega
      have i1n : (j < r.length) = True := eq_true (by have := HLT.out; omega)
      clear hbt
      generalize rd r (j : Int) = x at *
      generalize be (r.take j) = V at *
      have hor := i64_or256 (x := V) (y := x) hV0 (by omega) hx0 (by omega)
      obtain ⟨⟨x0, x1, x2, x3⟩, f0, f1, f2, f3⟩ := hTj.row.facts
      obtain ⟨⟨y0, y1, y2, y3⟩, g0, g1, g2, g3⟩ := hTj.out.facts
      obtain ⟨n1, n2⟩ := hTj.nes
      have HTj := Lib.hid hTj
      clear hTj
      have w1 : IntKind.i64.wrap (V * 256) = V * 256 := by rw [IntKind.wrap_i64]; omega
      have w2 : IntKind.i64.wrap x = x := by rw [IntKind.wrap_i64]; omega
      go_wp2_with fail
      go_region
      clear w1 w2 hor
      go_wp2_with fail
      go_roundw
      case rel => exact ⟨j + 1, by omega, by go_num, by rw [HBT.out]; exact (HTj.out.set1 _).after (Drawn0.below ⟨⟨1, rfl⟩⟩)⟩
      case measure => simp [intOf]; omega
    · obtain rfl : j = 4 := by omega
      have d3 : decide (((4 : Nat) : Int) < 4) = false := by decide
      obtain ⟨⟨x0, x1, x2, x3⟩, f0, f1, f2, f3⟩ := hTj.row.facts
      obtain ⟨⟨y0, y1, y2, y3⟩, g0, g1, g2, g3⟩ := hTj.out.facts
      obtain ⟨n1, n2⟩ := hTj.nes
      have HTj := Lib.hid hTj
      clear hTj
      go_wp2
      refine bodyPost_ret (v := .tuple #[.agg #[.int .i64 id, .int .i64 (be (r.take 4)), .string ⟨#[]⟩, .string ⟨#[]⟩], .int .i64 (sz + 4)]) (by simp [results, Tryd.results33, go_sem, x0, x1, x2, x3, y0, y1, y2, y3]) rfl ⟨rfl, ?_⟩
      exact HTj.out.ends _ _ _ _
end Go.Proofs.YtondmmoabmhpfaaDoor.Q

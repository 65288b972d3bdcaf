import Derived.Test.YtdnmliidmnfijaaDoorKP2
import Derived.Outline
namespace Go.Proofs.YtdnmliidmnfijaaDoor.Q
open Go.RowKit Go.Proofs.YtdnmliidmnfijaaDoorW.PrintWords Go.Proofs.YtdnmliidmnfijaaDoorW.PrintLast Go.Proofs.YtdnmliidmnfijaaDoorW.PrintMore
theorem chk_size {s : ByteArray} (h : Dv.chk s = 0) : s.size ≤ 65535 := by
  unfold Dv.chk at h
  split at h
  · split at h
    · assumption
    · omega
  · omega
theorem may_bin (id num : Int) (s t : ByteArray) (hk : kindOf id = 7) :
    may id num s t = (decide (lowOf id ≤ num) && (decide (num ≤ maxOf 7) && (decide (t.toList = [])))  && decide (s.size ≤ 65535)) := by
  simp only [list_nil]
  unfold may; rw [hk]
  cases decide (lowOf id ≤ num) <;> cases decide (num ≤ maxOf 7) <;> cases decide (t.size = 0) <;> cases decide (s.size ≤ 65535) <;> simp
theorem may_text (id num : Int) (s t : ByteArray) (hk : kindOf id = 6) :
    may id num s t = (decide (lowOf id ≤ num) && (decide (num ≤ maxOf 6) && (decide (t.toList = []))) && decide (Dv.chk s = 0)) := by
  simp only [list_nil]
  unfold may; rw [hk]
  cases decide (lowOf id ≤ num) <;> cases decide (num ≤ maxOf 6) <;> cases decide (t.size = 0) <;> cases decide (Dv.chk s = 0) <;> simp
theorem may_pair (id num : Int) (s t : ByteArray) (hk : kindOf id = 8) :
    may id num s t = ((decide (lowOf id ≤ num) && decide (num ≤ maxOf 8)) && decide (Dv.chk s = 0) && decide (Dv.chk t = 0)) := by
  unfold may; rw [hk]
  cases decide (lowOf id ≤ num) <;> cases decide (num ≤ maxOf 8) <;> cases decide (Dv.chk t = 0) <;> cases decide (Dv.chk s = 0) <;> simp
set_option maxRecDepth 100000 in
set_option maxHeartbeats 8000000 in
theorem good7 (id num : Int) (s t : ByteArray) (w : World) (hk : kindOf id = 7) :
    Calls Tryd.prog 61 #[.agg #[.int .i64 id, .int .i64 num, .string s, .string t]] w fun e w' => e = .returned (.bool (may id num s t)) ∧ Below w.heap.size w w' := by
  have C := Lib.hid (fun w => prop_shape.calls 10 id (ik 7) (lowOf id) w (by rw [shape_f, hk]))
  have GS := Lib.hid (greatest7)
  rw [show ik 7 = 6 from rfl] at C
  by_cases c5 : s.size ≤ 65535
  · have f5 : decide ((65535 : Int) < (s.size : Int)) = false := decide_eq_false (by omega)
    have g5 : decide (65535 < s.size) = false := decide_eq_false (by omega)
    by_cases c1 : lowOf id ≤ num
    · have f1 : decide (lowOf id ≤ num) = true := decide_eq_true c1
      by_cases c2 : num ≤ maxOf 7
      · have f2 : decide (num ≤ maxOf 7) = true := decide_eq_true c2
        by_cases c4 : t.toList = []
        · have fc4 : (!t.toList.isEmpty) = false := by simp [c4]
          have ec4 : t.toList.isEmpty = true := by simp [c4]
          have hm : may id num s t = true := by rw [may_bin id num s t hk, decide_eq_true c5, Bool.and_true]; rw [decide_eq_true c1]; rw [decide_eq_true c2]; rw [decide_eq_true c4]; rfl
          have HM := Lib.hid hm
          clear hm hk
          generalize lowOf id = low at *
          generalize maxOf 7 = mx at *
          go_enter Tryd.func61, Tryd.ntmps61
          go_wp2_with (go_at_call 55; refine (C.out _).mono ?_; rintro e w1 ⟨rfl, ⟨⟨n1, rfl⟩⟩⟩)
          go_quiet ((go_at_call 65; go_simp; exact quiet_add_same (GS.out _)))
          go_wp2
          go_ret
          exact ⟨by rw [HM.out]; rfl, by repeat (first | exact Below.refl _ _ | apply below_alloc | apply pw_below_drewN | apply below_drew1)⟩
        · have fc4 : (!t.toList.isEmpty) = true := by simp [c4]
          have ec4 : t.toList.isEmpty = false := by simp [c4]
          have hm : may id num s t = false := by rw [may_bin id num s t hk, decide_eq_true c5, Bool.and_true]; rw [decide_eq_true c1]; rw [decide_eq_true c2]; rw [decide_eq_false c4]; simp
          have HM := Lib.hid hm
          clear hm hk
          generalize lowOf id = low at *
          generalize maxOf 7 = mx at *
          go_enter Tryd.func61, Tryd.ntmps61
          go_wp2_with (go_at_call 55; refine (C.out _).mono ?_; rintro e w1 ⟨rfl, ⟨⟨n1, rfl⟩⟩⟩)
          go_quiet ((go_at_call 65; go_simp; exact quiet_add_same (GS.out _)))
          go_wp2
          go_ret
          exact ⟨by rw [HM.out]; rfl, by repeat (first | exact Below.refl _ _ | apply below_alloc | apply pw_below_drewN | apply below_drew1)⟩
      · have f2 : decide (num ≤ maxOf 7) = false := decide_eq_false c2
        have hm : may id num s t = false := by rw [may_bin id num s t hk, decide_eq_true c5, Bool.and_true]; rw [decide_eq_true c1]; rw [decide_eq_false c2]; simp
        have HM := Lib.hid hm
        clear hm hk
        generalize lowOf id = low at *
        generalize maxOf 7 = mx at *
        go_enter Tryd.func61, Tryd.ntmps61
        go_wp2_with (go_at_call 55; refine (C.out _).mono ?_; rintro e w1 ⟨rfl, ⟨⟨n1, rfl⟩⟩⟩)
        go_quiet ((go_at_call 65; go_simp; exact quiet_add_same (GS.out _)))
        go_wp2
        go_ret
        exact ⟨by rw [HM.out]; rfl, by repeat (first | exact Below.refl _ _ | apply below_alloc | apply pw_below_drewN | apply below_drew1)⟩
    · have f1 : decide (lowOf id ≤ num) = false := decide_eq_false c1
      have hm : may id num s t = false := by rw [may_bin id num s t hk, decide_eq_true c5, Bool.and_true]; rw [decide_eq_false c1]; simp
      have HM := Lib.hid hm
      clear hm hk
      generalize lowOf id = low at *
      generalize maxOf 7 = mx at *
      go_enter Tryd.func61, Tryd.ntmps61
      go_wp2_with (go_at_call 55; refine (C.out _).mono ?_; rintro e w1 ⟨rfl, ⟨⟨n1, rfl⟩⟩⟩)
      go_quiet ((go_at_call 65; go_simp; exact quiet_add_same (GS.out _)))
      go_wp2
      go_ret
      exact ⟨by rw [HM.out]; rfl, by repeat (first | exact Below.refl _ _ | apply below_alloc | apply pw_below_drewN | apply below_drew1)⟩
  · have f5 : decide ((65535 : Int) < (s.size : Int)) = true := decide_eq_true (by omega)
    have g5 : decide (65535 < s.size) = true := decide_eq_true (by omega)
    have hm : may id num s t = false := by rw [may_bin id num s t hk, decide_eq_false c5]; simp
    have HM := Lib.hid hm
    clear hm hk c5
    go_enter Tryd.func61, Tryd.ntmps61
    go_wp2_with (go_at_call 55; refine (C.out _).mono ?_; rintro e w1 ⟨rfl, ⟨⟨n1, rfl⟩⟩⟩)
    go_wp2
    go_ret
    exact ⟨by rw [HM.out]; rfl, by repeat (first | exact Below.refl _ _ | apply below_alloc | apply pw_below_drewN | apply below_drew1)⟩

set_option maxRecDepth 100000 in
set_option maxHeartbeats 8000000 in
theorem good6 (id num : Int) (s t : ByteArray) (w : World) (hk : kindOf id = 6) (hs : s.size ≤ 140737488351232) (ht : t.size ≤ 140737488351232) (hT : Dv.GTab w) :
    Calls Tryd.prog 61 #[.agg #[.int .i64 id, .int .i64 num, .string s, .string t]] w fun e w' => e = .returned (.bool (may id num s t)) ∧ Below w.heap.size w w' := by
  have C := Lib.hid (fun w => prop_shape.calls 10 id (ik 6) (lowOf id) w (by rw [shape_f, hk]))
  have GS := Lib.hid (greatest6)
  rw [show ik 6 = 5 from rfl] at C
  have Hs := Lib.hid hs
  have Ht := Lib.hid ht
  have HT := Lib.hid hT
  clear hs ht hT
  by_cases c6 : Dv.chk s = 0
  · have Ks := Lib.hid c6
    have hsz := chk_size c6
    have f5 : decide ((65535 : Int) < (s.size : Int)) = false := decide_eq_false (by omega)
    have g5 : decide (65535 < s.size) = false := decide_eq_false (by omega)
    clear hsz
    by_cases c1 : lowOf id ≤ num
    · have f1 : decide (lowOf id ≤ num) = true := decide_eq_true c1
      by_cases c2 : num ≤ maxOf 6
      · have f2 : decide (num ≤ maxOf 6) = true := decide_eq_true c2
        by_cases c4 : t.toList = []
        · have fc4 : (!t.toList.isEmpty) = false := by simp [c4]
          have ec4 : t.toList.isEmpty = true := by simp [c4]
          have hm : may id num s t = true := by rw [may_text id num s t hk, decide_eq_true c6, Bool.and_true]; rw [decide_eq_true c1]; rw [decide_eq_true c2]; rw [decide_eq_true c4]; rfl
          have HM := Lib.hid hm
          clear hm hk
          generalize lowOf id = low at *
          generalize maxOf 6 = mx at *
          go_enter Tryd.func61, Tryd.ntmps61
          go_wp2_with (go_at_call 55; refine (C.out _).mono ?_; rintro e w1 ⟨rfl, ⟨⟨n1, rfl⟩⟩⟩)
          refine (Check_ok s _ Hs.out (Dv.GTab.below HT.out (pw_below_drewN (below_alloc (Below.refl _ _) _) n1)) Ks.out).mono ?_
          rintro e wa ⟨rfl, ha⟩
          have BB := Lib.hid ((pw_below_drewN (below_alloc (Below.refl _ _) _) n1).then_ ha)
          have A1a : wa.cell? ⟨w.heap.size, 1, none⟩ = some (.int .i64 num) := (ha.cell (p := ⟨w.heap.size, 1, none⟩) (by simp)).trans (by simp)
          have A2a : wa.cell? ⟨w.heap.size, 2, none⟩ = some (.string s) := (ha.cell (p := ⟨w.heap.size, 2, none⟩) (by simp)).trans (by simp)
          have A3a : wa.cell? ⟨w.heap.size, 3, none⟩ = some (.string t) := (ha.cell (p := ⟨w.heap.size, 3, none⟩) (by simp)).trans (by simp)
          clear ha
          go_wp2_with fail
          go_quiet ((go_at_call 65; exact Calls.quiet_of_same (GS.out _)))
          go_wp2
          go_ret
          exact ⟨by rw [HM.out]; rfl, by repeat (first | exact BB.out | apply pw_below_drewN | apply below_drew1)⟩
        · have fc4 : (!t.toList.isEmpty) = true := by simp [c4]
          have ec4 : t.toList.isEmpty = false := by simp [c4]
          have hm : may id num s t = false := by rw [may_text id num s t hk, decide_eq_true c6, Bool.and_true]; rw [decide_eq_true c1]; rw [decide_eq_true c2]; rw [decide_eq_false c4]; simp
          have HM := Lib.hid hm
          clear hm hk
          generalize lowOf id = low at *
          generalize maxOf 6 = mx at *
          go_enter Tryd.func61, Tryd.ntmps61
          go_wp2_with (go_at_call 55; refine (C.out _).mono ?_; rintro e w1 ⟨rfl, ⟨⟨n1, rfl⟩⟩⟩)
          refine (Check_ok s _ Hs.out (Dv.GTab.below HT.out (pw_below_drewN (below_alloc (Below.refl _ _) _) n1)) Ks.out).mono ?_
          rintro e wa ⟨rfl, ha⟩
          have BB := Lib.hid ((pw_below_drewN (below_alloc (Below.refl _ _) _) n1).then_ ha)
          have A1a : wa.cell? ⟨w.heap.size, 1, none⟩ = some (.int .i64 num) := (ha.cell (p := ⟨w.heap.size, 1, none⟩) (by simp)).trans (by simp)
          have A2a : wa.cell? ⟨w.heap.size, 2, none⟩ = some (.string s) := (ha.cell (p := ⟨w.heap.size, 2, none⟩) (by simp)).trans (by simp)
          have A3a : wa.cell? ⟨w.heap.size, 3, none⟩ = some (.string t) := (ha.cell (p := ⟨w.heap.size, 3, none⟩) (by simp)).trans (by simp)
          clear ha
          go_wp2_with fail
          go_quiet ((go_at_call 65; exact Calls.quiet_of_same (GS.out _)))
          go_wp2
          go_ret
          exact ⟨by rw [HM.out]; rfl, by repeat (first | exact BB.out | apply pw_below_drewN | apply below_drew1)⟩
      · have f2 : decide (num ≤ maxOf 6) = false := decide_eq_false c2
        have hm : may id num s t = false := by rw [may_text id num s t hk, decide_eq_true c6, Bool.and_true]; rw [decide_eq_true c1]; rw [decide_eq_false c2]; simp
        have HM := Lib.hid hm
        clear hm hk
        generalize lowOf id = low at *
        generalize maxOf 6 = mx at *
        go_enter Tryd.func61, Tryd.ntmps61
        go_wp2_with (go_at_call 55; refine (C.out _).mono ?_; rintro e w1 ⟨rfl, ⟨⟨n1, rfl⟩⟩⟩)
        refine (Check_ok s _ Hs.out (Dv.GTab.below HT.out (pw_below_drewN (below_alloc (Below.refl _ _) _) n1)) Ks.out).mono ?_
        rintro e wa ⟨rfl, ha⟩
        have BB := Lib.hid ((pw_below_drewN (below_alloc (Below.refl _ _) _) n1).then_ ha)
        have A1a : wa.cell? ⟨w.heap.size, 1, none⟩ = some (.int .i64 num) := (ha.cell (p := ⟨w.heap.size, 1, none⟩) (by simp)).trans (by simp)
        have A2a : wa.cell? ⟨w.heap.size, 2, none⟩ = some (.string s) := (ha.cell (p := ⟨w.heap.size, 2, none⟩) (by simp)).trans (by simp)
        have A3a : wa.cell? ⟨w.heap.size, 3, none⟩ = some (.string t) := (ha.cell (p := ⟨w.heap.size, 3, none⟩) (by simp)).trans (by simp)
        clear ha
        go_wp2_with fail
        go_quiet ((go_at_call 65; exact Calls.quiet_of_same (GS.out _)))
        go_wp2
        go_ret
        exact ⟨by rw [HM.out]; rfl, by repeat (first | exact BB.out | apply pw_below_drewN | apply below_drew1)⟩
    · have f1 : decide (lowOf id ≤ num) = false := decide_eq_false c1
      have hm : may id num s t = false := by rw [may_text id num s t hk, decide_eq_true c6, Bool.and_true]; rw [decide_eq_false c1]; simp
      have HM := Lib.hid hm
      clear hm hk
      generalize lowOf id = low at *
      generalize maxOf 6 = mx at *
      go_enter Tryd.func61, Tryd.ntmps61
      go_wp2_with (go_at_call 55; refine (C.out _).mono ?_; rintro e w1 ⟨rfl, ⟨⟨n1, rfl⟩⟩⟩)
      refine (Check_ok s _ Hs.out (Dv.GTab.below HT.out (pw_below_drewN (below_alloc (Below.refl _ _) _) n1)) Ks.out).mono ?_
      rintro e wa ⟨rfl, ha⟩
      have BB := Lib.hid ((pw_below_drewN (below_alloc (Below.refl _ _) _) n1).then_ ha)
      have A1a : wa.cell? ⟨w.heap.size, 1, none⟩ = some (.int .i64 num) := (ha.cell (p := ⟨w.heap.size, 1, none⟩) (by simp)).trans (by simp)
      have A2a : wa.cell? ⟨w.heap.size, 2, none⟩ = some (.string s) := (ha.cell (p := ⟨w.heap.size, 2, none⟩) (by simp)).trans (by simp)
      have A3a : wa.cell? ⟨w.heap.size, 3, none⟩ = some (.string t) := (ha.cell (p := ⟨w.heap.size, 3, none⟩) (by simp)).trans (by simp)
      clear ha
      go_wp2_with fail
      go_quiet ((go_at_call 65; exact Calls.quiet_of_same (GS.out _)))
      go_wp2
      go_ret
      exact ⟨by rw [HM.out]; rfl, by repeat (first | exact BB.out | apply pw_below_drewN | apply below_drew1)⟩
  · have Ks := Lib.hid c6
    have hm : may id num s t = false := by rw [may_text id num s t hk, decide_eq_false c6]; simp
    have HM := Lib.hid hm
    clear hm hk c6
    go_enter Tryd.func61, Tryd.ntmps61
    go_wp2_with (go_at_call 55; refine (C.out _).mono ?_; rintro e w1 ⟨rfl, ⟨⟨n1, rfl⟩⟩⟩)
    refine (Check_no s _ Hs.out (Dv.GTab.below HT.out (pw_below_drewN (below_alloc (Below.refl _ _) _) n1)) Ks.out).mono ?_
    rintro e wa ⟨t1, x1, rfl, ha⟩
    have BB := Lib.hid ((pw_below_drewN (below_alloc (Below.refl _ _) _) n1).then_ ha)
    clear ha
    go_wp2
    go_ret
    exact ⟨by rw [HM.out]; rfl, BB.out⟩

set_option maxRecDepth 100000 in
set_option maxHeartbeats 8000000 in
theorem good8 (id num : Int) (s t : ByteArray) (w : World) (hk : kindOf id = 8) (hs : s.size ≤ 140737488351232) (ht : t.size ≤ 140737488351232) (hT : Dv.GTab w) :
    Calls Tryd.prog 61 #[.agg #[.int .i64 id, .int .i64 num, .string s, .string t]] w fun e w' => e = .returned (.bool (may id num s t)) ∧ Below w.heap.size w w' := by
  have C := Lib.hid (fun w => prop_shape.calls 10 id (ik 8) (lowOf id) w (by rw [shape_f, hk]))
  have GS := Lib.hid (greatest8)
  rw [show ik 8 = 7 from rfl] at C
  have Hs := Lib.hid hs
  have Ht := Lib.hid ht
  have HT := Lib.hid hT
  clear hs ht hT
  by_cases c7 : Dv.chk t = 0
  · have Kt := Lib.hid c7
    by_cases c6 : Dv.chk s = 0
    · have Ks := Lib.hid c6
      have hsz := chk_size c6
      have f5 : decide ((65535 : Int) < (s.size : Int)) = false := decide_eq_false (by omega)
      have g5 : decide (65535 < s.size) = false := decide_eq_false (by omega)
      clear hsz
      by_cases c1 : lowOf id ≤ num
      · have f1 : decide (lowOf id ≤ num) = true := decide_eq_true c1
        by_cases c2 : num ≤ maxOf 8
        · have f2 : decide (num ≤ maxOf 8) = true := decide_eq_true c2
          have hm : may id num s t = true := by rw [may_pair id num s t hk, decide_eq_true c6, decide_eq_true c7, Bool.and_true, Bool.and_true]; rw [decide_eq_true c1]; rw [decide_eq_true c2]; rfl
          have HM := Lib.hid hm
          clear hm hk
          generalize lowOf id = low at *
          generalize maxOf 8 = mx at *
          go_enter Tryd.func61, Tryd.ntmps61
          go_wp2_with (go_at_call 55; refine (C.out _).mono ?_; rintro e w1 ⟨rfl, ⟨⟨n1, rfl⟩⟩⟩)
          refine (Check_ok t _ Ht.out (Dv.GTab.below HT.out (pw_below_drewN (below_alloc (Below.refl _ _) _) n1)) Kt.out).mono ?_
          rintro e wa ⟨rfl, ha⟩
          have BB := Lib.hid ((pw_below_drewN (below_alloc (Below.refl _ _) _) n1).then_ ha)
          have A1a : wa.cell? ⟨w.heap.size, 1, none⟩ = some (.int .i64 num) := (ha.cell (p := ⟨w.heap.size, 1, none⟩) (by simp)).trans (by simp)
          have A2a : wa.cell? ⟨w.heap.size, 2, none⟩ = some (.string s) := (ha.cell (p := ⟨w.heap.size, 2, none⟩) (by simp)).trans (by simp)
          have A3a : wa.cell? ⟨w.heap.size, 3, none⟩ = some (.string t) := (ha.cell (p := ⟨w.heap.size, 3, none⟩) (by simp)).trans (by simp)
          clear ha
          go_wp2_with fail
          refine (Check_ok s _ Hs.out (Dv.GTab.below HT.out BB.out) Ks.out).mono ?_
          rintro e wb ⟨rfl, hb⟩
          have B2 := Lib.hid (BB.out.then_ hb)
          have A1b : wb.cell? ⟨w.heap.size, 1, none⟩ = some (.int .i64 num) := (hb.cell (World.block_lt_of_cell? _ _ A1a)).trans A1a
          have A2b : wb.cell? ⟨w.heap.size, 2, none⟩ = some (.string s) := (hb.cell (World.block_lt_of_cell? _ _ A2a)).trans A2a
          have A3b : wb.cell? ⟨w.heap.size, 3, none⟩ = some (.string t) := (hb.cell (World.block_lt_of_cell? _ _ A3a)).trans A3a
          clear hb
          go_wp2_with fail
          go_quiet ((go_at_call 65; exact Calls.quiet_of_same (GS.out _)))
          go_wp2
          go_ret
          exact ⟨by rw [HM.out]; rfl, by repeat (first | exact B2.out | apply pw_below_drewN | apply below_drew1)⟩
        · have f2 : decide (num ≤ maxOf 8) = false := decide_eq_false c2
          have hm : may id num s t = false := by rw [may_pair id num s t hk, decide_eq_true c6, decide_eq_true c7, Bool.and_true, Bool.and_true]; rw [decide_eq_true c1]; rw [decide_eq_false c2]; simp
          have HM := Lib.hid hm
          clear hm hk
          generalize lowOf id = low at *
          generalize maxOf 8 = mx at *
          go_enter Tryd.func61, Tryd.ntmps61
          go_wp2_with (go_at_call 55; refine (C.out _).mono ?_; rintro e w1 ⟨rfl, ⟨⟨n1, rfl⟩⟩⟩)
          refine (Check_ok t _ Ht.out (Dv.GTab.below HT.out (pw_below_drewN (below_alloc (Below.refl _ _) _) n1)) Kt.out).mono ?_
          rintro e wa ⟨rfl, ha⟩
          have BB := Lib.hid ((pw_below_drewN (below_alloc (Below.refl _ _) _) n1).then_ ha)
          have A1a : wa.cell? ⟨w.heap.size, 1, none⟩ = some (.int .i64 num) := (ha.cell (p := ⟨w.heap.size, 1, none⟩) (by simp)).trans (by simp)
          have A2a : wa.cell? ⟨w.heap.size, 2, none⟩ = some (.string s) := (ha.cell (p := ⟨w.heap.size, 2, none⟩) (by simp)).trans (by simp)
          have A3a : wa.cell? ⟨w.heap.size, 3, none⟩ = some (.string t) := (ha.cell (p := ⟨w.heap.size, 3, none⟩) (by simp)).trans (by simp)
          clear ha
          go_wp2_with fail
          refine (Check_ok s _ Hs.out (Dv.GTab.below HT.out BB.out) Ks.out).mono ?_
          rintro e wb ⟨rfl, hb⟩
          have B2 := Lib.hid (BB.out.then_ hb)
          have A1b : wb.cell? ⟨w.heap.size, 1, none⟩ = some (.int .i64 num) := (hb.cell (World.block_lt_of_cell? _ _ A1a)).trans A1a
          have A2b : wb.cell? ⟨w.heap.size, 2, none⟩ = some (.string s) := (hb.cell (World.block_lt_of_cell? _ _ A2a)).trans A2a
          have A3b : wb.cell? ⟨w.heap.size, 3, none⟩ = some (.string t) := (hb.cell (World.block_lt_of_cell? _ _ A3a)).trans A3a
          clear hb
          go_wp2_with fail
          go_quiet ((go_at_call 65; exact Calls.quiet_of_same (GS.out _)))
          go_wp2
          go_ret
          exact ⟨by rw [HM.out]; rfl, by repeat (first | exact B2.out | apply pw_below_drewN | apply below_drew1)⟩
      · have f1 : decide (lowOf id ≤ num) = false := decide_eq_false c1
        have hm : may id num s t = false := by rw [may_pair id num s t hk, decide_eq_true c6, decide_eq_true c7, Bool.and_true, Bool.and_true]; rw [decide_eq_false c1]; simp
        have HM := Lib.hid hm
        clear hm hk
        generalize lowOf id = low at *
        generalize maxOf 8 = mx at *
        go_enter Tryd.func61, Tryd.ntmps61
        go_wp2_with (go_at_call 55; refine (C.out _).mono ?_; rintro e w1 ⟨rfl, ⟨⟨n1, rfl⟩⟩⟩)
        refine (Check_ok t _ Ht.out (Dv.GTab.below HT.out (pw_below_drewN (below_alloc (Below.refl _ _) _) n1)) Kt.out).mono ?_
        rintro e wa ⟨rfl, ha⟩
        have BB := Lib.hid ((pw_below_drewN (below_alloc (Below.refl _ _) _) n1).then_ ha)
        have A1a : wa.cell? ⟨w.heap.size, 1, none⟩ = some (.int .i64 num) := (ha.cell (p := ⟨w.heap.size, 1, none⟩) (by simp)).trans (by simp)
        have A2a : wa.cell? ⟨w.heap.size, 2, none⟩ = some (.string s) := (ha.cell (p := ⟨w.heap.size, 2, none⟩) (by simp)).trans (by simp)
        have A3a : wa.cell? ⟨w.heap.size, 3, none⟩ = some (.string t) := (ha.cell (p := ⟨w.heap.size, 3, none⟩) (by simp)).trans (by simp)
        clear ha
        go_wp2_with fail
        refine (Check_ok s _ Hs.out (Dv.GTab.below HT.out BB.out) Ks.out).mono ?_
        rintro e wb ⟨rfl, hb⟩
        have B2 := Lib.hid (BB.out.then_ hb)
        have A1b : wb.cell? ⟨w.heap.size, 1, none⟩ = some (.int .i64 num) := (hb.cell (World.block_lt_of_cell? _ _ A1a)).trans A1a
        have A2b : wb.cell? ⟨w.heap.size, 2, none⟩ = some (.string s) := (hb.cell (World.block_lt_of_cell? _ _ A2a)).trans A2a
        have A3b : wb.cell? ⟨w.heap.size, 3, none⟩ = some (.string t) := (hb.cell (World.block_lt_of_cell? _ _ A3a)).trans A3a
        clear hb
        go_wp2_with fail
        go_quiet ((go_at_call 65; exact Calls.quiet_of_same (GS.out _)))
        go_wp2
        go_ret
        exact ⟨by rw [HM.out]; rfl, by repeat (first | exact B2.out | apply pw_below_drewN | apply below_drew1)⟩
    · have Ks := Lib.hid c6
      have hm : may id num s t = false := by rw [may_pair id num s t hk, decide_eq_false c6]; simp
      have HM := Lib.hid hm
      clear hm hk c6 c7
      go_enter Tryd.func61, Tryd.ntmps61
      go_wp2_with (go_at_call 55; refine (C.out _).mono ?_; rintro e w1 ⟨rfl, ⟨⟨n1, rfl⟩⟩⟩)
      refine (Check_ok t _ Ht.out (Dv.GTab.below HT.out (pw_below_drewN (below_alloc (Below.refl _ _) _) n1)) Kt.out).mono ?_
      rintro e wa ⟨rfl, ha⟩
      have BB := Lib.hid ((pw_below_drewN (below_alloc (Below.refl _ _) _) n1).then_ ha)
      have A1a : wa.cell? ⟨w.heap.size, 1, none⟩ = some (.int .i64 num) := (ha.cell (p := ⟨w.heap.size, 1, none⟩) (by simp)).trans (by simp)
      have A2a : wa.cell? ⟨w.heap.size, 2, none⟩ = some (.string s) := (ha.cell (p := ⟨w.heap.size, 2, none⟩) (by simp)).trans (by simp)
      have A3a : wa.cell? ⟨w.heap.size, 3, none⟩ = some (.string t) := (ha.cell (p := ⟨w.heap.size, 3, none⟩) (by simp)).trans (by simp)
      clear ha
      go_wp2_with fail
      refine (Check_no s _ Hs.out (Dv.GTab.below HT.out BB.out) Ks.out).mono ?_
      rintro e wb ⟨t1, x1, rfl, hb⟩
      have B2 := Lib.hid (BB.out.then_ hb)
      clear hb
      go_wp2
      go_ret
      exact ⟨by rw [HM.out]; rfl, B2.out⟩
  · have Kt := Lib.hid c7
    have hm : may id num s t = false := by rw [may_pair id num s t hk, decide_eq_false c7]; simp
    have HM := Lib.hid hm
    clear hm hk c7
    go_enter Tryd.func61, Tryd.ntmps61
    go_wp2_with (go_at_call 55; refine (C.out _).mono ?_; rintro e w1 ⟨rfl, ⟨⟨n1, rfl⟩⟩⟩)
    refine (Check_no t _ Ht.out (Dv.GTab.below HT.out (pw_below_drewN (below_alloc (Below.refl _ _) _) n1)) Kt.out).mono ?_
    rintro e wa ⟨t1, x1, rfl, ha⟩
    have BB := Lib.hid ((pw_below_drewN (below_alloc (Below.refl _ _) _) n1).then_ ha)
    clear ha
    go_wp2
    go_ret
    exact ⟨by rw [HM.out]; rfl, BB.out⟩

set_option maxRecDepth 100000 in
theorem good0 (id num : Int) (s t : ByteArray) (w : World) (hk : kindOf id = 0) :
    Calls Tryd.prog 61 #[.agg #[.int .i64 id, .int .i64 num, .string s, .string t]] w fun e w' => e = .returned (.bool (may id num s t)) ∧ Below w.heap.size w w' := by
  have C := Lib.hid (fun w => prop_shape.calls 10 id (ik 0) (lowOf id) w (by rw [shape_f, hk]))
  rw [show ik 0 = 0 from rfl] at C
  have hm : may id num s t = false := by unfold may; rw [hk]; simp
  have HM := Lib.hid hm
  clear hm hk
  go_enter Tryd.func61, Tryd.ntmps61
  go_wp2_with (go_at_call 55; refine (C.out _).mono ?_; rintro e w1 ⟨rfl, ⟨⟨n1, rfl⟩⟩⟩)
  go_ret
  exact ⟨by rw [HM.out]; rfl, by repeat (first | exact Below.refl _ _ | apply below_alloc | apply pw_below_drewN | apply below_drew1)⟩
theorem prop_good (id num : Int) (s t : ByteArray) (w : World) (hs : s.size ≤ 140737488351232) (ht : t.size ≤ 140737488351232) (hT : Dv.GTab w) :
    Calls Tryd.prog 61 #[.agg #[.int .i64 id, .int .i64 num, .string s, .string t]] w fun e w' => e = .returned (.bool (may id num s t)) ∧ Below w.heap.size w w' := by
  rcases kinds_of id with h | h | h | h | h | h | h | h
  · exact good1 id num s t w h
  · exact good2 id num s t w h
  · exact good4 id num s t w h
  · exact good5 id num s t w h
  · exact good6 id num s t w h hs ht hT
  · exact good7 id num s t w h
  · exact good8 id num s t w h hs ht hT
  · exact good0 id num s t w h
end Go.Proofs.YtdnmliidmnfijaaDoor.Q

import Derived.Test.YtdnmliidmnfijaaDoorKP1
import Derived.Outline
namespace Go.Proofs.YtdnmliidmnfijaaDoor.Q
open Go.RowKit Go.Proofs.YtdnmliidmnfijaaDoorW.PrintWords Go.Proofs.YtdnmliidmnfijaaDoorW.PrintLast Go.Proofs.YtdnmliidmnfijaaDoorW.PrintMore
theorem quiet_add_same {P : Program} {f : FuncId} {args : Array Value} {w : World} {a n : Nat} {v : Value}
    (h : Calls P f args (w.drewN (a + n)) fun e w' => e = .returned v ∧ w' = w.drewN (a + n)) :
    Calls P f args (w.drewN (a + n)) fun e w'' => e = .returned v ∧ ∃ m, w'' = w.drewN (a + m) :=
  h.mono fun _ _ ⟨he, hm⟩ => ⟨he, n, hm⟩
theorem Check_ok (s : ByteArray) (w : World) (hs : s.size ≤ 140737488351232) (hT : Dv.GTab w) (h : Dv.chk s = 0) : Calls Tryd.prog 49 #[.string s] w fun e w' => e = .returned .nilIface ∧ Below w.heap.size w w' :=
  (Dv.text_Check s w hs hT).mono fun e w' ⟨v, he, hr, hb⟩ => by
    rcases hr with ⟨rfl, _⟩ | ⟨h1, _⟩
    · exact ⟨he, hb⟩
    · omega
theorem Check_no (s : ByteArray) (w : World) (hs : s.size ≤ 140737488351232) (hT : Dv.GTab w) (h : Dv.chk s ≠ 0) : Calls Tryd.prog 49 #[.string s] w fun e w' => ∃ t x, e = .returned (.iface t x) ∧ Below w.heap.size w w' :=
  (Dv.text_Check s w hs hT).mono fun e w' ⟨v, he, hr, hb⟩ => by
    rcases hr with ⟨_, h0⟩ | ⟨_, _, d, hd⟩
    · exact absurd h0 h
    · obtain ⟨t, x, rfl⟩ := hd.form
      exact ⟨t, x, he, hb⟩
theorem kinds_of (id : Int) : kindOf id = 1 ∨ kindOf id = 2 ∨ kindOf id = 4 ∨ kindOf id = 5 ∨ kindOf id = 6 ∨ kindOf id = 7 ∨ kindOf id = 8 ∨ kindOf id = 0 := by
  unfold kindOf; repeat' split
  all_goals simp
theorem greatest1 (W : World) : Calls Tryd.prog 65 #[.int .i64 1] W fun e w' => e = .returned (.int .i64 (maxOf 1)) ∧ w' = W := by
  rw [show maxOf 1 = 1 from rfl]
  go_enter Tryd.func65, Tryd.ntmps65
  go_wp2
  go_ret
  exact ⟨rfl, rfl⟩
theorem greatest2 (W : World) : Calls Tryd.prog 65 #[.int .i64 2] W fun e w' => e = .returned (.int .i64 (maxOf 2)) ∧ w' = W := by
  rw [show maxOf 2 = 65535 from rfl]
  go_enter Tryd.func65, Tryd.ntmps65
  go_wp2
  go_ret
  exact ⟨rfl, rfl⟩
theorem greatest4 (W : World) : Calls Tryd.prog 65 #[.int .i64 3] W fun e w' => e = .returned (.int .i64 (maxOf 4)) ∧ w' = W := by
  rw [show maxOf 4 = 4294967295 from rfl]
  go_enter Tryd.func65, Tryd.ntmps65
  go_wp2
  go_ret
  exact ⟨rfl, rfl⟩
theorem greatest5 (W : World) : Calls Tryd.prog 65 #[.int .i64 4] W fun e w' => e = .returned (.int .i64 (maxOf 5)) ∧ w' = W := by
  rw [show maxOf 5 = 268435455 from rfl]
  go_enter Tryd.func65, Tryd.ntmps65
  go_wp2
  go_ret
  exact ⟨rfl, rfl⟩
theorem greatest6 (W : World) : Calls Tryd.prog 65 #[.int .i64 5] W fun e w' => e = .returned (.int .i64 (maxOf 6)) ∧ w' = W := by
  rw [show maxOf 6 = 0 from rfl]
  go_enter Tryd.func65, Tryd.ntmps65
  go_wp2
  go_ret
  exact ⟨rfl, rfl⟩
theorem greatest7 (W : World) : Calls Tryd.prog 65 #[.int .i64 6] W fun e w' => e = .returned (.int .i64 (maxOf 7)) ∧ w' = W := by
  rw [show maxOf 7 = 0 from rfl]
  go_enter Tryd.func65, Tryd.ntmps65
  go_wp2
  go_ret
  exact ⟨rfl, rfl⟩
theorem greatest8 (W : World) : Calls Tryd.prog 65 #[.int .i64 7] W fun e w' => e = .returned (.int .i64 (maxOf 8)) ∧ w' = W := by
  rw [show maxOf 8 = 0 from rfl]
  go_enter Tryd.func65, Tryd.ntmps65
  go_wp2
  go_ret
  exact ⟨rfl, rfl⟩
theorem list_nil (s : ByteArray) : (s.toList = []) ↔ s.size = 0 := by
  rw [ByteArray.toList_eq]
  constructor
  · intro h; have := congrArg List.length h; simpa using this
  · intro h; exact List.eq_nil_of_length_eq_zero (by simpa using h)
theorem may_plain (k id num : Int) (s t : ByteArray) (hk : kindOf id = k) (h : k = 1 ∨ k = 2 ∨ k = 4 ∨ k = 5) :
    may id num s t = (decide (lowOf id ≤ num) && (decide (num ≤ maxOf k) && (decide (s.toList = []) && decide (t.toList = [])))) := by
  simp only [list_nil]
  unfold may; rw [hk]
  rcases h with rfl | rfl | rfl | rfl <;> simp [Bool.and_assoc]
set_option maxRecDepth 100000 in
set_option maxHeartbeats 8000000 in
theorem good1 (id num : Int) (s t : ByteArray) (w : World) (hk : kindOf id = 1) :
    Calls Tryd.prog 61 #[.agg #[.int .i64 id, .int .i64 num, .string s, .string t]] w fun e w' => e = .returned (.bool (may id num s t)) ∧ Below w.heap.size w w' := by
  have C := Lib.hid (fun w => prop_shape.calls 10 id (ik 1) (lowOf id) w (by rw [shape_f, hk]))
  have GS := Lib.hid (greatest1)
  rw [show ik 1 = 1 from rfl] at C

  by_cases c1 : lowOf id ≤ num
  · have f1 : decide (lowOf id ≤ num) = true := decide_eq_true c1
    by_cases c2 : num ≤ maxOf 1
    · have f2 : decide (num ≤ maxOf 1) = true := decide_eq_true c2
      by_cases c3 : s.toList = []
      · have fc3 : (!s.toList.isEmpty) = false := by simp [c3]
        have ec3 : s.toList.isEmpty = true := by simp [c3]
        by_cases c4 : t.toList = []
        · have fc4 : (!t.toList.isEmpty) = false := by simp [c4]
          have ec4 : t.toList.isEmpty = true := by simp [c4]
          have hm : may id num s t = true := by rw [may_plain 1 id num s t hk (by omega)]; rw [decide_eq_true c1]; rw [decide_eq_true c2]; rw [decide_eq_true c3]; rw [decide_eq_true c4]; rfl
          have HM := Lib.hid hm
          clear hm hk
          generalize lowOf id = low at *
          generalize maxOf 1 = mx at *
          go_enter Tryd.func61, Tryd.ntmps61
          go_wp2_with (go_at_call 55; refine (C.out _).mono ?_; rintro e w1 ⟨rfl, ⟨⟨n1, rfl⟩⟩⟩)
          go_quiet ((go_at_call 65; go_simp; exact quiet_add_same (GS.out _)))
          go_wp2
          go_ret
          exact ⟨by rw [HM.out]; rfl, by repeat (first | exact Below.refl _ _ | apply below_alloc | apply pw_below_drewN | apply below_drew1)⟩
        · have fc4 : (!t.toList.isEmpty) = true := by simp [c4]
          have ec4 : t.toList.isEmpty = false := by simp [c4]
          have hm : may id num s t = false := by rw [may_plain 1 id num s t hk (by omega)]; rw [decide_eq_true c1]; rw [decide_eq_true c2]; rw [decide_eq_true c3]; rw [decide_eq_false c4]; simp
          have HM := Lib.hid hm
          clear hm hk
          generalize lowOf id = low at *
          generalize maxOf 1 = mx at *
          go_enter Tryd.func61, Tryd.ntmps61
          go_wp2_with (go_at_call 55; refine (C.out _).mono ?_; rintro e w1 ⟨rfl, ⟨⟨n1, rfl⟩⟩⟩)
          go_quiet ((go_at_call 65; go_simp; exact quiet_add_same (GS.out _)))
          go_wp2
          go_ret
          exact ⟨by rw [HM.out]; rfl, by repeat (first | exact Below.refl _ _ | apply below_alloc | apply pw_below_drewN | apply below_drew1)⟩
      · have fc3 : (!s.toList.isEmpty) = true := by simp [c3]
        have ec3 : s.toList.isEmpty = false := by simp [c3]
        have hm : may id num s t = false := by rw [may_plain 1 id num s t hk (by omega)]; rw [decide_eq_true c1]; rw [decide_eq_true c2]; rw [decide_eq_false c3]; simp
        have HM := Lib.hid hm
        clear hm hk
        generalize lowOf id = low at *
        generalize maxOf 1 = mx at *
        go_enter Tryd.func61, Tryd.ntmps61
        go_wp2_with (go_at_call 55; refine (C.out _).mono ?_; rintro e w1 ⟨rfl, ⟨⟨n1, rfl⟩⟩⟩)
        go_quiet ((go_at_call 65; go_simp; exact quiet_add_same (GS.out _)))
        go_wp2
        go_ret
        exact ⟨by rw [HM.out]; rfl, by repeat (first | exact Below.refl _ _ | apply below_alloc | apply pw_below_drewN | apply below_drew1)⟩
    · have f2 : decide (num ≤ maxOf 1) = false := decide_eq_false c2
      have hm : may id num s t = false := by rw [may_plain 1 id num s t hk (by omega)]; rw [decide_eq_true c1]; rw [decide_eq_false c2]; simp
      have HM := Lib.hid hm
      clear hm hk
      generalize lowOf id = low at *
      generalize maxOf 1 = mx at *
      go_enter Tryd.func61, Tryd.ntmps61
      go_wp2_with (go_at_call 55; refine (C.out _).mono ?_; rintro e w1 ⟨rfl, ⟨⟨n1, rfl⟩⟩⟩)
      go_quiet ((go_at_call 65; go_simp; exact quiet_add_same (GS.out _)))
      go_wp2
      go_ret
      exact ⟨by rw [HM.out]; rfl, by repeat (first | exact Below.refl _ _ | apply below_alloc | apply pw_below_drewN | apply below_drew1)⟩
  · have f1 : decide (lowOf id ≤ num) = false := decide_eq_false c1
    have hm : may id num s t = false := by rw [may_plain 1 id num s t hk (by omega)]; rw [decide_eq_false c1]; simp
    have HM := Lib.hid hm
    clear hm hk
    generalize lowOf id = low at *
    generalize maxOf 1 = mx at *
    go_enter Tryd.func61, Tryd.ntmps61
    go_wp2_with (go_at_call 55; refine (C.out _).mono ?_; rintro e w1 ⟨rfl, ⟨⟨n1, rfl⟩⟩⟩)
    go_quiet ((go_at_call 65; go_simp; exact quiet_add_same (GS.out _)))
    go_wp2
    go_ret
    exact ⟨by rw [HM.out]; rfl, by repeat (first | exact Below.refl _ _ | apply below_alloc | apply pw_below_drewN | apply below_drew1)⟩

set_option maxRecDepth 100000 in
set_option maxHeartbeats 8000000 in
theorem good2 (id num : Int) (s t : ByteArray) (w : World) (hk : kindOf id = 2) :
    Calls Tryd.prog 61 #[.agg #[.int .i64 id, .int .i64 num, .string s, .string t]] w fun e w' => e = .returned (.bool (may id num s t)) ∧ Below w.heap.size w w' := by
  have C := Lib.hid (fun w => prop_shape.calls 10 id (ik 2) (lowOf id) w (by rw [shape_f, hk]))
  have GS := Lib.hid (greatest2)
  rw [show ik 2 = 2 from rfl] at C

  by_cases c1 : lowOf id ≤ num
  · have f1 : decide (lowOf id ≤ num) = true := decide_eq_true c1
    by_cases c2 : num ≤ maxOf 2
    · have f2 : decide (num ≤ maxOf 2) = true := decide_eq_true c2
      by_cases c3 : s.toList = []
      · have fc3 : (!s.toList.isEmpty) = false := by simp [c3]
        have ec3 : s.toList.isEmpty = true := by simp [c3]
        by_cases c4 : t.toList = []
        · have fc4 : (!t.toList.isEmpty) = false := by simp [c4]
          have ec4 : t.toList.isEmpty = true := by simp [c4]
          have hm : may id num s t = true := by rw [may_plain 2 id num s t hk (by omega)]; rw [decide_eq_true c1]; rw [decide_eq_true c2]; rw [decide_eq_true c3]; rw [decide_eq_true c4]; rfl
          have HM := Lib.hid hm
          clear hm hk
          generalize lowOf id = low at *
          generalize maxOf 2 = mx at *
          go_enter Tryd.func61, Tryd.ntmps61
          go_wp2_with (go_at_call 55; refine (C.out _).mono ?_; rintro e w1 ⟨rfl, ⟨⟨n1, rfl⟩⟩⟩)
          go_quiet ((go_at_call 65; go_simp; exact quiet_add_same (GS.out _)))
          go_wp2
          go_ret
          exact ⟨by rw [HM.out]; rfl, by repeat (first | exact Below.refl _ _ | apply below_alloc | apply pw_below_drewN | apply below_drew1)⟩
        · have fc4 : (!t.toList.isEmpty) = true := by simp [c4]
          have ec4 : t.toList.isEmpty = false := by simp [c4]
          have hm : may id num s t = false := by rw [may_plain 2 id num s t hk (by omega)]; rw [decide_eq_true c1]; rw [decide_eq_true c2]; rw [decide_eq_true c3]; rw [decide_eq_false c4]; simp
          have HM := Lib.hid hm
          clear hm hk
          generalize lowOf id = low at *
          generalize maxOf 2 = mx at *
          go_enter Tryd.func61, Tryd.ntmps61
          go_wp2_with (go_at_call 55; refine (C.out _).mono ?_; rintro e w1 ⟨rfl, ⟨⟨n1, rfl⟩⟩⟩)
          go_quiet ((go_at_call 65; go_simp; exact quiet_add_same (GS.out _)))
          go_wp2
          go_ret
          exact ⟨by rw [HM.out]; rfl, by repeat (first | exact Below.refl _ _ | apply below_alloc | apply pw_below_drewN | apply below_drew1)⟩
      · have fc3 : (!s.toList.isEmpty) = true := by simp [c3]
        have ec3 : s.toList.isEmpty = false := by simp [c3]
        have hm : may id num s t = false := by rw [may_plain 2 id num s t hk (by omega)]; rw [decide_eq_true c1]; rw [decide_eq_true c2]; rw [decide_eq_false c3]; simp
        have HM := Lib.hid hm
        clear hm hk
        generalize lowOf id = low at *
        generalize maxOf 2 = mx at *
        go_enter Tryd.func61, Tryd.ntmps61
        go_wp2_with (go_at_call 55; refine (C.out _).mono ?_; rintro e w1 ⟨rfl, ⟨⟨n1, rfl⟩⟩⟩)
        go_quiet ((go_at_call 65; go_simp; exact quiet_add_same (GS.out _)))
        go_wp2
        go_ret
        exact ⟨by rw [HM.out]; rfl, by repeat (first | exact Below.refl _ _ | apply below_alloc | apply pw_below_drewN | apply below_drew1)⟩
    · have f2 : decide (num ≤ maxOf 2) = false := decide_eq_false c2
      have hm : may id num s t = false := by rw [may_plain 2 id num s t hk (by omega)]; rw [decide_eq_true c1]; rw [decide_eq_false c2]; simp
      have HM := Lib.hid hm
      clear hm hk
      generalize lowOf id = low at *
      generalize maxOf 2 = mx at *
      go_enter Tryd.func61, Tryd.ntmps61
      go_wp2_with (go_at_call 55; refine (C.out _).mono ?_; rintro e w1 ⟨rfl, ⟨⟨n1, rfl⟩⟩⟩)
      go_quiet ((go_at_call 65; go_simp; exact quiet_add_same (GS.out _)))
      go_wp2
      go_ret
      exact ⟨by rw [HM.out]; rfl, by repeat (first | exact Below.refl _ _ | apply below_alloc | apply pw_below_drewN | apply below_drew1)⟩
  · have f1 : decide (lowOf id ≤ num) = false := decide_eq_false c1
    have hm : may id num s t = false := by rw [may_plain 2 id num s t hk (by omega)]; rw [decide_eq_false c1]; simp
    have HM := Lib.hid hm
    clear hm hk
    generalize lowOf id = low at *
    generalize maxOf 2 = mx at *
    go_enter Tryd.func61, Tryd.ntmps61
    go_wp2_with (go_at_call 55; refine (C.out _).mono ?_; rintro e w1 ⟨rfl, ⟨⟨n1, rfl⟩⟩⟩)
    go_quiet ((go_at_call 65; go_simp; exact quiet_add_same (GS.out _)))
    go_wp2
    go_ret
    exact ⟨by rw [HM.out]; rfl, by repeat (first | exact Below.refl _ _ | apply below_alloc | apply pw_below_drewN | apply below_drew1)⟩

set_option maxRecDepth 100000 in
set_option maxHeartbeats 8000000 in
theorem good4 (id num : Int) (s t : ByteArray) (w : World) (hk : kindOf id = 4) :
    Calls Tryd.prog 61 #[.agg #[.int .i64 id, .int .i64 num, .string s, .string t]] w fun e w' => e = .returned (.bool (may id num s t)) ∧ Below w.heap.size w w' := by
  have C := Lib.hid (fun w => prop_shape.calls 10 id (ik 4) (lowOf id) w (by rw [shape_f, hk]))
  have GS := Lib.hid (greatest4)
  rw [show ik 4 = 3 from rfl] at C

  by_cases c1 : lowOf id ≤ num
  · have f1 : decide (lowOf id ≤ num) = true := decide_eq_true c1
    by_cases c2 : num ≤ maxOf 4
    · have f2 : decide (num ≤ maxOf 4) = true := decide_eq_true c2
      by_cases c3 : s.toList = []
      · have fc3 : (!s.toList.isEmpty) = false := by simp [c3]
        have ec3 : s.toList.isEmpty = true := by simp [c3]
        by_cases c4 : t.toList = []
        · have fc4 : (!t.toList.isEmpty) = false := by simp [c4]
          have ec4 : t.toList.isEmpty = true := by simp [c4]
          have hm : may id num s t = true := by rw [may_plain 4 id num s t hk (by omega)]; rw [decide_eq_true c1]; rw [decide_eq_true c2]; rw [decide_eq_true c3]; rw [decide_eq_true c4]; rfl
          have HM := Lib.hid hm
          clear hm hk
          generalize lowOf id = low at *
          generalize maxOf 4 = mx at *
          go_enter Tryd.func61, Tryd.ntmps61
          go_wp2_with (go_at_call 55; refine (C.out _).mono ?_; rintro e w1 ⟨rfl, ⟨⟨n1, rfl⟩⟩⟩)
          go_quiet ((go_at_call 65; go_simp; exact quiet_add_same (GS.out _)))
          go_wp2
          go_ret
          exact ⟨by rw [HM.out]; rfl, by repeat (first | exact Below.refl _ _ | apply below_alloc | apply pw_below_drewN | apply below_drew1)⟩
        · have fc4 : (!t.toList.isEmpty) = true := by simp [c4]
          have ec4 : t.toList.isEmpty = false := by simp [c4]
          have hm : may id num s t = false := by rw [may_plain 4 id num s t hk (by omega)]; rw [decide_eq_true c1]; rw [decide_eq_true c2]; rw [decide_eq_true c3]; rw [decide_eq_false c4]; simp
          have HM := Lib.hid hm
          clear hm hk
          generalize lowOf id = low at *
          generalize maxOf 4 = mx at *
          go_enter Tryd.func61, Tryd.ntmps61
          go_wp2_with (go_at_call 55; refine (C.out _).mono ?_; rintro e w1 ⟨rfl, ⟨⟨n1, rfl⟩⟩⟩)
          go_quiet ((go_at_call 65; go_simp; exact quiet_add_same (GS.out _)))
          go_wp2
          go_ret
          exact ⟨by rw [HM.out]; rfl, by repeat (first | exact Below.refl _ _ | apply below_alloc | apply pw_below_drewN | apply below_drew1)⟩
      · have fc3 : (!s.toList.isEmpty) = true := by simp [c3]
        have ec3 : s.toList.isEmpty = false := by simp [c3]
        have hm : may id num s t = false := by rw [may_plain 4 id num s t hk (by omega)]; rw [decide_eq_true c1]; rw [decide_eq_true c2]; rw [decide_eq_false c3]; simp
        have HM := Lib.hid hm
        clear hm hk
        generalize lowOf id = low at *
        generalize maxOf 4 = mx at *
        go_enter Tryd.func61, Tryd.ntmps61
        go_wp2_with (go_at_call 55; refine (C.out _).mono ?_; rintro e w1 ⟨rfl, ⟨⟨n1, rfl⟩⟩⟩)
        go_quiet ((go_at_call 65; go_simp; exact quiet_add_same (GS.out _)))
        go_wp2
        go_ret
        exact ⟨by rw [HM.out]; rfl, by repeat (first | exact Below.refl _ _ | apply below_alloc | apply pw_below_drewN | apply below_drew1)⟩
    · have f2 : decide (num ≤ maxOf 4) = false := decide_eq_false c2
      have hm : may id num s t = false := by rw [may_plain 4 id num s t hk (by omega)]; rw [decide_eq_true c1]; rw [decide_eq_false c2]; simp
      have HM := Lib.hid hm
      clear hm hk
      generalize lowOf id = low at *
      generalize maxOf 4 = mx at *
      go_enter Tryd.func61, Tryd.ntmps61
      go_wp2_with (go_at_call 55; refine (C.out _).mono ?_; rintro e w1 ⟨rfl, ⟨⟨n1, rfl⟩⟩⟩)
      go_quiet ((go_at_call 65; go_simp; exact quiet_add_same (GS.out _)))
      go_wp2
      go_ret
      exact ⟨by rw [HM.out]; rfl, by repeat (first | exact Below.refl _ _ | apply below_alloc | apply pw_below_drewN | apply below_drew1)⟩
  · have f1 : decide (lowOf id ≤ num) = false := decide_eq_false c1
    have hm : may id num s t = false := by rw [may_plain 4 id num s t hk (by omega)]; rw [decide_eq_false c1]; simp
    have HM := Lib.hid hm
    clear hm hk
    generalize lowOf id = low at *
    generalize maxOf 4 = mx at *
    go_enter Tryd.func61, Tryd.ntmps61
    go_wp2_with (go_at_call 55; refine (C.out _).mono ?_; rintro e w1 ⟨rfl, ⟨⟨n1, rfl⟩⟩⟩)
    go_quiet ((go_at_call 65; go_simp; exact quiet_add_same (GS.out _)))
    go_wp2
    go_ret
    exact ⟨by rw [HM.out]; rfl, by repeat (first | exact Below.refl _ _ | apply below_alloc | apply pw_below_drewN | apply below_drew1)⟩

set_option maxRecDepth 100000 in
set_option maxHeartbeats 8000000 in
theorem good5 (id num : Int) (s t : ByteArray) (w : World) (hk : kindOf id = 5) :
    Calls Tryd.prog 61 #[.agg #[.int .i64 id, .int .i64 num, .string s, .string t]] w fun e w' => e = .returned (.bool (may id num s t)) ∧ Below w.heap.size w w' := by
  have C := Lib.hid (fun w => prop_shape.calls 10 id (ik 5) (lowOf id) w (by rw [shape_f, hk]))
  have GS := Lib.hid (greatest5)
  rw [show ik 5 = 4 from rfl] at C

  by_cases c1 : lowOf id ≤ num
  · have f1 : decide (lowOf id ≤ num) = true := decide_eq_true c1
    by_cases c2 : num ≤ maxOf 5
    · have f2 : decide (num ≤ maxOf 5) = true := decide_eq_true c2
      by_cases c3 : s.toList = []
      · have fc3 : (!s.toList.isEmpty) = false := by simp [c3]
        have ec3 : s.toList.isEmpty = true := by simp [c3]
        by_cases c4 : t.toList = []
        · have fc4 : (!t.toList.isEmpty) = false := by simp [c4]
          have ec4 : t.toList.isEmpty = true := by simp [c4]
          have hm : may id num s t = true := by rw [may_plain 5 id num s t hk (by omega)]; rw [decide_eq_true c1]; rw [decide_eq_true c2]; rw [decide_eq_true c3]; rw [decide_eq_true c4]; rfl
          have HM := Lib.hid hm
          clear hm hk
          generalize lowOf id = low at *
          generalize maxOf 5 = mx at *
          go_enter Tryd.func61, Tryd.ntmps61
          go_wp2_with (go_at_call 55; refine (C.out _).mono ?_; rintro e w1 ⟨rfl, ⟨⟨n1, rfl⟩⟩⟩)
          go_quiet ((go_at_call 65; go_simp; exact quiet_add_same (GS.out _)))
          go_wp2
          go_ret
          exact ⟨by rw [HM.out]; rfl, by repeat (first | exact Below.refl _ _ | apply below_alloc | apply pw_below_drewN | apply below_drew1)⟩
        · have fc4 : (!t.toList.isEmpty) = true := by simp [c4]
          have ec4 : t.toList.isEmpty = false := by simp [c4]
          have hm : may id num s t = false := by rw [may_plain 5 id num s t hk (by omega)]; rw [decide_eq_true c1]; rw [decide_eq_true c2]; rw [decide_eq_true c3]; rw [decide_eq_false c4]; simp
          have HM := Lib.hid hm
          clear hm hk
          generalize lowOf id = low at *
          generalize maxOf 5 = mx at *
          go_enter Tryd.func61, Tryd.ntmps61
          go_wp2_with (go_at_call 55; refine (C.out _).mono ?_; rintro e w1 ⟨rfl, ⟨⟨n1, rfl⟩⟩⟩)
          go_quiet ((go_at_call 65; go_simp; exact quiet_add_same (GS.out _)))
          go_wp2
          go_ret
          exact ⟨by rw [HM.out]; rfl, by repeat (first | exact Below.refl _ _ | apply below_alloc | apply pw_below_drewN | apply below_drew1)⟩
      · have fc3 : (!s.toList.isEmpty) = true := by simp [c3]
        have ec3 : s.toList.isEmpty = false := by simp [c3]
        have hm : may id num s t = false := by rw [may_plain 5 id num s t hk (by omega)]; rw [decide_eq_true c1]; rw [decide_eq_true c2]; rw [decide_eq_false c3]; simp
        have HM := Lib.hid hm
        clear hm hk
        generalize lowOf id = low at *
        generalize maxOf 5 = mx at *
        go_enter Tryd.func61, Tryd.ntmps61
        go_wp2_with (go_at_call 55; refine (C.out _).mono ?_; rintro e w1 ⟨rfl, ⟨⟨n1, rfl⟩⟩⟩)
        go_quiet ((go_at_call 65; go_simp; exact quiet_add_same (GS.out _)))
        go_wp2
        go_ret
        exact ⟨by rw [HM.out]; rfl, by repeat (first | exact Below.refl _ _ | apply below_alloc | apply pw_below_drewN | apply below_drew1)⟩
    · have f2 : decide (num ≤ maxOf 5) = false := decide_eq_false c2
      have hm : may id num s t = false := by rw [may_plain 5 id num s t hk (by omega)]; rw [decide_eq_true c1]; rw [decide_eq_false c2]; simp
      have HM := Lib.hid hm
      clear hm hk
      generalize lowOf id = low at *
      generalize maxOf 5 = mx at *
      go_enter Tryd.func61, Tryd.ntmps61
      go_wp2_with (go_at_call 55; refine (C.out _).mono ?_; rintro e w1 ⟨rfl, ⟨⟨n1, rfl⟩⟩⟩)
      go_quiet ((go_at_call 65; go_simp; exact quiet_add_same (GS.out _)))
      go_wp2
      go_ret
      exact ⟨by rw [HM.out]; rfl, by repeat (first | exact Below.refl _ _ | apply below_alloc | apply pw_below_drewN | apply below_drew1)⟩
  · have f1 : decide (lowOf id ≤ num) = false := decide_eq_false c1
    have hm : may id num s t = false := by rw [may_plain 5 id num s t hk (by omega)]; rw [decide_eq_false c1]; simp
    have HM := Lib.hid hm
    clear hm hk
    generalize lowOf id = low at *
    generalize maxOf 5 = mx at *
    go_enter Tryd.func61, Tryd.ntmps61
    go_wp2_with (go_at_call 55; refine (C.out _).mono ?_; rintro e w1 ⟨rfl, ⟨⟨n1, rfl⟩⟩⟩)
    go_quiet ((go_at_call 65; go_simp; exact quiet_add_same (GS.out _)))
    go_wp2
    go_ret
    exact ⟨by rw [HM.out]; rfl, by repeat (first | exact Below.refl _ _ | apply below_alloc | apply pw_below_drewN | apply below_drew1)⟩
end Go.Proofs.YtdnmliidmnfijaaDoor.Q

import Derived.Test.YtdnmliidmnfijaaDoorKG0
import Derived.Test.YtdnmliidmnfijaaDoorKG1
import Derived.Test.YtdnmliidmnfijaaDoorKDvE
import Derived.Outline
import Derived.Deep.DeepMust
section
set_option linter.unusedVariables false
set_option linter.unusedSimpArgs false
namespace Go.Proofs.YtdnmliidmnfijaaDoor.Q
open Go.RowKit Go.Proofs.YtdnmliidmnfijaaDoorW.PrintWords Go.Proofs.YtdnmliidmnfijaaDoorW.PrintLast Go.Proofs.YtdnmliidmnfijaaDoorW.PrintMore
set_option maxRecDepth 100000 in
set_option maxHeartbeats 2000000 in
theorem text_GetBin (A : Option Addr) (c : Nat) (l : List Int) (w : World) (hr : Kd.C (Kd.int .u8) w A l.length l) (hc : l.length ≤ c) (hb : bok l) :
    Calls Tryd.prog 47 #[.slice A l.length c] w fun e w' => ∃ v, e = .returned (.tuple #[.string (getBin l).1, .int .i64 (getBin l).2.1, v]) ∧ Dv.Err w' v (getBin l).2.2 ∧ Below w.heap.size w w' := by
  have hm := hr.2.1
  by_cases h2 : l.length < 2
  · have e : getBin l = (⟨#[]⟩, 0, 3) := by unfold getBin; rw [if_pos h2]
    rw [e]
    have h2' : decide (l.length < 2) = true := decide_eq_true h2
    have h2'' : decide ((l.length : Int) < 2) = true := decide_eq_true (by omega)
    clear h2 hr hb
    go_enter Tryd.func47, Tryd.ntmps47
    go_wp2
    go_quiet (fail)
    go_wp2_with (go_at_call 12; refine (Dv.fail_At _ _ _ _ (Dv.Err.no _ 3 (by decide) (by decide))).mono ?_; rintro e w2 ⟨v, rfl, he, hb⟩; have HE := Lib.hid he; have HB := Lib.hid hb; clear he hb)
    go_ret3
    exact ⟨v, rfl, HE.out, (Drawn0.below ⟨⟨_, rfl⟩⟩).then_ HB.out⟩
  · obtain ⟨b1, b2⟩ := bok_rd hb 0 (by omega) (by omega)
    obtain ⟨b3, b4⟩ := bok_rd hb 1 (by omega) (by omega)
    obtain ⟨ad, e0, hc0⟩ := Kd.at_int hr 0 (by omega) (by omega)
    obtain ⟨ad', e1, hc1⟩ := Kd.at_int hr 1 (by omega) (by omega)
    cases e0
    cases e1
    rw [show (0 : Int).toNat = 0 from rfl, Addr.add_zero'] at hc0
    rw [show (1 : Int).toNat = 1 from rfl] at hc1
    have hc1' : w.cell? { block := ad.block, off := ad.off + 1 } = some (.int .u8 (rd l 1)) := by simpa [Addr.add] using hc1
    clear hc1
    have h2' : decide (l.length < 2) = false := decide_eq_false h2
    have h2'' : decide ((l.length : Int) < 2) = false := decide_eq_false (by omega)
    have q0 : (0 < l.length) = True := eq_true (by omega)
    have q1 : (1 < l.length) = True := eq_true (by omega)
    have q1i : ((1 : Int) < (l.length : Int)) = True := eq_true (by omega)
    have w0 : IntKind.i64.wrap ((l.length : Int) - 2) = (l.length : Int) - 2 := by rw [IntKind.wrap_i64]; omega
    by_cases h3 : (l.length : Int) < 2 + (rd l 0 * 256 + rd l 1)
    · have e : getBin l = (⟨#[]⟩, 0, 3) := by unfold getBin; rw [if_neg h2, if_pos h3]
      rw [e]
      clear e hr hb
      generalize rd l 0 = x at *
      generalize rd l 1 = y at *
      clear h2
      have w1 : IntKind.i64.wrap x = x := by rw [IntKind.wrap_i64]; omega
      have w2 : IntKind.i64.wrap (x * 256) = x * 256 := by rw [IntKind.wrap_i64]; omega
      have w3 : IntKind.i64.wrap y = y := by rw [IntKind.wrap_i64]; omega
      have w4 : IntKind.i64.wrap (x * 256 + y) = x * 256 + y := by rw [IntKind.wrap_i64]; omega
      have t1 : decide ((l.length : Int) - 2 < x * 256 + y) = true := decide_eq_true (by omega)
      clear h3
      go_enter Tryd.func47, Tryd.ntmps47
      go_wp2
      go_quiet (fail)
      clear w0 w1 w2 w3 w4
      go_wp2_with (go_at_call 12; refine (Dv.fail_At _ _ _ _ (Dv.Err.no _ 3 (by decide) (by decide))).mono ?_; rintro e w2 ⟨v, rfl, he, hb⟩; have HE := Lib.hid he; have HB := Lib.hid hb; clear he hb)
      go_ret3
      exact ⟨v, rfl, HE.out, (Drawn0.below ⟨⟨_, rfl⟩⟩).then_ HB.out⟩
    · have e : getBin l = (strOfNums ((l.take (2 + (rd l 0 * 256 + rd l 1)).toNat).drop 2), 2 + (rd l 0 * 256 + rd l 1), 0) := by unfold getBin; rw [if_neg h2, if_neg h3]
      rw [e]
      clear e hb
      dsimp only
      obtain ⟨R, hR⟩ : ∃ R, R = strOfNums ((l.take (2 + (rd l 0 * 256 + rd l 1)).toNat).drop 2) := ⟨_, rfl⟩
      rw [← hR]
      have HRR := Aside0.mk hR
      clear hR
      have HR := Aside0.mk hr
      clear hr
      clear h2
      generalize rd l 0 = x at *
      generalize rd l 1 = y at *
      have w1 : IntKind.i64.wrap x = x := by rw [IntKind.wrap_i64]; omega
      have w2 : IntKind.i64.wrap (x * 256) = x * 256 := by rw [IntKind.wrap_i64]; omega
      have w3 : IntKind.i64.wrap y = y := by rw [IntKind.wrap_i64]; omega
      have w4 : IntKind.i64.wrap (x * 256 + y) = x * 256 + y := by rw [IntKind.wrap_i64]; omega
      have w5 : IntKind.i64.wrap (2 + x * 256) = 2 + x * 256 := by rw [IntKind.wrap_i64]; omega
      have w6 : IntKind.i64.wrap (2 + x * 256 + y) = 2 + x * 256 + y := by rw [IntKind.wrap_i64]; omega
      have t1 : decide ((l.length : Int) - 2 < x * 256 + y) = false := decide_eq_false (by omega)
      go_enter Tryd.func47, Tryd.ntmps47
      go_wp2
      go_quiet (fail)
      go_wp2
      go_quiet (fail)
      clear w0 w1 w2 w3 w4 w5 w6
      obtain ⟨i08, hi08, _, hsz8, _⟩ := info_parts qinfo5
      obtain ⟨A8, hcut8, hA8, hC8⟩ := print_mid_of (P := Tryd.prog) (Value.int .u8) 0 25 5 .i64 .i64 Tryd.underlying25 hi08 hsz8 (some ad) c l 2 (2 + x * 256 + y) (by omega) (by omega) (by omega) hc
      have HR117 := Aside0.mk (Kd.C_of_reads (h1 := fun _ => rfl) (hA8 _ (Kd.reads_of_C HR.out)))
      clear hA8 hC8 hi08 hsz8
      have hcv9 := fun n => Kd.C_string (P := Tryd.prog) (w := w.drewN n) (A := A8) (c := (c - 2)) Tryd.underlying25 Tryd.underlying5 Tryd.underlying9 HR117.out
      simp only [Int.reduceToNat] at hcut8 hcv9
      rw [show 2 + x * 256 + y = 2 + (x * 256 + y) by omega] at *
      simp only [← HRR.out] at hcv9
      have hlen : ((l.take (2 + (x * 256 + y)).toNat).drop 2).length = (2 + (x * 256 + y)).toNat - 2 := by rw [List.length_drop, List.length_take]; omega
      simp only [hlen] at hcut8 hcv9
      clear hlen HR117 HRR
      go_wp2
      go_ret3
      exact ⟨.nilIface, rfl, .inl ⟨rfl, rfl⟩, Drawn0.below (by repeat (first | exact Drawn0.refl _ | apply Drawn0.step))⟩
end Go.Proofs.YtdnmliidmnfijaaDoor.Q
end
section
set_option linter.unusedVariables false
set_option linter.unusedSimpArgs false
namespace Go.Proofs.YtdnmliidmnfijaaDoor.Q
open Go.RowKit Go.Proofs.YtdnmliidmnfijaaDoorW.PrintWords Go.Proofs.YtdnmliidmnfijaaDoorW.PrintLast Go.Proofs.YtdnmliidmnfijaaDoorW.PrintMore
theorem Err_nil {w : World} {v : Value} (h : Dv.Err w v 0) : v = .nilIface := by
  rcases h with ⟨rfl, _⟩ | ⟨h1, _⟩
  · rfl
  · omega
theorem Err_iface {w : World} {v : Value} {n : Int} (h : Dv.Err w v n) (hn : n ≠ 0) : ∃ t x, v = .iface t x := by
  rcases h with ⟨rfl, h0⟩ | ⟨h1, _, d, hd⟩
  · exact absurd h0 hn
  · exact hd.form
set_option maxRecDepth 100000 in
set_option maxHeartbeats 2000000 in
theorem text_Get (A : Option Addr) (c : Nat) (l : List Int) (w : World) (hr : Kd.C (Kd.int .u8) w A l.length l) (hc : l.length ≤ c) (hb : bok l) (hT : Dv.GTab w) :
    Calls Tryd.prog 39 #[.slice A l.length c] w fun e w' => ∃ v, e = .returned (.tuple #[.string (getText l).1, .int .i64 (getText l).2.1, v]) ∧ Dv.Err w' v (getText l).2.2 ∧ Below w.heap.size w w' := by
  have hg := getBin_good l hb
  have C := Lib.hid (text_GetBin A c l w hr hc hb)
  have hm := hr.2.1
  have HT := Lib.hid hT
  clear hr hc hb hT
  unfold getText
  generalize getBin l = gb at *
  obtain ⟨s, sz, e⟩ := gb
  dsimp only at hg C ⊢
  rcases hg with ⟨rfl, h2, h3, h4⟩ | ⟨rfl, rfl, rfl⟩
  · rw [if_pos rfl]
    have hk : Dv.chk s = if Dv.utf s.data.toList = true then 0 else 1 := by unfold Dv.chk; rw [if_pos h4]
    have K := fun w' (hB : Below w.heap.size w w') => Lib.hid (Dv.text_Check s w' (by omega) (Dv.GTab.below HT.out hB))
    rw [hk] at K
    clear hk HT h2 h3 h4
    generalize Dv.utf s.data.toList = u at *
    cases u with
    | true =>
      go_enter Tryd.func39, Tryd.ntmps39
      go_wp2_with fail
      refine C.out.mono ?_
      rintro e w1 ⟨v, rfl, he, hb⟩
      obtain rfl := Err_nil he
      have HB := Lib.hid hb
      clear he hb
      go_wp2_with fail
      refine (K _ HB.out).out.mono ?_
      rintro e w2 ⟨v, rfl, he, hb⟩
      obtain rfl := Err_nil he
      have HB2 := Lib.hid hb
      clear he hb
      go_wp2
      go_ret3
      exact ⟨.nilIface, rfl, .inl ⟨rfl, rfl⟩, HB.out.then_ HB2.out⟩
    | false =>
      go_enter Tryd.func39, Tryd.ntmps39
      go_wp2_with fail
      refine C.out.mono ?_
      rintro e w1 ⟨v, rfl, he, hb⟩
      obtain rfl := Err_nil he
      have HB := Lib.hid hb
      clear he hb
      go_wp2_with fail
      refine (K _ HB.out).out.mono ?_
      rintro e w2 ⟨v, rfl, he, hb⟩
      obtain ⟨t, x, rfl⟩ := Err_iface he (by decide)
      have HB2 := Lib.hid hb
      have HE := Lib.hid he
      clear he hb
      go_wp2
      go_ret3
      exact ⟨_, rfl, HE.out, HB.out.then_ HB2.out⟩
  · rw [if_neg (by decide)]
    clear HT
    go_enter Tryd.func39, Tryd.ntmps39
    go_wp2_with fail
    refine C.out.mono ?_
    rintro e w1 ⟨v, rfl, he, hb⟩
    obtain ⟨t, x, rfl⟩ := Err_iface he (by decide)
    have HB := Lib.hid hb
    have HE := Lib.hid he
    clear he hb
    go_wp2
    go_ret3
    exact ⟨_, rfl, HE.out, HB.out⟩
theorem set_f0 {W : World} {g t : Nat} {x y : Value} (h : W.heap[g]? = some (.cells #[x, y] t (0, 0))) (u : Value) : (W.setCell ⟨g, 0, none⟩ u).heap[g]? = some (.cells #[u, y] t (0, 0)) := by
  simp [World.setCell, Array.getElem?_modify, h]
theorem set_f1 {W : World} {g t : Nat} {x y : Value} (h : W.heap[g]? = some (.cells #[x, y] t (0, 0))) (u : Value) : (W.setCell ⟨g, 1, none⟩ u).heap[g]? = some (.cells #[x, u] t (0, 0)) := by
  simp [World.setCell, Array.getElem?_modify, h]
theorem set_grown (W : World) (g i : Nat) (u : Value) : W.grownBy (W.setCell ⟨g, i, none⟩ u) (some g) :=
  ⟨rfl, rfl, rfl, by simp [World.setCell], fun k _ hne => Below.heap_setCell W _ _ k (fun e => hne (by rw [e]))⟩
theorem grown_refl (W : World) (r : Option Nat) : W.grownBy W r := ⟨rfl, rfl, rfl, Nat.le_refl _, fun _ _ _ => rfl⟩
theorem grown_trans {a b c : World} {r : Option Nat} (h : a.grownBy b r) (k : b.grownBy c r) : a.grownBy c r :=
  ⟨k.os.trans h.os, k.tape.trans h.tape, k.output.trans h.output, Nat.le_trans h.size k.size, fun i hi hn => (k.block i (Nat.lt_of_lt_of_le hi h.size) hn).trans (h.block i hi hn)⟩
theorem grown_below {a b : World} (h : Below a.heap.size a b) (r : Option Nat) : a.grownBy b r := ⟨h.os, h.tape, h.output, h.size, fun i hi _ => h.block i hi⟩
structure Pl (w0 W : World) (g : Nat) (A : Option Addr) (c : Nat) (l : List Int) (v : Value) : Prop where
  hp : W.heap[g]? = some (.cells #[.slice A l.length c, v] 126 (0, 0))
  rd : Kd.C (Kd.int .u8) w0 A l.length l
  cap : l.length ≤ c
  below : Below w0.heap.size w0 W
  old : w0.heap.size ≤ g
theorem Pl.c0 {w0 W : World} {g : Nat} {A : Option Addr} {c : Nat} {l : List Int} {v : Value} (h : Pl w0 W g A c l v) : W.cell? ⟨g, 0, none⟩ = some (.slice A l.length c) := (cell_of_row _ _ 0 _ _ _ h.hp).trans rfl
theorem Pl.c1 {w0 W : World} {g : Nat} {A : Option Addr} {c : Nat} {l : List Int} {v : Value} (h : Pl w0 W g A c l v) : W.cell? ⟨g, 1, none⟩ = some v := (cell_of_row _ _ 1 _ _ _ h.hp).trans rfl
theorem Pl.fr {w0 W : World} {g : Nat} {A : Option Addr} {c : Nat} {l : List Int} {v : Value} (h : Pl w0 W g A c l v) (i : Nat) (hi : i < 2) : W.frozen? ⟨g, i, none⟩ = false := by
  have := h.hp; simp [World.frozen?, this]
theorem Pl.set_e {w0 W : World} {g : Nat} {A : Option Addr} {c : Nat} {l : List Int} {v : Value} (h : Pl w0 W g A c l v) (u : Value) : Pl w0 (W.setCell ⟨g, 1, none⟩ u) g A c l u :=
  ⟨set_f1 h.hp u, h.rd, h.cap, h.below.setCell h.old _, h.old⟩
theorem Pl.set_b {w0 W : World} {g : Nat} {A A' : Option Addr} {c c' : Nat} {l l' : List Int} {v : Value} (h : Pl w0 W g A c l v) (hr : Kd.C (Kd.int .u8) w0 A' l'.length l') (hc : l'.length ≤ c') : Pl w0 (W.setCell ⟨g, 0, none⟩ (.slice A' l'.length c')) g A' c' l' v :=
  ⟨set_f0 h.hp _, hr, hc, h.below.setCell h.old _, h.old⟩
theorem Pl.drewN {w0 W : World} {g : Nat} {A : Option Addr} {c : Nat} {l : List Int} {v : Value} (h : Pl w0 W g A c l v) (n : Nat) : Pl w0 (W.drewN n) g A c l v :=
  ⟨h.hp, h.rd, h.cap, h.below.then_ (Drawn0.below ⟨⟨n, rfl⟩⟩), h.old⟩
theorem Pl.after {w0 W W1 : World} {g : Nat} {A : Option Addr} {c : Nat} {l : List Int} {v : Value} (h : Pl w0 W g A c l v) (hb : Below W.heap.size W W1) : Pl w0 W1 g A c l v :=
  ⟨(hb.block g (Array.getElem?_eq_some_iff.1 h.hp).1).trans h.hp, h.rd, h.cap, h.below.then_ hb, h.old⟩
theorem be_snoc (l : List Int) (x : Int) : be (l ++ [x]) = be l * 256 + x := by simp [be]
theorem be_take (l : List Int) (j : Nat) (h : j < l.length) : be (l.take (j + 1)) = be (l.take j) * 256 + l.getD j 0 := by
  rw [List.take_succ_eq_append_getElem h, be_snoc, List.getD_eq_getElem?_getD, List.getElem?_eq_getElem h]; rfl
theorem be_bound (l : List Int) (hb : bok l) : ∀ j, j ≤ 4 → j ≤ l.length → 0 ≤ be (l.take j) ∧ be (l.take j) < 256 ^ j
  | 0, _, _ => by simp [be]
  | j + 1, h4, hl => by
    have ih := be_bound l hb j (by omega) (by omega)
    have hx : byteOk (l.getD j 0) := by
      rw [List.getD_eq_getElem?_getD, List.getElem?_eq_getElem (by omega)]
      exact hb _ (List.getElem_mem _)
    unfold byteOk at hx
    rw [be_take l j (by omega), Int.pow_succ]
    omega
set_option maxRecDepth 100000 in
set_option maxHeartbeats 2000000 in
theorem number_short (w0 w : World) (g : Nat) (A : Option Addr) (c : Nat) (l : List Int) (k : Nat) (h : Pl w0 w g A c l .nilIface) (hk : l.length < k) (h4 : k ≤ 4) :
    Calls Tryd.prog 56 #[.pointer (some ⟨g, 0, none⟩), .int .i64 k] w fun e w' => e = .returned (.int .i64 0) ∧ Pl w0 w' g A c l (.iface 50 (.int .i64 1)) ∧ w.grownBy w' (some g) := by
  have c0 := h.c0
  have c1 := h.c1
  have f1 := h.fr 1 (by omega)
  have hm := h.rd.2.1
  have d1 : decide (l.length < k) = true := decide_eq_true hk
  have d2 : decide ((l.length : Int) < (k : Int)) = true := decide_eq_true (by omega)
  have d3 : decide (0 < k) = true := decide_eq_true (by omega)
  have d4 : (0 < k) = True := eq_true (by omega)
  have H := Lib.hid h
  clear h hk
  go_enter Tryd.func56, Tryd.ntmps56
  go_wp2
  refine wp_loop_rounds 1 ?_
  rw [rounds_succ]
  go_wp2
  go_ret
  exact ⟨rfl, H.out.set_e _, set_grown _ _ _ _⟩
theorem be_small (l : List Int) (hb : bok l) (j : Nat) (h3 : j ≤ 3) (hl : j ≤ l.length) : 0 ≤ be (l.take j) ∧ be (l.take j) < 16777216 := by
  have hbd := be_bound l hb j (by omega) hl
  rcases (by omega : j = 0 ∨ j = 1 ∨ j = 2 ∨ j = 3) with rfl | rfl | rfl | rfl <;> omega
theorem drop1 (A : Option Addr) (c : Nat) (q : List Int) (w0 : World) (hq : 1 ≤ q.length) (hc : q.length ≤ c) (hr : Kd.C (Kd.int .u8) w0 A q.length q) (n : Nat) (hn : n ≤ q.length) :
    ∃ A', (∀ W : World, (Instr.slice 25 (.slice A q.length c) (some (.int .i64 (n : Int))) none none).run Tryd.prog W = .ok (.slice A' (q.drop n).length (c - n)) W) ∧ Kd.C (Kd.int .u8) w0 A' (q.drop n).length (q.drop n) ∧ (q.drop n).length ≤ c - n := by
  obtain ⟨i0, hi, _, hsz, _⟩ := info_parts qinfo5
  obtain ⟨A', h1, h2, h3⟩ := print_drop_of (P := Tryd.prog) (Value.int .u8) 0 25 5 .i64 Tryd.underlying25 hi hsz A c q (n : Int) (by omega) (by omega) hc
  rw [Int.toNat_natCast] at h1 h2 h3
  exact ⟨A', h1, Kd.C_of_reads (h1 := fun _ => rfl) (h2 _ (Kd.reads_of_C hr)), h3⟩
set_option maxRecDepth 100000 in
set_option maxHeartbeats 2000000 in
theorem number_ok (w0 w : World) (g : Nat) (A : Option Addr) (c : Nat) (l : List Int) (k : Nat) (h : Pl w0 w g A c l .nilIface) (hb : bok l) (hk : k ≤ l.length) (h4 : k ≤ 4) :
    Calls Tryd.prog 56 #[.pointer (some ⟨g, 0, none⟩), .int .i64 k] w fun e w' => e = .returned (.int .i64 (be (l.take k))) ∧ (∃ A' c', Pl w0 w' g A' c' (l.drop k) .nilIface) ∧ w.grownBy w' (some g) := by
  have c0 := h.c0
  have c1 := h.c1
  have hm := h.rd.2.1
  have d1 : decide (l.length < k) = false := decide_eq_false (by omega)
  have d2 : decide ((l.length : Int) < (k : Int)) = false := decide_eq_false (by omega)
  have H := Lib.hid h
  have HB := Lib.hid hb
  have HK := Lib.hid hk
  clear h hk hb
  go_enter Tryd.func56, Tryd.ntmps56
  go_wp2
  go_loopw [1, 4] (fun n v wr => ∃ m : Nat, m ≤ k ∧ n = .int .i64 m ∧ v = .int .i64 (be (l.take (k - m))) ∧ (∃ A' c', Pl w0 wr g A' c' (l.drop (k - m)) .nilIface) ∧ w.grownBy wr (some g)) (fun n _ _ => (intOf n).toNat)
  case atStart => exact ⟨k, Nat.le_refl _, rfl, by rw [Nat.sub_self]; rfl, ⟨A, c, by rw [Nat.sub_self]; exact H.out⟩, grown_refl _ _⟩
  case round =>
    obtain ⟨m, hmk, rfl, rfl, ⟨A1, c1', hp⟩, hgr⟩ := hrel
    have HG := Lib.hid hgr
    clear hgr c0 c1 d1 d2 hm
    by_cases hm0 : 0 < m
    · obtain ⟨m, rfl⟩ : ∃ j, m = j + 1 := ⟨m - 1, by omega⟩
      have hj : k - (m + 1) < l.length := by have := HK.out; omega
      obtain ⟨hV0, hV1⟩ := be_small l HB.out (k - (m + 1)) (by omega) (by omega)
      have HT := Lib.hid (be_take l (k - (m + 1)) hj)
      have hx : byteOk (l.getD (k - (m + 1)) 0) := by
        rw [List.getD_eq_getElem?_getD, List.getElem?_eq_getElem hj]
        exact HB.out _ (List.getElem_mem _)
      obtain ⟨hx0, hx1⟩ := hx
      have hql : (l.drop (k - (m + 1))).length = l.length - (k - (m + 1)) := List.length_drop
      have hq0 : rd (l.drop (k - (m + 1))) 0 = l.getD (k - (m + 1)) 0 := by unfold rd; simp [List.getD_eq_getElem?_getD]
      have hdd : (l.drop (k - (m + 1))).drop 1 = l.drop (k - m) := by rw [List.drop_drop]; congr 1; omega
      have hkm : k - m = k - (m + 1) + 1 := by omega
      rw [← hkm] at HT
      clear hkm
      obtain ⟨ad, ea, hc0⟩ := Kd.at_int hp.rd 0 (by omega) (by omega)
      rw [hq0, show (0 : Int).toNat = 0 from rfl, Addr.add_zero'] at hc0
      have hc0' := (hp.below.cell (World.block_lt_of_cell? _ _ hc0)).trans hc0
      obtain ⟨A2, hcut, hr2, hc2⟩ := drop1 A1 c1' (l.drop (k - (m + 1))) w0 (by omega) hp.cap hp.rd 1 (by omega)
      rw [hdd] at hr2 hc2 hcut
      cases ea
      have hcut1 : ∀ W : World, (Instr.slice 25 (.slice (some ad) (l.drop (k - (m + 1))).length c1') (some (.int .i64 1)) none none).run Tryd.prog W = .ok (.slice A2 (l.drop (k - m)).length (c1' - 1)) W := hcut
      clear hcut
      obtain ⟨q2, hq2⟩ : ∃ q2, q2 = l.drop (k - m) := ⟨_, rfl⟩
      rw [← hq2] at hr2 hc2 hcut1
      have HQ2 := Lib.hid hq2
      clear hq2
      have c0 := hp.c0
      have c1 := hp.c1
      have f0 := hp.fr 0 (by omega)
      have q0 : (0 < (l.drop (k - (m + 1))).length) = True := eq_true (by omega)
      have q0i : ((0 : Int) < ((l.drop (k - (m + 1))).length : Int)) = True := eq_true (by omega)
      have hp63 := hp.rd.2.1
      generalize l.drop (k - (m + 1)) = q at *
      generalize be (l.take (k - (m + 1))) = V at *
      generalize l.getD (k - (m + 1)) 0 = x at *
      have hor := i64_or256 (x := V) (y := x) hV0 (by omega) hx0 (by omega)
      have HP := Lib.hid hp
      have HR2 := Lib.hid hr2
      have HC2 := Lib.hid hc2
      have HQ := Lib.hid (show q.length ≤ 9223372036854775807 from hp63)
      clear hp hr2 hc2 hc0 hql hq0 hdd hj hm0
      go_wp2
      go_roundw
      case rel => exact ⟨m, by omega, rfl, by rw [HT.out], ⟨A2, _, by rw [← HQ2.out]; exact HP.out.set_b HR2.out HC2.out⟩, grown_trans HG.out (set_grown _ _ _ _)⟩
      case measure => simp [intOf]
    · obtain rfl : m = 0 := by omega
      have c0 := hp.c0
      have c1 := hp.c1
      rw [Nat.sub_zero] at hp
      have HP := Lib.hid hp
      clear hp
      go_wp2
      go_ret
      exact ⟨by rw [Nat.sub_zero]; rfl, ⟨_, _, HP.out⟩, HG.out⟩
end Go.Proofs.YtdnmliidmnfijaaDoor.Q
end
section
set_option linter.unusedVariables false
set_option linter.unusedSimpArgs false
namespace Go.Proofs.YtdnmliidmnfijaaDoor.Q
open Go.RowKit Go.Proofs.YtdnmliidmnfijaaDoorW.PrintWords Go.Proofs.YtdnmliidmnfijaaDoorW.PrintLast Go.Proofs.YtdnmliidmnfijaaDoorW.PrintMore
theorem Err_form {w : World} {v : Value} {n : Int} (h : Dv.Err w v n) : v = .nilIface ∨ ∃ t x, v = .iface t x := by
  rcases h with ⟨rfl, _⟩ | ⟨_, _, d, hd⟩
  · exact .inl rfl
  · exact .inr hd.form
theorem ErrV_grown {w W : World} {g : Nat} {cs : Array Value} (hp : w.heap[g]? = some (.cells cs 126 (0, 0))) (hg : w.grownBy W (some g)) : ∀ (d : Nat) {v : Value} {n : Int}, Dv.ErrV w d v n → Dv.ErrV W d v n
  | 0, _, _, h => h
  | d + 1, _, _, ⟨b, L, u, e, hb, hu⟩ => by
    refine ⟨b, L, u, e, ?_, ErrV_grown hp hg d hu⟩
    rw [← hb]
    refine hg.block b (Array.getElem?_eq_some_iff.1 hb).1 (fun he => ?_)
    injection he with he
    subst he
    rw [hp] at hb
    injection hb with hb
    injection hb with _ ht
    exact absurd ht (by decide)
theorem Err_grown {w W : World} {g : Nat} {cs : Array Value} {v : Value} {n : Int} (hp : w.heap[g]? = some (.cells cs 126 (0, 0))) (hg : w.grownBy W (some g)) (h : Dv.Err w v n) : Dv.Err W v n := by
  rcases h with h | ⟨h1, h2, d, hd⟩
  · exact .inl h
  · exact .inr ⟨h1, h2, d, ErrV_grown hp hg d hd⟩
def After (w0 w : World) (g : Nat) (l : List Int) (n : Int) (w' : World) : Prop := ∃ A c v, Pl w0 w' g A c l v ∧ Dv.Err w' v n ∧ w.grownBy w' (some g)
theorem varGet_cap (l : List Int) (hb : bok l) : 0 ≤ (Dv.varGet l).2.1 ∧ (Dv.varGet l).2.1.toNat ≤ l.length := by
  have := varGet_good l hb; omega
set_option maxRecDepth 100000 in
set_option maxHeartbeats 2000000 in
theorem place_varied (w0 w : World) (g : Nat) (A : Option Addr) (c : Nat) (l : List Int) (h : Pl w0 w g A c l .nilIface) (hb : bok l) :
    Calls Tryd.prog 54 #[.pointer (some ⟨g, 0, none⟩)] w fun e w' => e = .returned (.int .i64 (Dv.varGet l).1) ∧ After w0 w g (l.drop (Dv.varGet l).2.1.toNat) (Dv.varGet l).2.2 w' := by
  have C := Lib.hid (varint_Get A c l w (Kd.C_below h.rd h.below) h.cap hb)
  obtain ⟨hz0, hz1⟩ := varGet_cap l hb
  obtain ⟨A2, hcut, hr2, hc2⟩ : ∃ A', (∀ W : World, (Instr.slice 25 (.slice A l.length c) (some (.int .i64 (Dv.varGet l).2.1)) none none).run Tryd.prog W = .ok (.slice A' (l.drop (Dv.varGet l).2.1.toNat).length (c - (Dv.varGet l).2.1.toNat)) W) ∧ Kd.C (Kd.int .u8) w0 A' (l.drop (Dv.varGet l).2.1.toNat).length (l.drop (Dv.varGet l).2.1.toNat) ∧ (l.drop (Dv.varGet l).2.1.toNat).length ≤ c - (Dv.varGet l).2.1.toNat := by
    obtain ⟨i0, hi, _, hsz, _⟩ := info_parts qinfo5
    obtain ⟨A', h1, h2, h3⟩ := print_drop_of (P := Tryd.prog) (Value.int .u8) 0 25 5 .i64 Tryd.underlying25 hi hsz A c l (Dv.varGet l).2.1 hz0 (by omega) h.cap
    exact ⟨A', h1, Kd.C_of_reads (h1 := fun _ => rfl) (h2 _ (Kd.reads_of_C h.rd)), h3⟩
  have c0 := h.c0
  have c1 := h.c1
  have hm := h.rd.2.1
  have H := Lib.hid h
  have HR2 := Lib.hid hr2
  have HC2 := Lib.hid hc2
  clear h hb hr2 hc2 hz0 hz1
  generalize Dv.varGet l = r at *
  obtain ⟨n, sz, er⟩ := r
  dsimp only at *
  generalize l.drop sz.toNat = q at *
  generalize c - sz.toNat = c2 at *
  go_enter Tryd.func54, Tryd.ntmps54
  go_wp2_with fail
  refine C.out.mono ?_
  rintro e w1 ⟨v, rfl, he, hb1⟩
  have hp1 := H.out.after hb1
  have c0 := hp1.c0
  have c1 := hp1.c1
  have f0 := hp1.fr 0 (by omega)
  have f1 := hp1.fr 1 (by omega)
  have HP := Lib.hid hp1
  have HE := Lib.hid he
  have HB1 := Lib.hid hb1
  have hform := Err_form he
  clear he hb1 hp1
  rcases hform with rfl | ⟨t, x, rfl⟩
  all_goals
    go_wp2
    go_ret
    refine ⟨rfl, A2, c2, _, ((HP.out.set_e _).set_b HR2.out HC2.out), ?_, grown_trans (grown_below HB1.out _) (grown_trans (set_grown _ _ _ _) (set_grown _ _ _ _))⟩
    exact Err_grown HP.out.hp (grown_trans (set_grown _ _ _ _) (set_grown _ _ _ _)) HE.out
set_option maxRecDepth 100000 in
set_option maxHeartbeats 2000000 in
theorem place_strT (r : ByteArray × Int × Int) (w0 w : World) (g : Nat) (A : Option Addr) (c : Nat) (l : List Int) (h : Pl w0 w g A c l .nilIface)
    (hz0 : 0 ≤ r.2.1) (hz1 : r.2.1 ≤ l.length)
    (hC : Calls Tryd.prog 39 #[.slice A l.length c] w fun e w' => ∃ v, e = .returned (.tuple #[.string r.1, .int .i64 r.2.1, v]) ∧ Dv.Err w' v r.2.2 ∧ Below w.heap.size w w') :
    Calls Tryd.prog 57 #[.pointer (some ⟨g, 0, none⟩), .func (.func 39) #[] #[]] w fun e w' => e = .returned (.string r.1) ∧ After w0 w g (l.drop r.2.1.toNat) r.2.2 w' := by
  have C := Lib.hid hC
  obtain ⟨A2, hcut, hr2, hc2⟩ : ∃ A', (∀ W : World, (Instr.slice 25 (.slice A l.length c) (some (.int .i64 r.2.1)) none none).run Tryd.prog W = .ok (.slice A' (l.drop r.2.1.toNat).length (c - r.2.1.toNat)) W) ∧ Kd.C (Kd.int .u8) w0 A' (l.drop r.2.1.toNat).length (l.drop r.2.1.toNat) ∧ (l.drop r.2.1.toNat).length ≤ c - r.2.1.toNat := by
    obtain ⟨i0, hi, _, hsz, _⟩ := info_parts qinfo5
    obtain ⟨A', h1, h2, h3⟩ := print_drop_of (P := Tryd.prog) (Value.int .u8) 0 25 5 .i64 Tryd.underlying25 hi hsz A c l r.2.1 hz0 (by omega) h.cap
    exact ⟨A', h1, Kd.C_of_reads (h1 := fun _ => rfl) (h2 _ (Kd.reads_of_C h.rd)), h3⟩
  have c0 := h.c0
  have c1 := h.c1
  have hm := h.rd.2.1
  have H := Lib.hid h
  have HR2 := Lib.hid hr2
  have HC2 := Lib.hid hc2
  clear h hr2 hc2 hz0 hz1 hC
  obtain ⟨s, sz, er⟩ := r
  dsimp only at *
  generalize l.drop sz.toNat = q at *
  generalize c - sz.toNat = c2 at *
  go_enter Tryd.func57, Tryd.ntmps57
  go_wp2_with fail
  refine C.out.mono ?_
  rintro e w1 ⟨v, rfl, he, hb1⟩
  have hp1 := H.out.after hb1
  have c0 := hp1.c0
  have c1 := hp1.c1
  have f0 := hp1.fr 0 (by omega)
  have f1 := hp1.fr 1 (by omega)
  have HP := Lib.hid hp1
  have HE := Lib.hid he
  have HB1 := Lib.hid hb1
  have hform := Err_form he
  clear he hb1 hp1
  rcases hform with rfl | ⟨t, x, rfl⟩
  all_goals
    go_wp2
    go_ret
    refine ⟨rfl, A2, c2, _, ((HP.out.set_e _).set_b HR2.out HC2.out), ?_, grown_trans (grown_below HB1.out _) (grown_trans (set_grown _ _ _ _) (set_grown _ _ _ _))⟩
    exact Err_grown HP.out.hp (grown_trans (set_grown _ _ _ _) (set_grown _ _ _ _)) HE.out
set_option maxRecDepth 100000 in
set_option maxHeartbeats 2000000 in
theorem place_strB (r : ByteArray × Int × Int) (w0 w : World) (g : Nat) (A : Option Addr) (c : Nat) (l : List Int) (h : Pl w0 w g A c l .nilIface)
    (hz0 : 0 ≤ r.2.1) (hz1 : r.2.1 ≤ l.length)
    (hC : Calls Tryd.prog 47 #[.slice A l.length c] w fun e w' => ∃ v, e = .returned (.tuple #[.string r.1, .int .i64 r.2.1, v]) ∧ Dv.Err w' v r.2.2 ∧ Below w.heap.size w w') :
    Calls Tryd.prog 57 #[.pointer (some ⟨g, 0, none⟩), .func (.func 47) #[] #[]] w fun e w' => e = .returned (.string r.1) ∧ After w0 w g (l.drop r.2.1.toNat) r.2.2 w' := by
  have C := Lib.hid hC
  obtain ⟨A2, hcut, hr2, hc2⟩ : ∃ A', (∀ W : World, (Instr.slice 25 (.slice A l.length c) (some (.int .i64 r.2.1)) none none).run Tryd.prog W = .ok (.slice A' (l.drop r.2.1.toNat).length (c - r.2.1.toNat)) W) ∧ Kd.C (Kd.int .u8) w0 A' (l.drop r.2.1.toNat).length (l.drop r.2.1.toNat) ∧ (l.drop r.2.1.toNat).length ≤ c - r.2.1.toNat := by
    obtain ⟨i0, hi, _, hsz, _⟩ := info_parts qinfo5
    obtain ⟨A', h1, h2, h3⟩ := print_drop_of (P := Tryd.prog) (Value.int .u8) 0 25 5 .i64 Tryd.underlying25 hi hsz A c l r.2.1 hz0 (by omega) h.cap
    exact ⟨A', h1, Kd.C_of_reads (h1 := fun _ => rfl) (h2 _ (Kd.reads_of_C h.rd)), h3⟩
  have c0 := h.c0
  have c1 := h.c1
  have hm := h.rd.2.1
  have H := Lib.hid h
  have HR2 := Lib.hid hr2
  have HC2 := Lib.hid hc2
  clear h hr2 hc2 hz0 hz1 hC
  obtain ⟨s, sz, er⟩ := r
  dsimp only at *
  generalize l.drop sz.toNat = q at *
  generalize c - sz.toNat = c2 at *
  go_enter Tryd.func57, Tryd.ntmps57
  go_wp2_with fail
  refine C.out.mono ?_
  rintro e w1 ⟨v, rfl, he, hb1⟩
  have hp1 := H.out.after hb1
  have c0 := hp1.c0
  have c1 := hp1.c1
  have f0 := hp1.fr 0 (by omega)
  have f1 := hp1.fr 1 (by omega)
  have HP := Lib.hid hp1
  have HE := Lib.hid he
  have HB1 := Lib.hid hb1
  have hform := Err_form he
  clear he hb1 hp1
  rcases hform with rfl | ⟨t, x, rfl⟩
  all_goals
    go_wp2
    go_ret
    refine ⟨rfl, A2, c2, _, ((HP.out.set_e _).set_b HR2.out HC2.out), ?_, grown_trans (grown_below HB1.out _) (grown_trans (set_grown _ _ _ _) (set_grown _ _ _ _))⟩
    exact Err_grown HP.out.hp (grown_trans (set_grown _ _ _ _) (set_grown _ _ _ _)) HE.out
theorem place_str_err (f : Value) (w0 w : World) (g : Nat) (A : Option Addr) (c : Nat) (l : List Int) (t : Nat) (x : Value) (h : Pl w0 w g A c l (.iface t x)) :
    Calls Tryd.prog 57 #[.pointer (some ⟨g, 0, none⟩), f] w fun e w' => e = .returned (.string ⟨#[]⟩) ∧ w = w' := by
  have c1 := h.c1
  clear h
  go_enter Tryd.func57, Tryd.ntmps57
  go_wp2
  go_ret
  exact ⟨rfl, rfl⟩
end Go.Proofs.YtdnmliidmnfijaaDoor.Q
end

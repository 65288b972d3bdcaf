import Derived.Test.YtdnmliidmnfijaaDoorKH16
import Derived.BigQuiet
set_option linter.unusedVariables false
set_option linter.unusedSimpArgs false
namespace Go.Proofs.YtdnmliidmnfijaaDoor.Q
open Go.RowKit Go.Proofs.YtdnmliidmnfijaaDoorW.PrintWords Go.Proofs.YtdnmliidmnfijaaDoorW.PrintLast Go.Proofs.YtdnmliidmnfijaaDoorW.PrintMore
theorem R_row (W : World) (xs : List Int) (cs : Array Value) (hc : cs = (xs.map (Value.int .u8)).toArray) (hl : xs.length ≤ 1000) : Kd.R (Kd.int .u8) 5 (W.alloc (.cells cs 5)) W.heap.size (fun _ => True) (.slice (some ⟨W.heap.size, 0, none⟩) xs.length xs.length) xs := by
  subst hc
  refine Kd.R_of_own ⟨by simp [encs], .inr ⟨W.heap.size, xs.length, _, rfl, Nat.le_refl _, heap_alloc_new _ _, Nat.le_refl _, by unfold maxLen; omega, by simp, ?_⟩⟩ (fun _ _ => trivial)
  simp [encs, List.take_of_length_le]
theorem R_cells {W : World} {base : Nat} {v : Value} {xs : List Int} (h : Kd.R (Kd.int .u8) 5 W base (fun _ => True) v xs) (hn : xs.length ≠ 0) : ∃ g cap cur, v = .slice (some ⟨g, 0, none⟩) xs.length cap ∧ base ≤ g ∧ xs.length ≤ cap ∧ W.heap[g]? = some (.cells cur 5 (0, 0)) ∧ ∀ j, j < xs.length → cur[j]? = some (.int .u8 (xs.getD j 0)) := by
  have ho := Kd.own_of_R h
  rcases ho.2 with ⟨_, h0⟩ | ⟨g, cap, cur, hv, hg, hh, h1, h2, h3, h4⟩
  · exact absurd h0 hn
  · refine ⟨g, cap, cur, hv, hg, h1, hh, fun j hj => ?_⟩
    have hC := (Kd.R_reads' (hv ▸ h)).2.2
    obtain ⟨ad, e, hc⟩ := Kd.at_int hC (j : Int) (by omega) (by omega)
    cases e
    rw [Int.toNat_natCast, add_plain] at hc
    have := cell_of_row W g (0 + j) cur _ _ hh
    simp only [Nat.zero_add] at this hc
    rw [← this, hc]
    simp [rd]
theorem C_two {W : World} {g : Nat} {t : Nat} {fr : Nat × Nat} {cs : Array Value} (h : W.heap[g]? = some (.cells cs t fr)) (a b : Int) (h0 : cs[0]? = some (.int .u8 a)) (h1 : cs[1]? = some (.int .u8 b)) : Kd.C (Kd.int .u8) W (some ⟨g, 0, none⟩) ([a, b] : List Int).length [a, b] :=
  C_row [a, b] h (by simp) (fun j hj => by
    have : j = 0 ∨ j = 1 := by simp at hj; omega
    rcases this with rfl | rfl
    · exact h0
    · exact h1)
theorem SP_fresh {W : World} {g : Nat} {lim : Int} (h : W.heap[g]? = some (.cells #[.int .i64 lim, .slice none 0 0, .nilIface] 45 (0, 0))) : SP W g lim none 0 [] .nilIface :=
  ⟨h, fun W' _ => Kd.C_nil _ _, Nat.le_refl _⟩
theorem kPk_payload {w : World} {p : Pk} {cs : List Value} (h : kPk.K w p cs) : cs[6]? = some (.string p.payload) := by
  obtain ⟨_, _, rfl, rfl, ⟨_, _, rfl, rfl, ⟨_, _, rfl, rfl, ⟨_, _, rfl, rfl, ⟨_, _, rfl, rfl, ⟨_, _, rfl, rfl, ⟨_, _, rfl, rfl, _⟩⟩⟩⟩⟩⟩⟩ := h
  rfl
theorem size_two : ∀ k : Fin 60, 2 ≤ k.val → pkSize [48, (k.val : Int) - 2] = ((k.val : Int), 0) := by decide +kernel
theorem New_row (lim m : Int) (w : World) (h0 : max lim 2 = m) (h1 : min m 65536 = m) : Calls Tryd.prog 4 #[.int .i64 lim] w fun e w' => e = .returned (.pointer (some ⟨w.heap.size, 0, none⟩)) ∧ w'.heap[w.heap.size]? = some (.cells #[.int .i64 m, .slice none 0 0, .nilIface] 45 (0, 0)) ∧ Below w.heap.size w w' := by
  go_enter Tryd.func4, Tryd.ntmps4
  go_wp2
  go_ret
  exact ⟨rfl, heap_alloc_new _ _, below_alloc (Below.refl _ _) _⟩
set_option maxRecDepth 100000 in
set_option maxHeartbeats 8000000 in
theorem StreamLimits_walk (w : World) (lim : Int) (A : Option Addr) (n c : Nat) (hG : Dv.GErr w) (hT : Dv.GTab w) :
    Calls Tryd.prog 3 #[.agg #[.int .i64 lim, .slice A n c]] w fun e w' => e = .returned (.bool true) ∧ Below w.heap.size w w' := by
  have HG := Lib.hid hG
  have HT := Lib.hid hT
  clear hG hT
  go_enter Tryd.func3, Tryd.ntmps3
  go_wp2_with fail
  have HW0 := Lib.hid (below_alloc (Below.refl w.heap.size w) (.cells #[.int .i64 lim, .slice A n c] 24))
  have HP0 := Lib.hid (heap_alloc_new w (.cells #[.int .i64 lim, .slice A n c] 24))
  generalize w.alloc (.cells #[.int .i64 lim, .slice A n c] 24) = W0 at *
  have HG0 := Lib.hid (Dv.GErr.below HG.out HW0.out)
  have HT0 := Lib.hid (Dv.GTab.below HT.out HW0.out)
  generalize hq : w.heap.size = q at *
  go_loopw [3] (fun i wr => ∃ k : Nat, 2 ≤ k ∧ k ≤ 60 ∧ i = .int .i64 k ∧ Below W0.heap.size W0 wr) (fun i _ => 60 - (intOf i).toNat)
  case atStart => exact ⟨2, Nat.le_refl _, by decide, rfl, Below.refl _ _⟩
  case round =>
    obtain ⟨k, hk2, hk60, rfl, hB⟩ := hrel
    have HB := Lib.hid hB
    clear hB
    by_cases hlt : k < 60
    · have d1 : decide ((k : Int) < 60) = true := decide_eq_true (by omega)
      have w1 : IntKind.i64.wrap ((k : Int) - 2) = (k : Int) - 2 := by rw [IntKind.wrap_i64]; omega
      have w2 : IntKind.u8.wrap ((k : Int) - 2) = (k : Int) - 2 := by unfold IntKind.wrap IntKind.bits IntKind.signed; simp; omega
      have w3 : IntKind.i64.wrap ((k : Int) - 1) = (k : Int) - 1 := by rw [IntKind.wrap_i64]; omega
      have w4 : IntKind.i64.wrap ((k : Int) - 6) = (k : Int) - 6 := by rw [IntKind.wrap_i64]; omega
      have w5 : IntKind.i64.wrap ((k : Int) + 1) = (k : Int) + 1 := by rw [IntKind.wrap_i64]; omega
      rcases (by omega : k = 2 ∨ (k = 3 ∨ k = 4) ∨ k = 5 ∨ 6 ≤ k) with h2 | h34 | h5 | h6
      · skip
        have t5 : decide (5 ≤ (k : Int)) = false := decide_eq_false (by omega)
        have t6 : decide (6 ≤ (k : Int)) = false := decide_eq_false (by omega)
        have t2 : decide (2 < (k : Int)) = false := decide_eq_false (by omega)
        have HKB := Lib.hid (And.intro hk2 hlt)
        have HL4 := Lib.hid (show ([48, (k : Int) - 2] ++ List.replicate ((k : Int) - 2).toNat (0 : Int)).length = k by simp; omega)
        have HK := Lib.hid h2
        clear hlt hk2 hk60 h2
        go_wp2_with ((with_reducible refine gate_builtin (b := .append) (xs := #[.tmp 20, .tmp 22]) rfl ?_); at_builtin; go_must (refine Kd.R_append_zeros (Kd.int .u8) (w0 := wr) wr.heap.size rfl (.tmp 20) (.tmp 22) 25 3 5 (.int .u8 0) 1 rfl Tryd.underlying25 Tryd.underlying3 qinfo5 rfl (by decide) (by decide) (.slice (some ⟨wr.heap.size, 0, none⟩) 2 2) [48, (k : Int) - 2] 0 ((k : Int) - 2) (fun _ => True) rfl rfl rfl (fun _ _ => trivial) (R_row wr [48, (k : Int) - 2] _ rfl (by simp)) (by have := HKB.out; omega) (below_alloc (Below.refl _ _) _) (below_alloc (Below.refl wr.heap.size wr) _).size (by have := HKB.out; simp only [List.length_cons, List.length_nil]; omega) ?_); intro v4 w4 ho4 hb4 hg4 hat4; have HO4 := Lib.hid ho4; have HB4 := Lib.hid hb4; clear ho4 hb4 hg4 hat4)
        obtain ⟨g1, cap1, cur1, hv4, hg1, hcap, hrow1, hcells⟩ := R_cells HO4.out (by simp)
        rw [HL4.out] at hv4 hcap hcells
        subst hv4
        have HR1 := Lib.hid hrow1
        have HC1 := Lib.hid hcells
        have HBB4 := Lib.hid (HB.out.then_ HB4.out)
        have HG1 := Lib.hid hg1
        have HCAP := Lib.hid hcap
        clear hrow1 hcells hg1 hcap
        refine (New_row (k : Int) (k : Int) _ (by have := HKB.out; omega) (by have := HKB.out; omega)).mono ?_
        rintro e w5 ⟨rfl, hrs, hb5⟩
        obtain ⟨gs, hgs⟩ : ∃ gs, w4.heap.size = gs := ⟨_, rfl⟩
        have HGS := Lib.hid (show W0.heap.size ≤ gs by have := HBB4.out.size; omega)
        rw [hgs] at hrs
        rw [hgs]
        have HBB5 := Lib.hid (HBB4.out.then_ hb5)
        have HB45 := Lib.hid hb5
        clear hb5
        go_wp2_with fail
        refine (New_row ((k : Int) - 1) 2 _ (by have := HK.out; omega) (by omega)).mono ?_
        rintro e w6 ⟨rfl, hrt, hb6⟩
        obtain ⟨gt, hgt⟩ : ∃ gt, w5.heap.size = gt := ⟨_, rfl⟩
        have HST := Lib.hid (show gs < gt by have := (Array.getElem?_eq_some_iff.1 hrs).1; omega)
        rw [hgt] at hrt
        rw [hgt]
        have HRS := Lib.hid ((hb6.block gs (Array.getElem?_eq_some_iff.1 hrs).1).trans hrs)
        have HRT := Lib.hid hrt
        have HBB6 := Lib.hid (HBB5.out.then_ hb6)
        have HB46 := Lib.hid (HB45.out.then_ hb6)
        clear hrs hrt hb6 hgs hgt
        go_wp2_with fail
        have HBEND := HBB6
        go_roundw
        case rel => exact ⟨k + 1, by have := HKB.out; omega, by have := HKB.out; omega, by simp, HBEND.out⟩
        case measure => simp [intOf]; have := HKB.out; omega
      · skip
        have t5 : decide (5 ≤ (k : Int)) = false := decide_eq_false (by omega)
        have t6 : decide (6 ≤ (k : Int)) = false := decide_eq_false (by omega)
        have t2 : decide (2 < (k : Int)) = true := decide_eq_true (by omega)
        have HKB := Lib.hid (And.intro hk2 hlt)
        have HL4 := Lib.hid (show ([48, (k : Int) - 2] ++ List.replicate ((k : Int) - 2).toNat (0 : Int)).length = k by simp; omega)
        clear hlt hk2 hk60
        have HK3 := Lib.hid h34
        clear h34
        go_wp2_with ((with_reducible refine gate_builtin (b := .append) (xs := #[.tmp 20, .tmp 22]) rfl ?_); at_builtin; go_must (refine Kd.R_append_zeros (Kd.int .u8) (w0 := wr) wr.heap.size rfl (.tmp 20) (.tmp 22) 25 3 5 (.int .u8 0) 1 rfl Tryd.underlying25 Tryd.underlying3 qinfo5 rfl (by decide) (by decide) (.slice (some ⟨wr.heap.size, 0, none⟩) 2 2) [48, (k : Int) - 2] 0 ((k : Int) - 2) (fun _ => True) rfl rfl rfl (fun _ _ => trivial) (R_row wr [48, (k : Int) - 2] _ rfl (by simp)) (by have := HKB.out; omega) (below_alloc (Below.refl _ _) _) (below_alloc (Below.refl wr.heap.size wr) _).size (by have := HKB.out; simp only [List.length_cons, List.length_nil]; omega) ?_); intro v4 w4 ho4 hb4 hg4 hat4; have HO4 := Lib.hid ho4; have HB4 := Lib.hid hb4; clear ho4 hb4 hg4 hat4)
        obtain ⟨g1, cap1, cur1, hv4, hg1, hcap, hrow1, hcells⟩ := R_cells HO4.out (by simp)
        rw [HL4.out] at hv4 hcap hcells
        subst hv4
        have HR1 := Lib.hid hrow1
        have HC1 := Lib.hid hcells
        have HBB4 := Lib.hid (HB.out.then_ HB4.out)
        have HG1 := Lib.hid hg1
        have HCAP := Lib.hid hcap
        clear hrow1 hcells hg1 hcap
        refine (New_row (k : Int) (k : Int) _ (by have := HKB.out; omega) (by have := HKB.out; omega)).mono ?_
        rintro e w5 ⟨rfl, hrs, hb5⟩
        obtain ⟨gs, hgs⟩ : ∃ gs, w4.heap.size = gs := ⟨_, rfl⟩
        have HGS := Lib.hid (show W0.heap.size ≤ gs by have := HBB4.out.size; omega)
        rw [hgs] at hrs
        rw [hgs]
        have HBB5 := Lib.hid (HBB4.out.then_ hb5)
        have HB45 := Lib.hid hb5
        clear hb5
        go_wp2_with fail
        refine (New_row ((k : Int) - 1) ((k : Int) - 1) _ (by have := HK3.out; omega) (by have := HKB.out; omega)).mono ?_
        rintro e w6 ⟨rfl, hrt, hb6⟩
        obtain ⟨gt, hgt⟩ : ∃ gt, w5.heap.size = gt := ⟨_, rfl⟩
        have HST := Lib.hid (show gs < gt by have := (Array.getElem?_eq_some_iff.1 hrs).1; omega)
        rw [hgt] at hrt
        rw [hgt]
        have HRS := Lib.hid ((hb6.block gs (Array.getElem?_eq_some_iff.1 hrs).1).trans hrs)
        have HRT := Lib.hid hrt
        have HBB6 := Lib.hid (HBB5.out.then_ hb6)
        have HB46 := Lib.hid (HB45.out.then_ hb6)
        clear hrs hrt hb6 hgs hgt
        have q2 : (2 ≤ cap1) = True := eq_true (by have := HCAP.out; have := HKB.out; omega)
        have q2i : ((2 : Int) ≤ (cap1 : Int)) = True := eq_true (by have := HCAP.out; have := HKB.out; omega)
        go_wp2_with fail
        refine (feed_bad w6 gt ((k : Int) - 1) none (some ⟨g1, 0, none⟩) 0 cap1 [] [48, (k : Int) - 2] (SP_fresh HRT.out) (C_two ((HB46.out.block g1 (Array.getElem?_eq_some_iff.1 HR1.out).1).trans HR1.out) 48 ((k : Int) - 2) (HC1.out 0 (by have := HKB.out; omega)) (HC1.out 1 (by have := HKB.out; omega))) (by simp) (fun x hx => by have := HKB.out; simp at hx; unfold byteOk; omega) 2 (by
          have hs := size_two ⟨k, HKB.out.2⟩ HKB.out.1
          dsimp only at hs
          show (2 : Int) = if (pkSize [48, (k : Int) - 2]).2 = 0 ∧ (k : Int) - 1 < (pkSize [48, (k : Int) - 2]).1 then 2 else (pkSize [48, (k : Int) - 2]).2
          rw [hs, if_pos ⟨rfl, by dsimp only; omega⟩]) (by decide) (by decide)).mono ?_
        rintro _ w7 ⟨u, rfl, hu, hsp7, hg7⟩
        obtain ⟨tu, yu, rfl⟩ := Err_iface hu (by decide)
        have HU := Lib.hid hu
        have HSP7 := Lib.hid hsp7
        have HBB7 := Lib.hid (HBB6.out.grown hg7 HBB6.out.size (fun k hk => by injection hk with hk; rw [← hk]; have := HST.out; have := HGS.out; omega))
        clear hu hsp7 hg7
        go_wp2_with fail
        have HA7 := Lib.hid (below_alloc (Below.refl w7.heap.size w7) (.cells #[.int .u8 192, .int .u8 0] 5))
        refine (feed_err _ gt ((k : Int) - 1) none (some ⟨w7.heap.size, 0, none⟩) 0 2 2 [] tu yu (HSP7.out.after HA7.out)).mono ?_
        rintro e w8 ⟨rfl, hb8⟩
        have HB78 := Lib.hid (HA7.out.then_ hb8)
        have HBB8 := Lib.hid (HBB7.out.then_ HB78.out)
        clear hb8
        go_wp2_with fail
        refine (law5_num (.iface tu yu) 2 w8 (Dv.GErr.below HG0.out HBB8.out) (Err_kept HU.out (Kept.of_below HB78.out (fun _ => False)) (fun _ hk => hk.elim))).mono ?_
        rintro e w9 ⟨rfl, hb9⟩
        have HB79 := Lib.hid (HB78.out.then_ hb9)
        have HBB9 := Lib.hid (HBB8.out.then_ hb9)
        clear hb9
        go_wp2_with fail
        refine (law5_num (.iface tu yu) 2 w9 (Dv.GErr.below HG0.out HBB9.out) (Err_kept HU.out (Kept.of_below HB79.out (fun _ => False)) (fun _ hk => hk.elim))).mono ?_
        rintro e w10 ⟨rfl, hb10⟩
        have HB710 := Lib.hid (HB79.out.then_ hb10)
        have HBEND := Lib.hid (HBB9.out.then_ hb10)
        clear hb10
        go_wp2_with fail
        refine (stream_Held w10 gt ((k : Int) - 1) none 0 [] (.iface tu yu) (HSP7.out.after HB710.out)).mono ?_
        rintro e w11 ⟨rfl, rfl⟩
        go_wp2
        go_roundw
        case rel => exact ⟨k + 1, by have := HKB.out; omega, by have := HKB.out; omega, by simp, HBEND.out⟩
        case measure => simp [intOf]; have := HKB.out; omega
      · skip
        have t5 : decide (5 ≤ (k : Int)) = true := decide_eq_true (by omega)
        have t6 : decide (6 ≤ (k : Int)) = false := decide_eq_false (by omega)
        have t2 : decide (2 < (k : Int)) = true := decide_eq_true (by omega)
        have HKB := Lib.hid (And.intro hk2 hlt)
        have HL4 := Lib.hid (show ([48, (k : Int) - 2] ++ List.replicate ((k : Int) - 2).toNat (0 : Int)).length = k by simp; omega)
        have HK5 := Lib.hid (show 5 ≤ k by omega)
        clear hlt hk2 hk60 h5
        go_upto_region 5 with ((with_reducible refine gate_builtin (b := .append) (xs := #[.tmp 20, .tmp 22]) rfl ?_); at_builtin; go_must (refine Kd.R_append_zeros (Kd.int .u8) (w0 := wr) wr.heap.size rfl (.tmp 20) (.tmp 22) 25 3 5 (.int .u8 0) 1 rfl Tryd.underlying25 Tryd.underlying3 qinfo5 rfl (by decide) (by decide) (.slice (some ⟨wr.heap.size, 0, none⟩) 2 2) [48, (k : Int) - 2] 0 ((k : Int) - 2) (fun _ => True) rfl rfl rfl (fun _ _ => trivial) (R_row wr [48, (k : Int) - 2] _ rfl (by simp)) (by have := HKB.out; omega) (below_alloc (Below.refl _ _) _) (below_alloc (Below.refl wr.heap.size wr) _).size (by have := HKB.out; simp only [List.length_cons, List.length_nil]; omega) ?_); intro v4 w4 ho4 hb4 hg4 hat4; have HO4 := Lib.hid ho4; have HB4 := Lib.hid hb4; clear ho4 hb4 hg4 hat4)
        obtain ⟨g1, cap1, cur1, hv4, hg1, hcap, hrow1, hcells⟩ := R_cells HO4.out (by simp)
        rw [HL4.out] at hv4 hcap hcells
        subst hv4
        have HR1 := Lib.hid hrow1
        have HC1 := Lib.hid hcells
        have HBB4 := Lib.hid (HB.out.then_ HB4.out)
        have HG1 := Lib.hid hg1
        have HCAP := Lib.hid hcap
        clear hrow1 hcells hg1 hcap
        have m3 : w4.cell? ⟨g1, 3, none⟩ = some (.int .u8 _) := (cell_of_row _ _ 3 _ _ _ HR1.out).trans (HC1.out 3 (by have := HKB.out; have := HK5.out; omega))
        have m4 : w4.cell? ⟨g1, 4, none⟩ = some (.int .u8 _) := (cell_of_row _ _ 4 _ _ _ HR1.out).trans (HC1.out 4 (by have := HKB.out; have := HK5.out; omega))
        have mf3 := frozen_of_row w4 g1 3 _ _ HR1.out
        have mf4 := frozen_of_row w4 g1 4 _ _ HR1.out
        have q3 : (3 < k) = True := eq_true (by have := HK5.out; omega)
        have q3i : ((3 : Int) < (k : Int)) = True := eq_true (by have := HK5.out; omega)
        have q4 : (4 < k) = True := eq_true (by have := HK5.out; omega)
        have q4i : ((4 : Int) < (k : Int)) = True := eq_true (by have := HK5.out; omega)
        go_upto_region 8 with fail
        have HBS := Lib.hid ((HB4.out.setCell (p := ⟨g1, 3, none⟩) HG1.out (.int .u8 1)).setCell (p := ⟨g1, 4, none⟩) HG1.out (.int .u8 97))
        have HRS1 := Lib.hid (heap_setCell_same _ g1 4 _ _ (.int .u8 97) (heap_setCell_same w4 g1 3 _ _ (.int .u8 1) HR1.out))
        have HCS1 := Lib.hid (show ∀ j, j < 2 → ((cur1.setIfInBounds 3 (.int .u8 1)).setIfInBounds 4 (.int .u8 97))[j]? = cur1[j]? from fun j hj => by
          rw [Array.getElem?_setIfInBounds_ne (by omega), Array.getElem?_setIfInBounds_ne (by omega)])
        have HBBS := Lib.hid (HB.out.then_ HBS.out)
        clear m3 m4 mf3 mf4 q3 q3i q4 q4i
        generalize (w4.setCell ⟨g1, 3, none⟩ (.int .u8 1)).setCell ⟨g1, 4, none⟩ (.int .u8 97) = w4b at *
        have q2 : (2 ≤ cap1) = True := eq_true (by have := HCAP.out; have := HKB.out; omega)
        have q2i : ((2 : Int) ≤ (cap1 : Int)) = True := eq_true (by have := HCAP.out; have := HKB.out; omega)
        go_wp2_with fail
        refine (New_row (k : Int) (k : Int) _ (by have := HKB.out; omega) (by have := HKB.out; omega)).mono ?_
        rintro e w5 ⟨rfl, hrs, hb5⟩
        obtain ⟨gs, hgs⟩ : ∃ gs, w4b.heap.size = gs := ⟨_, rfl⟩
        have HGS := Lib.hid (show W0.heap.size ≤ gs by have := HBBS.out.size; omega)
        rw [hgs] at hrs
        rw [hgs]
        have HBB5 := Lib.hid (HBBS.out.then_ hb5)
        have HB45 := Lib.hid hb5
        clear hb5
        go_wp2_with fail
        refine (New_row ((k : Int) - 1) ((k : Int) - 1) _ (by have := HK5.out; omega) (by have := HKB.out; omega)).mono ?_
        rintro e w6 ⟨rfl, hrt, hb6⟩
        obtain ⟨gt, hgt⟩ : ∃ gt, w5.heap.size = gt := ⟨_, rfl⟩
        have HST := Lib.hid (show gs < gt by have := (Array.getElem?_eq_some_iff.1 hrs).1; omega)
        rw [hgt] at hrt
        rw [hgt]
        have HRS := Lib.hid ((hb6.block gs (Array.getElem?_eq_some_iff.1 hrs).1).trans hrs)
        have HRT := Lib.hid hrt
        have HBB6 := Lib.hid (HBB5.out.then_ hb6)
        have HB46 := Lib.hid (HB45.out.then_ hb6)
        clear hrs hrt hb6 hgs hgt
        go_wp2_with fail
        refine (feed_bad w6 gt ((k : Int) - 1) none (some ⟨g1, 0, none⟩) 0 cap1 [] [48, (k : Int) - 2] (SP_fresh HRT.out) (C_two ((HB46.out.block g1 (Array.getElem?_eq_some_iff.1 HRS1.out).1).trans HRS1.out) 48 ((k : Int) - 2) ((HCS1.out 0 (by decide)).trans (HC1.out 0 (by have := HKB.out; omega))) ((HCS1.out 1 (by decide)).trans (HC1.out 1 (by have := HKB.out; omega)))) (by simp) (fun x hx => by have := HKB.out; simp at hx; unfold byteOk; omega) 2 (by
          have hs := size_two ⟨k, HKB.out.2⟩ HKB.out.1
          dsimp only at hs
          show (2 : Int) = if (pkSize [48, (k : Int) - 2]).2 = 0 ∧ (k : Int) - 1 < (pkSize [48, (k : Int) - 2]).1 then 2 else (pkSize [48, (k : Int) - 2]).2
          rw [hs, if_pos ⟨rfl, by dsimp only; omega⟩]) (by decide) (by decide)).mono ?_
        rintro _ w7 ⟨u, rfl, hu, hsp7, hg7⟩
        obtain ⟨tu, yu, rfl⟩ := Err_iface hu (by decide)
        have HU := Lib.hid hu
        have HSP7 := Lib.hid hsp7
        have HBB7 := Lib.hid (HBB6.out.grown hg7 HBB6.out.size (fun k hk => by injection hk with hk; rw [← hk]; have := HST.out; have := HGS.out; omega))
        clear hu hsp7 hg7
        go_wp2_with fail
        have HA7 := Lib.hid (below_alloc (Below.refl w7.heap.size w7) (.cells #[.int .u8 192, .int .u8 0] 5))
        refine (feed_err _ gt ((k : Int) - 1) none (some ⟨w7.heap.size, 0, none⟩) 0 2 2 [] tu yu (HSP7.out.after HA7.out)).mono ?_
        rintro e w8 ⟨rfl, hb8⟩
        have HB78 := Lib.hid (HA7.out.then_ hb8)
        have HBB8 := Lib.hid (HBB7.out.then_ HB78.out)
        clear hb8
        go_wp2_with fail
        refine (law5_num (.iface tu yu) 2 w8 (Dv.GErr.below HG0.out HBB8.out) (Err_kept HU.out (Kept.of_below HB78.out (fun _ => False)) (fun _ hk => hk.elim))).mono ?_
        rintro e w9 ⟨rfl, hb9⟩
        have HB79 := Lib.hid (HB78.out.then_ hb9)
        have HBB9 := Lib.hid (HBB8.out.then_ hb9)
        clear hb9
        go_wp2_with fail
        refine (law5_num (.iface tu yu) 2 w9 (Dv.GErr.below HG0.out HBB9.out) (Err_kept HU.out (Kept.of_below HB79.out (fun _ => False)) (fun _ hk => hk.elim))).mono ?_
        rintro e w10 ⟨rfl, hb10⟩
        have HB710 := Lib.hid (HB79.out.then_ hb10)
        have HBEND := Lib.hid (HBB9.out.then_ hb10)
        clear hb10
        go_wp2_with fail
        refine (stream_Held w10 gt ((k : Int) - 1) none 0 [] (.iface tu yu) (HSP7.out.after HB710.out)).mono ?_
        rintro e w11 ⟨rfl, rfl⟩
        go_wp2
        go_roundw
        case rel => exact ⟨k + 1, by have := HKB.out; omega, by have := HKB.out; omega, by simp, HBEND.out⟩
        case measure => simp [intOf]; have := HKB.out; omega
      · skip
        have t5 : decide (5 ≤ (k : Int)) = true := decide_eq_true (by omega)
        have t6 : decide (6 ≤ (k : Int)) = true := decide_eq_true (by omega)
        have t2 : decide (2 < (k : Int)) = true := decide_eq_true (by omega)
        have HKB := Lib.hid (And.intro hk2 hlt)
        have HL4 := Lib.hid (show ([48, (k : Int) - 2] ++ List.replicate ((k : Int) - 2).toNat (0 : Int)).length = k by simp; omega)
        have HK5 := Lib.hid (show 5 ≤ k by omega)
        have HK6 := Lib.hid h6
        clear hlt hk2 hk60 h6
        go_upto_region 5 with ((with_reducible refine gate_builtin (b := .append) (xs := #[.tmp 20, .tmp 22]) rfl ?_); at_builtin; go_must (refine Kd.R_append_zeros (Kd.int .u8) (w0 := wr) wr.heap.size rfl (.tmp 20) (.tmp 22) 25 3 5 (.int .u8 0) 1 rfl Tryd.underlying25 Tryd.underlying3 qinfo5 rfl (by decide) (by decide) (.slice (some ⟨wr.heap.size, 0, none⟩) 2 2) [48, (k : Int) - 2] 0 ((k : Int) - 2) (fun _ => True) rfl rfl rfl (fun _ _ => trivial) (R_row wr [48, (k : Int) - 2] _ rfl (by simp)) (by have := HKB.out; omega) (below_alloc (Below.refl _ _) _) (below_alloc (Below.refl wr.heap.size wr) _).size (by have := HKB.out; simp only [List.length_cons, List.length_nil]; omega) ?_); intro v4 w4 ho4 hb4 hg4 hat4; have HO4 := Lib.hid ho4; have HB4 := Lib.hid hb4; clear ho4 hb4 hg4 hat4)
        obtain ⟨g1, cap1, cur1, hv4, hg1, hcap, hrow1, hcells⟩ := R_cells HO4.out (by simp)
        rw [HL4.out] at hv4 hcap hcells
        subst hv4
        have HR1 := Lib.hid hrow1
        have HC1 := Lib.hid hcells
        have HBB4 := Lib.hid (HB.out.then_ HB4.out)
        have HG1 := Lib.hid hg1
        have HCAP := Lib.hid hcap
        clear hrow1 hcells hg1 hcap
        have m3 : w4.cell? ⟨g1, 3, none⟩ = some (.int .u8 _) := (cell_of_row _ _ 3 _ _ _ HR1.out).trans (HC1.out 3 (by have := HKB.out; have := HK5.out; omega))
        have m4 : w4.cell? ⟨g1, 4, none⟩ = some (.int .u8 _) := (cell_of_row _ _ 4 _ _ _ HR1.out).trans (HC1.out 4 (by have := HKB.out; have := HK5.out; omega))
        have mf3 := frozen_of_row w4 g1 3 _ _ HR1.out
        have mf4 := frozen_of_row w4 g1 4 _ _ HR1.out
        have q3 : (3 < k) = True := eq_true (by have := HK5.out; omega)
        have q3i : ((3 : Int) < (k : Int)) = True := eq_true (by have := HK5.out; omega)
        have q4 : (4 < k) = True := eq_true (by have := HK5.out; omega)
        have q4i : ((4 : Int) < (k : Int)) = True := eq_true (by have := HK5.out; omega)
        go_upto_region 8 with fail
        have HBS := Lib.hid ((HB4.out.setCell (p := ⟨g1, 3, none⟩) HG1.out (.int .u8 1)).setCell (p := ⟨g1, 4, none⟩) HG1.out (.int .u8 97))
        have HRS1 := Lib.hid (heap_setCell_same _ g1 4 _ _ (.int .u8 97) (heap_setCell_same w4 g1 3 _ _ (.int .u8 1) HR1.out))
        have HCS1 := Lib.hid (show ∀ j, j < 2 → ((cur1.setIfInBounds 3 (.int .u8 1)).setIfInBounds 4 (.int .u8 97))[j]? = cur1[j]? from fun j hj => by
          rw [Array.getElem?_setIfInBounds_ne (by omega), Array.getElem?_setIfInBounds_ne (by omega)])
        have HBBS := Lib.hid (HB.out.then_ HBS.out)
        clear m3 m4 mf3 mf4 q3 q3i q4 q4i
        generalize (w4.setCell ⟨g1, 3, none⟩ (.int .u8 1)).setCell ⟨g1, 4, none⟩ (.int .u8 97) = w4b at *
        go_upto_region 10 with ((with_reducible refine gate_builtin (b := .append) (xs := #[.tmp 35, .tmp 37]) rfl ?_); at_builtin; go_must (refine Kd.R_append_zeros (Kd.int .u8) (w0 := w4b) w4b.heap.size rfl (.tmp 35) (.tmp 37) 25 3 5 (.int .u8 0) 1 rfl Tryd.underlying25 Tryd.underlying3 qinfo5 rfl (by decide) (by decide) (.slice (some ⟨w4b.heap.size, 0, none⟩) 6 6) [48, (k : Int) - 2, 0, 1, 97, 0] 0 ((k : Int) - 6) (fun _ => True) rfl rfl rfl (fun _ _ => trivial) (R_row w4b [48, (k : Int) - 2, 0, 1, 97, 0] _ rfl (by simp)) (by have := HK6.out; omega) (below_alloc (Below.refl _ _) _) (below_alloc (Below.refl w4b.heap.size w4b) _).size (by have := HKB.out; simp only [List.length_cons, List.length_nil]; omega) ?_); intro v4c w4c ho4c hb4c hg4c hat4c; have HO4c := Lib.hid ho4c; have HB4c := Lib.hid hb4c; clear ho4c hb4c hg4c hat4c)
        obtain ⟨kk, hkk⟩ : ∃ kk, k = kk + 6 := ⟨k - 6, by have := HK6.out; omega⟩
        have hpub : [48, (k : Int) - 2, 0, 1, 97, 0] ++ List.replicate ((k : Int) - 6).toNat (0 : Int) = pubB kk := by
          unfold pubB
          rw [show (k : Int) - 2 = ((kk + 4 : Nat) : Int) by omega, show ((k : Int) - 6).toNat = kk by omega]
        have hoc := HO4c.out
        rw [hpub] at hoc
        have hpl : (pubB kk).length = k := by rw [(pub_all ⟨kk, by have := HKB.out; omega⟩).2.2.1]; dsimp only; omega
        have HKK := Lib.hid hkk
        have HPL := Lib.hid hpl
        obtain ⟨g2, cap2, cur2, hv2, hg2, hcap2, hrow2, hcells2⟩ := R_cells hoc (by omega)
        rw [hpl] at hv2 hcap2
        subst hv2
        have HCB := Lib.hid (Kd.R_reads' hoc).2.2
        have HR2 := Lib.hid hrow2
        have HC2 := Lib.hid hcells2
        have HBB4 := Lib.hid (HBBS.out.then_ HB4c.out)
        have HG2 := Lib.hid (show W0.heap.size ≤ g2 by have := HBBS.out.size; omega)
        have HCAP2 := Lib.hid hcap2
        clear hoc hpub hrow2 hcells2 hg2 hcap2 hkk hpl
        go_wp2_with fail
        refine (New_row (k : Int) (k : Int) _ (by have := HKB.out; omega) (by have := HKB.out; omega)).mono ?_
        rintro e w5 ⟨rfl, hrs, hb5⟩
        obtain ⟨gs, hgs⟩ : ∃ gs, w4c.heap.size = gs := ⟨_, rfl⟩
        have HGS := Lib.hid (show W0.heap.size ≤ gs by have := HBB4.out.size; omega)
        rw [hgs] at hrs
        rw [hgs]
        have HBB5 := Lib.hid (HBB4.out.then_ hb5)
        have HB45 := Lib.hid hb5
        have HGW := Lib.hid (Nat.le_of_eq hgs)
        clear hb5
        go_wp2_with fail
        refine (New_row ((k : Int) - 1) ((k : Int) - 1) _ (by have := HK5.out; omega) (by have := HKB.out; omega)).mono ?_
        rintro e w6 ⟨rfl, hrt, hb6⟩
        obtain ⟨gt, hgt⟩ : ∃ gt, w5.heap.size = gt := ⟨_, rfl⟩
        have HST := Lib.hid (show gs < gt by have := (Array.getElem?_eq_some_iff.1 hrs).1; omega)
        rw [hgt] at hrt
        rw [hgt]
        have HRS := Lib.hid ((hb6.block gs (Array.getElem?_eq_some_iff.1 hrs).1).trans hrs)
        have HRT := Lib.hid hrt
        have HBB6 := Lib.hid (HBB5.out.then_ hb6)
        have HB46 := Lib.hid (HB45.out.then_ hb6)
        clear hrs hrt hb6 hgs hgt
        go_wp2_with fail
        have hpp := pub_all ⟨kk, by have := HKB.out; have := HKK.out; omega⟩
        dsimp only at hpp
        have HPP := Lib.hid hpp
        clear hpp
        have hcb6 := Kd.C_below HCB.out HB46.out
        have hg2s : g2 < gs := by have := (Array.getElem?_eq_some_iff.1 HR2.out).1; have := HGW.out; omega
        have HG2S := Lib.hid hg2s
        have F := feed_one W0 w6 HBB6.out gs HGS.out (k : Int) none (some ⟨g2, 0, none⟩) 0 cap2 [] (pubB kk) (SP_fresh HRS.out) hcb6 (by have := HPL.out; have := HKB.out; simp only [List.length_nil]; omega) HPP.out.2.2.2.2.2 (((kk + 6 : Nat) : Int)) HPP.out.1 (by have := HKK.out; omega) (by show (((kk + 6 : Nat) : Int)) = (((pubB kk).length : Nat) : Int); rw [HPP.out.2.2.1]) (bodyPub pk48 (pubS kk)).1 (fun W A' c' hW hC hc => dec_pub A' c' kk (by have := HKB.out; have := HKK.out; omega) W hC hc (Dv.GTab.below HT0.out hW))
        rw [HPL.out] at F
        clear hcb6
        refine F.mono ?_
        clear F
        rintro e wa ⟨vx, Aa, ca, rfl, hRa, hspa, hga⟩
        have HBBA := Lib.hid (HBB6.out.grown hga HBB6.out.size (fun k hk => by injection hk with hk; rw [← hk]; exact HGS.out))
        have HRTA := Lib.hid ((hga.block gt (Array.getElem?_eq_some_iff.1 HRT.out).1 (fun e => by injection e with e; have := HST.out; omega)).trans HRT.out)
        have HR2A := Lib.hid ((hga.block g2 (Array.getElem?_eq_some_iff.1 ((HB46.out.block g2 (Array.getElem?_eq_some_iff.1 HR2.out).1).trans HR2.out)).1 (fun e => by injection e with e; have := HG2S.out; omega)).trans ((HB46.out.block g2 (Array.getElem?_eq_some_iff.1 HR2.out).1).trans HR2.out))
        obtain ⟨inner, hown⟩ := Kd.R_own hRa
        rcases hown.2 with ⟨_, h0⟩ | ⟨gl, capl, curl, hv3, _, hgl, _⟩
        · exact absurd h0 (by simp)
        subst hv3
        have hCa := (Kd.R_reads' hRa).2.2
        obtain ⟨ad, cs, ead, hlen, hK, hcell⟩ := Kd.C_get hCa pkZ 0 (by decide) (by simp)
        cases ead
        have hpay := kPk_payload hK
        have hp6 := hcell 6 _ hpay
        rw [add_plain] at hp6
        have hp6' : wa.cell? ⟨gl, 6, none⟩ = some (.string (bodyPub pk48 (pubS kk)).1.payload) := by simpa using hp6
        obtain ⟨P, hP⟩ : ∃ P, (bodyPub pk48 (pubS kk)).1.payload = P := ⟨_, rfl⟩
        rw [hP] at hp6'
        have hPs : (P.size : Int) = (k : Int) - 6 := by rw [← hP, HPP.out.2.2.2.2.1]; have := HKK.out; omega
        have HPC := Lib.hid hp6'
        have e1 : ((P.size : Int) == (k : Int) - 6) = true := beq_iff_eq.2 hPs
        have e2 : ((P.size : Int) != (k : Int) - 6) = false := by rw [bne, e1]; rfl
        have e3 : decide ((P.size : Int) = (k : Int) - 6) = true := decide_eq_true hPs
        clear hRa hspa hga hown hCa hlen hK hcell hpay hp6 hp6' hPs hgl hg2s
        have Ga := Dv.GErr.below HG0.out HBBA.out
        have N1 := Lib.hid (law5_num .nilIface 0 wa Ga (.inl ⟨rfl, rfl⟩))
        clear Ga
        go_wp2_with fail
        refine N1.out.mono ?_
        rintro e wb ⟨rfl, hbb⟩
        have HBBB := Lib.hid (HBBA.out.then_ hbb)
        have HRTB := Lib.hid ((hbb.block gt (Array.getElem?_eq_some_iff.1 HRTA.out).1).trans HRTA.out)
        have HR2B := Lib.hid ((hbb.block g2 (Array.getElem?_eq_some_iff.1 HR2A.out).1).trans HR2A.out)
        have hp6 := (hbb.cell (World.block_lt_of_cell? _ _ HPC.out)).trans HPC.out
        clear hbb N1
        have q2 : (2 ≤ cap2) = True := eq_true (by have := HCAP2.out; have := HKB.out; omega)
        have q2i : ((2 : Int) ≤ (cap2 : Int)) = True := eq_true (by have := HCAP2.out; have := HKB.out; omega)
        go_wp2_with fail
        refine (feed_bad wb gt ((k : Int) - 1) none (some ⟨g2, 0, none⟩) 0 cap2 [] [48, (k : Int) - 2] (SP_fresh HRTB.out) (C_two HR2B.out 48 ((k : Int) - 2) ((HC2.out 0 (by have := HPL.out; have := HKB.out; omega)).trans (by unfold pubB; rfl)) ((HC2.out 1 (by have := HPL.out; have := HKB.out; omega)).trans (by have := HKK.out; rw [show (k : Int) - 2 = ((kk + 4 : Nat) : Int) by omega]; unfold pubB; rfl))) (by simp) (fun x hx => by have := HKB.out; simp at hx; unfold byteOk; omega) 2 (by
          have hs := size_two ⟨k, HKB.out.2⟩ HKB.out.1
          dsimp only at hs
          show (2 : Int) = if (pkSize [48, (k : Int) - 2]).2 = 0 ∧ (k : Int) - 1 < (pkSize [48, (k : Int) - 2]).1 then 2 else (pkSize [48, (k : Int) - 2]).2
          rw [hs, if_pos ⟨rfl, by dsimp only; omega⟩]) (by decide) (by decide)).mono ?_
        rintro _ w7 ⟨u, rfl, hu, hsp7, hg7⟩
        obtain ⟨tu, yu, rfl⟩ := Err_iface hu (by decide)
        have HU := Lib.hid hu
        have HSP7 := Lib.hid hsp7
        have HBB7 := Lib.hid (HBBB.out.grown hg7 HBBB.out.size (fun k hk => by injection hk with hk; rw [← hk]; have := HST.out; have := HGS.out; omega))
        clear hu hsp7 hg7
        go_wp2_with fail
        have HA7 := Lib.hid (below_alloc (Below.refl w7.heap.size w7) (.cells #[.int .u8 192, .int .u8 0] 5))
        refine (feed_err _ gt ((k : Int) - 1) none (some ⟨w7.heap.size, 0, none⟩) 0 2 2 [] tu yu (HSP7.out.after HA7.out)).mono ?_
        rintro e w8 ⟨rfl, hb8⟩
        have HB78 := Lib.hid (HA7.out.then_ hb8)
        have HBB8 := Lib.hid (HBB7.out.then_ HB78.out)
        clear hb8
        go_wp2_with fail
        refine (law5_num (.iface tu yu) 2 w8 (Dv.GErr.below HG0.out HBB8.out) (Err_kept HU.out (Kept.of_below HB78.out (fun _ => False)) (fun _ hk => hk.elim))).mono ?_
        rintro e w9 ⟨rfl, hb9⟩
        have HB79 := Lib.hid (HB78.out.then_ hb9)
        have HBB9 := Lib.hid (HBB8.out.then_ hb9)
        clear hb9
        go_wp2_with fail
        refine (law5_num (.iface tu yu) 2 w9 (Dv.GErr.below HG0.out HBB9.out) (Err_kept HU.out (Kept.of_below HB79.out (fun _ => False)) (fun _ hk => hk.elim))).mono ?_
        rintro e w10 ⟨rfl, hb10⟩
        have HB710 := Lib.hid (HB79.out.then_ hb10)
        have HBEND := Lib.hid (HBB9.out.then_ hb10)
        clear hb10
        go_wp2_with fail
        refine (stream_Held w10 gt ((k : Int) - 1) none 0 [] (.iface tu yu) (HSP7.out.after HB710.out)).mono ?_
        rintro e w11 ⟨rfl, rfl⟩
        go_wp2
        go_roundw
        case rel => exact ⟨k + 1, by have := HKB.out; omega, by have := HKB.out; omega, by simp, HBEND.out⟩
        case measure => simp [intOf]; have := HKB.out; omega
    · skip
      have d1 : decide ((k : Int) < 60) = false := decide_eq_false (by omega)
      have hc0 : wr.cell? ⟨q, 1, none⟩ = some (.slice A n c) := (HB.out.cell (p := ⟨q, 1, none⟩) (Array.getElem?_eq_some_iff.1 HP0.out).1).trans ((cell_of_row _ _ 1 _ _ _ HP0.out).trans rfl)
      have dn : decide (0 ≤ (n : Int)) = true := decide_eq_true (by omega)
      have Wk := Lib.hid (law5_wakes wr (Dv.GErr.below HG0.out HB.out))
      clear hlt hk2 hk60
      go_wp2_with fail
      refine Wk.out.mono ?_
      rintro e w5 ⟨rfl, hb5⟩
      have HB5 := Lib.hid hb5
      clear hb5 Wk
      go_wp2
      go_ret
      have hw0 := HW0.out
      rw [← hq] at hw0
      exact ⟨rfl, by (try rw [← hq]); exact hw0.then_ (HB.out.then_ HB5.out)⟩
end Go.Proofs.YtdnmliidmnfijaaDoor.Q

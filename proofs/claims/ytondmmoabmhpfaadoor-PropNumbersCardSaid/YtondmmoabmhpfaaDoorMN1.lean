import Derived.Test.YtondmmoabmhpfaaDoorMB1
import Derived.Test.YtondmmoabmhpfaaDoorMG13
import Derived.Outline
import Derived.Deep.DeepMust
import Derived.RegionTactic
import Derived.BigRegion
import Derived.ChangeAlike
set_option linter.unusedVariables false
set_option linter.unusedSimpArgs false
namespace Go.Proofs.YtondmmoabmhpfaaDoor.Q
open Go.RowKit Go.Proofs.YtondmmoabmhpfaaDoorW.PrintWords Go.Proofs.YtondmmoabmhpfaaDoorW.PrintLast Go.Proofs.YtondmmoabmhpfaaDoorW.PrintMore
theorem num_nil (w : World) : Calls Tryd.prog 8 #[.nilIface] w fun e w' => e = .returned (.int .i64 0) ∧ w' = w := by
  have C : Calls Tryd.prog 21 #[.nilIface] w fun e w' => e = .returned (.int .i64 0) ∧ w = w' := by
    go_enter Tryd.func21, Tryd.ntmps21
    go_wp2
    go_ret
    exact ⟨rfl, rfl⟩
  go_enter Tryd.func8, Tryd.ntmps8
  go_wp2_with (go_at_call 21; refine C.mono ?_; rintro e w1 ⟨rfl, rfl⟩)
  go_ret
  exact ⟨rfl, rfl⟩
theorem chk3_one (p : S24) (pl : Int) : chk3 [p] pl = if mayP p = true ∧ stands p.f0 pl = true then 0 else 1 := by
  have e : (∃ i, i < [p].length ∧ badAt [p] pl i = true) ↔ ¬ (mayP p = true ∧ stands p.f0 pl = true) := by
    constructor
    · rintro ⟨i, hi, hb⟩ ⟨h1, h2⟩
      obtain rfl : i = 0 := by simp at hi; exact hi
      unfold badAt at hb
      simp [h1, h2, ids] at hb
    · intro h
      refine ⟨0, by simp, ?_⟩
      unfold badAt
      simp [ids]
      cases h1 : mayP p <;> cases h2 : stands p.f0 pl <;> simp_all
  unfold chk3
  by_cases h : mayP p = true ∧ stands p.f0 pl = true
  · rw [if_neg (fun hx => (e.1 hx) h), if_neg (by simp), if_pos h]
  · rw [if_pos (e.2 h), if_neg h]
theorem may_two (x : Int) : may 33 x ⟨#[]⟩ ⟨#[]⟩ = decide (1 ≤ x ∧ x ≤ 65535) := by
  unfold may
  have h1 : kindOf 33 = 2 := by decide
  have h2 : lowOf 33 = 1 := by decide
  rw [h1, h2]
  have h3 : maxOf 2 = 65535 := rfl
  rw [h3]
  by_cases a : 1 ≤ x <;> by_cases b : x ≤ 65535 <;> simp [a, b, ByteArray.size]
theorem may_four (x : Int) : may 39 x ⟨#[]⟩ ⟨#[]⟩ = decide (1 ≤ x ∧ x ≤ 4294967295) := by
  unfold may
  have h1 : kindOf 39 = 4 := by decide
  have h2 : lowOf 39 = 1 := by decide
  rw [h1, h2]
  have h3 : maxOf 4 = 4294967295 := rfl
  rw [h3]
  by_cases a : 1 ≤ x <;> by_cases b : x ≤ 4294967295 <;> simp [a, b, ByteArray.size]
theorem num_bytes2 (x : Int) : bytes3 [⟨33, x, ⟨#[]⟩, ⟨#[]⟩⟩] = [3, 33, x / 256, x % 256] := by
  have h1 : kindOf 33 = 2 := by decide
  unfold bytes3 body3
  simp [putQ, putP, tailP, h1, Dv.varPut]
theorem num_bytes4 (x : Int) : bytes3 [⟨39, x, ⟨#[]⟩, ⟨#[]⟩⟩] = [5, 39, x / 16777216, x / 65536 % 256, x / 256 % 256, x % 256] := by
  have h1 : kindOf 39 = 4 := by decide
  unfold bytes3 body3
  simp [putQ, putP, tailP, h1, Dv.varPut]
theorem one_sz (p : S24) (h1 : p.f2.size ≤ 140737488351232) (h2 : p.f3.size ≤ 140737488351232) : ∀ q ∈ [p], q.f2.size ≤ 140737488351232 ∧ q.f3.size ≤ 140737488351232 := by
  intro q hq
  obtain rfl := List.mem_singleton.1 hq
  exact ⟨h1, h2⟩
theorem num_bound2 (y : Int) : 1 ≤ wrap64 (1 + wrap64 ((IntKind.u64.wrap y).tmod 65535)) ∧ wrap64 (1 + wrap64 ((IntKind.u64.wrap y).tmod 65535)) ≤ 65535 := by
  have h : IntKind.u64.wrap y = y % 18446744073709551616 := by simp [IntKind.wrap, IntKind.bits, IntKind.signed]
  rw [h, Int.tmod_eq_emod_of_nonneg (by omega)]
  unfold wrap64
  omega
theorem num_bound4 (y : Int) : 1 ≤ wrap64 (1 + wrap64 ((IntKind.u64.wrap y).tmod 4294967295)) ∧ wrap64 (1 + wrap64 ((IntKind.u64.wrap y).tmod 4294967295)) ≤ 4294967295 := by
  have h : IntKind.u64.wrap y = y % 18446744073709551616 := by simp [IntKind.wrap, IntKind.bits, IntKind.signed]
  rw [h, Int.tmod_eq_emod_of_nonneg (by omega)]
  unfold wrap64
  omega
structure Tw (w W : World) : Prop where
  below : Below w.heap.size w W
  two : W.heap[w.heap.size]? = some (.cells #[.int .i64 33, .int .i64 0, .string ⟨#[]⟩, .string ⟨#[]⟩, .int .i64 39, .int .i64 0, .string ⟨#[]⟩, .string ⟨#[]⟩] 24 (0, 0))
  size : W.heap[w.heap.size + 1]? = some (.cells #[.int .i64 2, .int .i64 4] 3 (0, 0))
theorem Tw.after {w W W1 : World} (h : Tw w W) (hb : Below W.heap.size W W1) : Tw w W1 := ⟨h.below.then_ hb, (hb.block _ (Array.getElem?_eq_some_iff.1 h.two).1).trans h.two, (hb.block _ (Array.getElem?_eq_some_iff.1 h.size).1).trans h.size⟩
theorem Tw.lt {w W : World} (h : Tw w W) : w.heap.size + 1 < W.heap.size := (Array.getElem?_eq_some_iff.1 h.size).1
theorem Tw.set {w W : World} (h : Tw w W) {b : Nat} (hb : w.heap.size + 1 < b) (i : Nat) (u : Value) : Tw w (W.setCell ⟨b, i, none⟩ u) :=
  ⟨h.below.setCell (by show w.heap.size ≤ b; omega) _, (Below.heap_setCell W ⟨b, i, none⟩ u _ (show w.heap.size ≠ b by omega)).trans h.two, (Below.heap_setCell W ⟨b, i, none⟩ u _ (show w.heap.size + 1 ≠ b by omega)).trans h.size⟩
set_option maxRecDepth 100000 in
set_option maxHeartbeats 8000000 in
theorem PropNumbers_walk (A : Option Addr) (c : Nat) (l : List Ask) (w : World) (hr : Kd.C kAsk w A l.length l) (hG : Dv.GErr w) (hT : Dv.GTab w) :
    Calls Tryd.prog 4 #[.slice A l.length c] w fun e w' => e = .returned (.bool true) ∧ Below w.heap.size w w' := by
  have hm63 := hr.2.1
  have HR := Lib.hid hr
  have HT := Lib.hid hT
  have HG := Lib.hid hG
  clear hr hT hG
  go_enter Tryd.func4, Tryd.ntmps4
  go_wp2_with fail
  have hW0 : Tw w ((w.alloc (.cells #[.int .i64 33, .int .i64 0, .string ⟨#[]⟩, .string ⟨#[]⟩, .int .i64 39, .int .i64 0, .string ⟨#[]⟩, .string ⟨#[]⟩] 24)).alloc (.cells #[.int .i64 2, .int .i64 4] 3)) := by
    refine ⟨below_alloc (below_alloc (Below.refl _ _) _) _, ?_, ?_⟩
    · rw [Below.heap_alloc _ _ _ (by simp)]; exact heap_alloc_new _ _
    · have := heap_alloc_new (w.alloc (.cells #[.int .i64 33, .int .i64 0, .string ⟨#[]⟩, .string ⟨#[]⟩, .int .i64 39, .int .i64 0, .string ⟨#[]⟩, .string ⟨#[]⟩] 24)) (.cells #[.int .i64 2, .int .i64 4] 3)
      rwa [show (w.alloc (.cells #[.int .i64 33, .int .i64 0, .string ⟨#[]⟩, .string ⟨#[]⟩, .int .i64 39, .int .i64 0, .string ⟨#[]⟩, .string ⟨#[]⟩] 24)).heap.size = w.heap.size + 1 from Array.size_push ..] at this
  go_loopw [5] (fun i wr => ∃ k : Nat, k ≤ l.length ∧ i = .int .i64 k ∧ Tw w wr) (fun i _ => l.length - (intOf i).toNat)
  case atStart => exact ⟨0, Nat.zero_le _, rfl, hW0⟩
  case round =>
    clear hW0
    obtain ⟨k, hk, rfl, hW⟩ := hrel
    have HW := Lib.hid hW
    clear hW
    by_cases hlt : k < l.length
    · have d1 : decide (k < l.length) = true := decide_eq_true hlt
      by_cases h12 : k < 12
      · have d2 : decide ((k : Int) < 12) = true := decide_eq_true (by omega)
        have HLT := Lib.hid hlt
        clear hlt
        go_wp2_with fail
        go_loopw [6] (fun i wr => ∃ q : Int, (q = 0 ∨ q = 1 ∨ q = 2) ∧ i = .int .i64 q ∧ Tw w wr) (fun i _ => 2 - (intOf i).toNat)
        case atStart => exact ⟨0, .inl rfl, rfl, HW.out⟩
        case round =>
          obtain ⟨q, hq, rfl, hW⟩ := hrel
          clear HW
          have HW := Lib.hid hW
          clear hW
          rcases hq with rfl | rfl | rfl
          rotate_left 2
          · go_wp2_with fail
            go_roundw
            case rel => exact ⟨k + 1, by have := HLT.out; omega, by simp, HW.out⟩
            case measure => have := HLT.out; simp [intOf]; omega
          all_goals
            obtain ⟨ad, A0, c0, A2, c2, ea, x0, x1, x2, g0, g1, g2, g3⟩ := at_Ask HR.out k HLT.out
            cases ea
            have hp63 := g3.2.1
            generalize l.getD k zAsk = p at *
            clear x0 g0 g1 g2 g3
            have i0 : (0 : Int) ≤ (k : Int) := by omega
            have i1 : (k : Int) < (l.length : Int) := by have := HLT.out; omega
            have i2 : (k < l.length) = True := eq_true HLT.out
          rotate_left
          · have hne : w.heap.size + 1 < wr.heap.size := HW.out.lt
            have z0 : (wr.alloc (.cells #[.int .i64 39, .int .i64 0, .string ⟨#[]⟩, .string ⟨#[]⟩] 24)).cell? ⟨w.heap.size + 1, 1, none⟩ = some (.int .i64 4) := by rw [World.cell?_alloc_lt _ _ _ hne]; exact (cell_of_row _ _ 1 _ _ _ HW.out.size).trans rfl
            have u0 : wr.cell? ⟨w.heap.size, 4, none⟩ = some (.int .i64 39) := (cell_of_row _ _ 4 _ _ _ HW.out.two).trans rfl
            have u1 : wr.cell? ⟨w.heap.size, 5, none⟩ = some (.int .i64 0) := (cell_of_row _ _ 5 _ _ _ HW.out.two).trans rfl
            have u2 : wr.cell? ⟨w.heap.size, 6, none⟩ = some (.string ⟨#[]⟩) := (cell_of_row _ _ 6 _ _ _ HW.out.two).trans rfl
            have u3 : wr.cell? ⟨w.heap.size, 7, none⟩ = some (.string ⟨#[]⟩) := (cell_of_row _ _ 7 _ _ _ HW.out.two).trans rfl
            replace x1 := (HW.out.below.cell (World.block_lt_of_cell? _ _ x1)).trans x1
            replace x2 := (HW.out.below.cell (World.block_lt_of_cell? _ _ x2)).trans x2
            go_wp2_with fail
            have X1 := (World.cell?_alloc_lt wr (.cells #[.int .i64 39, .int .i64 0, .string ⟨#[]⟩, .string ⟨#[]⟩] 24) _ (World.block_lt_of_cell? _ _ x1)).trans x1
            have X2 := (World.cell?_alloc_lt wr (.cells #[.int .i64 39, .int .i64 0, .string ⟨#[]⟩, .string ⟨#[]⟩] 24) _ (World.block_lt_of_cell? _ _ x2)).trans x2
            have hW1 := HW.out.after (below_alloc (Below.refl _ _) (.cells #[.int .i64 39, .int .i64 0, .string ⟨#[]⟩, .string ⟨#[]⟩] 24))
            have hRow : Row (wr.alloc (.cells #[.int .i64 39, .int .i64 0, .string ⟨#[]⟩, .string ⟨#[]⟩] 24)) wr.heap.size 39 0 ⟨#[]⟩ ⟨#[]⟩ := heap_alloc_new _ _
            have HBB := Lib.hid hne
            clear x1 x2 HW u0 u1 u2 u3 z0 hne
            generalize wr.alloc (.cells #[.int .i64 39, .int .i64 0, .string ⟨#[]⟩, .string ⟨#[]⟩] 24) = W1 at *
            generalize wr.heap.size = b at *
            as_aux_lemma =>
             obtain ⟨⟨y0, y1, y2, y3⟩, f0, f1, f2, f3⟩ := hRow.facts
             have HW := Lib.hid hW1
             have HRow := Lib.hid hRow
             clear hW1 hRow
             have hxb : 1 ≤ wrap64 (1 + wrap64 ((IntKind.u64.wrap (wrap64 (wrap64 (↑p.B.length * 7919) + p.P))).tmod 4294967295)) ∧ wrap64 (1 + wrap64 ((IntKind.u64.wrap (wrap64 (wrap64 (↑p.B.length * 7919) + p.P))).tmod 4294967295)) ≤ 4294967295 := num_bound4 _
             go_region
             generalize wrap64 (1 + wrap64 ((IntKind.u64.wrap (wrap64 (wrap64 (↑p.B.length * 7919) + p.P))).tmod 4294967295)) = x at *
             obtain ⟨hx1, hx2⟩ := hxb
             have hRow2 : Row (W1.setCell ⟨b, 1, none⟩ (.int .i64 x)).drew b 39 x ⟨#[]⟩ ⟨#[]⟩ := HRow.out.set1 x
             have hW2 : Tw w (W1.setCell ⟨b, 1, none⟩ (.int .i64 x)).drew := (HW.out.set HBB.out 1 _).after (Drawn0.below ⟨⟨1, rfl⟩⟩)
             clear HRow HW y0 y1 y2 y3 f0 f1 f2 f3 X1 X2
             generalize (W1.setCell ⟨b, 1, none⟩ (.int .i64 x)).drew = W2 at *
             obtain ⟨⟨y0, y1, y2, y3⟩, f0, f1, f2, f3⟩ := hRow2.facts
             have HW := Lib.hid hW2
             have HRow := Lib.hid hRow2
             clear hW2 hRow2
             as_aux_lemma =>
              have hck : chk3 [⟨39, x, ⟨#[]⟩, ⟨#[]⟩⟩] 1 = 0 := by
                rw [chk3_one, if_pos ⟨by show may 39 x _ _ = true; rw [may_four]; exact decide_eq_true ⟨hx1, hx2⟩, by show stands 39 1 = true; decide⟩]
              have HCK := Lib.hid hck
              clear hck
              go_wp2_with fail
              refine (propPut_ok (some ⟨W2.heap.size, 0, none⟩) 1 [⟨39, x, ⟨#[]⟩, ⟨#[]⟩⟩] 1 _ (C_prop1 _ (heap_alloc_new _ _)) (one_sz _ (by show (0 : Nat) ≤ _; decide) (by show (0 : Nat) ≤ _; decide)) (Dv.GTab.below HT.out (below_alloc HW.out.below _)) HCK.out).mono ?_
              rw [num_bytes4]
              rintro e w3 ⟨v, rfl, hob, hb3⟩
              obtain ⟨Ab, cb, hvb⟩ := Kd.R_slice hob
              subst hvb
              obtain ⟨_, hcb, hrb⟩ := Kd.R_reads' hob
              obtain ⟨a0, e0, v0⟩ := Kd.at_int hrb 0 (by decide) (by simp)
              cases e0
              rw [show (0 : Int).toNat = 0 from rfl, Addr.add_zero'] at v0
              have v0' : w3.cell? a0 = some (.int .u8 5) := v0
              clear v0
              obtain ⟨a1, e1, v1⟩ := Kd.at_int hrb 1 (by decide) (by simp)
              cases e1
              rw [show (1 : Int).toNat = 1 from rfl] at v1
              have v1' : w3.cell? { block := a0.block, off := a0.off + 1 } = some (.int .u8 (39)) := by simpa [Addr.add, rd] using v1
              clear v1
              obtain ⟨a2, e2, v2⟩ := Kd.at_int hrb 2 (by decide) (by simp)
              cases e2
              rw [show (2 : Int).toNat = 2 from rfl] at v2
              have v2' : w3.cell? { block := a0.block, off := a0.off + 2 } = some (.int .u8 (x / 16777216)) := by simpa [Addr.add, rd] using v2
              clear v2
              obtain ⟨a3, e3, v3⟩ := Kd.at_int hrb 3 (by decide) (by simp)
              cases e3
              rw [show (3 : Int).toNat = 3 from rfl] at v3
              have v3' : w3.cell? { block := a0.block, off := a0.off + 3 } = some (.int .u8 (x / 65536 % 256)) := by simpa [Addr.add, rd] using v3
              clear v3
              obtain ⟨a4, e4, v4⟩ := Kd.at_int hrb 4 (by decide) (by simp)
              cases e4
              rw [show (4 : Int).toNat = 4 from rfl] at v4
              have v4' : w3.cell? { block := a0.block, off := a0.off + 4 } = some (.int .u8 (x / 256 % 256)) := by simpa [Addr.add, rd] using v4
              clear v4
              obtain ⟨a5, e5, v5⟩ := Kd.at_int hrb 5 (by decide) (by simp)
              cases e5
              rw [show (5 : Int).toNat = 5 from rfl] at v5
              have v5' : w3.cell? { block := a0.block, off := a0.off + 5 } = some (.int .u8 (x % 256)) := by simpa [Addr.add, rd] using v5
              clear v5
              have hb3' := (below_alloc (Below.refl W2.heap.size W2) (.cells #[.int .i64 39, .int .i64 x, .string ⟨#[]⟩, .string ⟨#[]⟩] 24)).then_ hb3
              have hW3 := HW.out.after hb3'
              have hRow3 := HRow.out.below hb3'
              clear HW HRow HCK y0 y1 y2 y3 f0 f1 f2 f3 hb3 hb3' hob
              obtain ⟨⟨y0, y1, y2, y3⟩, f0, f1, f2, f3⟩ := hRow3.facts
              have z0 : w3.cell? ⟨w.heap.size + 1, 1, none⟩ = some (.int .i64 4) := (cell_of_row _ _ 1 _ _ _ hW3.size).trans rfl
              have HW := Lib.hid hW3
              have HRow := Lib.hid hRow3
              have HRB := Lib.hid hrb
              clear hW3 hRow3 hrb
              go_wp2_with fail
              as_aux_lemma =>
               have k1 : IntKind.i64.wrap 6 = 6 := by decide
               have k2 : IntKind.i64.wrap 5 = 5 := by decide
               have k3 : IntKind.i64.wrap 39 = 39 := by decide
               go_quiet ((go_at_call 8; exact Calls.quiet_of_same (num_nil _)))
               clear k1 k2 k3
               go_wp2_with fail
               as_aux_lemma =>
                obtain ⟨c2, hc2⟩ : ∃ c2, x / 16777216 = c2 := ⟨_, rfl⟩
                obtain ⟨c3, hc3⟩ : ∃ c3, x / 65536 % 256 = c3 := ⟨_, rfl⟩
                obtain ⟨c4, hc4⟩ : ∃ c4, x / 256 % 256 = c4 := ⟨_, rfl⟩
                obtain ⟨c5, hc5⟩ : ∃ c5, x % 256 = c5 := ⟨_, rfl⟩
                rw [hc2] at v2'
                rw [hc3] at v3'
                rw [hc4] at v4'
                rw [hc5] at v5'
                obtain ⟨d3, hd3⟩ : ∃ d3, c2 * 256 + c3 = d3 := ⟨_, rfl⟩
                obtain ⟨d4, hd4⟩ : ∃ d4, d3 * 256 + c4 = d4 := ⟨_, rfl⟩
                obtain ⟨p2, p3⟩ : 0 ≤ c2 ∧ c2 ≤ 255 := by omega
                obtain ⟨p4, p5⟩ : 0 ≤ c3 ∧ c3 ≤ 255 := by omega
                obtain ⟨p6, p7⟩ : 0 ≤ c4 ∧ c4 ≤ 255 := by omega
                obtain ⟨p8, p9⟩ : 0 ≤ c5 ∧ c5 ≤ 255 := by omega
                obtain ⟨r2, r3⟩ : 0 ≤ d3 ∧ d3 ≤ 65535 := by omega
                obtain ⟨r4, r5⟩ : 0 ≤ d4 ∧ d4 ≤ 16777215 := by omega
                have o1 : Go.bits .or .i64 0 c2 = c2 := or0 p2 (by omega)
                have o2 : Go.bits .or .i64 (c2 * 256) c3 = d3 := by rw [i64_or256 p2 (by omega) p4 (by omega)]; exact hd3
                have o3 : Go.bits .or .i64 (d3 * 256) c4 = d4 := by rw [i64_or256 r2 (by omega) p6 (by omega)]; exact hd4
                have o4 : Go.bits .or .i64 (d4 * 256) c5 = x := by rw [i64_or256 r4 (by omega) p8 (by omega)]; omega
                clear hc2 hc3 hc4 hc5 hd3 hd4
                refine wp_loop_rounds 5 ?_
                rw [rounds_succ]
                go_wp2_with fail
                rw [rounds_succ]
                go_wp2_with fail
                rw [rounds_succ]
                go_wp2_with fail
                rw [rounds_succ]
                go_wp2_with fail
                rw [rounds_succ]
                go_wp2_with fail
                have hWn := HW.out.after (Drawn0.below ⟨⟨nq, rfl⟩⟩ : Below w3.heap.size w3 (w3.drewN nq))
                have hRn : Row (w3.drewN nq) b 39 x ⟨#[]⟩ ⟨#[]⟩ := HRow.out.drewN nq
                have hWs := hWn.set HBB.out 1 (.int .i64 4294967296)
                have hRs := hRn.set1 4294967296
                clear HW HRow HRB hWn hRn y0 y1 y2 y3 f0 f1 f2 f3 v0' v1' v2' v3' v4' v5' o1 o2 o3 o4 z0
                have hs4 : ((w3.drewN nq).setCell ⟨b, 1, none⟩ (.int .i64 4294967296)).heap.size = w3.heap.size := Array.size_modify ..
                generalize (w3.drewN nq).setCell ⟨b, 1, none⟩ (.int .i64 4294967296) = W4 at *
                have HS4 := Lib.hid hs4
                clear hs4
                have HW := Lib.hid hWs
                have HRow := Lib.hid hRs
                clear hWs hRs
                as_aux_lemma =>
                 have hck1 : chk3 [⟨39, 4294967296, ⟨#[]⟩, ⟨#[]⟩⟩] 1 = 1 := by
                   rw [chk3_one, if_neg]
                   rintro ⟨h, _⟩
                   have h' : may 39 4294967296 ⟨#[]⟩ ⟨#[]⟩ = true := h
                   rw [may_four] at h'
                   exact absurd (of_decide_eq_true h') (by omega)
                 have C1 := Put_bad (some ⟨W4.heap.size, 0, none⟩) 1 [⟨39, 4294967296, ⟨#[]⟩, ⟨#[]⟩⟩] 1 _ (C_prop1 _ (heap_alloc_new W4 (.cells #[.int .i64 39, .int .i64 4294967296, .string ⟨#[]⟩, .string ⟨#[]⟩] 24))) (one_sz _ (by show (0 : Nat) ≤ _; decide) (by show (0 : Nat) ≤ _; decide)) (Dv.GTab.below HT.out (below_alloc HW.out.below _)) (by rw [hck1]; decide)
                 rw [hck1, HS4.out] at C1
                 clear HS4
                 have C1' : Calls Tryd.prog 12 #[.slice (some ⟨w3.heap.size, 0, none⟩) 1 1, .int .i64 1] _ _ := C1
                 clear C1
                 with_reducible refine C1'.mono ?_
                 rintro e w4 ⟨er, rfl, he1, hb4⟩
                 have hb4' := (below_alloc (Below.refl W4.heap.size W4) (.cells #[.int .i64 39, .int .i64 4294967296, .string ⟨#[]⟩, .string ⟨#[]⟩] 24)).then_ hb4
                 have hW4 := HW.out.after hb4'
                 have hR4 := HRow.out.below hb4'
                 clear HW HRow hck1 C1' hb4 hb4'
                 have hW5 := hW4.set HBB.out 1 (.int .i64 0)
                 have hR5 := hR4.set1 0
                 have he5 := Err_step hR4 (by decide) (set_grown w4 b 1 (.int .i64 0)) he1
                 obtain ⟨⟨y0, y1, y2, y3⟩, f0, f1, f2, f3⟩ := hR4.facts
                 have HW := Lib.hid hW5
                 have HRow := Lib.hid hR5
                 have HE1 := Lib.hid he5
                 clear hW4 hR4 hW5 hR5 he1 he5
                 as_aux_lemma =>
                  go_wp2_with fail
                  clear y0 y1 y2 y3 f0 f1 f2 f3
                  have hs5 : (w4.setCell ⟨b, 1, none⟩ (.int .i64 0)).heap.size = w4.heap.size := Array.size_modify ..
                  generalize w4.setCell ⟨b, 1, none⟩ (.int .i64 0) = W5 at *
                  have HS5 := Lib.hid hs5
                  clear hs5
                  have hck2 : chk3 [⟨39, 0, ⟨#[]⟩, ⟨#[]⟩⟩] 1 = 1 := by
                    rw [chk3_one, if_neg]
                    rintro ⟨h, _⟩
                    have h' : may 39 0 ⟨#[]⟩ ⟨#[]⟩ = true := h
                    rw [may_four] at h'
                    exact absurd (of_decide_eq_true h') (by omega)
                  have C2 := Put_bad (some ⟨W5.heap.size, 0, none⟩) 1 [⟨39, 0, ⟨#[]⟩, ⟨#[]⟩⟩] 1 _ (C_prop1 _ (heap_alloc_new W5 (.cells #[.int .i64 39, .int .i64 0, .string ⟨#[]⟩, .string ⟨#[]⟩] 24))) (one_sz _ (by show (0 : Nat) ≤ _; decide) (by show (0 : Nat) ≤ _; decide)) (Dv.GTab.below HT.out (below_alloc HW.out.below _)) (by rw [hck2]; decide)
                  rw [hck2, HS5.out] at C2
                  clear HS5
                  have C2' : Calls Tryd.prog 12 #[.slice (some ⟨w4.heap.size, 0, none⟩) 1 1, .int .i64 1] _ _ := C2
                  clear C2
                  with_reducible refine C2'.mono ?_
                  rintro e w5 ⟨er2, rfl, he2, hb5⟩
                  have hb5' := (below_alloc (Below.refl W5.heap.size W5) (.cells #[.int .i64 39, .int .i64 0, .string ⟨#[]⟩, .string ⟨#[]⟩] 24)).then_ hb5
                  have hW6 := HW.out.after hb5'
                  have he6 := HE1.out.below hb5'
                  clear HW HRow HE1 hck2 C2' hb5 hb5'
                  have HW := Lib.hid hW6
                  have HE1 := Lib.hid he6
                  have HE2 := Lib.hid he2
                  clear hW6 he6 he2
                  as_aux_lemma =>
                   go_wp2_with fail
                   refine (num3 _ 1 _ (Dv.GErr.below HG.out HW.out.below) HE1.out).mono ?_
                   rintro e w6 ⟨rfl, hb6⟩
                   have hW7 := HW.out.after hb6
                   have he7 := HE2.out.below hb6
                   clear HW HE1 HE2 hb6
                   have HW := Lib.hid hW7
                   have HE2 := Lib.hid he7
                   clear hW7 he7
                   go_wp2_with fail
                   refine (num3 _ 1 _ (Dv.GErr.below HG.out HW.out.below) HE2.out).mono ?_
                   rintro e w7 ⟨rfl, hb7⟩
                   have hW8 := HW.out.after hb7
                   clear HW HE2 hb7
                   have HW := Lib.hid hW8
                   clear hW8
                   go_wp2_with fail
                   go_roundw
                   case rel => exact ⟨2, by simp, rfl, HW.out⟩
                   case measure => simp [intOf]
          · have hne : w.heap.size + 1 < wr.heap.size := HW.out.lt
            have z0 : (wr.alloc (.cells #[.int .i64 33, .int .i64 0, .string ⟨#[]⟩, .string ⟨#[]⟩] 24)).cell? ⟨w.heap.size + 1, 0, none⟩ = some (.int .i64 2) := by rw [World.cell?_alloc_lt _ _ _ hne]; exact (cell_of_row _ _ 0 _ _ _ HW.out.size).trans rfl
            have u0 : wr.cell? ⟨w.heap.size, 0, none⟩ = some (.int .i64 33) := (cell_of_row _ _ 0 _ _ _ HW.out.two).trans rfl
            have u1 : wr.cell? ⟨w.heap.size, 1, none⟩ = some (.int .i64 0) := (cell_of_row _ _ 1 _ _ _ HW.out.two).trans rfl
            have u2 : wr.cell? ⟨w.heap.size, 2, none⟩ = some (.string ⟨#[]⟩) := (cell_of_row _ _ 2 _ _ _ HW.out.two).trans rfl
            have u3 : wr.cell? ⟨w.heap.size, 3, none⟩ = some (.string ⟨#[]⟩) := (cell_of_row _ _ 3 _ _ _ HW.out.two).trans rfl
            replace x1 := (HW.out.below.cell (World.block_lt_of_cell? _ _ x1)).trans x1
            replace x2 := (HW.out.below.cell (World.block_lt_of_cell? _ _ x2)).trans x2
            go_wp2_with fail
            have X1 := (World.cell?_alloc_lt wr (.cells #[.int .i64 33, .int .i64 0, .string ⟨#[]⟩, .string ⟨#[]⟩] 24) _ (World.block_lt_of_cell? _ _ x1)).trans x1
            have X2 := (World.cell?_alloc_lt wr (.cells #[.int .i64 33, .int .i64 0, .string ⟨#[]⟩, .string ⟨#[]⟩] 24) _ (World.block_lt_of_cell? _ _ x2)).trans x2
            have hW1 := HW.out.after (below_alloc (Below.refl _ _) (.cells #[.int .i64 33, .int .i64 0, .string ⟨#[]⟩, .string ⟨#[]⟩] 24))
            have hRow : Row (wr.alloc (.cells #[.int .i64 33, .int .i64 0, .string ⟨#[]⟩, .string ⟨#[]⟩] 24)) wr.heap.size 33 0 ⟨#[]⟩ ⟨#[]⟩ := heap_alloc_new _ _
            have HBB := Lib.hid hne
            clear x1 x2 HW u0 u1 u2 u3 z0 hne
            generalize wr.alloc (.cells #[.int .i64 33, .int .i64 0, .string ⟨#[]⟩, .string ⟨#[]⟩] 24) = W1 at *
            generalize wr.heap.size = b at *
            as_aux_lemma =>
             obtain ⟨⟨y0, y1, y2, y3⟩, f0, f1, f2, f3⟩ := hRow.facts
             have HW := Lib.hid hW1
             have HRow := Lib.hid hRow
             clear hW1 hRow
             have hxb : 1 ≤ wrap64 (1 + wrap64 ((IntKind.u64.wrap (wrap64 (wrap64 (↑p.B.length * 7919) + p.P))).tmod 65535)) ∧ wrap64 (1 + wrap64 ((IntKind.u64.wrap (wrap64 (wrap64 (↑p.B.length * 7919) + p.P))).tmod 65535)) ≤ 65535 := num_bound2 _
             go_region
             generalize wrap64 (1 + wrap64 ((IntKind.u64.wrap (wrap64 (wrap64 (↑p.B.length * 7919) + p.P))).tmod 65535)) = x at *
             obtain ⟨hx1, hx2⟩ := hxb
             have hRow2 : Row (W1.setCell ⟨b, 1, none⟩ (.int .i64 x)).drew b 33 x ⟨#[]⟩ ⟨#[]⟩ := HRow.out.set1 x
             have hW2 : Tw w (W1.setCell ⟨b, 1, none⟩ (.int .i64 x)).drew := (HW.out.set HBB.out 1 _).after (Drawn0.below ⟨⟨1, rfl⟩⟩)
             clear HRow HW y0 y1 y2 y3 f0 f1 f2 f3 X1 X2
             generalize (W1.setCell ⟨b, 1, none⟩ (.int .i64 x)).drew = W2 at *
             obtain ⟨⟨y0, y1, y2, y3⟩, f0, f1, f2, f3⟩ := hRow2.facts
             have HW := Lib.hid hW2
             have HRow := Lib.hid hRow2
             clear hW2 hRow2
             as_aux_lemma =>
              have hck : chk3 [⟨33, x, ⟨#[]⟩, ⟨#[]⟩⟩] 1 = 0 := by
                rw [chk3_one, if_pos ⟨by show may 33 x _ _ = true; rw [may_two]; exact decide_eq_true ⟨hx1, hx2⟩, by show stands 33 1 = true; decide⟩]
              have HCK := Lib.hid hck
              clear hck
              go_wp2_with fail
              refine (propPut_ok (some ⟨W2.heap.size, 0, none⟩) 1 [⟨33, x, ⟨#[]⟩, ⟨#[]⟩⟩] 1 _ (C_prop1 _ (heap_alloc_new _ _)) (one_sz _ (by show (0 : Nat) ≤ _; decide) (by show (0 : Nat) ≤ _; decide)) (Dv.GTab.below HT.out (below_alloc HW.out.below _)) HCK.out).mono ?_
              rw [num_bytes2]
              rintro e w3 ⟨v, rfl, hob, hb3⟩
              obtain ⟨Ab, cb, hvb⟩ := Kd.R_slice hob
              subst hvb
              obtain ⟨_, hcb, hrb⟩ := Kd.R_reads' hob
              obtain ⟨a0, e0, v0⟩ := Kd.at_int hrb 0 (by decide) (by simp)
              cases e0
              rw [show (0 : Int).toNat = 0 from rfl, Addr.add_zero'] at v0
              have v0' : w3.cell? a0 = some (.int .u8 3) := v0
              clear v0
              obtain ⟨a1, e1, v1⟩ := Kd.at_int hrb 1 (by decide) (by simp)
              cases e1
              rw [show (1 : Int).toNat = 1 from rfl] at v1
              have v1' : w3.cell? { block := a0.block, off := a0.off + 1 } = some (.int .u8 (33)) := by simpa [Addr.add, rd] using v1
              clear v1
              obtain ⟨a2, e2, v2⟩ := Kd.at_int hrb 2 (by decide) (by simp)
              cases e2
              rw [show (2 : Int).toNat = 2 from rfl] at v2
              have v2' : w3.cell? { block := a0.block, off := a0.off + 2 } = some (.int .u8 (x / 256)) := by simpa [Addr.add, rd] using v2
              clear v2
              obtain ⟨a3, e3, v3⟩ := Kd.at_int hrb 3 (by decide) (by simp)
              cases e3
              rw [show (3 : Int).toNat = 3 from rfl] at v3
              have v3' : w3.cell? { block := a0.block, off := a0.off + 3 } = some (.int .u8 (x % 256)) := by simpa [Addr.add, rd] using v3
              clear v3
              have hb3' := (below_alloc (Below.refl W2.heap.size W2) (.cells #[.int .i64 33, .int .i64 x, .string ⟨#[]⟩, .string ⟨#[]⟩] 24)).then_ hb3
              have hW3 := HW.out.after hb3'
              have hRow3 := HRow.out.below hb3'
              clear HW HRow HCK y0 y1 y2 y3 f0 f1 f2 f3 hb3 hb3' hob
              obtain ⟨⟨y0, y1, y2, y3⟩, f0, f1, f2, f3⟩ := hRow3.facts
              have z0 : w3.cell? ⟨w.heap.size + 1, 0, none⟩ = some (.int .i64 2) := (cell_of_row _ _ 0 _ _ _ hW3.size).trans rfl
              have HW := Lib.hid hW3
              have HRow := Lib.hid hRow3
              have HRB := Lib.hid hrb
              clear hW3 hRow3 hrb
              go_wp2_with fail
              as_aux_lemma =>
               have k1 : IntKind.i64.wrap 4 = 4 := by decide
               have k2 : IntKind.i64.wrap 3 = 3 := by decide
               have k3 : IntKind.i64.wrap 33 = 33 := by decide
               go_quiet ((go_at_call 8; exact Calls.quiet_of_same (num_nil _)))
               clear k1 k2 k3
               go_wp2_with fail
               as_aux_lemma =>
                obtain ⟨c2, hc2⟩ : ∃ c2, x / 256 = c2 := ⟨_, rfl⟩
                obtain ⟨c3, hc3⟩ : ∃ c3, x % 256 = c3 := ⟨_, rfl⟩
                rw [hc2] at v2'
                rw [hc3] at v3'
                obtain ⟨p2, p3⟩ : 0 ≤ c2 ∧ c2 ≤ 255 := by omega
                obtain ⟨p4, p5⟩ : 0 ≤ c3 ∧ c3 ≤ 255 := by omega
                have o1 : Go.bits .or .i64 0 c2 = c2 := or0 p2 (by omega)
                have o2 : Go.bits .or .i64 (c2 * 256) c3 = x := by rw [i64_or256 p2 (by omega) p4 (by omega)]; omega
                clear hc2 hc3
                refine wp_loop_rounds 3 ?_
                rw [rounds_succ]
                go_wp2_with fail
                rw [rounds_succ]
                go_wp2_with fail
                rw [rounds_succ]
                go_wp2_with fail
                have hWn := HW.out.after (Drawn0.below ⟨⟨nq, rfl⟩⟩ : Below w3.heap.size w3 (w3.drewN nq))
                have hRn : Row (w3.drewN nq) b 33 x ⟨#[]⟩ ⟨#[]⟩ := HRow.out.drewN nq
                have hWs := hWn.set HBB.out 1 (.int .i64 65536)
                have hRs := hRn.set1 65536
                clear HW HRow HRB hWn hRn y0 y1 y2 y3 f0 f1 f2 f3 v0' v1' v2' v3' o1 o2 z0
                have hs4 : ((w3.drewN nq).setCell ⟨b, 1, none⟩ (.int .i64 65536)).heap.size = w3.heap.size := Array.size_modify ..
                generalize (w3.drewN nq).setCell ⟨b, 1, none⟩ (.int .i64 65536) = W4 at *
                have HS4 := Lib.hid hs4
                clear hs4
                have HW := Lib.hid hWs
                have HRow := Lib.hid hRs
                clear hWs hRs
                as_aux_lemma =>
                 have hck1 : chk3 [⟨33, 65536, ⟨#[]⟩, ⟨#[]⟩⟩] 1 = 1 := by
                   rw [chk3_one, if_neg]
                   rintro ⟨h, _⟩
                   have h' : may 33 65536 ⟨#[]⟩ ⟨#[]⟩ = true := h
                   rw [may_two] at h'
                   exact absurd (of_decide_eq_true h') (by omega)
                 have C1 := Put_bad (some ⟨W4.heap.size, 0, none⟩) 1 [⟨33, 65536, ⟨#[]⟩, ⟨#[]⟩⟩] 1 _ (C_prop1 _ (heap_alloc_new W4 (.cells #[.int .i64 33, .int .i64 65536, .string ⟨#[]⟩, .string ⟨#[]⟩] 24))) (one_sz _ (by show (0 : Nat) ≤ _; decide) (by show (0 : Nat) ≤ _; decide)) (Dv.GTab.below HT.out (below_alloc HW.out.below _)) (by rw [hck1]; decide)
                 rw [hck1, HS4.out] at C1
                 clear HS4
                 have C1' : Calls Tryd.prog 12 #[.slice (some ⟨w3.heap.size, 0, none⟩) 1 1, .int .i64 1] _ _ := C1
                 clear C1
                 with_reducible refine C1'.mono ?_
                 rintro e w4 ⟨er, rfl, he1, hb4⟩
                 have hb4' := (below_alloc (Below.refl W4.heap.size W4) (.cells #[.int .i64 33, .int .i64 65536, .string ⟨#[]⟩, .string ⟨#[]⟩] 24)).then_ hb4
                 have hW4 := HW.out.after hb4'
                 have hR4 := HRow.out.below hb4'
                 clear HW HRow hck1 C1' hb4 hb4'
                 have hW5 := hW4.set HBB.out 1 (.int .i64 0)
                 have hR5 := hR4.set1 0
                 have he5 := Err_step hR4 (by decide) (set_grown w4 b 1 (.int .i64 0)) he1
                 obtain ⟨⟨y0, y1, y2, y3⟩, f0, f1, f2, f3⟩ := hR4.facts
                 have HW := Lib.hid hW5
                 have HRow := Lib.hid hR5
                 have HE1 := Lib.hid he5
                 clear hW4 hR4 hW5 hR5 he1 he5
                 as_aux_lemma =>
                  go_wp2_with fail
                  clear y0 y1 y2 y3 f0 f1 f2 f3
                  have hs5 : (w4.setCell ⟨b, 1, none⟩ (.int .i64 0)).heap.size = w4.heap.size := Array.size_modify ..
                  generalize w4.setCell ⟨b, 1, none⟩ (.int .i64 0) = W5 at *
                  have HS5 := Lib.hid hs5
                  clear hs5
                  have hck2 : chk3 [⟨33, 0, ⟨#[]⟩, ⟨#[]⟩⟩] 1 = 1 := by
                    rw [chk3_one, if_neg]
                    rintro ⟨h, _⟩
                    have h' : may 33 0 ⟨#[]⟩ ⟨#[]⟩ = true := h
                    rw [may_two] at h'
                    exact absurd (of_decide_eq_true h') (by omega)
                  have C2 := Put_bad (some ⟨W5.heap.size, 0, none⟩) 1 [⟨33, 0, ⟨#[]⟩, ⟨#[]⟩⟩] 1 _ (C_prop1 _ (heap_alloc_new W5 (.cells #[.int .i64 33, .int .i64 0, .string ⟨#[]⟩, .string ⟨#[]⟩] 24))) (one_sz _ (by show (0 : Nat) ≤ _; decide) (by show (0 : Nat) ≤ _; decide)) (Dv.GTab.below HT.out (below_alloc HW.out.below _)) (by rw [hck2]; decide)
                  rw [hck2, HS5.out] at C2
                  clear HS5
                  have C2' : Calls Tryd.prog 12 #[.slice (some ⟨w4.heap.size, 0, none⟩) 1 1, .int .i64 1] _ _ := C2
                  clear C2
                  with_reducible refine C2'.mono ?_
                  rintro e w5 ⟨er2, rfl, he2, hb5⟩
                  have hb5' := (below_alloc (Below.refl W5.heap.size W5) (.cells #[.int .i64 33, .int .i64 0, .string ⟨#[]⟩, .string ⟨#[]⟩] 24)).then_ hb5
                  have hW6 := HW.out.after hb5'
                  have he6 := HE1.out.below hb5'
                  clear HW HRow HE1 hck2 C2' hb5 hb5'
                  have HW := Lib.hid hW6
                  have HE1 := Lib.hid he6
                  have HE2 := Lib.hid he2
                  clear hW6 he6 he2
                  as_aux_lemma =>
                   go_wp2_with fail
                   refine (num3 _ 1 _ (Dv.GErr.below HG.out HW.out.below) HE1.out).mono ?_
                   rintro e w6 ⟨rfl, hb6⟩
                   have hW7 := HW.out.after hb6
                   have he7 := HE2.out.below hb6
                   clear HW HE1 HE2 hb6
                   have HW := Lib.hid hW7
                   have HE2 := Lib.hid he7
                   clear hW7 he7
                   go_wp2_with fail
                   refine (num3 _ 1 _ (Dv.GErr.below HG.out HW.out.below) HE2.out).mono ?_
                   rintro e w7 ⟨rfl, hb7⟩
                   have hW8 := HW.out.after hb7
                   clear HW HE2 hb7
                   have HW := Lib.hid hW8
                   clear hW8
                   go_wp2_with fail
                   go_roundw
                   case rel => exact ⟨1, by simp, rfl, HW.out⟩
                   case measure => simp [intOf]
      · have d2 : decide ((k : Int) < 12) = false := decide_eq_false (by omega)
        go_wp2_with fail
        refine (wakes3 _ (Dv.GErr.below HG.out HW.out.below) (Dv.GTab.below HT.out HW.out.below)).mono ?_
        rintro e we ⟨rfl, hbe⟩
        have HBe := Lib.hid (HW.out.below.then_ hbe)
        clear hbe
        go_wp2
        go_ret
        exact ⟨rfl, HBe.out⟩
    · have d1 : decide (k < l.length) = false := decide_eq_false hlt
      go_wp2_with fail
      refine (wakes3 _ (Dv.GErr.below HG.out HW.out.below) (Dv.GTab.below HT.out HW.out.below)).mono ?_
      rintro e we ⟨rfl, hbe⟩
      have HBe := Lib.hid (HW.out.below.then_ hbe)
      clear hbe
      go_wp2
      go_ret
      exact ⟨rfl, HBe.out⟩
end Go.Proofs.YtondmmoabmhpfaaDoor.Q

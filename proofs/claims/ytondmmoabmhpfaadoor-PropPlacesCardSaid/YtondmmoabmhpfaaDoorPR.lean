import Derived.Test.YtondmmoabmhpfaaDoorProg
import Derived.Below
import Derived.Deep.Draws
import Derived.Deep.AppendLies
import Derived.Maps.AppendAt
import Derived.OwnWalk
import Derived.Laws.BytesArg
import Derived.Laws.MakeOwn
import Derived.Laws.OwnMore
import Derived.Deep.OwnRows
import Derived.Tactics
import Derived.Lib.ConvBytes
import Derived.Laws.Slices
import Derived.WalkKit
import Derived.KernelRfl
import Derived.RowKit3
import Derived.Deep.LoopGhost
import Derived.Deep.QuietTactic
import Derived.BigQuiet
import Derived.WideLaws
import Derived.Deep.DeepCutAuto
import Derived.Deep.CutBlock
import Derived.Deep.RegionHeld3
import Derived.Laws.Rows
import Derived.Lib.AppendStr
import Derived.ArgAppend
import Derived.Laws.IdiomCopy
import Derived.OrdersHeld
import Derived.Laws.BitsLemmas
import Derived.RowKit
import Derived.Test.YtondmmoabmhpfaaDoorPWords
import Derived.Lib.ValidLaws
section
namespace Go.Proofs.YtondmmoabmhpfaaDoor.R
open Go.RowKit Go.Proofs.YtondmmoabmhpfaaDoorW.PrintWords Go.Proofs.YtondmmoabmhpfaaDoorW.PrintLast Go.Proofs.YtondmmoabmhpfaaDoorW.PrintMore
attribute [local go_sem] max2_int min2_int max_two min_two max_three min_three max_four min_four   -- for this text's walks alone
set_option linter.unusedVariables false
set_option linter.unusedSimpArgs false



def errW : Option Int → Value
  | none => .nilIface
  | some c => .iface 0 (.int .i64 c)
theorem errW_none : errW none = .nilIface := rfl
theorem errW_some (c : Int) : errW (some c) = .iface 0 (.int .i64 c) := rfl

theorem info5 : (Tryd.prog.info? 5).map (fun i => (i.zero, i.size, i.bytes)) = some (some (.int .u8 0), 1, 1) := by kernel_rfl
end Go.Proofs.YtondmmoabmhpfaaDoor.R
end
section
namespace Go.Proofs.YtondmmoabmhpfaaDoor.R
open Go.RowKit Go.Proofs.YtondmmoabmhpfaaDoorW.PrintWords Go.Proofs.YtondmmoabmhpfaaDoorW.PrintLast Go.Proofs.YtondmmoabmhpfaaDoorW.PrintMore
attribute [local go_sem] max2_int min2_int max_two min_two max_three min_three max_four min_four   -- for this text's walks alone
set_option linter.unusedVariables false
set_option linter.unusedSimpArgs false

mutual
def dovecoteref1_point.j0 : Nat → List Int → Int → Int → Int → Option (Int)
  | 0, _, _, _, _ => none
  | k + 1, x0, x3, x4, x5 => if (x0.length : Int) < x3 then (some 0) else (dovecoteref1_point.l0 k x0 x3 x4 x5 1)
def dovecoteref1_point.l0 : Nat → List Int → Int → Int → Int → Int → Option (Int)
  | 0, _, _, _, _, _ => none
  | k + 1, x0, x3, x4, x5, x6 => if x6 < x3 then (if 0 ≤ x6 then (if x6 < (x0.length : Int) then (if (Go.bits .and .u8 (rd x0 x6) 192) = 128 then (dovecoteref1_point.l0 k x0 x3 (Go.bits .or .i64 (wrap64 (x4 * 64)) (wrap64 (Go.bits .and .u8 (rd x0 x6) 63))) x5 (wrap64 (x6 + 1))) else (some 0)) else (none)) else (none)) else (if x4 < x5 then (some 0) else (if x4 > 1114111 then (some 0) else (if x4 ≥ 55296 then (if x4 ≤ 57343 then (some 0) else (some x3)) else (some x3))))
end
def dovecoteref1_point.f (k : Nat) (l0 : List Int) : Option (Int) := if 0 < (l0.length : Int) then (if (rd l0 0) ≥ 248 then (some 0) else (if (rd l0 0) ≥ 240 then (dovecoteref1_point.j0 k l0 4 (Go.bits .and .i64 (wrap64 (rd l0 0)) 7) 65536) else (if (rd l0 0) ≥ 224 then (dovecoteref1_point.j0 k l0 3 (Go.bits .and .i64 (wrap64 (rd l0 0)) 15) 2048) else (if (rd l0 0) ≥ 192 then (dovecoteref1_point.j0 k l0 2 (Go.bits .and .i64 (wrap64 (rd l0 0)) 31) 128) else (if (rd l0 0) ≥ 128 then (some 0) else (dovecoteref1_point.j0 k l0 1 (wrap64 (rd l0 0)) 1)))))) else (none)
theorem dovecoteref1_point.mono_l : ∀ k, (∀ y0 y1 y2 y3, LeO (dovecoteref1_point.j0 k y0 y1 y2 y3) (dovecoteref1_point.j0 (k + 1) y0 y1 y2 y3)) ∧ (∀ y0 y1 y2 y3 y4, LeO (dovecoteref1_point.l0 k y0 y1 y2 y3 y4) (dovecoteref1_point.l0 (k + 1) y0 y1 y2 y3 y4))
  | 0 => ⟨fun _ _ _ _ r h => by simp [dovecoteref1_point.j0] at h, fun _ _ _ _ _ r h => by simp [dovecoteref1_point.l0] at h⟩
  | k + 1 => by
    obtain ⟨ih0, ih1⟩ := dovecoteref1_point.mono_l k
    refine ⟨?_, ?_⟩
    · intro y0 y1 y2 y3
      unfold dovecoteref1_point.j0
      repeat' first
      | (with_reducible exact ih0 _ _ _ _)
      | (with_reducible exact ih1 _ _ _ _ _)
      | (with_reducible exact LeO.refl _)
      | (with_reducible exact LeO.none _)
      | (with_reducible refine LeO.ite ?_ ?_)
      | (with_reducible refine LeO.bind ?_ (fun _ => ?_))
      | exact ih0 _ _ _ _
      | exact ih1 _ _ _ _ _
      | exact LeO.none _
      | refine LeO.ite ?_ ?_
      | refine LeO.bind ?_ (fun _ => ?_)
    · intro y0 y1 y2 y3 y4
      unfold dovecoteref1_point.l0
      repeat' first
      | (with_reducible exact ih0 _ _ _ _)
      | (with_reducible exact ih1 _ _ _ _ _)
      | (with_reducible exact LeO.refl _)
      | (with_reducible exact LeO.none _)
      | (with_reducible refine LeO.ite ?_ ?_)
      | (with_reducible refine LeO.bind ?_ (fun _ => ?_))
      | exact ih0 _ _ _ _
      | exact ih1 _ _ _ _ _
      | exact LeO.none _
      | refine LeO.ite ?_ ?_
      | refine LeO.bind ?_ (fun _ => ?_)
theorem dovecoteref1_point.mono : ∀ a0 k, LeO (dovecoteref1_point.f k a0) (dovecoteref1_point.f (k + 1) a0) := by
  intro a0 k
  obtain ⟨ih0, ih1⟩ := dovecoteref1_point.mono_l k
  unfold dovecoteref1_point.f
  repeat' first
      | (with_reducible exact ih0 _ _ _ _)
      | (with_reducible exact ih1 _ _ _ _ _)
      | (with_reducible exact LeO.refl _)
      | (with_reducible exact LeO.none _)
      | (with_reducible refine LeO.ite ?_ ?_)
      | (with_reducible refine LeO.bind ?_ (fun _ => ?_))
      | exact ih0 _ _ _ _
      | exact ih1 _ _ _ _ _
      | exact LeO.none _
      | refine LeO.ite ?_ ?_
      | refine LeO.bind ?_ (fun _ => ?_)
set_option maxHeartbeats 8000000 in
set_option maxRecDepth 100000 in
theorem dovecoteref1_point.calls (k : Nat) (A0 : Option Addr) (c0 : Nat) (l0 : List Int) (r : Int) (w : World) (hr0 : Kd.C (Kd.int .u8) w A0 l0.length l0) (hc0 : l0.length ≤ c0) (h : dovecoteref1_point.f k l0 = some r) :
    Calls Tryd.prog 66 #[.slice A0 l0.length c0] w fun e w' => e = .returned (.int .i64 r) ∧ Drawn0 w w' := by
  have HR0 := Aside0.mk hr0
  have HC0 := Aside0.mk hc0
  clear hr0 hc0
  have H : (if 0 < (l0.length : Int) then (if (rd l0 0) ≥ 248 then (some 0) else (if (rd l0 0) ≥ 240 then (dovecoteref1_point.j0 k l0 4 (Go.bits .and .i64 (wrap64 (rd l0 0)) 7) 65536) else (if (rd l0 0) ≥ 224 then (dovecoteref1_point.j0 k l0 3 (Go.bits .and .i64 (wrap64 (rd l0 0)) 15) 2048) else (if (rd l0 0) ≥ 192 then (dovecoteref1_point.j0 k l0 2 (Go.bits .and .i64 (wrap64 (rd l0 0)) 31) 128) else (if (rd l0 0) ≥ 128 then (some 0) else (dovecoteref1_point.j0 k l0 1 (wrap64 (rd l0 0)) 1)))))) else (none)) = some r := h
  clear h
  by_cases c2 : 0 < (l0.length : Int)
  · rw [if_pos c2] at H
    have c2b0 : decide (0 < (l0.length : Int)) = true := decide_eq_true c2
    have c2b1 : decide (0 < l0.length) = true := decide_eq_true (by omega)
    clear c2
    have HC3 := Aside0.mk H
    clear H
    have p101 : 0 ≤ (0 : Int) := (by omega)
    have q101 : 0 < (l0.length : Int) := of_decide_eq_true (by first | (with_reducible assumption) | assumption)
    obtain ⟨ad101, e101, hx101_0⟩ := Kd.at_int HR0.out 0 p101 q101
    cases e101
    have qi101 : (0 < l0.length) = True := eq_true (by omega)
    (try rw [show ((0 : Int)).toNat = 0 from rfl] at hx101_0)
    (try rw [Addr.add_zero'] at hx101_0)
    replace p101 := eq_true p101
    replace q101 := eq_true q101
    go_enter Tryd.func66, Tryd.ntmps66
    go_upto_block 0 with (fail)
    go_cut [3, 4, 5] (fun v3 v4 v5 wc => ∃ (kq : Nat) (x3_2 : Int) (x4_2 : Int) (x5_2 : Int), v3 = .int .i64 x3_2 ∧ v4 = .int .i64 x4_2 ∧ v5 = .int .i64 x5_2 ∧ Aside0 (dovecoteref1_point.j0 kq l0 x3_2 x4_2 x5_2 = some r) ∧ Aside0 (kq ≤ k) ∧ Drawn0 w wc)
    case first =>
      have H := HC3.out
      clear HC3
      by_cases c4 : (rd l0 0) ≥ 248
      · rw [if_pos c4] at H
        have c4b0 : decide (248 ≤ (rd l0 0)) = true := decide_eq_true c4
        clear c4
        (first | rw [c4b0] | (simp only [i64_w, i32_w]; rw [c4b0]) | skip)
        obtain rfl := Option.some.inj H
        have p102 : 0 ≤ (0 : Int) := (by omega)
        have q102 : 0 < (l0.length : Int) := of_decide_eq_true (by first | (with_reducible assumption) | assumption)
        obtain ⟨ad102, e102, hx102_0⟩ := Kd.at_int HR0.out 0 p102 q102
        obtain rfl : ad101 = ad102 := (by injection e102)
        have qi102 : (0 < l0.length) = True := eq_true (by omega)
        (try rw [show ((0 : Int)).toNat = 0 from rfl] at hx102_0)
        (try rw [Addr.add_zero'] at hx102_0)
        replace p102 := eq_true p102
        replace q102 := eq_true q102
        go_wp2
        go_ret
        exact ⟨by first | rfl | (simp; done) | (simp [*]; done), by repeat (first | exact Drawn0.refl _ | apply Drawn0.step)⟩
      · rw [if_neg c4] at H
        have c4b0 : decide (248 ≤ (rd l0 0)) = false := decide_eq_false c4
        clear c4
        (first | rw [c4b0] | (simp only [i64_w, i32_w]; rw [c4b0]) | skip)
        by_cases c5 : (rd l0 0) ≥ 240
        · rw [if_pos c5] at H
          have c5b0 : decide (240 ≤ (rd l0 0)) = true := decide_eq_true c5
          clear c5
          have H' := Aside0.mk H
          clear H
          have p102 : 0 ≤ (0 : Int) := (by omega)
          have q102 : 0 < (l0.length : Int) := of_decide_eq_true (by first | (with_reducible assumption) | assumption)
          obtain ⟨ad102, e102, hx102_0⟩ := Kd.at_int HR0.out 0 p102 q102
          obtain rfl : ad101 = ad102 := (by injection e102)
          have qi102 : (0 < l0.length) = True := eq_true (by omega)
          (try rw [show ((0 : Int)).toNat = 0 from rfl] at hx102_0)
          (try rw [Addr.add_zero'] at hx102_0)
          replace p102 := eq_true p102
          replace q102 := eq_true q102
          have p103 : 0 ≤ (0 : Int) := (by omega)
          have q103 : 0 < (l0.length : Int) := of_decide_eq_true (by first | (with_reducible assumption) | assumption)
          obtain ⟨ad103, e103, hx103_0⟩ := Kd.at_int HR0.out 0 p103 q103
          obtain rfl : ad101 = ad103 := (by injection e103)
          have qi103 : (0 < l0.length) = True := eq_true (by omega)
          (try rw [show ((0 : Int)).toNat = 0 from rfl] at hx103_0)
          (try rw [Addr.add_zero'] at hx103_0)
          replace p103 := eq_true p103
          replace q103 := eq_true q103
          go_wp2
          go_meet
          case rel => exact ⟨_, (4), (Go.bits .and .i64 (wrap64 (rd l0 0)) 7), (65536), (by first | rfl | (simp; done) | (simp [*]; done)), (by first | rfl | (simp; done) | (simp [*]; done)), (by first | rfl | (simp; done) | (simp [*]; done)), H', ⟨by first | omega | exact Nat.le_refl _⟩, by repeat (first | exact Drawn0.refl _ | apply Drawn0.step)⟩
        · rw [if_neg c5] at H
          have c5b0 : decide (240 ≤ (rd l0 0)) = false := decide_eq_false c5
          clear c5
          by_cases c6 : (rd l0 0) ≥ 224
          · rw [if_pos c6] at H
            have c6b0 : decide (224 ≤ (rd l0 0)) = true := decide_eq_true c6
            clear c6
            have H' := Aside0.mk H
            clear H
            have p102 : 0 ≤ (0 : Int) := (by omega)
            have q102 : 0 < (l0.length : Int) := of_decide_eq_true (by first | (with_reducible assumption) | assumption)
            obtain ⟨ad102, e102, hx102_0⟩ := Kd.at_int HR0.out 0 p102 q102
            obtain rfl : ad101 = ad102 := (by injection e102)
            have qi102 : (0 < l0.length) = True := eq_true (by omega)
            (try rw [show ((0 : Int)).toNat = 0 from rfl] at hx102_0)
            (try rw [Addr.add_zero'] at hx102_0)
            replace p102 := eq_true p102
            replace q102 := eq_true q102
            have p103 : 0 ≤ (0 : Int) := (by omega)
            have q103 : 0 < (l0.length : Int) := of_decide_eq_true (by first | (with_reducible assumption) | assumption)
            obtain ⟨ad103, e103, hx103_0⟩ := Kd.at_int HR0.out 0 p103 q103
            obtain rfl : ad101 = ad103 := (by injection e103)
            have qi103 : (0 < l0.length) = True := eq_true (by omega)
            (try rw [show ((0 : Int)).toNat = 0 from rfl] at hx103_0)
            (try rw [Addr.add_zero'] at hx103_0)
            replace p103 := eq_true p103
            replace q103 := eq_true q103
            have p104 : 0 ≤ (0 : Int) := (by omega)
            have q104 : 0 < (l0.length : Int) := of_decide_eq_true (by first | (with_reducible assumption) | assumption)
            obtain ⟨ad104, e104, hx104_0⟩ := Kd.at_int HR0.out 0 p104 q104
            obtain rfl : ad101 = ad104 := (by injection e104)
            have qi104 : (0 < l0.length) = True := eq_true (by omega)
            (try rw [show ((0 : Int)).toNat = 0 from rfl] at hx104_0)
            (try rw [Addr.add_zero'] at hx104_0)
            replace p104 := eq_true p104
            replace q104 := eq_true q104
            go_wp2
            go_meet
            case rel => exact ⟨_, (3), (Go.bits .and .i64 (wrap64 (rd l0 0)) 15), (2048), (by first | rfl | (simp; done) | (simp [*]; done)), (by first | rfl | (simp; done) | (simp [*]; done)), (by first | rfl | (simp; done) | (simp [*]; done)), H', ⟨by first | omega | exact Nat.le_refl _⟩, by repeat (first | exact Drawn0.refl _ | apply Drawn0.step)⟩
          · rw [if_neg c6] at H
            have c6b0 : decide (224 ≤ (rd l0 0)) = false := decide_eq_false c6
            clear c6
            by_cases c7 : (rd l0 0) ≥ 192
            · rw [if_pos c7] at H
              have c7b0 : decide (192 ≤ (rd l0 0)) = true := decide_eq_true c7
              clear c7
              have H' := Aside0.mk H
              clear H
              have p102 : 0 ≤ (0 : Int) := (by omega)
              have q102 : 0 < (l0.length : Int) := of_decide_eq_true (by first | (with_reducible assumption) | assumption)
              obtain ⟨ad102, e102, hx102_0⟩ := Kd.at_int HR0.out 0 p102 q102
              obtain rfl : ad101 = ad102 := (by injection e102)
              have qi102 : (0 < l0.length) = True := eq_true (by omega)
              (try rw [show ((0 : Int)).toNat = 0 from rfl] at hx102_0)
              (try rw [Addr.add_zero'] at hx102_0)
              replace p102 := eq_true p102
              replace q102 := eq_true q102
              have p103 : 0 ≤ (0 : Int) := (by omega)
              have q103 : 0 < (l0.length : Int) := of_decide_eq_true (by first | (with_reducible assumption) | assumption)
              obtain ⟨ad103, e103, hx103_0⟩ := Kd.at_int HR0.out 0 p103 q103
              obtain rfl : ad101 = ad103 := (by injection e103)
              have qi103 : (0 < l0.length) = True := eq_true (by omega)
              (try rw [show ((0 : Int)).toNat = 0 from rfl] at hx103_0)
              (try rw [Addr.add_zero'] at hx103_0)
              replace p103 := eq_true p103
              replace q103 := eq_true q103
              have p104 : 0 ≤ (0 : Int) := (by omega)
              have q104 : 0 < (l0.length : Int) := of_decide_eq_true (by first | (with_reducible assumption) | assumption)
              obtain ⟨ad104, e104, hx104_0⟩ := Kd.at_int HR0.out 0 p104 q104
              obtain rfl : ad101 = ad104 := (by injection e104)
              have qi104 : (0 < l0.length) = True := eq_true (by omega)
              (try rw [show ((0 : Int)).toNat = 0 from rfl] at hx104_0)
              (try rw [Addr.add_zero'] at hx104_0)
              replace p104 := eq_true p104
              replace q104 := eq_true q104
              have p105 : 0 ≤ (0 : Int) := (by omega)
              have q105 : 0 < (l0.length : Int) := of_decide_eq_true (by first | (with_reducible assumption) | assumption)
              obtain ⟨ad105, e105, hx105_0⟩ := Kd.at_int HR0.out 0 p105 q105
              obtain rfl : ad101 = ad105 := (by injection e105)
              have qi105 : (0 < l0.length) = True := eq_true (by omega)
              (try rw [show ((0 : Int)).toNat = 0 from rfl] at hx105_0)
              (try rw [Addr.add_zero'] at hx105_0)
              replace p105 := eq_true p105
              replace q105 := eq_true q105
              go_wp2
              go_meet
              case rel => exact ⟨_, (2), (Go.bits .and .i64 (wrap64 (rd l0 0)) 31), (128), (by first | rfl | (simp; done) | (simp [*]; done)), (by first | rfl | (simp; done) | (simp [*]; done)), (by first | rfl | (simp; done) | (simp [*]; done)), H', ⟨by first | omega | exact Nat.le_refl _⟩, by repeat (first | exact Drawn0.refl _ | apply Drawn0.step)⟩
            · rw [if_neg c7] at H
              have c7b0 : decide (192 ≤ (rd l0 0)) = false := decide_eq_false c7
              clear c7
              by_cases c8 : (rd l0 0) ≥ 128
              · rw [if_pos c8] at H
                have c8b0 : decide (128 ≤ (rd l0 0)) = true := decide_eq_true c8
                clear c8
                obtain rfl := Option.some.inj H
                have p102 : 0 ≤ (0 : Int) := (by omega)
                have q102 : 0 < (l0.length : Int) := of_decide_eq_true (by first | (with_reducible assumption) | assumption)
                obtain ⟨ad102, e102, hx102_0⟩ := Kd.at_int HR0.out 0 p102 q102
                obtain rfl : ad101 = ad102 := (by injection e102)
                have qi102 : (0 < l0.length) = True := eq_true (by omega)
                (try rw [show ((0 : Int)).toNat = 0 from rfl] at hx102_0)
                (try rw [Addr.add_zero'] at hx102_0)
                replace p102 := eq_true p102
                replace q102 := eq_true q102
                have p103 : 0 ≤ (0 : Int) := (by omega)
                have q103 : 0 < (l0.length : Int) := of_decide_eq_true (by first | (with_reducible assumption) | assumption)
                obtain ⟨ad103, e103, hx103_0⟩ := Kd.at_int HR0.out 0 p103 q103
                obtain rfl : ad101 = ad103 := (by injection e103)
                have qi103 : (0 < l0.length) = True := eq_true (by omega)
                (try rw [show ((0 : Int)).toNat = 0 from rfl] at hx103_0)
                (try rw [Addr.add_zero'] at hx103_0)
                replace p103 := eq_true p103
                replace q103 := eq_true q103
                have p104 : 0 ≤ (0 : Int) := (by omega)
                have q104 : 0 < (l0.length : Int) := of_decide_eq_true (by first | (with_reducible assumption) | assumption)
                obtain ⟨ad104, e104, hx104_0⟩ := Kd.at_int HR0.out 0 p104 q104
                obtain rfl : ad101 = ad104 := (by injection e104)
                have qi104 : (0 < l0.length) = True := eq_true (by omega)
                (try rw [show ((0 : Int)).toNat = 0 from rfl] at hx104_0)
                (try rw [Addr.add_zero'] at hx104_0)
                replace p104 := eq_true p104
                replace q104 := eq_true q104
                have p105 : 0 ≤ (0 : Int) := (by omega)
                have q105 : 0 < (l0.length : Int) := of_decide_eq_true (by first | (with_reducible assumption) | assumption)
                obtain ⟨ad105, e105, hx105_0⟩ := Kd.at_int HR0.out 0 p105 q105
                obtain rfl : ad101 = ad105 := (by injection e105)
                have qi105 : (0 < l0.length) = True := eq_true (by omega)
                (try rw [show ((0 : Int)).toNat = 0 from rfl] at hx105_0)
                (try rw [Addr.add_zero'] at hx105_0)
                replace p105 := eq_true p105
                replace q105 := eq_true q105
                have p106 : 0 ≤ (0 : Int) := (by omega)
                have q106 : 0 < (l0.length : Int) := of_decide_eq_true (by first | (with_reducible assumption) | assumption)
                obtain ⟨ad106, e106, hx106_0⟩ := Kd.at_int HR0.out 0 p106 q106
                obtain rfl : ad101 = ad106 := (by injection e106)
                have qi106 : (0 < l0.length) = True := eq_true (by omega)
                (try rw [show ((0 : Int)).toNat = 0 from rfl] at hx106_0)
                (try rw [Addr.add_zero'] at hx106_0)
                replace p106 := eq_true p106
                replace q106 := eq_true q106
                go_wp2
                go_ret
                exact ⟨by first | rfl | (simp; done) | (simp [*]; done), by repeat (first | exact Drawn0.refl _ | apply Drawn0.step)⟩
              · rw [if_neg c8] at H
                have c8b0 : decide (128 ≤ (rd l0 0)) = false := decide_eq_false c8
                clear c8
                have H' := Aside0.mk H
                clear H
                have p102 : 0 ≤ (0 : Int) := (by omega)
                have q102 : 0 < (l0.length : Int) := of_decide_eq_true (by first | (with_reducible assumption) | assumption)
                obtain ⟨ad102, e102, hx102_0⟩ := Kd.at_int HR0.out 0 p102 q102
                obtain rfl : ad101 = ad102 := (by injection e102)
                have qi102 : (0 < l0.length) = True := eq_true (by omega)
                (try rw [show ((0 : Int)).toNat = 0 from rfl] at hx102_0)
                (try rw [Addr.add_zero'] at hx102_0)
                replace p102 := eq_true p102
                replace q102 := eq_true q102
                have p103 : 0 ≤ (0 : Int) := (by omega)
                have q103 : 0 < (l0.length : Int) := of_decide_eq_true (by first | (with_reducible assumption) | assumption)
                obtain ⟨ad103, e103, hx103_0⟩ := Kd.at_int HR0.out 0 p103 q103
                obtain rfl : ad101 = ad103 := (by injection e103)
                have qi103 : (0 < l0.length) = True := eq_true (by omega)
                (try rw [show ((0 : Int)).toNat = 0 from rfl] at hx103_0)
                (try rw [Addr.add_zero'] at hx103_0)
                replace p103 := eq_true p103
                replace q103 := eq_true q103
                have p104 : 0 ≤ (0 : Int) := (by omega)
                have q104 : 0 < (l0.length : Int) := of_decide_eq_true (by first | (with_reducible assumption) | assumption)
                obtain ⟨ad104, e104, hx104_0⟩ := Kd.at_int HR0.out 0 p104 q104
                obtain rfl : ad101 = ad104 := (by injection e104)
                have qi104 : (0 < l0.length) = True := eq_true (by omega)
                (try rw [show ((0 : Int)).toNat = 0 from rfl] at hx104_0)
                (try rw [Addr.add_zero'] at hx104_0)
                replace p104 := eq_true p104
                replace q104 := eq_true q104
                have p105 : 0 ≤ (0 : Int) := (by omega)
                have q105 : 0 < (l0.length : Int) := of_decide_eq_true (by first | (with_reducible assumption) | assumption)
                obtain ⟨ad105, e105, hx105_0⟩ := Kd.at_int HR0.out 0 p105 q105
                obtain rfl : ad101 = ad105 := (by injection e105)
                have qi105 : (0 < l0.length) = True := eq_true (by omega)
                (try rw [show ((0 : Int)).toNat = 0 from rfl] at hx105_0)
                (try rw [Addr.add_zero'] at hx105_0)
                replace p105 := eq_true p105
                replace q105 := eq_true q105
                have p106 : 0 ≤ (0 : Int) := (by omega)
                have q106 : 0 < (l0.length : Int) := of_decide_eq_true (by first | (with_reducible assumption) | assumption)
                obtain ⟨ad106, e106, hx106_0⟩ := Kd.at_int HR0.out 0 p106 q106
                obtain rfl : ad101 = ad106 := (by injection e106)
                have qi106 : (0 < l0.length) = True := eq_true (by omega)
                (try rw [show ((0 : Int)).toNat = 0 from rfl] at hx106_0)
                (try rw [Addr.add_zero'] at hx106_0)
                replace p106 := eq_true p106
                replace q106 := eq_true q106
                go_wp2
                go_meet
                case rel => exact ⟨_, (1), (wrap64 (rd l0 0)), (1), (by first | rfl | (simp; done) | (simp [*]; done)), (by first | rfl | (simp; done) | (simp [*]; done)), (by first | rfl | (simp; done) | (simp [*]; done)), H', ⟨by first | omega | exact Nat.le_refl _⟩, by repeat (first | exact Drawn0.refl _ | apply Drawn0.step)⟩
    case rest =>
      clear HC3
      try clear p1
      try clear q1
      try clear hx1
      try clear qi1
      try clear c2
      try clear c2b0
      try clear c2b1
      try clear p2
      try clear c4
      try clear c4b0
      try clear c5
      try clear c5b0
      try clear c6
      try clear c6b0
      try clear p6
      try clear c7
      try clear c7b0
      try clear c8
      try clear c8b0
      try clear hx101_0
      try clear hx102_0
      try clear hx103_0
      try clear hx104_0
      try clear hx105_0
      try clear hx106_0
      try clear p101
      try clear p102
      try clear p103
      try clear p104
      try clear p105
      try clear p106
      try clear q101
      try clear q102
      try clear q103
      try clear q104
      try clear q105
      try clear q106
      obtain ⟨kq, x3_2, x4_2, x5_2, rfl, rfl, rfl, HA, HJ2, ⟨mc2, rfl⟩⟩ := hcut
      cases kq with
      | zero => exact absurd HA.out (by simp [dovecoteref1_point.j0])
      | succ kj2 =>
        have H := HA.out
        clear HA
        simp only [dovecoteref1_point.j0] at H
        by_cases c9 : (l0.length : Int) < x3_2
        · rw [if_pos c9] at H
          have c9b0 : decide ((l0.length : Int) < x3_2) = true := decide_eq_true c9
          clear c9
          obtain rfl := Option.some.inj H
          go_wp2
          go_ret
          exact ⟨by first | rfl | (simp; done) | (simp [*]; done), by repeat (first | exact Drawn0.refl _ | apply Drawn0.step)⟩
        · rw [if_neg c9] at H
          have c9b0 : decide ((l0.length : Int) < x3_2) = false := decide_eq_false c9
          clear c9
          have H' := Aside0.mk H
          clear H
          go_wp2
          go_loopg [4, 6] kj2 (fun kq v4 v6 w' => ∃ (x4_2 : Int) (x6_2 : Int), v4 = .int .i64 x4_2 ∧ v6 = .int .i64 x6_2 ∧ Aside0 (dovecoteref1_point.l0 kq l0 x3_2 x4_2 x5_2 x6_2 = some r) ∧ Aside0 (kq ≤ kj2) ∧ Drawn0 w w')
          case atStart => exact ⟨(x4_2), (1), (by first | rfl | (simp; done) | (simp [*]; done)), (by first | rfl | (simp; done) | (simp [*]; done)), H', ⟨Nat.le_refl _⟩, by repeat (first | exact Drawn0.refl _ | apply Drawn0.step)⟩
          case round =>
            clear H'
            try clear p1
            try clear q1
            try clear hx1
            try clear qi1
            try clear c2
            try clear c2b0
            try clear c2b1
            try clear p2
            try clear c4
            try clear c4b0
            try clear c5
            try clear c5b0
            try clear c6
            try clear c6b0
            try clear p6
            try clear c7
            try clear c7b0
            try clear c8
            try clear c8b0
            try clear c9
            try clear c9b0
            try clear hx101_0
            try clear hx102_0
            try clear hx103_0
            try clear hx104_0
            try clear hx105_0
            try clear hx106_0
            try clear p1
            try clear p101
            try clear p102
            try clear p103
            try clear p104
            try clear p105
            try clear p106
            try clear p2
            try clear p6
            try clear q1
            try clear q101
            try clear q102
            try clear q103
            try clear q104
            try clear q105
            try clear q106
            obtain ⟨x4_2, x6_2, rfl, rfl, HA, HK2, ⟨m2, rfl⟩⟩ := hrel
            cases gk with
            | zero => exact absurd HA.out (by simp [dovecoteref1_point.l0])
            | succ k2 =>
              have H := HA.out
              clear HA
              simp only [dovecoteref1_point.l0] at H
              by_cases c10 : x6_2 < x3_2
              · rw [if_pos c10] at H
                have c10b0 : decide (x6_2 < x3_2) = true := decide_eq_true c10
                clear c10
                by_cases c11 : 0 ≤ x6_2
                · rw [if_pos c11] at H
                  have c11b0 : decide (0 ≤ x6_2) = true := decide_eq_true c11
                  clear c11
                  by_cases c12 : x6_2 < (l0.length : Int)
                  · rw [if_pos c12] at H
                    have c12b0 : decide (x6_2 < (l0.length : Int)) = true := decide_eq_true c12
                    clear c12
                    by_cases c13 : (Go.bits .and .u8 (rd l0 x6_2) 192) = 128
                    · rw [if_pos c13] at H
                      have c13b0 : ((Go.bits .and .u8 (rd l0 x6_2) 192) == 128) = true := beq_iff_eq.mpr c13
                      have c13b1 : ((Go.bits .and .u8 (rd l0 x6_2) 192) != 128) = false := bne_eq_false_iff_eq.mpr c13
                      clear c13
                      have H' := Aside0.mk H
                      clear H
                      have p107 : 0 ≤ (x6_2 : Int) := of_decide_eq_true (by first | (with_reducible assumption) | assumption)
                      have q107 : x6_2 < (l0.length : Int) := of_decide_eq_true (by first | (with_reducible assumption) | assumption)
                      obtain ⟨ad107, e107, hx107_0⟩ := Kd.at_int HR0.out x6_2 p107 q107
                      obtain rfl : ad101 = ad107 := (by injection e107)
                      replace p107 := eq_true p107
                      replace q107 := eq_true q107
                      have p108 : 0 ≤ (x6_2 : Int) := of_decide_eq_true (by first | (with_reducible assumption) | assumption)
                      have q108 : x6_2 < (l0.length : Int) := of_decide_eq_true (by first | (with_reducible assumption) | assumption)
                      obtain ⟨ad108, e108, hx108_0⟩ := Kd.at_int HR0.out x6_2 p108 q108
                      obtain rfl : ad101 = ad108 := (by injection e108)
                      replace p108 := eq_true p108
                      replace q108 := eq_true q108
                      go_wp2
                      go_roundg k2
                      case measure => have := HJ2.out; have := HK2.out; omega
                      case rel => exact ⟨(Go.bits .or .i64 (wrap64 (x4_2 * 64)) (wrap64 (Go.bits .and .u8 (rd l0 x6_2) 63))), (wrap64 (x6_2 + 1)), (by first | rfl | (simp; done) | (simp [*]; done)), (by first | rfl | (simp; done) | (simp [*]; done)), H', ⟨by have := HJ2.out; have := HK2.out; omega⟩, by repeat (first | exact Drawn0.refl _ | apply Drawn0.step)⟩
                    · rw [if_neg c13] at H
                      have c13b0 : ((Go.bits .and .u8 (rd l0 x6_2) 192) == 128) = false := beq_eq_false_iff_ne.mpr c13
                      have c13b1 : ((Go.bits .and .u8 (rd l0 x6_2) 192) != 128) = true := bne_iff_ne.mpr c13
                      obtain rfl := Option.some.inj H
                      have p107 : 0 ≤ (x6_2 : Int) := of_decide_eq_true (by first | (with_reducible assumption) | assumption)
                      have q107 : x6_2 < (l0.length : Int) := of_decide_eq_true (by first | (with_reducible assumption) | assumption)
                      obtain ⟨ad107, e107, hx107_0⟩ := Kd.at_int HR0.out x6_2 p107 q107
                      obtain rfl : ad101 = ad107 := (by injection e107)
                      replace p107 := eq_true p107
                      replace q107 := eq_true q107
                      go_wp2
                      go_ret
                      exact ⟨by first | rfl | (simp; done) | (simp [*]; done), by repeat (first | exact Drawn0.refl _ | apply Drawn0.step)⟩
                  · rw [if_neg c12] at H
                    exact absurd H (by simp)
                · rw [if_neg c11] at H
                  exact absurd H (by simp)
              · rw [if_neg c10] at H
                have c10b0 : decide (x6_2 < x3_2) = false := decide_eq_false c10
                clear c10
                by_cases c14 : x4_2 < x5_2
                · rw [if_pos c14] at H
                  have c14b0 : decide (x4_2 < x5_2) = true := decide_eq_true c14
                  clear c14
                  obtain rfl := Option.some.inj H
                  go_wp2
                  go_ret
                  exact ⟨by first | rfl | (simp; done) | (simp [*]; done), by repeat (first | exact Drawn0.refl _ | apply Drawn0.step)⟩
                · rw [if_neg c14] at H
                  have c14b0 : decide (x4_2 < x5_2) = false := decide_eq_false c14
                  clear c14
                  by_cases c15 : x4_2 > 1114111
                  · rw [if_pos c15] at H
                    have c15b0 : decide (1114111 < x4_2) = true := decide_eq_true c15
                    clear c15
                    obtain rfl := Option.some.inj H
                    go_wp2
                    go_ret
                    exact ⟨by first | rfl | (simp; done) | (simp [*]; done), by repeat (first | exact Drawn0.refl _ | apply Drawn0.step)⟩
                  · rw [if_neg c15] at H
                    have c15b0 : decide (1114111 < x4_2) = false := decide_eq_false c15
                    clear c15
                    by_cases c16 : x4_2 ≥ 55296
                    · rw [if_pos c16] at H
                      have c16b0 : decide (55296 ≤ x4_2) = true := decide_eq_true c16
                      clear c16
                      by_cases c17 : x4_2 ≤ 57343
                      · rw [if_pos c17] at H
                        have c17b0 : decide (x4_2 ≤ 57343) = true := decide_eq_true c17
                        clear c17
                        obtain rfl := Option.some.inj H
                        go_wp2
                        go_ret
                        exact ⟨by first | rfl | (simp; done) | (simp [*]; done), by repeat (first | exact Drawn0.refl _ | apply Drawn0.step)⟩
                      · rw [if_neg c17] at H
                        have c17b0 : decide (x4_2 ≤ 57343) = false := decide_eq_false c17
                        clear c17
                        obtain rfl := Option.some.inj H
                        go_wp2
                        go_ret
                        exact ⟨by first | rfl | (simp; done) | (simp [*]; done), by repeat (first | exact Drawn0.refl _ | apply Drawn0.step)⟩
                    · rw [if_neg c16] at H
                      have c16b0 : decide (55296 ≤ x4_2) = false := decide_eq_false c16
                      clear c16
                      obtain rfl := Option.some.inj H
                      go_wp2
                      go_ret
                      exact ⟨by first | rfl | (simp; done) | (simp [*]; done), by repeat (first | exact Drawn0.refl _ | apply Drawn0.step)⟩
  · rw [if_neg c2] at H
    exact absurd H (by simp)

def dovecoteref1_Utf.l0 : Nat → List Int → Option (Bool)
  | 0, _ => none
  | k + 1, x0 => if (x0.length : Int) > 0 then ((dovecoteref1_point.f k x0).bind fun t109 => (if t109 = 0 then (some false) else (if 0 ≤ t109 then (if t109 ≤ (x0.length : Int) then (dovecoteref1_Utf.l0 k (x0.drop (t109 : Int).toNat)) else (none)) else (none)))) else (some true)
def dovecoteref1_Utf.f (k : Nat) (l0 : List Int) : Option (Bool) := dovecoteref1_Utf.l0 k l0
theorem dovecoteref1_Utf.mono_l : ∀ k, (∀ y0, LeO (dovecoteref1_Utf.l0 k y0) (dovecoteref1_Utf.l0 (k + 1) y0))
  | 0 => fun _ r h => by simp [dovecoteref1_Utf.l0] at h
  | k + 1 => by
    have ih0 := dovecoteref1_Utf.mono_l k
    · intro y0
      unfold dovecoteref1_Utf.l0
      repeat' first
      | (with_reducible exact ih0 _)
      | (with_reducible exact dovecoteref1_point.mono _ _)
      | (with_reducible exact LeO.refl _)
      | (with_reducible exact LeO.none _)
      | (with_reducible refine LeO.ite ?_ ?_)
      | (with_reducible refine LeO.bind ?_ (fun _ => ?_))
      | exact ih0 _
      | exact dovecoteref1_point.mono _ _
      | exact LeO.none _
      | refine LeO.ite ?_ ?_
      | refine LeO.bind ?_ (fun _ => ?_)
theorem dovecoteref1_Utf.mono : ∀ a0 k, LeO (dovecoteref1_Utf.f k a0) (dovecoteref1_Utf.f (k + 1) a0) := by
  intro a0 k
  have ih0 := dovecoteref1_Utf.mono_l k
  unfold dovecoteref1_Utf.f
  repeat' first
      | (with_reducible exact ih0 _)
      | (with_reducible exact dovecoteref1_point.mono _ _)
      | (with_reducible exact LeO.refl _)
      | (with_reducible exact LeO.none _)
      | (with_reducible refine LeO.ite ?_ ?_)
      | (with_reducible refine LeO.bind ?_ (fun _ => ?_))
      | exact ih0 _
      | exact dovecoteref1_point.mono _ _
      | exact LeO.none _
      | refine LeO.ite ?_ ?_
      | refine LeO.bind ?_ (fun _ => ?_)
set_option maxHeartbeats 8000000 in
set_option maxRecDepth 100000 in
theorem dovecoteref1_Utf.calls (k : Nat) (P0_ : Nat → Prop) (A0 : Option Addr) (c0 : Nat) (l0 : List Int) (r : Bool) (w : World) (hs0 : Kd.V (Kd.int .u8) 5 w w.heap.size (fun k_ => P0_ k_) (.slice A0 l0.length c0) l0) (h : dovecoteref1_Utf.f k l0 = some r) :
    Calls Tryd.prog 61 #[.slice A0 l0.length c0] w fun e w' => e = .returned (.bool r) ∧ Below w.heap.size w w' := by
  have HO0 := Aside0.mk (show Kd.V (Kd.int .u8) 5 w w.heap.size (fun k_ => (P0_ k_ ∨ w.heap.size ≤ k_)) (.slice A0 l0.length c0) l0 from Kd.V_mono hs0 (fun k_ hk => .inl hk))
  have HB := Aside0.mk (Below.refl w.heap.size w)
  have H : (dovecoteref1_Utf.l0 k l0) = some r := h
  clear h
  have H' := Aside0.mk H
  clear H
  go_enter Tryd.func61, Tryd.ntmps61
  go_wp2
  go_loopg [0] k (fun kq v0 w' => ∃ (x0_1 : List Int), Aside0 (dovecoteref1_Utf.l0 kq x0_1 = some r) ∧ Aside0 (kq ≤ k) ∧ Aside0 (Kd.V (Kd.int .u8) 5 w' w.heap.size (fun k_ => (P0_ k_ ∨ w.heap.size ≤ k_)) v0 x0_1) ∧ Aside0 (Below w.heap.size w w'))
  case atStart => exact ⟨(l0), H', ⟨Nat.le_refl _⟩, ⟨by (with_reducible repeat (first | apply Kd.V_alloc | apply Kd.V_drewN | apply Kd.V_drew)); exact HO0.out⟩, ⟨by repeat (first | (with_reducible first | exact HB.out | apply below_alloc | apply pw_below_drewN | apply below_drew1) | exact HB.out)⟩⟩
  case round =>
    clear H'
    obtain ⟨x0_1, HA, HK1, HO_0, HB⟩ := hrel
    cases gk with
    | zero => exact absurd HA.out (by simp [dovecoteref1_Utf.l0])
    | succ k1 =>
      have H := HA.out
      clear HA
      simp only [dovecoteref1_Utf.l0] at H
      by_cases c2 : (x0_1.length : Int) > 0
      · rw [if_pos c2] at H
        have c2b0 : decide (0 < (x0_1.length : Int)) = true := decide_eq_true c2
        have c2b1 : decide (0 < x0_1.length) = true := decide_eq_true (by omega)
        clear c2
        replace H := Option.bind_eq_some_iff.mp H
        obtain ⟨t109, A30, H⟩ := H
        replace H : (if t109 = 0 then (some false) else (if 0 ≤ t109 then (if t109 ≤ (x0_1.length : Int) then (dovecoteref1_Utf.l0 k1 (x0_1.drop (t109 : Int).toNat)) else (none)) else (none))) = some r := H
        have A3 := Aside0.mk A30
        clear A30
        by_cases c4 : t109 = 0
        · rw [if_pos c4] at H
          have c4b0 : (t109 == 0) = true := beq_iff_eq.mpr c4
          have c4b1 : (t109 != 0) = false := bne_eq_false_iff_eq.mpr c4
          clear c4
          obtain rfl := Option.some.inj H
          obtain ⟨Ao5, co5, eo5⟩ := Kd.V_slice HO_0.out
          subst eo5
          go_wp2_with (first | ((with_reducible refine gate_callee (f := 66) rfl ?_); refine goesL_ (some 8) rfl rfl Tryd.func66 (by kernel_rfl) rfl #[.slice Ao5 x0_1.length co5] rfl (by (try simp only [List.map_toArray, List.map_cons, List.map_nil]); first | done | rfl | (simp only [List.length_drop, List.length_take]; rfl)) ?_; (with_reducible refine (dovecoteref1_point.calls k1 _ _ x0_1 t109 _ ?side1 ?side2 A3.out).mono ?_); (case side1 => repeat (first | exact (Kd.V_reads' HO_0.out).2.2 | (with_reducible refine Kd.C_alloc ?_ _) | (with_reducible refine Kd.C_drewN ?_ _) | (with_reducible refine Kd.C_drew ?_))); (case side2 => exact (Kd.V_reads' HO_0.out).2.1); rintro e w' ⟨rfl, ⟨nd, rfl⟩⟩; refine ⟨_, rfl, ?_⟩))
          go_ret
          exact ⟨by first | rfl | (simp [errW_none, errW_some] <;> rfl) | (simp [*, errW_none, errW_some] <;> rfl), by repeat (first | (with_reducible first | exact HB.out | apply below_alloc | apply pw_below_drewN | apply below_drew1) | exact HB.out)⟩
        · rw [if_neg c4] at H
          have c4b0 : (t109 == 0) = false := beq_eq_false_iff_ne.mpr c4
          have c4b1 : (t109 != 0) = true := bne_iff_ne.mpr c4
          by_cases c6 : 0 ≤ t109
          · rw [if_pos c6] at H
            have c6b0 := eq_true c6
            have c6b1 : decide (0 ≤ t109) = true := decide_eq_true c6
            clear c6
            by_cases c7 : t109 ≤ (x0_1.length : Int)
            · rw [if_pos c7] at H
              have c7b0 := eq_true c7
              have c7b1 : decide (t109 ≤ (x0_1.length : Int)) = true := decide_eq_true c7
              clear c7
              obtain ⟨y110, hy110⟩ : ∃ y_ : List Int, y_ = (x0_1.drop (t109 : Int).toNat) := ⟨_, rfl⟩
              replace H : (dovecoteref1_Utf.l0 k1 y110) = some r := by first | (rw [hy110]; with_reducible exact H) | (have H2_ := (Option.bind_some _ _).symm.trans H; rw [hy110]; with_reducible exact H2_) | (have H2_ := (Option.bind_some _ _).symm.trans H; with_reducible exact H2_) | with_reducible exact H | (rw [hy110]; exact H) | exact H
              have Ny110 := Aside0.mk hy110
              clear hy110
              have H' := Aside0.mk H
              clear H
              obtain ⟨Ao8, co8, eo8⟩ := Kd.V_slice HO_0.out
              subst eo8
              go_wp2_with (first | ((with_reducible refine gate_callee (f := 66) rfl ?_); refine goesL_ (some 8) rfl rfl Tryd.func66 (by kernel_rfl) rfl #[.slice Ao8 x0_1.length co8] rfl (by (try simp only [List.map_toArray, List.map_cons, List.map_nil]); first | done | rfl | (simp only [List.length_drop, List.length_take]; rfl)) ?_; (with_reducible refine (dovecoteref1_point.calls k1 _ _ x0_1 t109 _ ?side1 ?side2 A3.out).mono ?_); (case side1 => repeat (first | exact (Kd.V_reads' HO_0.out).2.2 | (with_reducible refine Kd.C_alloc ?_ _) | (with_reducible refine Kd.C_drewN ?_ _) | (with_reducible refine Kd.C_drew ?_))); (case side2 => exact (Kd.V_reads' HO_0.out).2.1); rintro e w' ⟨rfl, ⟨nd, rfl⟩⟩; refine ⟨_, rfl, ?_⟩; have q9 : (t109 : Int) ≤ ((x0_1.length : Int) : Int) := of_decide_eq_true (by first | (with_reducible assumption) | assumption); obtain ⟨i09, hi09, _, hsz9, _⟩ := info_parts info5; have hroom9 : x0_1.length ≤ co8 := (Kd.V_reads' HO_0.out).2.1; have hC9 : Kd.F (Kd.int .u8) _ _ Ao8 x0_1.length x0_1 := (Kd.V_at (base := w.heap.size) HO_0.out).2.2; have q09 : (0 : Int) ≤ (t109 : Int) := of_decide_eq_true (by first | (with_reducible assumption) | assumption); have hcut9 := cut_from (P := Tryd.prog) 35 5 .i64 Tryd.underlying35 hi09 1 hsz9 Ao8 x0_1.length co8 t109 q09 q9; have hr9 := Kd.F_cut (m := (t109 : Int).toNat) (c := co8) hC9 (by omega) hroom9; obtain ⟨A9, hA9⟩ : ∃ A1, A1 = (if co8 = (t109 : Int).toNat then Ao8 else (Ao8 : Option Addr).map (·.add ((t109 : Int).toNat * 1))) := ⟨_, rfl⟩; obtain ⟨c9, hc9⟩ : ∃ c1, c1 = co8 - (t109 : Int).toNat := ⟨_, rfl⟩; have hy9 : y110.length = x0_1.length - (t109 : Int).toNat := (by rw [Ny110.out, List.length_drop] <;> omega); rw [show (x0_1).drop (t109 : Int).toNat = y110 from Ny110.out.symm] at hr9; replace hr9 : Kd.F (Kd.int .u8) _ _ A9 y110.length y110 := (by rw [hA9]; exact hr9); rw [← hy9, ← hA9, ← hc9] at hcut9; have HO114 := Aside0.mk (show Kd.V (Kd.int .u8) 5 _ w.heap.size _ (.slice A9 y110.length c9) y110 from Kd.V_mk (by rw [hy9, hc9]; exact Nat.sub_le_sub_right hroom9 _) hr9); have HC114 := Aside0.mk (show y110.length ≤ c9 from by rw [hy9, hc9]; exact Nat.sub_le_sub_right hroom9 _); clear hr9 hC9 hroom9 hi09 hsz9 hc9; have KY9 := Aside0.mk hy9; have KA9 := Aside0.mk hA9; clear hy9 hA9; replace q9 := eq_true q9))
              go_roundg k1
              case measure => have := HK1.out; omega
              case rel => exact ⟨(y110), H', ⟨by have := HK1.out; omega⟩, ⟨by (with_reducible repeat (first | apply Kd.V_alloc | apply Kd.V_drewN | apply Kd.V_drew)); exact HO114.out⟩, ⟨by repeat (first | (with_reducible first | exact HB.out | apply below_alloc | apply pw_below_drewN | apply below_drew1) | exact HB.out)⟩⟩
            · rw [if_neg c7] at H
              exact absurd H (by simp)
          · rw [if_neg c6] at H
            exact absurd H (by simp)
      · rw [if_neg c2] at H
        have c2b0 : decide (0 < (x0_1.length : Int)) = false := decide_eq_false c2
        have c2b1 : decide (0 < x0_1.length) = false := decide_eq_false (by omega)
        clear c2
        obtain rfl := Option.some.inj H
        obtain ⟨Ao10, co10, eo10⟩ := Kd.V_slice HO_0.out
        subst eo10
        go_wp2
        go_ret
        exact ⟨by first | rfl | (simp [errW_none, errW_some] <;> rfl) | (simp [*, errW_none, errW_some] <;> rfl), by repeat (first | (with_reducible first | exact HB.out | apply below_alloc | apply pw_below_drewN | apply below_drew1) | exact HB.out)⟩

end Go.Proofs.YtondmmoabmhpfaaDoor.R
end
section
set_option linter.unusedVariables false
namespace Dv
open Go.Lib
def utfLen (n b0 b1 b2 b3 : Nat) : Nat :=
  if 248 ≤ b0 then 0
  else if 240 ≤ b0 then
    (if n < 4 then 0 else if b1 / 64 = 2 ∧ b2 / 64 = 2 ∧ b3 / 64 = 2 then
      (if ((b0 % 8 * 64 + b1 % 64) * 64 + b2 % 64) * 64 + b3 % 64 < 65536 ∨ ((b0 % 8 * 64 + b1 % 64) * 64 + b2 % 64) * 64 + b3 % 64 > 1114111 then 0 else 4) else 0)
  else if 224 ≤ b0 then
    (if n < 3 then 0 else if b1 / 64 = 2 ∧ b2 / 64 = 2 then
      (if (b0 % 16 * 64 + b1 % 64) * 64 + b2 % 64 < 2048 ∨ (55296 ≤ (b0 % 16 * 64 + b1 % 64) * 64 + b2 % 64 ∧ (b0 % 16 * 64 + b1 % 64) * 64 + b2 % 64 ≤ 57343) then 0 else 3) else 0)
  else if 192 ≤ b0 then
    (if n < 2 then 0 else if b1 / 64 = 2 then (if b0 % 32 * 64 + b1 % 64 < 128 then 0 else 2) else 0)
  else if 128 ≤ b0 then 0
  else if b0 = 0 then 0 else 1
def utfAt (l : List UInt8) : Nat := utfLen l.length (l.getD 0 0).toNat (l.getD 1 0).toNat (l.getD 2 0).toNat (l.getD 3 0).toNat
def utfF : Nat → List UInt8 → Bool
  | 0, _ => true
  | n + 1, l => if l = [] then true else if utfAt l = 0 then false else utfF n (l.drop (utfAt l))
def utf (l : List UInt8) : Bool := utfF l.length l

theorem utfLen_le (n b0 b1 b2 b3 : Nat) (hn : 1 ≤ n) : utfLen n b0 b1 b2 b3 ≤ n := by
  unfold utfLen; repeat' split
  all_goals omega
theorem utfAt_le (l : List UInt8) (h : l ≠ []) : utfAt l ≤ l.length := utfLen_le _ _ _ _ _ (List.length_pos_iff.2 h)
theorem utfF_more : ∀ (n m : Nat) (l : List UInt8), l.length ≤ n → l.length ≤ m → utfF n l = utfF m l
  | 0, m, l, h, _ => by
    have : l = [] := List.eq_nil_of_length_eq_zero (by omega)
    subst this; cases m <;> simp [utfF]
  | n + 1, 0, l, _, h => by
    have : l = [] := List.eq_nil_of_length_eq_zero (by omega)
    subst this; simp [utfF]
  | n + 1, m + 1, l, h, h' => by
    simp only [utfF]
    by_cases hl : l = []
    · simp [hl]
    · rw [if_neg hl, if_neg hl]
      by_cases h0 : utfAt l = 0
      · simp [h0]
      · rw [if_neg h0, if_neg h0]
        have := List.length_pos_iff.2 hl
        exact utfF_more n m _ (by rw [List.length_drop]; omega) (by rw [List.length_drop]; omega)
theorem utf_nil : utf [] = true := rfl
theorem utf_step (l : List UInt8) (h : l ≠ []) : utf l = if utfAt l = 0 then false else utf (l.drop (utfAt l)) := by
  have hp := List.length_pos_iff.2 h
  have : utf l = utfF (l.length - 1 + 1) l := by unfold utf; congr 1; omega
  rw [this]; simp only [utfF]; rw [if_neg h]
  by_cases h0 : utfAt l = 0
  · simp [h0]
  · rw [if_neg h0, if_neg h0]
    exact utfF_more _ _ _ (by rw [List.length_drop]; omega) (by rw [List.length_drop]; omega)

set_option maxHeartbeats 4000000 in
/-- one code point: Go's and the page's -/
theorem decode_utf (n b0 b1 b2 b3 : Nat) (hn : 1 ≤ n) (h0 : b0 < 256) (h1 : b1 < 256) (h2 : b2 < 256) (h3 : b3 < 256) (hz : b0 ≠ 0) :
    (utfLen n b0 b1 b2 b3 = 0 ↔ (decodeN n b0 b1 b2 b3).1 = 65533 ∧ (decodeN n b0 b1 b2 b3).2 = 1) ∧ (utfLen n b0 b1 b2 b3 ≠ 0 → utfLen n b0 b1 b2 b3 = (decodeN n b0 b1 b2 b3).2) := by
  by_cases c1 : b0 < 128
  · have e1 : utfLen n b0 b1 b2 b3 = 1 := by unfold utfLen; rw [if_neg (by omega), if_neg (by omega), if_neg (by omega), if_neg (by omega), if_neg (by omega), if_neg hz]
    have e2 : decodeN n b0 b1 b2 b3 = (b0, 1) := by unfold decodeN; rw [if_pos c1]
    rw [e1, e2]; constructor
    · constructor <;> intro h <;> simp at h ⊢; omega
    · simp
  by_cases c2 : b0 < 192
  · have e1 : utfLen n b0 b1 b2 b3 = 0 := by unfold utfLen; rw [if_neg (by omega), if_neg (by omega), if_neg (by omega), if_neg (by omega), if_pos (by omega)]
    have e2 : decodeN n b0 b1 b2 b3 = (65533, 1) := by unfold decodeN; rw [if_neg c1, if_neg (by omega), if_neg (by omega), if_neg (by omega)]
    rw [e1, e2]; simp
  by_cases c3 : b0 < 224
  · have e1 : utfLen n b0 b1 b2 b3 = if n < 2 then 0 else if b1 / 64 = 2 then (if b0 % 32 * 64 + b1 % 64 < 128 then 0 else 2) else 0 := by unfold utfLen; rw [if_neg (by omega), if_neg (by omega), if_neg (by omega), if_pos (by omega)]
    have e2 : decodeN n b0 b1 b2 b3 = if 1 < n ∧ b1 / 64 = 2 then (if b0 % 32 * 64 + b1 % 64 ≥ 128 then (b0 % 32 * 64 + b1 % 64, 2) else (65533, 1)) else (65533, 1) := by
      unfold decodeN; rw [if_neg c1]
      by_cases d : 1 < n ∧ b1 / 64 = 2
      · rw [if_pos ⟨by omega, d⟩, if_pos d]
      · rw [if_neg (fun h => d h.2), if_neg (by omega), if_neg (by omega), if_neg d]
    generalize b0 % 32 * 64 + b1 % 64 = p at *
    rw [e1, e2]
    by_cases d : 1 < n
    · by_cases d2 : b1 / 64 = 2
      · by_cases f : p < 128
        · simp [d, d2, f, show ¬ n < 2 by omega, show ¬ 128 ≤ p by omega]
        · simp [d, d2, f, show ¬ n < 2 by omega, show 128 ≤ p by omega]
      · simp [d2]
    · simp [d, show n < 2 by omega]
  by_cases c4 : b0 < 240
  · have e1 : utfLen n b0 b1 b2 b3 = if n < 3 then 0 else if b1 / 64 = 2 ∧ b2 / 64 = 2 then
      (if (b0 % 16 * 64 + b1 % 64) * 64 + b2 % 64 < 2048 ∨ (55296 ≤ (b0 % 16 * 64 + b1 % 64) * 64 + b2 % 64 ∧ (b0 % 16 * 64 + b1 % 64) * 64 + b2 % 64 ≤ 57343) then 0 else 3) else 0 := by unfold utfLen; rw [if_neg (by omega), if_neg (by omega), if_pos (by omega)]
    have ea : b0 % 16 * 4096 + b1 % 64 * 64 + b2 % 64 = (b0 % 16 * 64 + b1 % 64) * 64 + b2 % 64 := by omega
    have e2 : decodeN n b0 b1 b2 b3 = if (1 < n ∧ b1 / 64 = 2) ∧ (2 < n ∧ b2 / 64 = 2) then (if (b0 % 16 * 64 + b1 % 64) * 64 + b2 % 64 ≥ 2048 ∧ ((b0 % 16 * 64 + b1 % 64) * 64 + b2 % 64 < 55296 ∨ (57344 ≤ (b0 % 16 * 64 + b1 % 64) * 64 + b2 % 64 ∧ (b0 % 16 * 64 + b1 % 64) * 64 + b2 % 64 ≤ 1114111)) then ((b0 % 16 * 64 + b1 % 64) * 64 + b2 % 64, 3) else (65533, 1)) else (65533, 1) := by
      unfold decodeN; rw [if_neg c1, if_neg (by omega), ea]
      by_cases d : (1 < n ∧ b1 / 64 = 2) ∧ (2 < n ∧ b2 / 64 = 2)
      · rw [if_pos ⟨by omega, d⟩, if_pos d]
      · rw [if_neg (fun h => d h.2), if_neg (by omega), if_neg d]
    have hp : (b0 % 16 * 64 + b1 % 64) * 64 + b2 % 64 < 65536 := by omega
    clear ea
    generalize (b0 % 16 * 64 + b1 % 64) * 64 + b2 % 64 = p at *
    rw [e1, e2]
    by_cases d : 2 < n
    · by_cases d2 : b1 / 64 = 2
      · by_cases d3 : b2 / 64 = 2
        · by_cases f : p < 2048 ∨ (55296 ≤ p ∧ p ≤ 57343)
          · rw [if_neg (by omega), if_pos ⟨d2, d3⟩, if_pos f, if_pos ⟨⟨by omega, d2⟩, d, d3⟩, if_neg (by omega)]; simp
          · rw [if_neg (by omega), if_pos ⟨d2, d3⟩, if_neg f, if_pos ⟨⟨by omega, d2⟩, d, d3⟩, if_pos (by omega)]; simp
        · simp [d3]
      · simp [d2]
    · simp [d, show n < 3 by omega]
  by_cases c5 : b0 < 248
  · have e1 : utfLen n b0 b1 b2 b3 = if n < 4 then 0 else if b1 / 64 = 2 ∧ b2 / 64 = 2 ∧ b3 / 64 = 2 then
      (if ((b0 % 8 * 64 + b1 % 64) * 64 + b2 % 64) * 64 + b3 % 64 < 65536 ∨ ((b0 % 8 * 64 + b1 % 64) * 64 + b2 % 64) * 64 + b3 % 64 > 1114111 then 0 else 4) else 0 := by unfold utfLen; rw [if_neg (by omega), if_pos (by omega)]
    have ea : b0 % 8 * 262144 + b1 % 64 * 4096 + b2 % 64 * 64 + b3 % 64 = ((b0 % 8 * 64 + b1 % 64) * 64 + b2 % 64) * 64 + b3 % 64 := by omega
    have e2 : decodeN n b0 b1 b2 b3 = if (1 < n ∧ b1 / 64 = 2) ∧ (2 < n ∧ b2 / 64 = 2) ∧ (3 < n ∧ b3 / 64 = 2) then (if ((b0 % 8 * 64 + b1 % 64) * 64 + b2 % 64) * 64 + b3 % 64 ≥ 65536 ∧ (((b0 % 8 * 64 + b1 % 64) * 64 + b2 % 64) * 64 + b3 % 64 < 55296 ∨ (57344 ≤ ((b0 % 8 * 64 + b1 % 64) * 64 + b2 % 64) * 64 + b3 % 64 ∧ ((b0 % 8 * 64 + b1 % 64) * 64 + b2 % 64) * 64 + b3 % 64 ≤ 1114111)) then (((b0 % 8 * 64 + b1 % 64) * 64 + b2 % 64) * 64 + b3 % 64, 4) else (65533, 1)) else (65533, 1) := by
      unfold decodeN; rw [if_neg c1, if_neg (by omega), if_neg (by omega), ea]
      by_cases d : (1 < n ∧ b1 / 64 = 2) ∧ (2 < n ∧ b2 / 64 = 2) ∧ (3 < n ∧ b3 / 64 = 2)
      · rw [if_pos ⟨by omega, d⟩, if_pos d]
      · rw [if_neg (fun h => d h.2), if_neg d]
    clear ea
    generalize ((b0 % 8 * 64 + b1 % 64) * 64 + b2 % 64) * 64 + b3 % 64 = p at *
    rw [e1, e2]
    by_cases d : 3 < n
    · by_cases d2 : b1 / 64 = 2
      · by_cases d3 : b2 / 64 = 2
        · by_cases d4 : b3 / 64 = 2
          · by_cases f : p < 65536 ∨ p > 1114111
            · rw [if_neg (by omega), if_pos ⟨d2, d3, d4⟩, if_pos f, if_pos ⟨⟨by omega, d2⟩, ⟨by omega, d3⟩, d, d4⟩, if_neg (by omega)]; simp
            · rw [if_neg (by omega), if_pos ⟨d2, d3, d4⟩, if_neg f, if_pos ⟨⟨by omega, d2⟩, ⟨by omega, d3⟩, d, d4⟩, if_pos (by omega)]; simp
          · simp [d4]
        · simp [d3]
      · simp [d2]
    · simp [d, show n < 4 by omega]
  · have e1 : utfLen n b0 b1 b2 b3 = 0 := by unfold utfLen; rw [if_pos (by omega)]
    have e2 : decodeN n b0 b1 b2 b3 = (65533, 1) := by unfold decodeN; rw [if_neg c1, if_neg (by omega), if_neg (by omega), if_neg (by omega)]
    rw [e1, e2]; simp
theorem utfLen_nz (n b0 b1 b2 b3 : Nat) (h : utfLen n b0 b1 b2 b3 ≠ 0) : b0 ≠ 0 ∧ (1 < utfLen n b0 b1 b2 b3 → b1 ≠ 0) ∧ (2 < utfLen n b0 b1 b2 b3 → b2 ≠ 0) ∧ (3 < utfLen n b0 b1 b2 b3 → b3 ≠ 0) ∧ utfLen n b0 b1 b2 b3 ≤ 4 := by
  unfold utfLen at *
  revert h
  repeat' split
  all_goals (intro h; omega)
theorem getD_mem {l : List UInt8} {i : Nat} (h : i < l.length) : l.getD i 0 ∈ l := by
  rw [List.getD_eq_getElem?_getD, List.getElem?_eq_getElem h]; exact List.getElem_mem h
theorem zero_take (l : List UInt8) (k : Nat) (hk : k ≤ 4) (hl : k ≤ l.length) (h0 : 0 < k → (l.getD 0 0).toNat ≠ 0) (h1 : 1 < k → (l.getD 1 0).toNat ≠ 0) (h2 : 2 < k → (l.getD 2 0).toNat ≠ 0) (h3 : 3 < k → (l.getD 3 0).toNat ≠ 0) : (0 : UInt8) ∉ l.take k := by
  intro hm
  obtain ⟨i, hi, he⟩ := List.mem_iff_getElem.1 hm
  rw [List.length_take] at hi
  rw [List.getElem_take] at he
  have : l.getD i 0 = 0 := by rw [List.getD_eq_getElem?_getD, List.getElem?_eq_getElem (by omega)]; exact he
  match i, hi with
  | 0, _ => exact h0 (by omega) (by rw [this]; rfl)
  | 1, _ => exact h1 (by omega) (by rw [this]; rfl)
  | 2, _ => exact h2 (by omega) (by rw [this]; rfl)
  | 3, _ => exact h3 (by omega) (by rw [this]; rfl)
  | n + 4, _ => omega
theorem valid_utf : ∀ (n : Nat) (l : List UInt8), l.length ≤ n → utf l = (validD l && decide ((0 : UInt8) ∉ l))
  | 0, l, h => by
    have : l = [] := List.eq_nil_of_length_eq_zero (by omega)
    subst this; simp [utf_nil, validD_nil]
  | n + 1, l, h => by
    by_cases hl : l = []
    · subst hl; simp [utf_nil, validD_nil]
    have hp := List.length_pos_iff.2 hl
    rw [utf_step l hl, validD_step l hl, decodeL_N]
    by_cases hz : (l.getD 0 0).toNat = 0
    · have e : utfAt l = 0 := by unfold utfAt utfLen; rw [hz]; simp
      have hm : (0 : UInt8) ∈ l := by
        have := getD_mem (l := l) (i := 0) hp
        rwa [show l.getD 0 0 = 0 from UInt8.toNat_inj.1 (by simpa using hz)] at this
      rw [if_pos e]; simp [hm]
    obtain ⟨d1, d2⟩ := decode_utf l.length (l.getD 0 0).toNat (l.getD 1 0).toNat (l.getD 2 0).toNat (l.getD 3 0).toNat hp (l.getD 0 0).toNat_lt (l.getD 1 0).toNat_lt (l.getD 2 0).toNat_lt (l.getD 3 0).toNat_lt hz
    by_cases h0 : utfAt l = 0
    · rw [if_pos h0, if_pos (d1.1 h0)]; simp
    · rw [if_neg h0, if_neg (fun hh => h0 (d1.2 hh)), ← d2 h0]
      have hle := utfAt_le l hl
      change utf (l.drop (utfAt l)) = (validD (l.drop (utfAt l)) && _)
      rw [valid_utf n (l.drop (utfAt l)) (by rw [List.length_drop]; omega)]
      obtain ⟨z0, z1, z2, z3, z4⟩ := utfLen_nz _ _ _ _ _ h0
      have ht : (0 : UInt8) ∉ l.take (utfAt l) := zero_take l _ z4 hle (fun _ => z0) z1 z2 z3
      have e : (0 : UInt8) ∉ l ↔ (0 : UInt8) ∉ l.drop (utfAt l) := by
        constructor
        · intro hn hm; exact hn (List.mem_of_mem_drop hm)
        · intro hn hm
          rw [← List.take_append_drop (utfAt l) l, List.mem_append] at hm
          exact hm.elim ht hn
      simp [e]
theorem utf_valid (l : List UInt8) : utf l = (validD l && decide ((0 : UInt8) ∉ l)) := valid_utf l.length l (Nat.le_refl _)
end Dv
end
section
namespace Go.Proofs.YtondmmoabmhpfaaDoor.R
open Go.RowKit Go.Proofs.YtondmmoabmhpfaaDoorW.PrintWords Go.Proofs.YtondmmoabmhpfaaDoorW.PrintLast Go.Proofs.YtondmmoabmhpfaaDoorW.PrintMore
theorem wraps_i64 (n : Int) (h₀ : 0 ≤ n) (h₁ : n < 2 ^ 63) : IntKind.i64.wrap n = n := by rw [IntKind.wrap_i64]; omega
theorem i64_and7 {x : Int} (h₀ : 0 ≤ x) (h₁ : x < 256) : Go.bits .and .i64 x 7 = x % 8 := bits_mask .i64 63 (by decide) wraps_i64 3 (by decide) x h₀ (by omega)
theorem i64_and15 {x : Int} (h₀ : 0 ≤ x) (h₁ : x < 256) : Go.bits .and .i64 x 15 = x % 16 := bits_mask .i64 63 (by decide) wraps_i64 4 (by decide) x h₀ (by omega)
theorem i64_and31 {x : Int} (h₀ : 0 ≤ x) (h₁ : x < 256) : Go.bits .and .i64 x 31 = x % 32 := bits_mask .i64 63 (by decide) wraps_i64 5 (by decide) x h₀ (by omega)
theorem u8_and192 : ∀ x : Fin 256, (Go.bits .and .u8 (x.val : Int) 192 = 128) ↔ x.val / 64 = 2 := by decide +kernel
theorem i64_or64 {x y : Int} (hx₀ : 0 ≤ x) (hx : x < 4294967296) (h₀ : 0 ≤ y) (h₁ : y < 64) : Go.bits .or .i64 (x * 64) y = x * 64 + y :=
  bits_join .i64 63 (by decide) wraps_i64 6 (x * 64) y (by omega) (by omega) (by omega) h₀ (by omega) (by omega)
def ints (l : List UInt8) : List Int := l.map fun b => (b.toNat : Int)
theorem ints_length (l : List UInt8) : (ints l).length = l.length := by simp [ints]
theorem rd_ints (l : List UInt8) (i : Int) : rd (ints l) i = ((l.getD i.toNat 0).toNat : Int) := by
  unfold rd ints
  rw [List.getD_eq_getElem?_getD, List.getD_eq_getElem?_getD, List.getElem?_map]
  cases l[i.toNat]? <;> simp
theorem wb (b : UInt8) : wrap64 ((b.toNat : Int)) = (b.toNat : Int) := by have := b.toNat_lt; unfold wrap64; omega
theorem and192 (b : UInt8) : (Go.bits .and .u8 (b.toNat : Int) 192 = 128) ↔ b.toNat / 64 = 2 := u8_and192 ⟨b.toNat, b.toNat_lt⟩
theorem and63 (b : UInt8) : wrap64 (Go.bits .and .u8 (b.toNat : Int) 63) = ((b.toNat % 64 : Nat) : Int) := by
  have := b.toNat_lt
  have h := u8_and63 (x := (b.toNat : Int)) (by omega) (by omega)
  unfold wrap64; omega
theorem step_p (p : Int) (c : UInt8) (h0 : 0 ≤ p) (h1 : p < 1000000000) : Go.bits .or .i64 (wrap64 (p * 64)) (wrap64 (Go.bits .and .u8 (c.toNat : Int) 63)) = p * 64 + ((c.toNat % 64 : Nat) : Int) := by
  have := c.toNat_lt
  rw [and63, show wrap64 (p * 64) = p * 64 by unfold wrap64; omega, i64_or64 h0 (by omega) (by omega) (by omega)]

theorem l0_step {k : Nat} {l : List UInt8} {n p least i : Int} (h0 : 0 ≤ i) (hn : i < n) (hl : n ≤ (l.length : Int)) (h4 : n ≤ 4) (hp : 0 ≤ p) (hp1 : p < 1000000000) :
    dovecoteref1_point.l0 (k + 1) (ints l) n p least i = if (l.getD i.toNat 0).toNat / 64 = 2 then dovecoteref1_point.l0 k (ints l) n (p * 64 + (((l.getD i.toNat 0).toNat % 64 : Nat) : Int)) least (i + 1) else some 0 := by
  rw [dovecoteref1_point.l0]
  rw [if_pos hn, if_pos h0, if_pos (by rw [ints_length]; omega), rd_ints, step_p _ _ hp hp1, show wrap64 (i + 1) = i + 1 by unfold wrap64; omega]
  by_cases h : (l.getD i.toNat 0).toNat / 64 = 2
  · rw [if_pos h, if_pos ((and192 _).2 h)]
  · rw [if_neg h, if_neg (fun hh => h ((and192 _).1 hh))]
theorem l0_end {k : Nat} {l : List UInt8} {n p least i : Int} (hn : ¬ i < n) :
    dovecoteref1_point.l0 (k + 1) (ints l) n p least i = some (if p < least ∨ p > 1114111 ∨ (55296 ≤ p ∧ p ≤ 57343) then 0 else n) := by
  rw [dovecoteref1_point.l0, if_neg hn]
  by_cases h1 : p < least
  · rw [if_pos h1, if_pos (.inl h1)]
  · rw [if_neg h1]
    by_cases h2 : p > 1114111
    · rw [if_pos h2, if_pos (.inr (.inl h2))]
    · rw [if_neg h2]
      by_cases h3 : p ≥ 55296
      · rw [if_pos h3]
        by_cases h4 : p ≤ 57343
        · rw [if_pos h4, if_pos (by omega)]
        · rw [if_neg h4, if_neg (by omega)]
      · rw [if_neg h3, if_neg (by omega)]
open Dv in
theorem point_f (l : List UInt8) (hl : l ≠ []) (k : Nat) : dovecoteref1_point.f (k + 6) (ints l) = some ((utfAt l : Nat) : Int) := by
  have hp := List.length_pos_iff.2 hl
  unfold dovecoteref1_point.f
  rw [if_pos (by rw [ints_length]; omega), rd_ints]
  have e0 : (0 : Int).toNat = 0 := rfl
  rw [e0]
  have hb0 := (l.getD 0 0).toNat_lt
  have hb1 := (l.getD 1 0).toNat_lt
  have hb2 := (l.getD 2 0).toNat_lt
  have hb3 := (l.getD 3 0).toNat_lt
  unfold utfAt utfLen
  rw [wb]
  generalize hx : (l.getD 0 0).toNat = b0 at *
  by_cases c1 : 248 ≤ b0
  · rw [if_pos (by omega), if_pos c1]; rfl
  rw [if_neg (by omega), if_neg c1]
  by_cases c2 : 240 ≤ b0
  · rw [if_pos (by omega), if_pos c2, i64_and7 (by omega) (by omega), dovecoteref1_point.j0, ints_length]
    by_cases d : l.length < 4
    · rw [if_pos (by omega), if_pos d]; rfl
    rw [if_neg (by omega), if_neg d, l0_step (by omega) (by omega) (by omega) (by omega) (by omega) (by omega)]
    rw [show (1 : Int).toNat = 1 from rfl, show (1 : Int) + 1 = 2 from rfl]
    by_cases f1 : (l.getD 1 0).toNat / 64 = 2
    · rw [if_pos f1, l0_step (by omega) (by omega) (by omega) (by omega) (by omega) (by omega), show (2 : Int).toNat = 2 from rfl, show (2 : Int) + 1 = 3 from rfl]
      by_cases f2 : (l.getD 2 0).toNat / 64 = 2
      · rw [if_pos f2, l0_step (by omega) (by omega) (by omega) (by omega) (by omega) (by omega), show (3 : Int).toNat = 3 from rfl, show (3 : Int) + 1 = 4 from rfl]
        by_cases f3 : (l.getD 3 0).toNat / 64 = 2
        · rw [if_pos f3, if_pos (show (l.getD 1 0).toNat / 64 = 2 ∧ (l.getD 2 0).toNat / 64 = 2 ∧ (l.getD 3 0).toNat / 64 = 2 from ⟨f1, f2, f3⟩), l0_end (by omega)]
          have e : (((b0 : Int) % 8 * 64 + (((l.getD 1 0).toNat % 64 : Nat) : Int)) * 64 + (((l.getD 2 0).toNat % 64 : Nat) : Int)) * 64 + (((l.getD 3 0).toNat % 64 : Nat) : Int) = ((((b0 % 8 * 64 + (l.getD 1 0).toNat % 64) * 64 + (l.getD 2 0).toNat % 64) * 64 + (l.getD 3 0).toNat % 64 : Nat) : Int) := by omega
          rw [e]
          generalize (((b0 % 8 * 64 + (l.getD 1 0).toNat % 64) * 64 + (l.getD 2 0).toNat % 64) * 64 + (l.getD 3 0).toNat % 64 : Nat) = p at *
          by_cases g : p < 65536 ∨ p > 1114111
          · rw [if_pos g, if_pos (by omega)]; rfl
          · rw [if_neg g, if_neg (by omega)]; rfl
        · rw [if_neg f3, if_neg (fun h => f3 h.2.2)]; rfl
      · rw [if_neg f2, if_neg (fun h => f2 h.2.1)]; rfl
    · rw [if_neg f1, if_neg (fun h => f1 h.1)]; rfl
  rw [if_neg (by omega), if_neg c2]
  by_cases c3 : 224 ≤ b0
  · rw [if_pos (by omega), if_pos c3, i64_and15 (by omega) (by omega), dovecoteref1_point.j0, ints_length]
    by_cases d : l.length < 3
    · rw [if_pos (by omega), if_pos d]; rfl
    rw [if_neg (by omega), if_neg d, l0_step (by omega) (by omega) (by omega) (by omega) (by omega) (by omega)]
    rw [show (1 : Int).toNat = 1 from rfl, show (1 : Int) + 1 = 2 from rfl]
    by_cases f1 : (l.getD 1 0).toNat / 64 = 2
    · rw [if_pos f1, l0_step (by omega) (by omega) (by omega) (by omega) (by omega) (by omega), show (2 : Int).toNat = 2 from rfl, show (2 : Int) + 1 = 3 from rfl]
      by_cases f2 : (l.getD 2 0).toNat / 64 = 2
      · rw [if_pos f2, if_pos (show (l.getD 1 0).toNat / 64 = 2 ∧ (l.getD 2 0).toNat / 64 = 2 from ⟨f1, f2⟩), l0_end (by omega)]
        have e : ((b0 : Int) % 16 * 64 + (((l.getD 1 0).toNat % 64 : Nat) : Int)) * 64 + (((l.getD 2 0).toNat % 64 : Nat) : Int) = (((b0 % 16 * 64 + (l.getD 1 0).toNat % 64) * 64 + (l.getD 2 0).toNat % 64 : Nat) : Int) := by omega
        rw [e]
        have hp : (b0 % 16 * 64 + (l.getD 1 0).toNat % 64) * 64 + (l.getD 2 0).toNat % 64 < 65536 := by omega
        generalize ((b0 % 16 * 64 + (l.getD 1 0).toNat % 64) * 64 + (l.getD 2 0).toNat % 64 : Nat) = p at *
        by_cases g : p < 2048 ∨ (55296 ≤ p ∧ p ≤ 57343)
        · rw [if_pos g, if_pos (by omega)]; rfl
        · rw [if_neg g, if_neg (by omega)]; rfl
      · rw [if_neg f2, if_neg (fun h => f2 h.2)]; rfl
    · rw [if_neg f1, if_neg (fun h => f1 h.1)]; rfl
  rw [if_neg (by omega), if_neg c3]
  by_cases c4 : 192 ≤ b0
  · rw [if_pos (by omega), if_pos c4, i64_and31 (by omega) (by omega), dovecoteref1_point.j0, ints_length]
    by_cases d : l.length < 2
    · rw [if_pos (by omega), if_pos d]; rfl
    rw [if_neg (by omega), if_neg d, l0_step (by omega) (by omega) (by omega) (by omega) (by omega) (by omega)]
    rw [show (1 : Int).toNat = 1 from rfl, show (1 : Int) + 1 = 2 from rfl]
    by_cases f1 : (l.getD 1 0).toNat / 64 = 2
    · rw [if_pos f1, l0_end (by omega), if_pos f1]
      have e : (b0 : Int) % 32 * 64 + (((l.getD 1 0).toNat % 64 : Nat) : Int) = ((b0 % 32 * 64 + (l.getD 1 0).toNat % 64 : Nat) : Int) := by omega
      rw [e]
      have hp : b0 % 32 * 64 + (l.getD 1 0).toNat % 64 < 2048 := by omega
      generalize (b0 % 32 * 64 + (l.getD 1 0).toNat % 64 : Nat) = p at *
      by_cases g : p < 128
      · rw [if_pos g, if_pos (by omega)]; rfl
      · rw [if_neg g, if_neg (by omega)]; rfl
    · rw [if_neg f1, if_neg f1]; rfl
  rw [if_neg (by omega), if_neg c4]
  by_cases c5 : 128 ≤ b0
  · rw [if_pos (by omega), if_pos c5]; rfl
  rw [if_neg (by omega), if_neg c5, dovecoteref1_point.j0, ints_length, if_neg (by omega), l0_end (by omega)]
  by_cases c6 : b0 = 0
  · rw [if_pos c6, if_pos (by omega)]; rfl
  · rw [if_neg c6, if_neg (by omega)]; rfl
theorem ints_drop (l : List UInt8) (n : Nat) : (ints l).drop n = ints (l.drop n) := by simp [ints, List.map_drop]
open Dv in
theorem Utf_l0 : ∀ (n : Nat) (l : List UInt8) (k : Nat), l.length ≤ n → n + 7 ≤ k → dovecoteref1_Utf.l0 k (ints l) = some (utf l)
  | n, l, k, hn, hk => by
    obtain ⟨k, rfl⟩ : ∃ m, k = m + 1 := ⟨k - 1, by omega⟩
    rw [dovecoteref1_Utf.l0, ints_length]
    by_cases h0 : l = []
    · subst h0; rfl
    have hp := List.length_pos_iff.2 h0
    have hle := utfAt_le l h0
    obtain ⟨k', rfl⟩ : ∃ m, k = m + 6 := ⟨k - 6, by omega⟩
    rw [if_pos (by omega), point_f l h0, utf_step l h0]
    simp only [Option.bind_some]
    by_cases hz : utfAt l = 0
    · rw [if_pos (by omega), if_pos hz]
    · rw [if_neg (by omega), if_neg hz, if_pos (by omega), if_pos (by omega), ints_drop, Int.toNat_natCast]
      match n, hn with
      | 0, hn => omega
      | n + 1, hn => exact Utf_l0 n _ _ (by rw [List.length_drop]; omega) (by omega)
theorem Utf_f (l : List UInt8) : dovecoteref1_Utf.f (l.length + 7) (ints l) = some (Dv.utf l) := Utf_l0 l.length l _ (Nat.le_refl _) (Nat.le_refl _)
end Go.Proofs.YtondmmoabmhpfaaDoor.R
end

import Derived.Test.YtondmmoabmhpfaaDoorPV2
import Derived.Deep.DeepMust
import Derived.Outline
import Derived.Test.YtondmmoabmhpfaaDoorPO1
set_option linter.unusedVariables false
set_option linter.unusedSimpArgs false
namespace Go.Proofs.YtondmmoabmhpfaaDoor.Q
open Go.RowKit Go.Proofs.YtondmmoabmhpfaaDoorW.PrintWords Go.Proofs.YtondmmoabmhpfaaDoorW.PrintLast Go.Proofs.YtondmmoabmhpfaaDoorW.PrintMore
set_option maxRecDepth 100000 in
set_option maxHeartbeats 8000000 in
theorem PropPlaces_walk (A : Option Addr) (c : Nat) (l : List Ask) (w : World) (hr : Kd.C kAsk w A l.length l) (hsz : ∀ a ∈ l, ∀ p ∈ a.L, p.f2.size ≤ 140737488351232 ∧ p.f3.size ≤ 140737488351232) (hG : Dv.GErr w) (hT : Dv.GTab w) :
    Calls Tryd.prog 3 #[.slice A l.length c] w fun e w' => e = .returned (.bool true) ∧ Below w.heap.size w w' := by
  have hm63 := hr.2.1
  have HT := Lib.hid hT
  have HG := Lib.hid hG
  clear hr hsz hT hG
  go_enter Tryd.func3, Tryd.ntmps3
  go_wp2_with fail
  go_loopw [3] (fun i wr => ∃ k : Nat, k ≤ 44 ∧ i = .int .i64 k ∧ Below w.heap.size w wr) (fun i _ => 44 - (intOf i).toNat)
  case atStart => exact ⟨0, Nat.zero_le _, rfl, Below.refl _ _⟩
  case round =>
    obtain ⟨k, hk, rfl, hB⟩ := hrel
    have HB := Lib.hid hB
    clear hB
    by_cases hlt : k < 44
    · have d1 : decide ((k : Int) ≤ 43) = true := decide_eq_true (by omega)
      go_wp2_with fail
      go_loopw [4] (fun i wr => ∃ n : Nat, n ≤ 2 ∧ i = .int .i64 n ∧ Below w.heap.size w wr) (fun i _ => 2 - (intOf i).toNat)
      case atStart => exact ⟨0, Nat.zero_le _, rfl, HB.out⟩
      case round =>
        obtain ⟨n, hn, rfl, hB⟩ := hrel
        clear HB
        have HB := Lib.hid hB
        clear hB
        by_cases hltn : n < 2
        · have d2 : decide ((n : Int) ≤ 1) = true := decide_eq_true (by omega)
          go_wp2_with fail
          have HB0 := Lib.hid (below_alloc HB.out (.cells #[.int .i64 (k : Int), .int .i64 (n : Int), .string ⟨#[]⟩, .string ⟨#[]⟩] 24))
          have BK0 := Aside0.mk (heap_alloc_new wr (.cells #[.int .i64 (k : Int), .int .i64 (n : Int), .string ⟨#[]⟩, .string ⟨#[]⟩] 24))
          generalize wr.heap.size = g at BK0 ⊢
          go_loopw [6] (fun i wq => ∃ m : Nat, m ≤ 18 ∧ i = .int .i64 m ∧ Below w.heap.size w wq ∧ wq.heap[g]? = some (.cells #[.int .i64 (k : Int), .int .i64 (n : Int), .string ⟨#[]⟩, .string ⟨#[]⟩] 24)) (fun i _ => 18 - (intOf i).toNat)
          case atStart => exact ⟨0, Nat.zero_le _, rfl, HB0.out, BK0.out⟩
          case round =>
            obtain ⟨m, hm, rfl, hB, hbk⟩ := hrel
            have HBq := Lib.hid hB
            have BKq := Aside0.mk hbk
            clear hB hbk
            by_cases hltm : m < 18
            · have d3 : decide ((m : Int) ≤ 17) = true := decide_eq_true (by omega)
              go_wp2_with fail
              refine places_region (k := (k : Int)) (n := (n : Int)) (m := (m : Int)) BKq.out (Dv.GErr.below HG.out HBq.out) (Dv.GTab.below HT.out HBq.out) ?_
              intro X w' hb hX
              generalize X 23 = x23 at hX ⊢
              subst hX
              have HBz := Lib.hid (HBq.out.then_ hb)
              have BKz := Aside0.mk ((hb.block _ (Array.getElem?_eq_some_iff.1 BKq.out).1).trans BKq.out)
              clear hb
              go_wp2_with fail
              go_roundw
              case rel => exact ⟨m + 1, by omega, by simp, HBz.out, BKz.out⟩
              case measure => simp [intOf]; omega
            · have d3 : decide ((m : Int) ≤ 17) = false := decide_eq_false (by omega)
              go_wp2_with fail
              go_roundw
              case rel => exact ⟨n + 1, by omega, by simp, HBq.out⟩
              case measure => simp [intOf]; omega
        · have d2 : decide ((n : Int) ≤ 1) = false := decide_eq_false (by omega)
          go_wp2_with fail
          go_roundw
          case rel => exact ⟨k + 1, by omega, by simp, HB.out⟩
          case measure => simp [intOf]; omega
    · have d1 : decide ((k : Int) ≤ 43) = false := decide_eq_false (by omega)
      go_wp2_with fail
      refine (wakes3 _ (Dv.GErr.below HG.out HB.out) (Dv.GTab.below HT.out HB.out)).mono ?_
      rintro e we ⟨rfl, hbe⟩
      have HBe := Lib.hid (HB.out.then_ hbe)
      clear hbe
      go_wp2
      go_ret
      exact ⟨rfl, HBe.out⟩
end Go.Proofs.YtondmmoabmhpfaaDoor.Q

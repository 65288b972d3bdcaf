import Derived.Test.YtondmmoabmhpfaaDoorPV1
import Derived.Test.YtondmmoabmhpfaaDoorPP8
import Derived.Test.YtondmmoabmhpfaaDoorPQ6
import Derived.Test.YtondmmoabmhpfaaDoorPQ7
import Derived.Test.YtondmmoabmhpfaaDoorPDvE
import Derived.Deep.DeepMust
import Derived.Outline
section
set_option linter.unusedVariables false
set_option linter.unusedSimpArgs false
namespace Go.Proofs.YtondmmoabmhpfaaDoor.Q
open Go.RowKit Go.Proofs.YtondmmoabmhpfaaDoorW.PrintWords Go.Proofs.YtondmmoabmhpfaaDoorW.PrintLast Go.Proofs.YtondmmoabmhpfaaDoorW.PrintMore
theorem EqBytes_l0 (l : List Int) (hl : l.length ≤ 1000000000) : ∀ (d k i : Nat), i + d = l.length → d < k → dovecoteref0_EqBytes.l0 k l l i = some true
  | 0, k + 1, i, h, hk => by rw [dovecoteref0_EqBytes.l0, if_neg (by omega)]
  | d + 1, k + 1, i, h, hk => by
    rw [dovecoteref0_EqBytes.l0, if_pos (by omega), if_pos (by omega), if_pos (by omega), if_pos rfl, show wrap64 ((i : Int) + 1) = ((i + 1 : Nat) : Int) by unfold wrap64; omega]
    exact EqBytes_l0 l hl d k (i + 1) (by omega) (by omega)
theorem EqBytes_f (l : List Int) (hl : l.length ≤ 1000000000) : dovecoteref0_EqBytes.f (l.length + 1) l l = some true := by
  unfold dovecoteref0_EqBytes.f; rw [if_pos rfl]; exact EqBytes_l0 l hl l.length _ 0 (by omega) (by omega)
end Go.Proofs.YtondmmoabmhpfaaDoor.Q
end
section
set_option linter.unusedVariables false
set_option linter.unusedSimpArgs false
namespace Go.Proofs.YtondmmoabmhpfaaDoor.Q
open Go.RowKit Go.Proofs.YtondmmoabmhpfaaDoorW.PrintWords Go.Proofs.YtondmmoabmhpfaaDoorW.PrintLast Go.Proofs.YtondmmoabmhpfaaDoorW.PrintMore
theorem num3 (v : Value) (n : Int) (w : World) (hG : Dv.GErr w) (hv : Dv.Err w v n) :
    Calls Tryd.prog 8 #[v] w fun e w' => e = .returned (.int .i64 n) ∧ Below w.heap.size w w' := by
  have C := Lib.hid (Dv.Num_any v n w hG hv)
  clear hG hv
  go_enter Tryd.func8, Tryd.ntmps8
  go_wp2_with (go_at_call 21; refine C.out.mono ?_; rintro e w1 ⟨rfl, hb⟩)
  go_ret
  exact ⟨rfl, hb⟩
theorem C_prop1 {W : World} {g : Nat} (p : S24) (h : W.heap[g]? = some (.cells #[.int .i64 p.f0, .int .i64 p.f1, .string p.f2, .string p.f3] 24 (0, 0))) : Kd.C k24 W (some ⟨g, 0, none⟩) 1 [p] := by
  refine ⟨rfl, by omega, fun _ => ⟨_, rfl, fun j q hj => ?_⟩⟩
  obtain rfl : j = 0 := by
    have := (List.getElem?_eq_some_iff.1 hj).1
    simp at this; exact this
  cases hj
  refine ⟨_, rfl, k24_mk W p, fun i u hi => ?_⟩
  have hc := cell_of_row W g i _ _ _ h
  rw [show (⟨g, 0, none⟩ : Addr).add (0 * k24.sz + i) = ⟨g, i, none⟩ by simp [Addr.add]; omega]
  rw [hc]
  simpa using hi
theorem C_prop2 {W : World} {g : Nat} (p q : S24) (h : W.heap[g]? = some (.cells #[.int .i64 p.f0, .int .i64 p.f1, .string p.f2, .string p.f3, .int .i64 q.f0, .int .i64 q.f1, .string q.f2, .string q.f3] 24 (0, 0))) : Kd.C k24 W (some ⟨g, 0, none⟩) 2 [p, q] := by
  refine ⟨rfl, by omega, fun _ => ⟨_, rfl, fun j r hj => ?_⟩⟩
  have hj2 : j = 0 ∨ j = 1 := by
    have := (List.getElem?_eq_some_iff.1 hj).1
    simp at this; omega
  rcases hj2 with rfl | rfl
  · cases hj
    refine ⟨_, rfl, k24_mk W p, fun i u hi => ?_⟩
    have hc := cell_of_row W g i _ _ _ h
    rw [show (⟨g, 0, none⟩ : Addr).add (0 * k24.sz + i) = ⟨g, i, none⟩ by simp [Addr.add]; omega]
    rw [hc]
    have hlt := (List.getElem?_eq_some_iff.1 hi).1
    simp at hlt
    match i, hlt, hi with
    | 0, _, hi => exact hi
    | 1, _, hi => exact hi
    | 2, _, hi => exact hi
    | 3, _, hi => exact hi
  · cases hj
    refine ⟨_, rfl, k24_mk W q, fun i u hi => ?_⟩
    have hc := cell_of_row W g (4 + i) _ _ _ h
    rw [show (⟨g, 0, none⟩ : Addr).add (1 * k24.sz + i) = ⟨g, 4 + i, none⟩ by
      have : k24.sz = 4 := rfl
      rw [this]; simp [Addr.add]]
    rw [hc]
    have hlt := (List.getElem?_eq_some_iff.1 hi).1
    simp at hlt
    match i, hlt, hi with
    | 0, _, hi => exact hi
    | 1, _, hi => exact hi
    | 2, _, hi => exact hi
    | 3, _, hi => exact hi
def wk : List S24 := [⟨35, 5, ⟨#[]⟩, ⟨#[]⟩⟩]
theorem wk_sz : ∀ p ∈ wk, p.f2.size ≤ 140737488351232 ∧ p.f3.size ≤ 140737488351232 := by
  intro p hp
  obtain rfl := List.mem_singleton.1 hp
  exact ⟨by decide, by decide⟩
theorem chk3_wk : chk3 wk 3 = 0 := by
  unfold chk3
  rw [if_neg, if_neg (by decide)]
  rintro ⟨i, hi, hb⟩
  obtain rfl : i = 0 := by have : i < 1 := hi; omega
  revert hb
  decide
theorem bytes_wk : bytes3 wk = [3, 35, 0, 5] := by decide
set_option maxRecDepth 100000 in
set_option maxHeartbeats 8000000 in
theorem wakes3 (w : World) (hG : Dv.GErr w) (hT : Dv.GTab w) :
    Calls Tryd.prog 11 #[] w fun e w' => e = .returned (.bool true) ∧ Below w.heap.size w w' := by
  have HG := Lib.hid hG
  have HT := Lib.hid hT
  clear hG hT
  go_enter Tryd.func11, Tryd.ntmps11
  go_wp2_with fail
  refine (propPut_ok (some ⟨w.heap.size, 0, none⟩) 1 wk 3 _ (C_prop1 _ (heap_alloc_new w _)) wk_sz (Dv.GTab.below HT.out (below_alloc (Below.refl _ _) _)) chk3_wk).mono ?_
  rintro e w1 ⟨v, rfl, ho, hb⟩
  have hB1 := (below_alloc (Below.refl _ w) _).then_ hb
  have HG1 := Lib.hid (Dv.GErr.below HG.out hB1)
  have HB1 := Lib.hid hB1
  obtain ⟨A, c, hv⟩ := Kd.R_slice ho
  subst hv
  have hcl := (Kd.R_reads' ho).2.1
  have HO := Lib.hid (Kd.R_reads' ho).2.2
  clear ho hb hB1
  rw [bytes_wk] at *
  go_wp2_with (go_at_call 8; refine (num3 .nilIface 0 _ HG1.out (.inl ⟨rfl, rfl⟩)).mono ?_; rintro e w2 ⟨rfl, hb⟩; have HB2 := Lib.hid (HB1.out.then_ hb); have HO2 := Lib.hid (Kd.C_below HO.out hb); clear hb)
  refine (dovecoteref0_EqBytes.calls _ A c [3, 35, 0, 5] _ 4 [3, 35, 0, 5] true _ (Kd.C_below HO2.out (below_alloc (Below.refl _ _) _)) hcl (Kd.R_reads' (R_made w2 w2 (Below.refl _ _) [3, 35, 0, 5] (by simp))).2.2 (by simp) (EqBytes_f _ (by simp))).mono ?_
  rintro e w3 ⟨rfl, hb⟩
  have HB3 := Lib.hid ((below_alloc HB2.out _).then_ hb.below)
  clear hb
  go_wp2
  go_ret
  exact ⟨rfl, HB3.out⟩
end Go.Proofs.YtondmmoabmhpfaaDoor.Q
end
section
set_option linter.unusedVariables false
set_option linter.unusedSimpArgs false
namespace Go.Proofs.YtondmmoabmhpfaaDoor.Q
open Go.RowKit Go.Proofs.YtondmmoabmhpfaaDoorW.PrintWords Go.Proofs.YtondmmoabmhpfaaDoorW.PrintLast Go.Proofs.YtondmmoabmhpfaaDoorW.PrintMore
structure Ask where
  L : List S24
  P : Int
  B : List Int
def kAsk : Kd Ask := Kd.iso (Kd.pair (Kd.slice 24 k24) (Kd.pair (Kd.int .i64) (Kd.slice 5 (Kd.int .u8)))) (fun x : Ask => (x.L, x.P, x.B))
def zAsk : Ask := ⟨[], 0, []⟩
theorem kAsk_mk {w : World} (x : Ask) {A0 A2 : Option Addr} {c0 c2 : Nat} (h0 : x.L.length ≤ c0) (h1 : Kd.C k24 w A0 x.L.length x.L) (h2 : x.B.length ≤ c2) (h3 : Kd.C (Kd.int .u8) w A2 x.B.length x.B) : kAsk.K w x [.slice A0 x.L.length c0, .int .i64 x.P, .slice A2 x.B.length c2] :=
  ⟨[_], [_, _], rfl, ⟨A0, c0, rfl, h0, h1⟩, ⟨[_], [_], rfl, rfl, ⟨A2, c2, rfl, h2, h3⟩⟩⟩
end Go.Proofs.YtondmmoabmhpfaaDoor.Q
end

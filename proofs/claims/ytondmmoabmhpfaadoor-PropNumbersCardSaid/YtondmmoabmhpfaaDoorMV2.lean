import Derived.Test.YtondmmoabmhpfaaDoorMV1
import Derived.Test.YtondmmoabmhpfaaDoorMP8
import Derived.Test.YtondmmoabmhpfaaDoorMQ6
import Derived.Test.YtondmmoabmhpfaaDoorMQ7
import Derived.Test.YtondmmoabmhpfaaDoorMDvE
import Derived.Deep.DeepMust
import Derived.Outline
section
set_option linter.unusedVariables false
set_option linter.unusedSimpArgs false
namespace Go.Proofs.YtondmmoabmhpfaaDoor.Q
open Go.RowKit Go.Proofs.YtondmmoabmhpfaaDoorW.PrintWords Go.Proofs.YtondmmoabmhpfaaDoorW.PrintLast Go.Proofs.YtondmmoabmhpfaaDoorW.PrintMore
theorem EqBytes_l0 (l : List Int) (hl : l.length ≤ 1000000000) : ∀ (d k i : Nat), i + d = l.length → d < k → dovecoteref0_EqBytes.l0 k l l i = some true
  | 0, k + 1, i, h, hk => by rw [dovecoteref0_EqBytes.l0, if_neg (by omega)]
  | d + 1, k + 1, i, h, hk => by
    rw [dovecoteref0_EqBytes.l0, if_pos (by omega), if_pos (by omega), if_pos (by omega), if_pos rfl, show wrap64 ((i : Int) + 1) = ((i + 1 : Nat) : Int) by unfold wrap64; omega]
    exact EqBytes_l0 l hl d k (i + 1) (by omega) (by omega)
theorem EqBytes_f (l : List Int) (hl : l.length ≤ 1000000000) : dovecoteref0_EqBytes.f (l.length + 1) l l = some true := by
  unfold dovecoteref0_EqBytes.f; rw [if_pos rfl]; exact EqBytes_l0 l hl l.length _ 0 (by omega) (by omega)
theorem EqProps_l0 (l : List S24) (hl : l.length ≤ 1000000000) : ∀ (d k i : Nat), i + d = l.length → d < k → dovecoteref0_EqProps.l0 k l l i = some true
  | 0, k + 1, i, h, hk => by rw [dovecoteref0_EqProps.l0, if_neg (by omega)]
  | d + 1, k + 1, i, h, hk => by
    rw [dovecoteref0_EqProps.l0, if_pos (by omega), if_pos (by omega), if_pos (by omega), if_neg (by simp), show wrap64 ((i : Int) + 1) = ((i + 1 : Nat) : Int) by unfold wrap64; omega]
    exact EqProps_l0 l hl d k (i + 1) (by omega) (by omega)
theorem EqProps_f (l : List S24) (hl : l.length ≤ 1000000000) : dovecoteref0_EqProps.f (l.length + 1) l l = some true := by
  unfold dovecoteref0_EqProps.f; rw [if_pos rfl]; exact EqProps_l0 l hl l.length _ 0 (by omega) (by omega)
theorem Weight_l0 (l : List S24) : ∀ (d k : Nat) (i x : Int), 0 ≤ i → i ≤ 1000 → 1000 - i = d → d < k → ∃ r, dovecotelaw0_PropsWeight.l0 k l x i = some r
  | 0, k + 1, i, x, h0, h1, hd, hk => by
    rw [dovecotelaw0_PropsWeight.l0]
    by_cases c : i < (l.length : Int)
    · rw [if_pos c, if_neg (by omega)]; exact ⟨_, rfl⟩
    · rw [if_neg c]; exact ⟨_, rfl⟩
  | d + 1, k + 1, i, x, h0, h1, hd, hk => by
    rw [dovecotelaw0_PropsWeight.l0]
    by_cases c : i < (l.length : Int)
    · rw [if_pos c, if_pos (by omega), if_pos h0, show wrap64 (i + 1) = i + 1 by unfold wrap64; omega]
      exact Weight_l0 l d k (i + 1) _ (by omega) (by omega) (by omega) (by omega)
    · rw [if_neg c]; exact ⟨_, rfl⟩
theorem Weight_f (l : List S24) : ∃ r, dovecotelaw0_PropsWeight.f 1001 l = some r := Weight_l0 l 1000 1001 0 _ (by omega) (by omega) (by omega) (by omega)
theorem heavy_f (l : List S24) (pl : Int) (b : List Int) : ∃ r, dovecotelaw3_heavy.f 1001 l pl b = some r ∧ (r = false → l.length ≤ 200 ∧ b.length ≤ 5000) := by
  obtain ⟨n, hn⟩ := Weight_f l
  unfold dovecotelaw3_heavy.f
  rw [hn, Option.bind_some]
  by_cases h1 : n > 70000
  · exact ⟨true, by rw [if_pos h1], by intro h; cases h⟩
  by_cases h2 : (l.length : Int) > 200
  · exact ⟨true, by rw [if_neg h1, if_pos h2], by intro h; cases h⟩
  · refine ⟨_, by rw [if_neg h1, if_neg h2], fun h => ?_⟩
    have := of_decide_eq_false h
    omega
end Go.Proofs.YtondmmoabmhpfaaDoor.Q
end
section
set_option linter.unusedVariables false
set_option linter.unusedSimpArgs false
namespace Go.Proofs.YtondmmoabmhpfaaDoor.Q
open Go.RowKit Go.Proofs.YtondmmoabmhpfaaDoorW.PrintWords Go.Proofs.YtondmmoabmhpfaaDoorW.PrintLast Go.Proofs.YtondmmoabmhpfaaDoorW.PrintMore
theorem num3 (v : Value) (n : Int) (w : World) (hG : Dv.GErr w) (hv : Dv.Err w v n) :
    Calls Tryd.prog 8 #[v] w fun e w' => e = .returned (.int .i64 n) ∧ Below w.heap.size w w' := by
  have C := Lib.hid (Dv.Num_any v n w hG hv)
  clear hG hv
  go_enter Tryd.func8, Tryd.ntmps8
  go_wp2_with (go_at_call 21; refine C.out.mono ?_; rintro e w1 ⟨rfl, hb⟩)
  go_ret
  exact ⟨rfl, hb⟩
theorem C_prop1 {W : World} {g : Nat} (p : S24) (h : W.heap[g]? = some (.cells #[.int .i64 p.f0, .int .i64 p.f1, .string p.f2, .string p.f3] 24 (0, 0))) : Kd.C k24 W (some ⟨g, 0, none⟩) 1 [p] := by
  refine ⟨rfl, by omega, fun _ => ⟨_, rfl, fun j q hj => ?_⟩⟩
  obtain rfl : j = 0 := by
    have := (List.getElem?_eq_some_iff.1 hj).1
    simp at this; exact this
  cases hj
  refine ⟨_, rfl, k24_mk W p, fun i u hi => ?_⟩
  have hc := cell_of_row W g i _ _ _ h
  rw [show (⟨g, 0, none⟩ : Addr).add (0 * k24.sz + i) = ⟨g, i, none⟩ by simp [Addr.add]; omega]
  rw [hc]
  simpa using hi
def wk : List S24 := [⟨35, 5, ⟨#[]⟩, ⟨#[]⟩⟩]
theorem wk_sz : ∀ p ∈ wk, p.f2.size ≤ 140737488351232 ∧ p.f3.size ≤ 140737488351232 := by
  intro p hp
  obtain rfl := List.mem_singleton.1 hp
  exact ⟨by decide, by decide⟩
theorem chk3_wk : chk3 wk 3 = 0 := by
  unfold chk3
  rw [if_neg, if_neg (by decide)]
  rintro ⟨i, hi, hb⟩
  obtain rfl : i = 0 := by have : i < 1 := hi; omega
  revert hb
  decide
theorem bytes_wk : bytes3 wk = [3, 35, 0, 5] := by decide
set_option maxRecDepth 100000 in
set_option maxHeartbeats 8000000 in
theorem wakes3 (w : World) (hG : Dv.GErr w) (hT : Dv.GTab w) :
    Calls Tryd.prog 11 #[] w fun e w' => e = .returned (.bool true) ∧ Below w.heap.size w w' := by
  have HG := Lib.hid hG
  have HT := Lib.hid hT
  clear hG hT
  go_enter Tryd.func11, Tryd.ntmps11
  go_wp2_with fail
  refine (propPut_ok (some ⟨w.heap.size, 0, none⟩) 1 wk 3 _ (C_prop1 _ (heap_alloc_new w _)) wk_sz (Dv.GTab.below HT.out (below_alloc (Below.refl _ _) _)) chk3_wk).mono ?_
  rintro e w1 ⟨v, rfl, ho, hb⟩
  have hB1 := (below_alloc (Below.refl _ w) _).then_ hb
  have HG1 := Lib.hid (Dv.GErr.below HG.out hB1)
  have HB1 := Lib.hid hB1
  obtain ⟨A, c, hv⟩ := Kd.R_slice ho
  subst hv
  have hcl := (Kd.R_reads' ho).2.1
  have HO := Lib.hid (Kd.R_reads' ho).2.2
  clear ho hb hB1
  rw [bytes_wk] at *
  go_wp2_with (go_at_call 8; refine (num3 .nilIface 0 _ HG1.out (.inl ⟨rfl, rfl⟩)).mono ?_; rintro e w2 ⟨rfl, hb⟩; have HB2 := Lib.hid (HB1.out.then_ hb); have HO2 := Lib.hid (Kd.C_below HO.out hb); clear hb)
  refine (dovecoteref0_EqBytes.calls _ A c [3, 35, 0, 5] _ 4 [3, 35, 0, 5] true _ (Kd.C_below HO2.out (below_alloc (Below.refl _ _) _)) hcl (Kd.R_reads' (R_made w2 w2 (Below.refl _ _) [3, 35, 0, 5] (by simp))).2.2 (by simp) (EqBytes_f _ (by simp))).mono ?_
  rintro e w3 ⟨rfl, hb⟩
  have HB3 := Lib.hid ((below_alloc HB2.out _).then_ hb.below)
  clear hb
  go_wp2
  go_ret
  exact ⟨rfl, HB3.out⟩
end Go.Proofs.YtondmmoabmhpfaaDoor.Q
end
section
set_option linter.unusedVariables false
set_option linter.unusedSimpArgs false
namespace Go.Proofs.YtondmmoabmhpfaaDoor.Q
open Go.RowKit Go.Proofs.YtondmmoabmhpfaaDoorW.PrintWords Go.Proofs.YtondmmoabmhpfaaDoorW.PrintLast Go.Proofs.YtondmmoabmhpfaaDoorW.PrintMore
structure Ask where
  L : List S24
  P : Int
  B : List Int
def kAsk : Kd Ask := Kd.iso (Kd.pair (Kd.slice 24 k24) (Kd.pair (Kd.int .i64) (Kd.slice 5 (Kd.int .u8)))) (fun x : Ask => (x.L, x.P, x.B))
def zAsk : Ask := ⟨[], 0, []⟩
theorem kAsk_open {w : World} {x : Ask} {cs : List Value} (h : kAsk.K w x cs) : ∃ A0 c0 A2 c2, cs = [.slice A0 x.L.length c0, .int .i64 x.P, .slice A2 x.B.length c2] ∧ x.L.length ≤ c0 ∧ Kd.C k24 w A0 x.L.length x.L ∧ x.B.length ≤ c2 ∧ Kd.C (Kd.int .u8) w A2 x.B.length x.B := by
  obtain ⟨_, _, rfl, ⟨A0, c0, rfl, h0, h1⟩, ⟨_, _, rfl, rfl, ⟨A2, c2, rfl, h2, h3⟩⟩⟩ := h
  exact ⟨A0, c0, A2, c2, rfl, h0, h1, h2, h3⟩
theorem kAsk_mk {w : World} (x : Ask) {A0 A2 : Option Addr} {c0 c2 : Nat} (h0 : x.L.length ≤ c0) (h1 : Kd.C k24 w A0 x.L.length x.L) (h2 : x.B.length ≤ c2) (h3 : Kd.C (Kd.int .u8) w A2 x.B.length x.B) : kAsk.K w x [.slice A0 x.L.length c0, .int .i64 x.P, .slice A2 x.B.length c2] :=
  ⟨[_], [_, _], rfl, ⟨A0, c0, rfl, h0, h1⟩, ⟨[_], [_], rfl, rfl, ⟨A2, c2, rfl, h2, h3⟩⟩⟩
theorem at_Ask {w : World} {A : Option Addr} {n : Nat} {xs : List Ask} (h : Kd.C kAsk w A n xs) (k : Nat) (h1 : k < n) : ∃ ad A0 c0 A2 c2, A = some ad ∧ w.cell? (ad.add (k * 3)) = some (.slice A0 (xs.getD k zAsk).L.length c0) ∧ w.cell? ⟨(ad.add (k * 3)).block, (ad.add (k * 3)).off + 1, none⟩ = some (.int .i64 (xs.getD k zAsk).P) ∧ w.cell? ⟨(ad.add (k * 3)).block, (ad.add (k * 3)).off + 2, none⟩ = some (.slice A2 (xs.getD k zAsk).B.length c2) ∧
    (xs.getD k zAsk).L.length ≤ c0 ∧ Kd.C k24 w A0 (xs.getD k zAsk).L.length (xs.getD k zAsk).L ∧ (xs.getD k zAsk).B.length ≤ c2 ∧ Kd.C (Kd.int .u8) w A2 (xs.getD k zAsk).B.length (xs.getD k zAsk).B := by
  obtain ⟨ad, c, e, _, hK, hc0⟩ := Kd.C_get h zAsk (k : Int) (by omega) (by omega)
  rw [Int.toNat_natCast] at hK hc0
  have hc : ∀ j u, c[j]? = some u → w.cell? (ad.add (k * 3 + j)) = some u := hc0
  obtain ⟨A0, c0, A2, c2, rfl, a, b, c', d⟩ := kAsk_open hK
  exact ⟨ad, A0, c0, A2, c2, e, hc 0 _ rfl, by rw [← add_field _ _ 1 (by omega)]; exact hc 1 _ rfl, by rw [← add_field _ _ 2 (by omega)]; exact hc 2 _ rfl, a, b, c', d⟩
theorem bytes3_small {l : List S24} {pl : Int} (h : chk3 l pl = 0) : (bytes3 l).length ≤ 1000000000 := by
  have h1 := body3_small (chk3_ok h).1 (chk3_ok h).2
  have h2 := varPut_len ((body3 l).length : Int)
  unfold bytes3
  rw [List.length_append]
  omega
end Go.Proofs.YtondmmoabmhpfaaDoor.Q
end

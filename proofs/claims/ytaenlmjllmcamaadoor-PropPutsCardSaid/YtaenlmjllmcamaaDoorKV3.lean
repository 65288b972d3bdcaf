import Derived.Test.YtaenlmjllmcamaaDoorKV2
import Derived.Test.YtaenlmjllmcamaaDoorKDvE4
import Derived.Deep.DeepMust
import Derived.Outline
set_option linter.unusedVariables false
set_option linter.unusedSimpArgs false
namespace Go.Proofs.YtaenlmjllmcamaaDoor.Q
open Go.RowKit Go.Proofs.YtaenlmjllmcamaaDoorW.PrintWords Go.Proofs.YtaenlmjllmcamaaDoorW.PrintLast Go.Proofs.YtaenlmjllmcamaaDoorW.PrintMore
theorem num3 (v : Value) (n : Int) (w : World) (hG : Dv.GErr w) (hv : Dv.Err w v n) :
    Calls Tryd.prog 16 #[v] w fun e w' => e = .returned (.int .i64 n) ∧ Below w.heap.size w w' := by
  have C := Lib.hid (Dv.Num_any v n w hG hv)
  clear hG hv
  go_enter Tryd.func16, Tryd.ntmps16
  go_wp2_with (go_at_call 38; refine C.out.mono ?_; rintro e w1 ⟨rfl, hb⟩)
  go_ret
  exact ⟨rfl, hb⟩
theorem C_prop1 {W : World} {g : Nat} (p : S43) (h : W.heap[g]? = some (.cells #[.int .i64 p.f0, .int .i64 p.f1, .string p.f2, .string p.f3] 43 (0, 0))) : Kd.C k43 W (some ⟨g, 0, none⟩) 1 [p] := by
  refine ⟨rfl, by omega, fun _ => ⟨_, rfl, fun j q hj => ?_⟩⟩
  obtain rfl : j = 0 := by
    have := (List.getElem?_eq_some_iff.1 hj).1
    simp at this; exact this
  cases hj
  refine ⟨_, rfl, k43_mk W p, fun i u hi => ?_⟩
  have hc := cell_of_row W g i _ _ _ h
  rw [show (⟨g, 0, none⟩ : Addr).add (0 * k43.sz + i) = ⟨g, i, none⟩ by simp [Addr.add]; omega]
  rw [hc]
  simpa using hi
def wk : List S43 := [⟨35, 5, ⟨#[]⟩, ⟨#[]⟩⟩]
theorem wk_sz : ∀ p ∈ wk, p.f2.size ≤ 140737488351232 ∧ p.f3.size ≤ 140737488351232 := by
  intro p hp
  obtain rfl := List.mem_singleton.1 hp
  exact ⟨by decide, by decide⟩
theorem chk3_wk : chk3 wk 3 = 0 := by
  unfold chk3
  rw [if_neg, if_neg (by decide)]
  rintro ⟨i, hi, hb⟩
  obtain rfl : i = 0 := by have : i < 1 := hi; omega
  revert hb
  decide
theorem bytes_wk : bytes3 wk = [3, 35, 0, 5] := by decide
set_option maxRecDepth 100000 in
set_option maxHeartbeats 8000000 in
theorem wakes3 (w : World) (hG : Dv.GErr w) (hT : Dv.GTab w) :
    Calls Tryd.prog 20 #[] w fun e w' => e = .returned (.bool true) ∧ Below w.heap.size w w' := by
  have HG := Lib.hid hG
  have HT := Lib.hid hT
  clear hG hT
  go_enter Tryd.func20, Tryd.ntmps20
  go_wp2_with fail
  refine (propPut_ok (some ⟨w.heap.size, 0, none⟩) 1 wk 3 _ (C_prop1 _ (heap_alloc_new w _)) wk_sz (Dv.GTab.below HT.out (below_alloc (Below.refl _ _) _)) chk3_wk).mono ?_
  rintro e w1 ⟨v, rfl, ho, hb⟩
  have hB1 := (below_alloc (Below.refl _ w) _).then_ hb
  have HG1 := Lib.hid (Dv.GErr.below HG.out hB1)
  have HB1 := Lib.hid hB1
  obtain ⟨A, c, hv⟩ := Kd.R_slice ho
  subst hv
  have hcl := (Kd.R_reads' ho).2.1
  have HO := Lib.hid (Kd.R_reads' ho).2.2
  clear ho hb hB1
  rw [bytes_wk] at *
  go_wp2_with (go_at_call 16; refine (num3 .nilIface 0 _ HG1.out (.inl ⟨rfl, rfl⟩)).mono ?_; rintro e w2 ⟨rfl, hb⟩; have HB2 := Lib.hid (HB1.out.then_ hb); have HO2 := Lib.hid (Kd.C_below HO.out hb); clear hb)
  refine (dovecoteref0_EqBytes.calls _ A c [3, 35, 0, 5] _ 4 [3, 35, 0, 5] true _ (Kd.C_below HO2.out (below_alloc (Below.refl _ _) _)) hcl (Kd.R_reads' (R_made w2 w2 (Below.refl _ _) [3, 35, 0, 5] (by simp))).2.2 (by simp) (EqBytes_f _ (by simp))).mono ?_
  rintro e w3 ⟨rfl, hb⟩
  have HB3 := Lib.hid ((below_alloc HB2.out _).then_ hb.below)
  clear hb
  go_wp2
  go_ret
  exact ⟨rfl, HB3.out⟩
end Go.Proofs.YtaenlmjllmcamaaDoor.Q

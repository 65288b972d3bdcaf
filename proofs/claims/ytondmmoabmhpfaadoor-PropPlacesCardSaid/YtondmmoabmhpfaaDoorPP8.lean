import Derived.Test.YtondmmoabmhpfaaDoorPP7
import Derived.Deep.DeepMust
import Derived.Outline
section
set_option linter.unusedVariables false
set_option linter.unusedSimpArgs false
namespace Go.Proofs.YtondmmoabmhpfaaDoor.Q
open Go.RowKit Go.Proofs.YtondmmoabmhpfaaDoorW.PrintWords Go.Proofs.YtondmmoabmhpfaaDoorW.PrintLast Go.Proofs.YtondmmoabmhpfaaDoorW.PrintMore
def putQ (p : S24) : List Int := putP p.f0 p.f1 p.f2 p.f3
def body3 (l : List S24) : List Int := l.flatMap putQ
def bytes3 (l : List S24) : List Int := Dv.varPut (body3 l).length ++ body3 l
theorem chk3_ok {l : List S24} {pl : Int} (h : chk3 l pl = 0) : l.length ≤ 32 ∧ ∀ i, i < l.length → mayP (l.getD i z24) = true := by
  unfold chk3 at h
  split at h
  · omega
  · rename_i hb
    split at h
    · omega
    · refine ⟨by omega, fun i hi => ?_⟩
      cases hm : mayP (l.getD i z24)
      · exact absurd ⟨i, hi, by unfold badAt; rw [hm]; simp⟩ hb
      · rfl
theorem putP_len {id num : Int} {s t : ByteArray} (h : may id num s t = true) : (putP id num s t).length ≤ 140000 := by
  have hv := varPut_len id
  have hn := varPut_len num
  unfold putP tailP
  rw [List.length_append]
  split
  · simp; omega
  split
  · simp; omega
  split
  · simp; omega
  split
  · omega
  split
  · rename_i h8
    have h1 := chk_size (may_str h (.inr h8))
    have h2 := chk_size (may_val h h8)
    rw [List.length_append, bin_len, bin_len]; omega
  · rename_i h1 h2 h4 h5 h8
    rw [bin_len]
    rcases kinds_of id with hk | hk | hk | hk | hk | hk | hk | hk
    · exact absurd hk h1
    · exact absurd hk h2
    · exact absurd hk h4
    · exact absurd hk h5
    · have := chk_size (may_str h (.inl hk)); omega
    · have := may_bin7 h hk; omega
    · exact absurd hk h8
    · exfalso; unfold may at h; rw [hk] at h; simp at h
theorem body3_take {l : List S24} {k : Nat} (hk : k < l.length) : body3 (l.take (k + 1)) = body3 (l.take k) ++ putQ (l.getD k z24) := by
  unfold body3
  rw [List.take_succ_eq_append_getElem hk, List.flatMap_append, List.getD_eq_getElem?_getD, List.getElem?_eq_getElem hk]
  simp
theorem body3_len {l : List S24} (hm : ∀ i, i < l.length → mayP (l.getD i z24) = true) : ∀ k, k ≤ l.length → (body3 (l.take k)).length ≤ k * 140000
  | 0, _ => by simp [body3]
  | k + 1, hk => by
    rw [body3_take (by omega), List.length_append]
    have := body3_len hm k (by omega)
    have := putP_len (hm k (by omega))
    unfold putQ
    omega
end Go.Proofs.YtondmmoabmhpfaaDoor.Q
end
section
set_option linter.unusedVariables false
set_option linter.unusedSimpArgs false
namespace Go.Proofs.YtondmmoabmhpfaaDoor.Q
open Go.RowKit Go.Proofs.YtondmmoabmhpfaaDoorW.PrintWords Go.Proofs.YtondmmoabmhpfaaDoorW.PrintLast Go.Proofs.YtondmmoabmhpfaaDoorW.PrintMore
theorem body3_small {l : List S24} (h1 : l.length ≤ 32) (hm : ∀ i, i < l.length → mayP (l.getD i z24) = true) : (body3 l).length ≤ 4480000 := by
  have h := body3_len hm l.length (Nat.le_refl _)
  rw [List.take_length] at h
  refine Nat.le_trans h ?_
  exact Nat.le_trans (Nat.mul_le_mul_right _ h1) (by decide)
set_option maxRecDepth 100000 in
set_option maxHeartbeats 8000000 in
theorem propPut_ok (A : Option Addr) (c : Nat) (l : List S24) (pl : Int) (w : World) (hr : Kd.C k24 w A l.length l) (hsz : ∀ p ∈ l, p.f2.size ≤ 140737488351232 ∧ p.f3.size ≤ 140737488351232) (hT : Dv.GTab w) (h : chk3 l pl = 0) :
    Calls Tryd.prog 12 #[.slice A l.length c, .int .i64 pl] w fun e w' => ∃ v, e = .returned (.tuple #[v, .nilIface]) ∧ Kd.R (Kd.int .u8) 5 w' w.heap.size (fun _ => True) v (bytes3 l) ∧ Below w.heap.size w w' := by
  have C := Lib.hid (prop_Check A c l pl w hr hsz hT)
  have hm63 := hr.2.1
  have HM := Lib.hid (chk3_ok h)
  have HR := Lib.hid hr
  have HZ := Lib.hid hsz
  have HT := Lib.hid hT
  have h0 := h
  clear hr hsz hT h
  rw [h0] at C
  clear h0
  go_enter Tryd.func12, Tryd.ntmps12
  go_wp2_with fail
  refine C.out.mono ?_
  rintro e w1 ⟨v, rfl, he, hb⟩
  obtain rfl : v = .nilIface := by
    rcases he with ⟨rfl, _⟩ | ⟨hn, _⟩
    · rfl
    · exact absurd hn (by omega)
  have HB1 := Lib.hid hb
  clear he hb
  go_wp2_with fail
  go_loopw [7, 20] (fun v7 i wr => ∃ k : Nat, k ≤ l.length ∧ i = .int .i64 k ∧ Kd.R (Kd.int .u8) 5 wr w.heap.size (fun _ => True) v7 (body3 (l.take k)) ∧ Below w.heap.size w wr) (fun _ i _ => l.length - (intOf i).toNat)
  case atStart => exact ⟨0, Nat.zero_le _, rfl, Kd.R_of_own (World.ownsRow_nil w1 _ _ _) (fun _ _ => trivial), HB1.out⟩
  case round =>
    obtain ⟨k, hk, rfl, hown, hB⟩ := hrel
    have HO := Lib.hid hown
    have HB := Lib.hid hB
    clear hown hB
    by_cases hlt : k < l.length
    · obtain ⟨ad, ea, x0, x1, x2, x3⟩ := at_T24 (Kd.C_below HR.out HB.out) (k : Int) (by omega) (by omega)
      cases ea
      rw [Int.toNat_natCast] at x0 x1 x2 x3
      have erd : rd_T24 l (k : Int) = l.getD k z24 := by unfold rd_T24; rw [Int.toNat_natCast]
      rw [erd] at x0 x1 x2 x3
      clear erd
      obtain ⟨p, hp⟩ : ∃ p, l.getD k z24 = p := ⟨_, rfl⟩
      rw [hp] at x0 x1 x2 x3
      have HP := Lib.hid hp
      have hm : may p.f0 p.f1 p.f2 p.f3 = true := by have := HM.out.2 k hlt; rw [hp] at this; exact this
      have HMP := Lib.hid hm
      clear hp hm
      have d1 : decide (k < l.length) = true := decide_eq_true hlt
      go_wp2_with fail
      have HL := Lib.hid (show (body3 (l.take k)).length ≤ 1000000000 by have := body3_len HM.out.2 k (by omega); have := HM.out.1; omega)
      refine (prop_lay w _ u7 (body3 (l.take k)) p.f0 p.f1 p.f2 p.f3 HMP.out (Kd.R_below HO.out (below_alloc (Below.refl _ _) (.cells #[.int .i64 p.f0, .int .i64 p.f1, .string p.f2, .string p.f3] 24))) (HB.out.alloc HB.out.size (.cells #[.int .i64 p.f0, .int .i64 p.f1, .string p.f2, .string p.f3] 24)) HL.out HT.out).mono ?_
      rintro e w2 ⟨v2, rfl, ho, hb⟩
      have HO2 := Lib.hid ho
      have HB2 := Lib.hid hb
      have HE := Lib.hid (show body3 (l.take (k + 1)) = body3 (l.take k) ++ putP p.f0 p.f1 p.f2 p.f3 by rw [body3_take hlt, HP.out]; rfl)
      clear ho hb d1
      go_wp2_with fail
      go_roundw
      case rel => exact ⟨k + 1, by omega, by simp, by rw [HE.out]; exact HO2.out, HB2.out⟩
      case measure => simp [intOf]; omega
    · have d1 : decide (k < l.length) = false := decide_eq_false hlt
      obtain rfl : k = l.length := by omega
      have hlen := body3_small HM.out.1 HM.out.2
      have HOx : Hid (Kd.R (Kd.int .u8) 5 wr w.heap.size (fun _ => True) u7 (body3 l)) := Lib.hid (by have := HO.out; rw [List.take_length] at this; exact this)
      have HL := Lib.hid hlen
      have HVL := Lib.hid (varPut_len ((body3 l).length : Int))
      clear HO hlen
      obtain ⟨A0, c0, hu⟩ := Kd.R_slice HOx.out
      subst hu
      go_wp2_with fail
      refine (varint_Put _ _ (by omega) (by have := HL.out; omega)).mono ?_
      rintro e w2 ⟨v2, rfl, ho, hb⟩
      obtain ⟨A2, c2, hv2⟩ := Kd.R_slice ho
      subst hv2
      have HX := Lib.hid (Kd.C_below (Kd.R_reads' HOx.out).2.2 hb)
      have HY := Lib.hid (Kd.R_lower ho HB.out.size)
      have HB2 := Lib.hid (HB.out.then_ hb)
      clear ho hb
      go_wp2_with (first | ((with_reducible refine gate_builtin (b := .append) (xs := #[.tmp 38, .tmp 39]) rfl ?_); at_builtin; go_must (refine Kd.R_append_row (Value.int .u8) 0 (h1 := fun _ => rfl) (w0 := w) w.heap.size rfl (.tmp 38) (.tmp 39) 35 5 (.int .u8 0) 1 rfl Tryd.underlying35 qinfo5 rfl (by omega) (.slice A2 (Dv.varPut (body3 l).length).length c2) (Dv.varPut (body3 l).length) _ _ _ _ (fun _ => True) rfl rfl (fun _ _ => trivial) HY.out HX.out HB2.out HB2.out.size (by have := HL.out; have := HVL.out; omega) ?_); intro v3 w3 ho3 hb3 hg3 hat3; have HO3 := Lib.hid ho3; have HB3 := Lib.hid hb3; clear ho3 hb3 hg3 hat3))
      go_ret2
      exact ⟨_, rfl, HO3.out, HB3.out⟩
end Go.Proofs.YtondmmoabmhpfaaDoor.Q
end

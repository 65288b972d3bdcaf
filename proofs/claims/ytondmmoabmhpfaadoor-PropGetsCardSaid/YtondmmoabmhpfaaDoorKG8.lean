import Derived.Test.YtondmmoabmhpfaaDoorKV2
import Derived.Test.YtondmmoabmhpfaaDoorKG6
import Derived.Test.YtondmmoabmhpfaaDoorKQ10
import Derived.Outline
set_option linter.unusedVariables false
set_option linter.unusedSimpArgs false
namespace Go.Proofs.YtondmmoabmhpfaaDoor.Q
open Go.RowKit Go.Proofs.YtondmmoabmhpfaaDoorW.PrintWords Go.Proofs.YtondmmoabmhpfaaDoorW.PrintLast Go.Proofs.YtondmmoabmhpfaaDoorW.PrintMore
theorem bits_orc (x y : Int) : Go.bits .or .i64 x y = Go.bits .or .i64 y x := by
  simp only [Go.bits, BitVec.or_comm]
theorem rg_val0 {x b : Int} (h0 : 0 ≤ x) (hx : x < 1) (hb : 0 ≤ b ∧ b ≤ 255) : Go.bits .or .i64 x (shl .i64 (wrap64 (Int.tmod b 128)) (wrap64 (7 * (0 : Int)))) = x + b % 128 * 1 := by
  have ht : Int.tmod b 128 = b % 128 := Int.tmod_eq_emod_of_nonneg (by omega)
  have e7 : wrap64 (7 * (0 : Int)) = 0 := by unfold wrap64; omega
  have e : shl .i64 (b % 128) 0 = b % 128 * 1 := by
    unfold shl; rw [show (2 : Int) ^ min (0 : Int).toNat IntKind.i64.bits = 1 by decide, IntKind.wrap_i64]; omega
  rw [ht, w64 (by omega) (by omega), e7, e, bits_orc, bits_join .i64 63 (by decide) R.wraps_i64 0 (b % 128 * 1) x (by omega) (by omega) (by omega) (by omega) (by omega) (by omega)]
  omega
theorem rg_more0 {k : Nat} {l : List Int} {x b : Int} (h0 : 0 ≤ x) (hx : x < 1) (hl : 0 < l.length) (e : rd l 0 = b) (hb : 128 ≤ b ∧ b ≤ 255) : dovecoteref1_Get.l0 (k + 1) l x 0 = dovecoteref1_Get.l0 k l (x + b % 128 * 1) 1 := by
  rw [dovecoteref1_Get.l0, if_pos (by decide), if_neg (by omega), if_pos (by decide), if_pos (by omega), if_pos (by unfold wrap64; omega), e, if_neg (by omega), rg_val0 h0 hx (by omega)]
  rw [show wrap64 ((0 : Int) + 1) = 1 by unfold wrap64; omega]
theorem rg_end0 {k : Nat} (hk : 10 ≤ k) {l : List Int} {x b : Int} (h0 : 0 ≤ x) (hx : x < 1) (hl : 0 < l.length) (e : rd l 0 = b) (hb : 0 ≤ b ∧ b < 128) : dovecoteref1_Get.l0 (k + 1) l x 0 = if ((Dv.varPut (x + b * 1)).length : Int) = 1 then some (x + b * 1, 1, 0) else some (0, 0, 1) := by
  rw [dovecoteref1_Get.l0, if_pos (by decide), if_neg (by omega), if_pos (by decide), if_pos (by omega), if_pos (by unfold wrap64; omega), e, if_pos (by omega), rg_val0 h0 hx (by omega), show b % 128 = b by omega, rPut_f hk (by omega) (by omega), Option.bind_some]
  rw [show wrap64 ((0 : Int) + 1) = 1 by unfold wrap64; omega]
theorem rg_short0 {k : Nat} {l : List Int} {x : Int} (hl : l.length = 0) : dovecoteref1_Get.l0 (k + 1) l x 0 = some (0, 0, 3) := by
  rw [dovecoteref1_Get.l0, if_pos (by decide), if_pos (by omega)]
theorem rg_val1 {x b : Int} (h0 : 0 ≤ x) (hx : x < 128) (hb : 0 ≤ b ∧ b ≤ 255) : Go.bits .or .i64 x (shl .i64 (wrap64 (Int.tmod b 128)) (wrap64 (7 * (1 : Int)))) = x + b % 128 * 128 := by
  have ht : Int.tmod b 128 = b % 128 := Int.tmod_eq_emod_of_nonneg (by omega)
  have e7 : wrap64 (7 * (1 : Int)) = 7 := by unfold wrap64; omega
  have e : shl .i64 (b % 128) 7 = b % 128 * 128 := by
    unfold shl; rw [show (2 : Int) ^ min (7 : Int).toNat IntKind.i64.bits = 128 by decide, IntKind.wrap_i64]; omega
  rw [ht, w64 (by omega) (by omega), e7, e, bits_orc, bits_join .i64 63 (by decide) R.wraps_i64 7 (b % 128 * 128) x (by omega) (by omega) (by omega) (by omega) (by omega) (by omega)]
  omega
theorem rg_more1 {k : Nat} {l : List Int} {x b : Int} (h0 : 0 ≤ x) (hx : x < 128) (hl : 1 < l.length) (e : rd l 1 = b) (hb : 128 ≤ b ∧ b ≤ 255) : dovecoteref1_Get.l0 (k + 1) l x 1 = dovecoteref1_Get.l0 k l (x + b % 128 * 128) 2 := by
  rw [dovecoteref1_Get.l0, if_pos (by decide), if_neg (by omega), if_pos (by decide), if_pos (by omega), if_pos (by unfold wrap64; omega), e, if_neg (by omega), rg_val1 h0 hx (by omega)]
  rw [show wrap64 ((1 : Int) + 1) = 2 by unfold wrap64; omega]
theorem rg_end1 {k : Nat} (hk : 10 ≤ k) {l : List Int} {x b : Int} (h0 : 0 ≤ x) (hx : x < 128) (hl : 1 < l.length) (e : rd l 1 = b) (hb : 0 ≤ b ∧ b < 128) : dovecoteref1_Get.l0 (k + 1) l x 1 = if ((Dv.varPut (x + b * 128)).length : Int) = 2 then some (x + b * 128, 2, 0) else some (0, 0, 1) := by
  rw [dovecoteref1_Get.l0, if_pos (by decide), if_neg (by omega), if_pos (by decide), if_pos (by omega), if_pos (by unfold wrap64; omega), e, if_pos (by omega), rg_val1 h0 hx (by omega), show b % 128 = b by omega, rPut_f hk (by omega) (by omega), Option.bind_some]
  rw [show wrap64 ((1 : Int) + 1) = 2 by unfold wrap64; omega]
theorem rg_short1 {k : Nat} {l : List Int} {x : Int} (hl : l.length = 1) : dovecoteref1_Get.l0 (k + 1) l x 1 = some (0, 0, 3) := by
  rw [dovecoteref1_Get.l0, if_pos (by decide), if_pos (by omega)]
theorem rg_val2 {x b : Int} (h0 : 0 ≤ x) (hx : x < 16384) (hb : 0 ≤ b ∧ b ≤ 255) : Go.bits .or .i64 x (shl .i64 (wrap64 (Int.tmod b 128)) (wrap64 (7 * (2 : Int)))) = x + b % 128 * 16384 := by
  have ht : Int.tmod b 128 = b % 128 := Int.tmod_eq_emod_of_nonneg (by omega)
  have e7 : wrap64 (7 * (2 : Int)) = 14 := by unfold wrap64; omega
  have e : shl .i64 (b % 128) 14 = b % 128 * 16384 := by
    unfold shl; rw [show (2 : Int) ^ min (14 : Int).toNat IntKind.i64.bits = 16384 by decide, IntKind.wrap_i64]; omega
  rw [ht, w64 (by omega) (by omega), e7, e, bits_orc, bits_join .i64 63 (by decide) R.wraps_i64 14 (b % 128 * 16384) x (by omega) (by omega) (by omega) (by omega) (by omega) (by omega)]
  omega
theorem rg_more2 {k : Nat} {l : List Int} {x b : Int} (h0 : 0 ≤ x) (hx : x < 16384) (hl : 2 < l.length) (e : rd l 2 = b) (hb : 128 ≤ b ∧ b ≤ 255) : dovecoteref1_Get.l0 (k + 1) l x 2 = dovecoteref1_Get.l0 k l (x + b % 128 * 16384) 3 := by
  rw [dovecoteref1_Get.l0, if_pos (by decide), if_neg (by omega), if_pos (by decide), if_pos (by omega), if_pos (by unfold wrap64; omega), e, if_neg (by omega), rg_val2 h0 hx (by omega)]
  rw [show wrap64 ((2 : Int) + 1) = 3 by unfold wrap64; omega]
theorem rg_end2 {k : Nat} (hk : 10 ≤ k) {l : List Int} {x b : Int} (h0 : 0 ≤ x) (hx : x < 16384) (hl : 2 < l.length) (e : rd l 2 = b) (hb : 0 ≤ b ∧ b < 128) : dovecoteref1_Get.l0 (k + 1) l x 2 = if ((Dv.varPut (x + b * 16384)).length : Int) = 3 then some (x + b * 16384, 3, 0) else some (0, 0, 1) := by
  rw [dovecoteref1_Get.l0, if_pos (by decide), if_neg (by omega), if_pos (by decide), if_pos (by omega), if_pos (by unfold wrap64; omega), e, if_pos (by omega), rg_val2 h0 hx (by omega), show b % 128 = b by omega, rPut_f hk (by omega) (by omega), Option.bind_some]
  rw [show wrap64 ((2 : Int) + 1) = 3 by unfold wrap64; omega]
theorem rg_short2 {k : Nat} {l : List Int} {x : Int} (hl : l.length = 2) : dovecoteref1_Get.l0 (k + 1) l x 2 = some (0, 0, 3) := by
  rw [dovecoteref1_Get.l0, if_pos (by decide), if_pos (by omega)]
theorem rg_val3 {x b : Int} (h0 : 0 ≤ x) (hx : x < 2097152) (hb : 0 ≤ b ∧ b ≤ 255) : Go.bits .or .i64 x (shl .i64 (wrap64 (Int.tmod b 128)) (wrap64 (7 * (3 : Int)))) = x + b % 128 * 2097152 := by
  have ht : Int.tmod b 128 = b % 128 := Int.tmod_eq_emod_of_nonneg (by omega)
  have e7 : wrap64 (7 * (3 : Int)) = 21 := by unfold wrap64; omega
  have e : shl .i64 (b % 128) 21 = b % 128 * 2097152 := by
    unfold shl; rw [show (2 : Int) ^ min (21 : Int).toNat IntKind.i64.bits = 2097152 by decide, IntKind.wrap_i64]; omega
  rw [ht, w64 (by omega) (by omega), e7, e, bits_orc, bits_join .i64 63 (by decide) R.wraps_i64 21 (b % 128 * 2097152) x (by omega) (by omega) (by omega) (by omega) (by omega) (by omega)]
  omega
theorem rg_more3 {k : Nat} {l : List Int} {x b : Int} (h0 : 0 ≤ x) (hx : x < 2097152) (hl : 3 < l.length) (e : rd l 3 = b) (hb : 128 ≤ b ∧ b ≤ 255) : dovecoteref1_Get.l0 (k + 1) l x 3 = dovecoteref1_Get.l0 k l (x + b % 128 * 2097152) 4 := by
  rw [dovecoteref1_Get.l0, if_pos (by decide), if_neg (by omega), if_pos (by decide), if_pos (by omega), if_pos (by unfold wrap64; omega), e, if_neg (by omega), rg_val3 h0 hx (by omega)]
  rw [show wrap64 ((3 : Int) + 1) = 4 by unfold wrap64; omega]
theorem rg_end3 {k : Nat} (hk : 10 ≤ k) {l : List Int} {x b : Int} (h0 : 0 ≤ x) (hx : x < 2097152) (hl : 3 < l.length) (e : rd l 3 = b) (hb : 0 ≤ b ∧ b < 128) : dovecoteref1_Get.l0 (k + 1) l x 3 = if ((Dv.varPut (x + b * 2097152)).length : Int) = 4 then some (x + b * 2097152, 4, 0) else some (0, 0, 1) := by
  rw [dovecoteref1_Get.l0, if_pos (by decide), if_neg (by omega), if_pos (by decide), if_pos (by omega), if_pos (by unfold wrap64; omega), e, if_pos (by omega), rg_val3 h0 hx (by omega), show b % 128 = b by omega, rPut_f hk (by omega) (by omega), Option.bind_some]
  rw [show wrap64 ((3 : Int) + 1) = 4 by unfold wrap64; omega]
theorem rg_short3 {k : Nat} {l : List Int} {x : Int} (hl : l.length = 3) : dovecoteref1_Get.l0 (k + 1) l x 3 = some (0, 0, 3) := by
  rw [dovecoteref1_Get.l0, if_pos (by decide), if_pos (by omega)]
theorem rg_form {k : Nat} {l : List Int} {x : Int} : dovecoteref1_Get.l0 (k + 1) l x 4 = some (0, 0, 1) := by
  rw [dovecoteref1_Get.l0, if_neg (by decide)]
theorem vl1 {n : Int} (h : n < 128) : (Dv.varPut n).length = 1 := by unfold Dv.varPut; rw [if_pos h]; rfl
theorem vl2 {n : Int} (h0 : 128 ≤ n) (h : n < 16384) : (Dv.varPut n).length = 2 := by unfold Dv.varPut; rw [if_neg (by omega), if_pos h]; rfl
theorem vl3 {n : Int} (h0 : 16384 ≤ n) (h : n < 2097152) : (Dv.varPut n).length = 3 := by unfold Dv.varPut; rw [if_neg (by omega), if_neg (by omega), if_pos h]; rfl
theorem vl4 {n : Int} (h0 : 2097152 ≤ n) : (Dv.varPut n).length = 4 := by unfold Dv.varPut; rw [if_neg (by omega), if_neg (by omega), if_neg (by omega)]; rfl
theorem vlt2 {n : Int} (h : n < 128) : (Dv.varPut n).length < 2 := by rw [vl1 h]; decide
theorem vlt3 {n : Int} (h : n < 16384) : (Dv.varPut n).length < 3 := by
  by_cases c : n < 128
  · rw [vl1 c]; decide
  · rw [vl2 (by omega) h]; decide
theorem vlt4 {n : Int} (h : n < 2097152) : (Dv.varPut n).length < 4 := by
  by_cases c : n < 16384
  · have := vlt3 c; omega
  · rw [vl3 (by omega) h]; decide
theorem rGet_f {k : Nat} (hk : 20 ≤ k) (l : List Int) (hb : bok l) : dovecoteref1_Get.f k l = some (Dv.varGet l) := by
  obtain ⟨k, rfl⟩ : ∃ m, k = m + 10 + 5 := ⟨k - 15, by omega⟩
  show dovecoteref1_Get.l0 (k + 10 + 5) l 0 0 = _
  by_cases L0 : l = []
  · subst L0; rw [rg_short0 rfl]; rfl
  obtain ⟨b0, r1, rfl⟩ : ∃ x y, l = x :: y := by
    cases l with
    | nil => exact absurd rfl L0
    | cons x y => exact ⟨x, y, rfl⟩
  have g0 : 0 ≤ b0 ∧ b0 ≤ 255 := hb b0 (by simp)
  by_cases c0 : b0 < 128
  · rw [rg_end0 (k := k + 10 + 4) (by omega) (x := 0) (b := b0) (by omega) (by omega) (by simp) rfl (by omega)]
    rw [if_pos (by rw [vl1 (by omega)]; rfl)]
    simp only [Dv.varGet]; rw [if_pos c0]; congr 2; omega
  by_cases L1 : r1 = []
  · subst L1; rw [rg_more0 (k := k + 10 + 4) (x := 0) (b := b0) (by omega) (by omega) (by simp) rfl (by omega), rg_short1 (k := k + 10 + 3) rfl]
    simp only [Dv.varGet]; rw [if_neg c0]
  obtain ⟨b1, r2, rfl⟩ : ∃ x y, r1 = x :: y := by
    cases r1 with
    | nil => exact absurd rfl L1
    | cons x y => exact ⟨x, y, rfl⟩
  have g1 : 0 ≤ b1 ∧ b1 ≤ 255 := hb b1 (by simp)
  by_cases c1 : b1 < 128
  · rw [rg_more0 (k := k + 10 + 4) (x := 0) (b := b0) (by omega) (by omega) (by simp) rfl (by omega), rg_end1 (k := k + 10 + 3) (by omega) (x := (0 + b0 % 128 * 1)) (b := b1) (by omega) (by omega) (by simp) rfl (by omega)]
    by_cases d1 : b1 = 0
    · rw [if_neg (by have := vlt2 (n := (0 + b0 % 128 * 1) + b1 * 128) (by omega); omega)]
      simp only [Dv.varGet]; rw [if_neg c0, if_pos c1, if_pos d1]
    · rw [if_pos (by rw [vl2 (n := (0 + b0 % 128 * 1) + b1 * 128) (by omega) (by omega)]; rfl)]
      simp only [Dv.varGet]; rw [if_neg c0, if_pos c1, if_neg d1]; congr 2; omega
  by_cases L2 : r2 = []
  · subst L2; rw [rg_more0 (k := k + 10 + 4) (x := 0) (b := b0) (by omega) (by omega) (by simp) rfl (by omega), rg_more1 (k := k + 10 + 3) (x := (0 + b0 % 128 * 1)) (b := b1) (by omega) (by omega) (by simp) rfl (by omega), rg_short2 (k := k + 10 + 2) rfl]
    simp only [Dv.varGet]; rw [if_neg c0, if_neg c1]
  obtain ⟨b2, r3, rfl⟩ : ∃ x y, r2 = x :: y := by
    cases r2 with
    | nil => exact absurd rfl L2
    | cons x y => exact ⟨x, y, rfl⟩
  have g2 : 0 ≤ b2 ∧ b2 ≤ 255 := hb b2 (by simp)
  by_cases c2 : b2 < 128
  · rw [rg_more0 (k := k + 10 + 4) (x := 0) (b := b0) (by omega) (by omega) (by simp) rfl (by omega), rg_more1 (k := k + 10 + 3) (x := (0 + b0 % 128 * 1)) (b := b1) (by omega) (by omega) (by simp) rfl (by omega), rg_end2 (k := k + 10 + 2) (by omega) (x := ((0 + b0 % 128 * 1) + b1 % 128 * 128)) (b := b2) (by omega) (by omega) (by simp) rfl (by omega)]
    by_cases d2 : b2 = 0
    · rw [if_neg (by have := vlt3 (n := ((0 + b0 % 128 * 1) + b1 % 128 * 128) + b2 * 16384) (by omega); omega)]
      simp only [Dv.varGet]; rw [if_neg c0, if_neg c1, if_pos c2, if_pos d2]
    · rw [if_pos (by rw [vl3 (n := ((0 + b0 % 128 * 1) + b1 % 128 * 128) + b2 * 16384) (by omega) (by omega)]; rfl)]
      simp only [Dv.varGet]; rw [if_neg c0, if_neg c1, if_pos c2, if_neg d2]; congr 2; omega
  by_cases L3 : r3 = []
  · subst L3; rw [rg_more0 (k := k + 10 + 4) (x := 0) (b := b0) (by omega) (by omega) (by simp) rfl (by omega), rg_more1 (k := k + 10 + 3) (x := (0 + b0 % 128 * 1)) (b := b1) (by omega) (by omega) (by simp) rfl (by omega), rg_more2 (k := k + 10 + 2) (x := ((0 + b0 % 128 * 1) + b1 % 128 * 128)) (b := b2) (by omega) (by omega) (by simp) rfl (by omega), rg_short3 (k := k + 10 + 1) rfl]
    simp only [Dv.varGet]; rw [if_neg c0, if_neg c1, if_neg c2]
  obtain ⟨b3, r4, rfl⟩ : ∃ x y, r3 = x :: y := by
    cases r3 with
    | nil => exact absurd rfl L3
    | cons x y => exact ⟨x, y, rfl⟩
  have g3 : 0 ≤ b3 ∧ b3 ≤ 255 := hb b3 (by simp)
  by_cases c3 : b3 < 128
  · rw [rg_more0 (k := k + 10 + 4) (x := 0) (b := b0) (by omega) (by omega) (by simp) rfl (by omega), rg_more1 (k := k + 10 + 3) (x := (0 + b0 % 128 * 1)) (b := b1) (by omega) (by omega) (by simp) rfl (by omega), rg_more2 (k := k + 10 + 2) (x := ((0 + b0 % 128 * 1) + b1 % 128 * 128)) (b := b2) (by omega) (by omega) (by simp) rfl (by omega), rg_end3 (k := k + 10 + 1) (by omega) (x := (((0 + b0 % 128 * 1) + b1 % 128 * 128) + b2 % 128 * 16384)) (b := b3) (by omega) (by omega) (by simp) rfl (by omega)]
    by_cases d3 : b3 = 0
    · rw [if_neg (by have := vlt4 (n := (((0 + b0 % 128 * 1) + b1 % 128 * 128) + b2 % 128 * 16384) + b3 * 2097152) (by omega); omega)]
      simp only [Dv.varGet]; rw [if_neg c0, if_neg c1, if_neg c2, if_pos c3, if_pos d3]
    · rw [if_pos (by rw [vl4 (n := (((0 + b0 % 128 * 1) + b1 % 128 * 128) + b2 % 128 * 16384) + b3 * 2097152) (by omega)]; rfl)]
      simp only [Dv.varGet]; rw [if_neg c0, if_neg c1, if_neg c2, if_pos c3, if_neg d3]; congr 2; omega
  rw [rg_more0 (k := k + 10 + 4) (x := 0) (b := b0) (by omega) (by omega) (by simp) rfl (by omega), rg_more1 (k := k + 10 + 3) (x := (0 + b0 % 128 * 1)) (b := b1) (by omega) (by omega) (by simp) rfl (by omega), rg_more2 (k := k + 10 + 2) (x := ((0 + b0 % 128 * 1) + b1 % 128 * 128)) (b := b2) (by omega) (by omega) (by simp) rfl (by omega), rg_more3 (k := k + 10 + 1) (x := (((0 + b0 % 128 * 1) + b1 % 128 * 128) + b2 % 128 * 16384)) (b := b3) (by omega) (by omega) (by simp) rfl (by omega), rg_form (k := k + 10)]
  simp only [Dv.varGet]; rw [if_neg c0, if_neg c1, if_neg c2, if_neg c3]
end Go.Proofs.YtondmmoabmhpfaaDoor.Q

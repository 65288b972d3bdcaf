import Derived.Test.YtaenlmjllmcamaaDoorKV1
import Derived.Test.YtaenlmjllmcamaaDoorKP9
import Derived.Test.YtaenlmjllmcamaaDoorKQ7
import Derived.Test.YtaenlmjllmcamaaDoorKQ8
set_option linter.unusedVariables false
set_option linter.unusedSimpArgs false
namespace Go.Proofs.YtaenlmjllmcamaaDoor.Q
open Go.RowKit Go.Proofs.YtaenlmjllmcamaaDoorW.PrintWords Go.Proofs.YtaenlmjllmcamaaDoorW.PrintLast Go.Proofs.YtaenlmjllmcamaaDoorW.PrintMore
theorem rPut_more {k : Nat} {n : Int} {l : List Int} (h : 128 ≤ n) (h1 : n ≤ 268435455) (hl : l.length ≤ 10) : dovecoteref1_Put.l0 (k + 1) n l = dovecoteref1_Put.l0 k (n / 128) (l ++ [n % 128 + 128]) := by
  rw [dovecoteref1_Put.l0, if_pos (by omega), if_pos (by omega), Int.tdiv_eq_ediv_of_nonneg (by omega), Int.tmod_eq_emod_of_nonneg (by omega), show wrap64 (n / 128) = n / 128 by unfold wrap64; omega, or128 _ (by omega) (by omega)]
  congr 3; omega
theorem rPut_last {k : Nat} {n : Int} {l : List Int} (h0 : 0 ≤ n) (h : n < 128) (hl : l.length ≤ 10) : dovecoteref1_Put.l0 (k + 1) n l = some (l ++ [n]) := by
  rw [dovecoteref1_Put.l0, if_neg (by omega), if_pos (by omega), show n % 256 = n by omega]
theorem rPut_f {k : Nat} (hk : 10 ≤ k) {n : Int} (h0 : 0 ≤ n) (h : n ≤ 268435455) : dovecoteref1_Put.f k n = some (Dv.varPut n) := by
  obtain ⟨k, rfl⟩ : ∃ m, k = m + 4 := ⟨k - 4, by omega⟩
  unfold dovecoteref1_Put.f Dv.varPut
  by_cases a : n < 128
  · rw [if_pos a, rPut_last h0 a (by simp)]; rfl
  rw [if_neg a, rPut_more (by omega) h (by simp)]
  by_cases b : n < 16384
  · rw [if_pos b, rPut_last (by omega) (by omega) (by simp)]; rfl
  rw [if_neg b, rPut_more (by omega) (by omega) (by simp)]
  by_cases c : n < 2097152
  · rw [if_pos c, rPut_last (by omega) (by omega) (by simp)]; simp [show n / 128 / 128 = n / 16384 by omega]
  rw [if_neg c, rPut_more (by omega) (by omega) (by simp), rPut_last (by omega) (by omega) (by simp)]
  simp [show n / 128 / 128 = n / 16384 by omega, show n / 16384 / 128 = n / 2097152 by omega]
theorem high2_f {k : Nat} (hk : 10 ≤ k) {n : Int} (h0 : 0 ≤ n) (h : n ≤ 65535) : dovecoteref3_high.f k n 2 = some [n / 256, n % 256] := by
  obtain ⟨k, rfl⟩ : ∃ m, k = m + 3 := ⟨k - 3, by omega⟩
  unfold dovecoteref3_high.f
  simp [dovecoteref3_high.l0, wrap64, shr, IntKind.bits]
  omega
theorem high4_f {k : Nat} (hk : 10 ≤ k) {n : Int} (h0 : 0 ≤ n) (h : n ≤ 4294967295) : dovecoteref3_high.f k n 4 = some [n / 16777216, n / 65536 % 256, n / 256 % 256, n % 256] := by
  obtain ⟨k, rfl⟩ : ∃ m, k = m + 5 := ⟨k - 5, by omega⟩
  unfold dovecoteref3_high.f
  simp [dovecoteref3_high.l0, wrap64, shr, IntKind.bits]
  omega
theorem rBin_f {s : ByteArray} (h : s.size ≤ 140000) : dovecoteref1_Bin.f s = some (bin s) := by
  unfold dovecoteref1_Bin.f; rw [if_pos (by omega)]
theorem put3_f {k : Nat} (hk : 10 ≤ k) {id num : Int} {s t : ByteArray} (hm : may id num s t = true) : dovecoteref3_put.f k id num s t = some (putP id num s t) := by
  have hid := may_small hm
  have hl : (Dv.varPut id).length < 140737488355328 - 200000 := by have := varPut_len id; omega
  have hn := may_num hm
  have hlow := low_nonneg id
  unfold dovecoteref3_put.f
  rw [rPut_f hk hid.1 (by omega), Option.bind_some, kind_up hk, Option.bind_some]
  unfold putP tailP
  rcases kinds_of id with h | h | h | h | h | h | h | h
  all_goals rw [h] at hn ⊢
  · have : maxOf 1 = 1 := rfl
    simp only [if_true]
    rw [if_pos (by omega), show num % 256 = num by omega]
  · have : maxOf 2 = 65535 := rfl
    rw [if_neg (by decide), if_pos rfl, high2_f hk (by omega) (by omega), Option.bind_some, if_pos (by simp; omega), if_neg (by decide), if_pos rfl]
  · have : maxOf 4 = 4294967295 := rfl
    rw [if_neg (by decide), if_neg (by decide), if_pos rfl, high4_f hk (by omega) (by omega), Option.bind_some, if_pos (by simp; omega), if_neg (by decide), if_neg (by decide), if_pos rfl]
  · have : maxOf 5 = 268435455 := rfl
    rw [if_neg (by decide), if_neg (by decide), if_neg (by decide), if_pos rfl, rPut_f hk (by omega) (by omega), Option.bind_some, if_pos (by have := varPut_len num; omega)]
    simp
  · have hs := chk_size (may_str hm (.inl h))
    rw [if_neg (by decide), if_neg (by decide), if_neg (by decide), if_neg (by decide), if_neg (by decide), rBin_f (by omega), Option.bind_some, if_pos (by rw [bin_len]; omega)]
    simp
  · have hs := may_bin7 hm h
    rw [if_neg (by decide), if_neg (by decide), if_neg (by decide), if_neg (by decide), if_neg (by decide), rBin_f (by omega), Option.bind_some, if_pos (by rw [bin_len]; omega)]
    simp
  · have hs := chk_size (may_str hm (.inr h))
    have ht := chk_size (may_val hm h)
    rw [if_neg (by decide), if_neg (by decide), if_neg (by decide), if_neg (by decide), if_pos rfl, rBin_f (by omega), Option.bind_some, if_pos (by rw [bin_len]; omega), Option.bind_some, rBin_f (by omega), Option.bind_some, if_pos (by rw [List.length_append, bin_len, bin_len]; omega)]
    simp
  · exfalso; unfold may at hm; rw [h] at hm; simp at hm
theorem Bytes_l0 (l : List S43) (h32 : l.length ≤ 32) (hm : ∀ i, i < l.length → mayP (l.getD i z43) = true) : ∀ (d k i : Nat), i + d = l.length → d + 20 ≤ k → dovecoteref3_Bytes.l0 k l (body3 (l.take i)) i = some (bytes3 l)
  | 0, k + 1, i, h, hk => by
    have hs := body3_small h32 hm
    obtain rfl : i = l.length := by omega
    rw [List.take_length, dovecoteref3_Bytes.l0, if_neg (by omega), rPut_f (by omega) (by omega) (by omega), Option.bind_some, if_pos (by have := varPut_len (body3 l).length; omega)]
    rfl
  | d + 1, k + 1, i, h, hk => by
    have hi : i < l.length := by omega
    obtain ⟨p, hp⟩ : ∃ p, l.getD i z43 = p := ⟨_, rfl⟩
    have hmp : may p.f0 p.f1 p.f2 p.f3 = true := by have := hm i hi; rw [hp] at this; exact this
    have h1 := body3_len hm i (by omega)
    have h2 := putP_len hmp
    have h3 : i * 140000 ≤ 32 * 140000 := Nat.mul_le_mul_right _ (by omega)
    rw [dovecoteref3_Bytes.l0, if_pos (by omega), if_pos (by omega), rd_at, hp, put3_f (by omega) hmp, Option.bind_some, if_pos (by omega)]
    rw [show wrap64 ((i : Int) + 1) = ((i + 1 : Nat) : Int) by unfold wrap64; omega]
    rw [show body3 (l.take i) ++ putP p.f0 p.f1 p.f2 p.f3 = body3 (l.take (i + 1)) by rw [body3_take hi, hp]; rfl]
    exact Bytes_l0 l h32 hm d k (i + 1) (by omega) (by omega)
theorem Bytes3_f (l : List S43) (pl : Int) (h : chk3 l pl = 0) : dovecoteref3_Bytes.f (l.length + 20) l = some (bytes3 l) :=
  Bytes_l0 l (chk3_ok h).1 (chk3_ok h).2 l.length _ 0 (by omega) (Nat.le_refl _)
theorem EqBytes_l0 (l : List Int) (hl : l.length ≤ 1000000000) : ∀ (d k i : Nat), i + d = l.length → d < k → dovecoteref0_EqBytes.l0 k l l i = some true
  | 0, k + 1, i, h, hk => by rw [dovecoteref0_EqBytes.l0, if_neg (by omega)]
  | d + 1, k + 1, i, h, hk => by
    rw [dovecoteref0_EqBytes.l0, if_pos (by omega), if_pos (by omega), if_pos (by omega), if_pos rfl, show wrap64 ((i : Int) + 1) = ((i + 1 : Nat) : Int) by unfold wrap64; omega]
    exact EqBytes_l0 l hl d k (i + 1) (by omega) (by omega)
theorem EqBytes_f (l : List Int) (hl : l.length ≤ 1000000000) : dovecoteref0_EqBytes.f (l.length + 1) l l = some true := by
  unfold dovecoteref0_EqBytes.f; rw [if_pos rfl]; exact EqBytes_l0 l hl l.length _ 0 (by omega) (by omega)
theorem EqProps_l0 (l : List S43) (hl : l.length ≤ 1000000000) : ∀ (d k i : Nat), i + d = l.length → d < k → dovecoteref0_EqProps.l0 k l l i = some true
  | 0, k + 1, i, h, hk => by rw [dovecoteref0_EqProps.l0, if_neg (by omega)]
  | d + 1, k + 1, i, h, hk => by
    rw [dovecoteref0_EqProps.l0, if_pos (by omega), if_pos (by omega), if_pos (by omega), if_neg (by simp), show wrap64 ((i : Int) + 1) = ((i + 1 : Nat) : Int) by unfold wrap64; omega]
    exact EqProps_l0 l hl d k (i + 1) (by omega) (by omega)
theorem EqProps_f (l : List S43) (hl : l.length ≤ 1000000000) : dovecoteref0_EqProps.f (l.length + 1) l l = some true := by
  unfold dovecoteref0_EqProps.f; rw [if_pos rfl]; exact EqProps_l0 l hl l.length _ 0 (by omega) (by omega)
theorem CopyProps_l0 (l : List S43) (hl : l.length ≤ 1000000000) : ∀ (d k i : Nat), i + d = l.length → d < k → dovecoteref0_CopyProps.l0 k l (l.take i) i = some l
  | 0, k + 1, i, h, hk => by rw [dovecoteref0_CopyProps.l0, if_neg (by omega), List.take_of_length_le (by omega)]
  | d + 1, k + 1, i, h, hk => by
    rw [dovecoteref0_CopyProps.l0, if_pos (by omega), if_pos (by omega), if_pos (by rw [List.length_take]; omega), show wrap64 ((i : Int) + 1) = ((i + 1 : Nat) : Int) by unfold wrap64; omega, rd_at]
    rw [show l.take i ++ [(⟨(l.getD i z43).f0, (l.getD i z43).f1, (l.getD i z43).f2, (l.getD i z43).f3⟩ : S43)] = l.take (i + 1) by
      rw [List.take_succ_eq_append_getElem (by omega), List.getD_eq_getElem?_getD, List.getElem?_eq_getElem (by omega)]; rfl]
    exact CopyProps_l0 l hl d k (i + 1) (by omega) (by omega)
theorem CopyProps_f (l : List S43) (hl : l.length ≤ 1000000000) : dovecoteref0_CopyProps.f (l.length + 1) l = some l :=
  CopyProps_l0 l hl l.length _ 0 (by omega) (by omega)
theorem Weight_l0 (l : List S43) : ∀ (d k : Nat) (i x : Int), 0 ≤ i → i ≤ 1000 → 1000 - i = d → d < k → ∃ r, dovecotelaw0_PropsWeight.l0 k l x i = some r
  | 0, k + 1, i, x, h0, h1, hd, hk => by
    rw [dovecotelaw0_PropsWeight.l0]
    by_cases c : i < (l.length : Int)
    · rw [if_pos c, if_neg (by omega)]; exact ⟨_, rfl⟩
    · rw [if_neg c]; exact ⟨_, rfl⟩
  | d + 1, k + 1, i, x, h0, h1, hd, hk => by
    rw [dovecotelaw0_PropsWeight.l0]
    by_cases c : i < (l.length : Int)
    · rw [if_pos c, if_pos (by omega), if_pos h0, show wrap64 (i + 1) = i + 1 by unfold wrap64; omega]
      exact Weight_l0 l d k (i + 1) _ (by omega) (by omega) (by omega) (by omega)
    · rw [if_neg c]; exact ⟨_, rfl⟩
theorem Weight_f (l : List S43) : ∃ r, dovecotelaw0_PropsWeight.f 1001 l = some r := Weight_l0 l 1000 1001 0 _ (by omega) (by omega) (by omega) (by omega)
theorem heavy_f (l : List S43) (pl : Int) (b : List Int) : ∃ r, dovecotelaw3_heavy.f 1001 l pl b = some r ∧ (r = false → l.length ≤ 200 ∧ b.length ≤ 5000) := by
  obtain ⟨n, hn⟩ := Weight_f l
  unfold dovecotelaw3_heavy.f
  rw [hn, Option.bind_some]
  by_cases h1 : n > 70000
  · exact ⟨true, by rw [if_pos h1], by intro h; cases h⟩
  by_cases h2 : (l.length : Int) > 200
  · exact ⟨true, by rw [if_neg h1, if_pos h2], by intro h; cases h⟩
  · refine ⟨_, by rw [if_neg h1, if_neg h2], fun h => ?_⟩
    have := of_decide_eq_false h
    omega
end Go.Proofs.YtaenlmjllmcamaaDoor.Q

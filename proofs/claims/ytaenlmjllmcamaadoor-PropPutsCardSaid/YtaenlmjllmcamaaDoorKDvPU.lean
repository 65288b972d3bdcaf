import Derived.Test.YtaenlmjllmcamaaDoorKR1
import Derived.Test.YtaenlmjllmcamaaDoorKDvUtf
namespace Go.Proofs.YtaenlmjllmcamaaDoor.R
open Go.RowKit Go.Proofs.YtaenlmjllmcamaaDoorW.PrintWords Go.Proofs.YtaenlmjllmcamaaDoorW.PrintLast Go.Proofs.YtaenlmjllmcamaaDoorW.PrintMore
theorem wraps_i64 (n : Int) (h₀ : 0 ≤ n) (h₁ : n < 2 ^ 63) : IntKind.i64.wrap n = n := by rw [IntKind.wrap_i64]; omega
theorem i64_and7 {x : Int} (h₀ : 0 ≤ x) (h₁ : x < 256) : Go.bits .and .i64 x 7 = x % 8 := bits_mask .i64 63 (by decide) wraps_i64 3 (by decide) x h₀ (by omega)
theorem i64_and15 {x : Int} (h₀ : 0 ≤ x) (h₁ : x < 256) : Go.bits .and .i64 x 15 = x % 16 := bits_mask .i64 63 (by decide) wraps_i64 4 (by decide) x h₀ (by omega)
theorem i64_and31 {x : Int} (h₀ : 0 ≤ x) (h₁ : x < 256) : Go.bits .and .i64 x 31 = x % 32 := bits_mask .i64 63 (by decide) wraps_i64 5 (by decide) x h₀ (by omega)
theorem u8_and192 : ∀ x : Fin 256, (Go.bits .and .u8 (x.val : Int) 192 = 128) ↔ x.val / 64 = 2 := by decide +kernel
theorem i64_or64 {x y : Int} (hx₀ : 0 ≤ x) (hx : x < 4294967296) (h₀ : 0 ≤ y) (h₁ : y < 64) : Go.bits .or .i64 (x * 64) y = x * 64 + y :=
  bits_join .i64 63 (by decide) wraps_i64 6 (x * 64) y (by omega) (by omega) (by omega) h₀ (by omega) (by omega)
def ints (l : List UInt8) : List Int := l.map fun b => (b.toNat : Int)
theorem ints_length (l : List UInt8) : (ints l).length = l.length := by simp [ints]
theorem rd_ints (l : List UInt8) (i : Int) : rd (ints l) i = ((l.getD i.toNat 0).toNat : Int) := by
  unfold rd ints
  rw [List.getD_eq_getElem?_getD, List.getD_eq_getElem?_getD, List.getElem?_map]
  cases l[i.toNat]? <;> simp
theorem wb (b : UInt8) : wrap64 ((b.toNat : Int)) = (b.toNat : Int) := by have := b.toNat_lt; unfold wrap64; omega
theorem and192 (b : UInt8) : (Go.bits .and .u8 (b.toNat : Int) 192 = 128) ↔ b.toNat / 64 = 2 := u8_and192 ⟨b.toNat, b.toNat_lt⟩
theorem and63 (b : UInt8) : wrap64 (Go.bits .and .u8 (b.toNat : Int) 63) = ((b.toNat % 64 : Nat) : Int) := by
  have := b.toNat_lt
  have h := u8_and63 (x := (b.toNat : Int)) (by omega) (by omega)
  unfold wrap64; omega
theorem step_p (p : Int) (c : UInt8) (h0 : 0 ≤ p) (h1 : p < 1000000000) : Go.bits .or .i64 (wrap64 (p * 64)) (wrap64 (Go.bits .and .u8 (c.toNat : Int) 63)) = p * 64 + ((c.toNat % 64 : Nat) : Int) := by
  have := c.toNat_lt
  rw [and63, show wrap64 (p * 64) = p * 64 by unfold wrap64; omega, i64_or64 h0 (by omega) (by omega) (by omega)]

theorem l0_step {k : Nat} {l : List UInt8} {n p least i : Int} (h0 : 0 ≤ i) (hn : i < n) (hl : n ≤ (l.length : Int)) (h4 : n ≤ 4) (hp : 0 ≤ p) (hp1 : p < 1000000000) :
    dovecoteref1_point.l0 (k + 1) (ints l) n p least i = if (l.getD i.toNat 0).toNat / 64 = 2 then dovecoteref1_point.l0 k (ints l) n (p * 64 + (((l.getD i.toNat 0).toNat % 64 : Nat) : Int)) least (i + 1) else some 0 := by
  rw [dovecoteref1_point.l0]
  rw [if_pos hn, if_pos h0, if_pos (by rw [ints_length]; omega), rd_ints, step_p _ _ hp hp1, show wrap64 (i + 1) = i + 1 by unfold wrap64; omega]
  by_cases h : (l.getD i.toNat 0).toNat / 64 = 2
  · rw [if_pos h, if_pos ((and192 _).2 h)]
  · rw [if_neg h, if_neg (fun hh => h ((and192 _).1 hh))]
theorem l0_end {k : Nat} {l : List UInt8} {n p least i : Int} (hn : ¬ i < n) :
    dovecoteref1_point.l0 (k + 1) (ints l) n p least i = some (if p < least ∨ p > 1114111 ∨ (55296 ≤ p ∧ p ≤ 57343) then 0 else n) := by
  rw [dovecoteref1_point.l0, if_neg hn]
  by_cases h1 : p < least
  · rw [if_pos h1, if_pos (.inl h1)]
  · rw [if_neg h1]
    by_cases h2 : p > 1114111
    · rw [if_pos h2, if_pos (.inr (.inl h2))]
    · rw [if_neg h2]
      by_cases h3 : p ≥ 55296
      · rw [if_pos h3]
        by_cases h4 : p ≤ 57343
        · rw [if_pos h4, if_pos (by omega)]
        · rw [if_neg h4, if_neg (by omega)]
      · rw [if_neg h3, if_neg (by omega)]
open Dv in
theorem point_f (l : List UInt8) (hl : l ≠ []) (k : Nat) : dovecoteref1_point.f (k + 6) (ints l) = some ((utfAt l : Nat) : Int) := by
  have hp := List.length_pos_iff.2 hl
  unfold dovecoteref1_point.f
  rw [if_pos (by rw [ints_length]; omega), rd_ints]
  have e0 : (0 : Int).toNat = 0 := rfl
  rw [e0]
  have hb0 := (l.getD 0 0).toNat_lt
  have hb1 := (l.getD 1 0).toNat_lt
  have hb2 := (l.getD 2 0).toNat_lt
  have hb3 := (l.getD 3 0).toNat_lt
  unfold utfAt utfLen
  rw [wb]
  generalize hx : (l.getD 0 0).toNat = b0 at *
  by_cases c1 : 248 ≤ b0
  · rw [if_pos (by omega), if_pos c1]; rfl
  rw [if_neg (by omega), if_neg c1]
  by_cases c2 : 240 ≤ b0
  · rw [if_pos (by omega), if_pos c2, i64_and7 (by omega) (by omega), dovecoteref1_point.j0, ints_length]
    by_cases d : l.length < 4
    · rw [if_pos (by omega), if_pos d]; rfl
    rw [if_neg (by omega), if_neg d, l0_step (by omega) (by omega) (by omega) (by omega) (by omega) (by omega)]
    rw [show (1 : Int).toNat = 1 from rfl, show (1 : Int) + 1 = 2 from rfl]
    by_cases f1 : (l.getD 1 0).toNat / 64 = 2
    · rw [if_pos f1, l0_step (by omega) (by omega) (by omega) (by omega) (by omega) (by omega), show (2 : Int).toNat = 2 from rfl, show (2 : Int) + 1 = 3 from rfl]
      by_cases f2 : (l.getD 2 0).toNat / 64 = 2
      · rw [if_pos f2, l0_step (by omega) (by omega) (by omega) (by omega) (by omega) (by omega), show (3 : Int).toNat = 3 from rfl, show (3 : Int) + 1 = 4 from rfl]
        by_cases f3 : (l.getD 3 0).toNat / 64 = 2
        · rw [if_pos f3, if_pos (show (l.getD 1 0).toNat / 64 = 2 ∧ (l.getD 2 0).toNat / 64 = 2 ∧ (l.getD 3 0).toNat / 64 = 2 from ⟨f1, f2, f3⟩), l0_end (by omega)]
          have e : (((b0 : Int) % 8 * 64 + (((l.getD 1 0).toNat % 64 : Nat) : Int)) * 64 + (((l.getD 2 0).toNat % 64 : Nat) : Int)) * 64 + (((l.getD 3 0).toNat % 64 : Nat) : Int) = ((((b0 % 8 * 64 + (l.getD 1 0).toNat % 64) * 64 + (l.getD 2 0).toNat % 64) * 64 + (l.getD 3 0).toNat % 64 : Nat) : Int) := by omega
          rw [e]
          generalize (((b0 % 8 * 64 + (l.getD 1 0).toNat % 64) * 64 + (l.getD 2 0).toNat % 64) * 64 + (l.getD 3 0).toNat % 64 : Nat) = p at *
          by_cases g : p < 65536 ∨ p > 1114111
          · rw [if_pos g, if_pos (by omega)]; rfl
          · rw [if_neg g, if_neg (by omega)]; rfl
        · rw [if_neg f3, if_neg (fun h => f3 h.2.2)]; rfl
      · rw [if_neg f2, if_neg (fun h => f2 h.2.1)]; rfl
    · rw [if_neg f1, if_neg (fun h => f1 h.1)]; rfl
  rw [if_neg (by omega), if_neg c2]
  by_cases c3 : 224 ≤ b0
  · rw [if_pos (by omega), if_pos c3, i64_and15 (by omega) (by omega), dovecoteref1_point.j0, ints_length]
    by_cases d : l.length < 3
    · rw [if_pos (by omega), if_pos d]; rfl
    rw [if_neg (by omega), if_neg d, l0_step (by omega) (by omega) (by omega) (by omega) (by omega) (by omega)]
    rw [show (1 : Int).toNat = 1 from rfl, show (1 : Int) + 1 = 2 from rfl]
    by_cases f1 : (l.getD 1 0).toNat / 64 = 2
    · rw [if_pos f1, l0_step (by omega) (by omega) (by omega) (by omega) (by omega) (by omega), show (2 : Int).toNat = 2 from rfl, show (2 : Int) + 1 = 3 from rfl]
      by_cases f2 : (l.getD 2 0).toNat / 64 = 2
      · rw [if_pos f2, if_pos (show (l.getD 1 0).toNat / 64 = 2 ∧ (l.getD 2 0).toNat / 64 = 2 from ⟨f1, f2⟩), l0_end (by omega)]
        have e : ((b0 : Int) % 16 * 64 + (((l.getD 1 0).toNat % 64 : Nat) : Int)) * 64 + (((l.getD 2 0).toNat % 64 : Nat) : Int) = (((b0 % 16 * 64 + (l.getD 1 0).toNat % 64) * 64 + (l.getD 2 0).toNat % 64 : Nat) : Int) := by omega
        rw [e]
        have hp : (b0 % 16 * 64 + (l.getD 1 0).toNat % 64) * 64 + (l.getD 2 0).toNat % 64 < 65536 := by omega
        generalize ((b0 % 16 * 64 + (l.getD 1 0).toNat % 64) * 64 + (l.getD 2 0).toNat % 64 : Nat) = p at *
        by_cases g : p < 2048 ∨ (55296 ≤ p ∧ p ≤ 57343)
        · rw [if_pos g, if_pos (by omega)]; rfl
        · rw [if_neg g, if_neg (by omega)]; rfl
      · rw [if_neg f2, if_neg (fun h => f2 h.2)]; rfl
    · rw [if_neg f1, if_neg (fun h => f1 h.1)]; rfl
  rw [if_neg (by omega), if_neg c3]
  by_cases c4 : 192 ≤ b0
  · rw [if_pos (by omega), if_pos c4, i64_and31 (by omega) (by omega), dovecoteref1_point.j0, ints_length]
    by_cases d : l.length < 2
    · rw [if_pos (by omega), if_pos d]; rfl
    rw [if_neg (by omega), if_neg d, l0_step (by omega) (by omega) (by omega) (by omega) (by omega) (by omega)]
    rw [show (1 : Int).toNat = 1 from rfl, show (1 : Int) + 1 = 2 from rfl]
    by_cases f1 : (l.getD 1 0).toNat / 64 = 2
    · rw [if_pos f1, l0_end (by omega), if_pos f1]
      have e : (b0 : Int) % 32 * 64 + (((l.getD 1 0).toNat % 64 : Nat) : Int) = ((b0 % 32 * 64 + (l.getD 1 0).toNat % 64 : Nat) : Int) := by omega
      rw [e]
      have hp : b0 % 32 * 64 + (l.getD 1 0).toNat % 64 < 2048 := by omega
      generalize (b0 % 32 * 64 + (l.getD 1 0).toNat % 64 : Nat) = p at *
      by_cases g : p < 128
      · rw [if_pos g, if_pos (by omega)]; rfl
      · rw [if_neg g, if_neg (by omega)]; rfl
    · rw [if_neg f1, if_neg f1]; rfl
  rw [if_neg (by omega), if_neg c4]
  by_cases c5 : 128 ≤ b0
  · rw [if_pos (by omega), if_pos c5]; rfl
  rw [if_neg (by omega), if_neg c5, dovecoteref1_point.j0, ints_length, if_neg (by omega), l0_end (by omega)]
  by_cases c6 : b0 = 0
  · rw [if_pos c6, if_pos (by omega)]; rfl
  · rw [if_neg c6, if_neg (by omega)]; rfl
theorem ints_drop (l : List UInt8) (n : Nat) : (ints l).drop n = ints (l.drop n) := by simp [ints, List.map_drop]
open Dv in
theorem Utf_l0 : ∀ (n : Nat) (l : List UInt8) (k : Nat), l.length ≤ n → n + 7 ≤ k → dovecoteref1_Utf.l0 k (ints l) = some (utf l)
  | n, l, k, hn, hk => by
    obtain ⟨k, rfl⟩ : ∃ m, k = m + 1 := ⟨k - 1, by omega⟩
    rw [dovecoteref1_Utf.l0, ints_length]
    by_cases h0 : l = []
    · subst h0; rfl
    have hp := List.length_pos_iff.2 h0
    have hle := utfAt_le l h0
    obtain ⟨k', rfl⟩ : ∃ m, k = m + 6 := ⟨k - 6, by omega⟩
    rw [if_pos (by omega), point_f l h0, utf_step l h0]
    simp only [Option.bind_some]
    by_cases hz : utfAt l = 0
    · rw [if_pos (by omega), if_pos hz]
    · rw [if_neg (by omega), if_neg hz, if_pos (by omega), if_pos (by omega), ints_drop, Int.toNat_natCast]
      match n, hn with
      | 0, hn => omega
      | n + 1, hn => exact Utf_l0 n _ _ (by rw [List.length_drop]; omega) (by omega)
theorem Utf_f (l : List UInt8) : dovecoteref1_Utf.f (l.length + 7) (ints l) = some (Dv.utf l) := Utf_l0 l.length l _ (Nat.le_refl _) (Nat.le_refl _)
end Go.Proofs.YtaenlmjllmcamaaDoor.R

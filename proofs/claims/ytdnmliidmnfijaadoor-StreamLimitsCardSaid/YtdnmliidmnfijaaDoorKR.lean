import Derived.Lib.ValidLaws
import Derived.Below
import Derived.Deep.Draws
import Derived.Deep.AppendLies
import Derived.Maps.AppendAt
import Derived.OwnWalk
import Derived.Laws.BytesArg
import Derived.Laws.MakeOwn
import Derived.Laws.OwnMore
import Derived.Deep.OwnRows
import Derived.Tactics
import Derived.Lib.ConvBytes
import Derived.Laws.Slices
import Derived.WalkKit
import Derived.KernelRfl
import Derived.RowKit3
import Derived.Deep.LoopGhost
import Derived.Deep.QuietTactic
import Derived.BigQuiet
import Derived.WideLaws
import Derived.Deep.DeepCutAuto
import Derived.Deep.CutBlock
import Derived.Deep.RegionHeld3
import Derived.Laws.Rows
import Derived.Lib.AppendStr
import Derived.ArgAppend
import Derived.Laws.IdiomCopy
import Derived.OrdersHeld
import Derived.Laws.BitsLemmas
import Derived.RowKit
import Derived.Test.YtdnmliidmnfijaaDoorKWords
section
set_option linter.unusedVariables false
namespace Dv
open Go.Lib
def utfLen (n b0 b1 b2 b3 : Nat) : Nat :=
  if 248 ≤ b0 then 0
  else if 240 ≤ b0 then
    (if n < 4 then 0 else if b1 / 64 = 2 ∧ b2 / 64 = 2 ∧ b3 / 64 = 2 then
      (if ((b0 % 8 * 64 + b1 % 64) * 64 + b2 % 64) * 64 + b3 % 64 < 65536 ∨ ((b0 % 8 * 64 + b1 % 64) * 64 + b2 % 64) * 64 + b3 % 64 > 1114111 then 0 else 4) else 0)
  else if 224 ≤ b0 then
    (if n < 3 then 0 else if b1 / 64 = 2 ∧ b2 / 64 = 2 then
      (if (b0 % 16 * 64 + b1 % 64) * 64 + b2 % 64 < 2048 ∨ (55296 ≤ (b0 % 16 * 64 + b1 % 64) * 64 + b2 % 64 ∧ (b0 % 16 * 64 + b1 % 64) * 64 + b2 % 64 ≤ 57343) then 0 else 3) else 0)
  else if 192 ≤ b0 then
    (if n < 2 then 0 else if b1 / 64 = 2 then (if b0 % 32 * 64 + b1 % 64 < 128 then 0 else 2) else 0)
  else if 128 ≤ b0 then 0
  else if b0 = 0 then 0 else 1
def utfAt (l : List UInt8) : Nat := utfLen l.length (l.getD 0 0).toNat (l.getD 1 0).toNat (l.getD 2 0).toNat (l.getD 3 0).toNat
def utfF : Nat → List UInt8 → Bool
  | 0, _ => true
  | n + 1, l => if l = [] then true else if utfAt l = 0 then false else utfF n (l.drop (utfAt l))
def utf (l : List UInt8) : Bool := utfF l.length l

theorem utfLen_le (n b0 b1 b2 b3 : Nat) (hn : 1 ≤ n) : utfLen n b0 b1 b2 b3 ≤ n := by
  unfold utfLen; repeat' split
  all_goals omega
theorem utfAt_le (l : List UInt8) (h : l ≠ []) : utfAt l ≤ l.length := utfLen_le _ _ _ _ _ (List.length_pos_iff.2 h)
theorem utfF_more : ∀ (n m : Nat) (l : List UInt8), l.length ≤ n → l.length ≤ m → utfF n l = utfF m l
  | 0, m, l, h, _ => by
    have : l = [] := List.eq_nil_of_length_eq_zero (by omega)
    subst this; cases m <;> simp [utfF]
  | n + 1, 0, l, _, h => by
    have : l = [] := List.eq_nil_of_length_eq_zero (by omega)
    subst this; simp [utfF]
  | n + 1, m + 1, l, h, h' => by
    simp only [utfF]
    by_cases hl : l = []
    · simp [hl]
    · rw [if_neg hl, if_neg hl]
      by_cases h0 : utfAt l = 0
      · simp [h0]
      · rw [if_neg h0, if_neg h0]
        have := List.length_pos_iff.2 hl
        exact utfF_more n m _ (by rw [List.length_drop]; omega) (by rw [List.length_drop]; omega)
theorem utf_nil : utf [] = true := rfl
theorem utf_step (l : List UInt8) (h : l ≠ []) : utf l = if utfAt l = 0 then false else utf (l.drop (utfAt l)) := by
  have hp := List.length_pos_iff.2 h
  have : utf l = utfF (l.length - 1 + 1) l := by unfold utf; congr 1; omega
  rw [this]; simp only [utfF]; rw [if_neg h]
  by_cases h0 : utfAt l = 0
  · simp [h0]
  · rw [if_neg h0, if_neg h0]
    exact utfF_more _ _ _ (by rw [List.length_drop]; omega) (by rw [List.length_drop]; omega)

set_option maxHeartbeats 4000000 in
/-- one code point: Go's and the page's -/
theorem decode_utf (n b0 b1 b2 b3 : Nat) (hn : 1 ≤ n) (h0 : b0 < 256) (h1 : b1 < 256) (h2 : b2 < 256) (h3 : b3 < 256) (hz : b0 ≠ 0) :
    (utfLen n b0 b1 b2 b3 = 0 ↔ (decodeN n b0 b1 b2 b3).1 = 65533 ∧ (decodeN n b0 b1 b2 b3).2 = 1) ∧ (utfLen n b0 b1 b2 b3 ≠ 0 → utfLen n b0 b1 b2 b3 = (decodeN n b0 b1 b2 b3).2) := by
  by_cases c1 : b0 < 128
  · have e1 : utfLen n b0 b1 b2 b3 = 1 := by unfold utfLen; rw [if_neg (by omega), if_neg (by omega), if_neg (by omega), if_neg (by omega), if_neg (by omega), if_neg hz]
    have e2 : decodeN n b0 b1 b2 b3 = (b0, 1) := by unfold decodeN; rw [if_pos c1]
    rw [e1, e2]; constructor
    · constructor <;> intro h <;> simp at h ⊢; omega
    · simp
  by_cases c2 : b0 < 192
  · have e1 : utfLen n b0 b1 b2 b3 = 0 := by unfold utfLen; rw [if_neg (by omega), if_neg (by omega), if_neg (by omega), if_neg (by omega), if_pos (by omega)]
    have e2 : decodeN n b0 b1 b2 b3 = (65533, 1) := by unfold decodeN; rw [if_neg c1, if_neg (by omega), if_neg (by omega), if_neg (by omega)]
    rw [e1, e2]; simp
  by_cases c3 : b0 < 224
  · have e1 : utfLen n b0 b1 b2 b3 = if n < 2 then 0 else if b1 / 64 = 2 then (if b0 % 32 * 64 + b1 % 64 < 128 then 0 else 2) else 0 := by unfold utfLen; rw [if_neg (by omega), if_neg (by omega), if_neg (by omega), if_pos (by omega)]
    have e2 : decodeN n b0 b1 b2 b3 = if 1 < n ∧ b1 / 64 = 2 then (if b0 % 32 * 64 + b1 % 64 ≥ 128 then (b0 % 32 * 64 + b1 % 64, 2) else (65533, 1)) else (65533, 1) := by
      unfold decodeN; rw [if_neg c1]
      by_cases d : 1 < n ∧ b1 / 64 = 2
      · rw [if_pos ⟨by omega, d⟩, if_pos d]
      · rw [if_neg (fun h => d h.2), if_neg (by omega), if_neg (by omega), if_neg d]
    generalize b0 % 32 * 64 + b1 % 64 = p at *
    rw [e1, e2]
    by_cases d : 1 < n
    · by_cases d2 : b1 / 64 = 2
      · by_cases f : p < 128
        · simp [d, d2, f, show ¬ n < 2 by omega, show ¬ 128 ≤ p by omega]
        · simp [d, d2, f, show ¬ n < 2 by omega, show 128 ≤ p by omega]
      · simp [d2]
    · simp [d, show n < 2 by omega]
  by_cases c4 : b0 < 240
  · have e1 : utfLen n b0 b1 b2 b3 = if n < 3 then 0 else if b1 / 64 = 2 ∧ b2 / 64 = 2 then
      (if (b0 % 16 * 64 + b1 % 64) * 64 + b2 % 64 < 2048 ∨ (55296 ≤ (b0 % 16 * 64 + b1 % 64) * 64 + b2 % 64 ∧ (b0 % 16 * 64 + b1 % 64) * 64 + b2 % 64 ≤ 57343) then 0 else 3) else 0 := by unfold utfLen; rw [if_neg (by omega), if_neg (by omega), if_pos (by omega)]
    have ea : b0 % 16 * 4096 + b1 % 64 * 64 + b2 % 64 = (b0 % 16 * 64 + b1 % 64) * 64 + b2 % 64 := by omega
    have e2 : decodeN n b0 b1 b2 b3 = if (1 < n ∧ b1 / 64 = 2) ∧ (2 < n ∧ b2 / 64 = 2) then (if (b0 % 16 * 64 + b1 % 64) * 64 + b2 % 64 ≥ 2048 ∧ ((b0 % 16 * 64 + b1 % 64) * 64 + b2 % 64 < 55296 ∨ (57344 ≤ (b0 % 16 * 64 + b1 % 64) * 64 + b2 % 64 ∧ (b0 % 16 * 64 + b1 % 64) * 64 + b2 % 64 ≤ 1114111)) then ((b0 % 16 * 64 + b1 % 64) * 64 + b2 % 64, 3) else (65533, 1)) else (65533, 1) := by
      unfold decodeN; rw [if_neg c1, if_neg (by omega), ea]
      by_cases d : (1 < n ∧ b1 / 64 = 2) ∧ (2 < n ∧ b2 / 64 = 2)
      · rw [if_pos ⟨by omega, d⟩, if_pos d]
      · rw [if_neg (fun h => d h.2), if_neg (by omega), if_neg d]
    have hp : (b0 % 16 * 64 + b1 % 64) * 64 + b2 % 64 < 65536 := by omega
    clear ea
    generalize (b0 % 16 * 64 + b1 % 64) * 64 + b2 % 64 = p at *
    rw [e1, e2]
    by_cases d : 2 < n
    · by_cases d2 : b1 / 64 = 2
      · by_cases d3 : b2 / 64 = 2
        · by_cases f : p < 2048 ∨ (55296 ≤ p ∧ p ≤ 57343)
          · rw [if_neg (by omega), if_pos ⟨d2, d3⟩, if_pos f, if_pos ⟨⟨by omega, d2⟩, d, d3⟩, if_neg (by omega)]; simp
          · rw [if_neg (by omega), if_pos ⟨d2, d3⟩, if_neg f, if_pos ⟨⟨by omega, d2⟩, d, d3⟩, if_pos (by omega)]; simp
        · simp [d3]
      · simp [d2]
    · simp [d, show n < 3 by omega]
  by_cases c5 : b0 < 248
  · have e1 : utfLen n b0 b1 b2 b3 = if n < 4 then 0 else if b1 / 64 = 2 ∧ b2 / 64 = 2 ∧ b3 / 64 = 2 then
      (if ((b0 % 8 * 64 + b1 % 64) * 64 + b2 % 64) * 64 + b3 % 64 < 65536 ∨ ((b0 % 8 * 64 + b1 % 64) * 64 + b2 % 64) * 64 + b3 % 64 > 1114111 then 0 else 4) else 0 := by unfold utfLen; rw [if_neg (by omega), if_pos (by omega)]
    have ea : b0 % 8 * 262144 + b1 % 64 * 4096 + b2 % 64 * 64 + b3 % 64 = ((b0 % 8 * 64 + b1 % 64) * 64 + b2 % 64) * 64 + b3 % 64 := by omega
    have e2 : decodeN n b0 b1 b2 b3 = if (1 < n ∧ b1 / 64 = 2) ∧ (2 < n ∧ b2 / 64 = 2) ∧ (3 < n ∧ b3 / 64 = 2) then (if ((b0 % 8 * 64 + b1 % 64) * 64 + b2 % 64) * 64 + b3 % 64 ≥ 65536 ∧ (((b0 % 8 * 64 + b1 % 64) * 64 + b2 % 64) * 64 + b3 % 64 < 55296 ∨ (57344 ≤ ((b0 % 8 * 64 + b1 % 64) * 64 + b2 % 64) * 64 + b3 % 64 ∧ ((b0 % 8 * 64 + b1 % 64) * 64 + b2 % 64) * 64 + b3 % 64 ≤ 1114111)) then (((b0 % 8 * 64 + b1 % 64) * 64 + b2 % 64) * 64 + b3 % 64, 4) else (65533, 1)) else (65533, 1) := by
      unfold decodeN; rw [if_neg c1, if_neg (by omega), if_neg (by omega), ea]
      by_cases d : (1 < n ∧ b1 / 64 = 2) ∧ (2 < n ∧ b2 / 64 = 2) ∧ (3 < n ∧ b3 / 64 = 2)
      · rw [if_pos ⟨by omega, d⟩, if_pos d]
      · rw [if_neg (fun h => d h.2), if_neg d]
    clear ea
    generalize ((b0 % 8 * 64 + b1 % 64) * 64 + b2 % 64) * 64 + b3 % 64 = p at *
    rw [e1, e2]
    by_cases d : 3 < n
    · by_cases d2 : b1 / 64 = 2
      · by_cases d3 : b2 / 64 = 2
        · by_cases d4 : b3 / 64 = 2
          · by_cases f : p < 65536 ∨ p > 1114111
            · rw [if_neg (by omega), if_pos ⟨d2, d3, d4⟩, if_pos f, if_pos ⟨⟨by omega, d2⟩, ⟨by omega, d3⟩, d, d4⟩, if_neg (by omega)]; simp
            · rw [if_neg (by omega), if_pos ⟨d2, d3, d4⟩, if_neg f, if_pos ⟨⟨by omega, d2⟩, ⟨by omega, d3⟩, d, d4⟩, if_pos (by omega)]; simp
          · simp [d4]
        · simp [d3]
      · simp [d2]
    · simp [d, show n < 4 by omega]
  · have e1 : utfLen n b0 b1 b2 b3 = 0 := by unfold utfLen; rw [if_pos (by omega)]
    have e2 : decodeN n b0 b1 b2 b3 = (65533, 1) := by unfold decodeN; rw [if_neg c1, if_neg (by omega), if_neg (by omega), if_neg (by omega)]
    rw [e1, e2]; simp
theorem utfLen_nz (n b0 b1 b2 b3 : Nat) (h : utfLen n b0 b1 b2 b3 ≠ 0) : b0 ≠ 0 ∧ (1 < utfLen n b0 b1 b2 b3 → b1 ≠ 0) ∧ (2 < utfLen n b0 b1 b2 b3 → b2 ≠ 0) ∧ (3 < utfLen n b0 b1 b2 b3 → b3 ≠ 0) ∧ utfLen n b0 b1 b2 b3 ≤ 4 := by
  unfold utfLen at *
  revert h
  repeat' split
  all_goals (intro h; omega)
theorem getD_mem {l : List UInt8} {i : Nat} (h : i < l.length) : l.getD i 0 ∈ l := by
  rw [List.getD_eq_getElem?_getD, List.getElem?_eq_getElem h]; exact List.getElem_mem h
theorem zero_take (l : List UInt8) (k : Nat) (hk : k ≤ 4) (hl : k ≤ l.length) (h0 : 0 < k → (l.getD 0 0).toNat ≠ 0) (h1 : 1 < k → (l.getD 1 0).toNat ≠ 0) (h2 : 2 < k → (l.getD 2 0).toNat ≠ 0) (h3 : 3 < k → (l.getD 3 0).toNat ≠ 0) : (0 : UInt8) ∉ l.take k := by
  intro hm
  obtain ⟨i, hi, he⟩ := List.mem_iff_getElem.1 hm
  rw [List.length_take] at hi
  rw [List.getElem_take] at he
  have : l.getD i 0 = 0 := by rw [List.getD_eq_getElem?_getD, List.getElem?_eq_getElem (by omega)]; exact he
  match i, hi with
  | 0, _ => exact h0 (by omega) (by rw [this]; rfl)
  | 1, _ => exact h1 (by omega) (by rw [this]; rfl)
  | 2, _ => exact h2 (by omega) (by rw [this]; rfl)
  | 3, _ => exact h3 (by omega) (by rw [this]; rfl)
  | n + 4, _ => omega
theorem valid_utf : ∀ (n : Nat) (l : List UInt8), l.length ≤ n → utf l = (validD l && decide ((0 : UInt8) ∉ l))
  | 0, l, h => by
    have : l = [] := List.eq_nil_of_length_eq_zero (by omega)
    subst this; simp [utf_nil, validD_nil]
  | n + 1, l, h => by
    by_cases hl : l = []
    · subst hl; simp [utf_nil, validD_nil]
    have hp := List.length_pos_iff.2 hl
    rw [utf_step l hl, validD_step l hl, decodeL_N]
    by_cases hz : (l.getD 0 0).toNat = 0
    · have e : utfAt l = 0 := by unfold utfAt utfLen; rw [hz]; simp
      have hm : (0 : UInt8) ∈ l := by
        have := getD_mem (l := l) (i := 0) hp
        rwa [show l.getD 0 0 = 0 from UInt8.toNat_inj.1 (by simpa using hz)] at this
      rw [if_pos e]; simp [hm]
    obtain ⟨d1, d2⟩ := decode_utf l.length (l.getD 0 0).toNat (l.getD 1 0).toNat (l.getD 2 0).toNat (l.getD 3 0).toNat hp (l.getD 0 0).toNat_lt (l.getD 1 0).toNat_lt (l.getD 2 0).toNat_lt (l.getD 3 0).toNat_lt hz
    by_cases h0 : utfAt l = 0
    · rw [if_pos h0, if_pos (d1.1 h0)]; simp
    · rw [if_neg h0, if_neg (fun hh => h0 (d1.2 hh)), ← d2 h0]
      have hle := utfAt_le l hl
      change utf (l.drop (utfAt l)) = (validD (l.drop (utfAt l)) && _)
      rw [valid_utf n (l.drop (utfAt l)) (by rw [List.length_drop]; omega)]
      obtain ⟨z0, z1, z2, z3, z4⟩ := utfLen_nz _ _ _ _ _ h0
      have ht : (0 : UInt8) ∉ l.take (utfAt l) := zero_take l _ z4 hle (fun _ => z0) z1 z2 z3
      have e : (0 : UInt8) ∉ l ↔ (0 : UInt8) ∉ l.drop (utfAt l) := by
        constructor
        · intro hn hm; exact hn (List.mem_of_mem_drop hm)
        · intro hn hm
          rw [← List.take_append_drop (utfAt l) l, List.mem_append] at hm
          exact hm.elim ht hn
      simp [e]
theorem utf_valid (l : List UInt8) : utf l = (validD l && decide ((0 : UInt8) ∉ l)) := valid_utf l.length l (Nat.le_refl _)
end Dv
end
section
namespace Go.Proofs.YtdnmliidmnfijaaDoor.R
open Go.RowKit Go.Proofs.YtdnmliidmnfijaaDoorW.PrintWords Go.Proofs.YtdnmliidmnfijaaDoorW.PrintLast Go.Proofs.YtdnmliidmnfijaaDoorW.PrintMore
theorem wraps_i64 (n : Int) (h₀ : 0 ≤ n) (h₁ : n < 2 ^ 63) : IntKind.i64.wrap n = n := by rw [IntKind.wrap_i64]; omega
theorem wb (b : UInt8) : wrap64 ((b.toNat : Int)) = (b.toNat : Int) := by have := b.toNat_lt; unfold wrap64; omega
end Go.Proofs.YtdnmliidmnfijaaDoor.R
end

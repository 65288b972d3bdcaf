import Derived.Test.YtondmmoabmhpfaaDoorPP8
import Derived.Test.YtondmmoabmhpfaaDoorPQ6
import Derived.Test.YtondmmoabmhpfaaDoorPQ4
set_option linter.unusedVariables false
set_option linter.unusedSimpArgs false
namespace Go.Proofs.YtondmmoabmhpfaaDoor.Q
open Go.RowKit Go.Proofs.YtondmmoabmhpfaaDoorW.PrintWords Go.Proofs.YtondmmoabmhpfaaDoorW.PrintLast Go.Proofs.YtondmmoabmhpfaaDoorW.PrintMore
theorem up {α : Type} {f : Nat → Option α} (h : ∀ k, LeO (f k) (f (k + 1))) {k m : Nat} (hk : k ≤ m) {r : α} (e : f k = some r) : f m = some r := by
  obtain ⟨n, rfl⟩ := Nat.le.dest hk
  induction n with
  | zero => exact e
  | succ n ih => exact h _ _ (ih (by omega))
theorem kind_up {k : Nat} (hk : 10 ≤ k) (id : Int) : dovecoteref3_kind.f k id = some (kindOf id) := up (f := fun k => dovecoteref3_kind.f k id) (dovecoteref3_kind.mono id) hk (kind_f id)
theorem rplaces_up {k : Nat} (hk : 10 ≤ k) (id : Int) (h : kindOf id ≠ 0) : dovecoteref3_places.f k id = some (placesOf id) := up (f := fun k => dovecoteref3_places.f k id) (dovecoteref3_places.mono id) hk (rplaces_f id h)
theorem empty_size (s : ByteArray) : (s.toList = ([] : List UInt8)) = (s.size = 0) := propext (list_nil s)
theorem empty_beq (s : ByteArray) : (s.toList == ([] : List UInt8)) = decide (s.size = 0) := by
  by_cases h : s.size = 0
  · rw [decide_eq_true h, beq_iff_eq, empty_size]; exact h
  · rw [decide_eq_false h, beq_eq_false_iff_ne]; intro e; rw [empty_size] at e; exact h e
theorem May_f {k : Nat} (hk : 10 ≤ k) (id num : Int) (s t : ByteArray) (hs : s.size ≤ 140737488351232) (ht : t.size ≤ 140737488351232) : dovecoteref3_May.f k id num s t = some (may id num s t) := by
  unfold dovecoteref3_May.f
  rw [kind_up hk, Option.bind_some]
  unfold dovecoteref1_Check.f
  simp only [if_pos hs, if_pos ht, Option.bind_some, empty_size, empty_beq]
  unfold may
  generalize Dv.chk s = cs
  generalize Dv.chk t = ct
  generalize s.size = ns
  generalize t.size = nt
  have hlow : lowOf id = if id = 33 ∨ id = 35 ∨ id = 39 ∨ id = 11 then 1 else 0 := rfl
  rcases kinds_of id with h | h | h | h | h | h | h | h
  all_goals rw [h]
  · have : lowOf id = 0 := by rw [hlow, if_neg]; rintro (rfl | rfl | rfl | rfl) <;> revert h <;> decide
    rw [this]; simp [maxOf]
    by_cases a : 0 ≤ num <;> by_cases b : num ≤ 1 <;> by_cases c : ns = 0 <;> simp [a, b, c]
  · by_cases e1 : id = 33
    · have : lowOf id = 1 := by rw [hlow, if_pos]; exact .inl e1
      rw [this]; simp [maxOf, e1, show (num < 65536) = (num ≤ 65535) by apply propext; omega]
      by_cases a : 1 ≤ num <;> by_cases b : num ≤ 65535 <;> by_cases c : ns = 0 <;> simp [a, b, c]
    by_cases e2 : id = 35
    · have : lowOf id = 1 := by rw [hlow, if_pos]; exact .inr (.inl e2)
      rw [this]; simp [maxOf, e2, show (num < 65536) = (num ≤ 65535) by apply propext; omega]
      by_cases a : 1 ≤ num <;> by_cases b : num ≤ 65535 <;> by_cases c : ns = 0 <;> simp [a, b, c]
    · have : lowOf id = 0 := by rw [hlow, if_neg]; rintro (rfl | rfl | rfl | rfl) <;> first | (revert h; decide) | exact absurd rfl e1 | exact absurd rfl e2
      rw [this]; simp [maxOf, e1, e2, show (num < 65536) = (num ≤ 65535) by apply propext; omega]
      by_cases a : 0 ≤ num <;> by_cases b : num ≤ 65535 <;> by_cases c : ns = 0 <;> simp [a, b, c]
  · by_cases e1 : id = 39
    · have : lowOf id = 1 := by rw [hlow, if_pos]; exact .inr (.inr (.inl e1))
      rw [this]; simp [maxOf, e1, show (num < 4294967296) = (num ≤ 4294967295) by apply propext; omega]
      by_cases a : 1 ≤ num <;> by_cases b : num ≤ 4294967295 <;> by_cases c : ns = 0 <;> simp [a, b, c]
    · have : lowOf id = 0 := by rw [hlow, if_neg]; rintro (rfl | rfl | rfl | rfl) <;> first | (revert h; decide) | exact absurd rfl e1
      rw [this]; simp [maxOf, e1, show (num < 4294967296) = (num ≤ 4294967295) by apply propext; omega]
      by_cases a : 0 ≤ num <;> by_cases b : num ≤ 4294967295 <;> by_cases c : ns = 0 <;> simp [a, b, c]
  · have : lowOf id = 1 := by
      rw [hlow, if_pos]; right; right; right
      unfold kindOf at h; revert h; repeat' split
      all_goals first | (intro h; exact absurd h (by decide)) | (intro; assumption)
    rw [this]; simp [maxOf]
    by_cases a : 1 ≤ num <;> by_cases b : num ≤ 268435455 <;> by_cases c : ns = 0 <;> simp [a, b, c]
  · have : lowOf id = 0 := by rw [hlow, if_neg]; rintro (rfl | rfl | rfl | rfl) <;> revert h <;> decide
    rw [this]; simp [maxOf]
    by_cases a : num = 0
    · subst a; by_cases c : nt = 0 <;> simp [c]
      rfl
    · have : ¬ (0 ≤ num ∧ num ≤ 0) := by omega
      simp [a]; omega
  · have : lowOf id = 0 := by rw [hlow, if_neg]; rintro (rfl | rfl | rfl | rfl) <;> revert h <;> decide
    rw [this]; simp [maxOf]
    by_cases a : num = 0
    · subst a; by_cases c : nt = 0 <;> simp [c]
      omega
    · have : ¬ (0 ≤ num ∧ num ≤ 0) := by omega
      simp [a]; omega
  · have : lowOf id = 0 := by rw [hlow, if_neg]; rintro (rfl | rfl | rfl | rfl) <;> revert h <;> decide
    rw [this]; simp [maxOf]
    by_cases a : num = 0
    · subst a; by_cases c : cs = 0 <;> simp [c]
      rfl
    · have : ¬ (0 ≤ num ∧ num ≤ 0) := by omega
      simp [a]; omega
  · simp
theorem rd_at (l : List S24) (i : Nat) : rd_T24 l (i : Int) = l.getD i z24 := by unfold rd_T24; rw [Int.toNat_natCast]
theorem ids_drop (l : List S24) {i j : Nat} (hj : j < i) (hi : i < l.length) : (ids (l.take i)).drop j = (l.getD j z24).f0 :: (ids (l.take i)).drop (j + 1) := by
  have hlen : j < (ids (l.take i)).length := by unfold ids; simp; omega
  rw [List.drop_eq_getElem_cons hlen]
  congr 1
  unfold ids
  rw [List.getD_eq_getElem?_getD, List.getElem?_eq_getElem (by omega)]
  simp
theorem Check_l1 (l : List S24) (pl : Int) (i : Nat) (hi : i < l.length) (hl : l.length ≤ 1000000000) : ∀ (e k j : Nat), j + e = i → dovecoteref3_Check.l1 (k + e + 1) l pl i j = if (l.getD i z24).f0 ∈ (ids (l.take i)).drop j then some 1 else dovecoteref3_Check.l0 k l pl ((i + 1 : Nat) : Int)
  | 0, k, j, h => by
    rw [dovecoteref3_Check.l1, if_neg (by omega), List.drop_of_length_le (by unfold ids; simp; omega), if_neg (by simp)]
    rw [show wrap64 ((i : Int) + 1) = ((i + 1 : Nat) : Int) by unfold wrap64; omega]
  | e + 1, k, j, h => by
    rw [show k + (e + 1) + 1 = (k + e + 1) + 1 by omega, dovecoteref3_Check.l1, if_pos (by omega), if_pos (by omega), if_pos (by omega), if_pos (by omega), if_pos (by omega), rd_at, rd_at, ids_drop l (show j < i by omega) hi]
    rw [show wrap64 ((j : Int) + 1) = ((j + 1 : Nat) : Int) by unfold wrap64; omega]
    by_cases hc : (l.getD j z24).f0 = (l.getD i z24).f0
    · rw [if_pos hc, if_pos (by rw [hc]; exact List.mem_cons_self)]
    · rw [if_neg hc, Check_l1 l pl i hi hl e k (j + 1) (by omega)]
      by_cases hm : (l.getD i z24).f0 ∈ (ids (l.take i)).drop (j + 1)
      · rw [if_pos hm, if_pos (List.mem_cons_of_mem _ hm)]
      · rw [if_neg hm, if_neg (fun h' => (List.mem_cons.1 h').elim (fun e => hc e.symm) hm)]
theorem Check_l0 (l : List S24) (pl : Int) (hl : l.length ≤ 1000000000) (hsz : ∀ p ∈ l, p.f2.size ≤ 140737488351232 ∧ p.f3.size ≤ 140737488351232) : ∀ (d k i : Nat), i + d = l.length → d * (l.length + 5) + 40 ≤ k → (∀ j, j < i → badAt l pl j = false) → dovecoteref3_Check.l0 k l pl i = some (chk3 l pl)
  | 0, k + 1, i, h, hk, hb => by
    rw [dovecoteref3_Check.l0, if_neg (by omega)]
    have hchk : chk3 l pl = if l.length > 32 then 2 else 0 := by
      unfold chk3
      rw [if_neg (by rintro ⟨j, hj, e⟩; rw [hb j (by omega)] at e; exact absurd e (by decide))]
    rw [hchk]
    by_cases hc : l.length > 32
    · rw [if_pos hc, if_pos (by omega)]
    · rw [if_neg hc, if_neg (by omega)]
  | d + 1, k + 1, i, h, hk, hb => by
    have hi : i < l.length := by omega
    have hk1 : d * (l.length + 5) + (l.length + 5) + 40 ≤ k + 1 := by rw [Nat.add_mul, Nat.one_mul] at hk; exact hk
    obtain ⟨p, hp⟩ : ∃ p, l.getD i z24 = p := ⟨_, rfl⟩
    have hpz := hsz p (by rw [← hp]; exact getD_mem hi)
    rw [dovecoteref3_Check.l0, if_pos (by omega), if_pos (by omega), rd_at, hp, May_f (by omega) _ _ _ _ hpz.1 hpz.2, Option.bind_some]
    by_cases hm : may p.f0 p.f1 p.f2 p.f3 = true
    · have hkd : kindOf p.f0 ≠ 0 := by intro h0; unfold may at hm; rw [h0] at hm; simp at hm
      rw [if_pos hm, rplaces_up (by omega) _ hkd, Option.bind_some]
      obtain ⟨r, hr, hri⟩ := In_l0 pl (placesOf p.f0) (by have := placesOf_len p.f0; omega) (placesOf p.f0).length k 0 (by omega) (by omega) (by omega) (by have := placesOf_len p.f0; omega)
      rw [show dovecoteref0_In.f k (placesOf p.f0) pl = some r from hr, Option.bind_some]
      rw [show (0 : Int).toNat = 0 from rfl, List.drop_zero] at hri
      obtain ⟨k, rfl⟩ : ∃ m, k = m + 1 := ⟨k - 1, by omega⟩
      rw [dovecoteref3_Check.j1]
      by_cases hs : pl ∈ placesOf p.f0
      · have hst : stands p.f0 pl = true := decide_eq_true hs
        have hr0 : ¬ r < 0 := fun h0 => hri.1 h0 hs
        rw [decide_eq_false hr0, if_neg (by decide), if_pos (by omega), if_pos (by omega), rd_at, hp]
        obtain ⟨k, rfl⟩ : ∃ m, k = m + 1 := ⟨k - 1, by omega⟩
        have key : ∀ b : Bool, b = again p.f0 pl → dovecoteref3_Check.j2 (k + 1) l pl i b = some (chk3 l pl) := by
          rintro b rfl
          rw [dovecoteref3_Check.j2]
          by_cases ha : again p.f0 pl = true
          · rw [if_pos ha, show wrap64 ((i : Int) + 1) = ((i + 1 : Nat) : Int) by unfold wrap64; omega]
            refine Check_l0 l pl hl hsz d k (i + 1) (by omega) (by omega) fun j hj => ?_
            by_cases hji : j = i
            · subst hji; unfold badAt; rw [hp]; unfold mayP; rw [hm, hst, ha]; simp
            · exact hb j (by omega)
          · rw [if_neg ha]
            obtain ⟨m, rfl⟩ : ∃ m, k = m + i + 1 := ⟨k - i - 1, by omega⟩
            have h1 := Check_l1 l pl i hi hl i m 0 (by omega)
            rw [List.drop_zero, hp] at h1
            refine h1.trans ?_
            by_cases hmem : p.f0 ∈ ids (l.take i)
            · rw [if_pos hmem]
              unfold chk3
              rw [if_pos ⟨i, hi, by unfold badAt; rw [hp]; simp [hmem, ha]⟩]
            · rw [if_neg hmem]
              refine Check_l0 l pl hl hsz d m (i + 1) (by omega) (by omega) fun j hj => ?_
              by_cases hji : j = i
              · subst hji; unfold badAt; rw [hp]; unfold mayP; rw [hm, hst, decide_eq_false hmem]; simp
              · exact hb j (by omega)
        by_cases a1 : p.f0 = 38
        · rw [if_pos a1]; exact key _ (by unfold again; rw [decide_eq_true a1]; rfl)
        · rw [if_neg a1]
          by_cases a2 : p.f0 = 11
          · rw [if_pos a2]; exact key _ (by unfold again; rw [decide_eq_false a1, decide_eq_true a2]; rfl)
          · rw [if_neg a2]; exact key _ (by unfold again; rw [decide_eq_false a1, decide_eq_false a2]; rfl)
      · rw [decide_eq_true (hri.2 hs), if_pos rfl]
        unfold chk3
        rw [if_pos ⟨i, hi, by unfold badAt stands; rw [hp, decide_eq_false hs]; simp⟩]
    · rw [if_neg hm]
      obtain ⟨k, rfl⟩ : ∃ m, k = m + 1 := ⟨k - 1, by omega⟩
      rw [dovecoteref3_Check.j1, if_pos rfl]
      unfold chk3
      rw [if_pos ⟨i, hi, by unfold badAt mayP; rw [hp]; simp [hm]⟩]
theorem Check3_f (l : List S24) (pl : Int) (hl : l.length ≤ 1000000000) (hsz : ∀ p ∈ l, p.f2.size ≤ 140737488351232 ∧ p.f3.size ≤ 140737488351232) : dovecoteref3_Check.f (l.length * (l.length + 5) + 40) l pl = some (chk3 l pl) :=
  Check_l0 l pl hl hsz l.length _ 0 (by omega) (Nat.le_refl _) (fun j hj => absurd hj (by omega))
end Go.Proofs.YtondmmoabmhpfaaDoor.Q

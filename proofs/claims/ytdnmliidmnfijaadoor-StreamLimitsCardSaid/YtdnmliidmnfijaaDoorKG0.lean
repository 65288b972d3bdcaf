import Derived.Test.YtdnmliidmnfijaaDoorKP4
import Derived.Test.YtdnmliidmnfijaaDoorKDvVar
set_option linter.unusedVariables false
set_option linter.unusedSimpArgs false
namespace Go.Proofs.YtdnmliidmnfijaaDoor.Q
open Go.RowKit Go.Proofs.YtdnmliidmnfijaaDoorW.PrintWords Go.Proofs.YtdnmliidmnfijaaDoorW.PrintLast Go.Proofs.YtdnmliidmnfijaaDoorW.PrintMore
def be (l : List Int) : Int := l.foldl (fun a b => a * 256 + b) 0
def propOf (l : List Int) : Option (S112 × List Int) :=
  if (Dv.varGet l).2.2 ≠ 0 then none else
  let id := (Dv.varGet l).1
  let r := l.drop (Dv.varGet l).2.1.toNat
  if kindOf id = 1 ∨ kindOf id = 2 ∨ kindOf id = 4 then
    (if r.length < (kindOf id).toNat then none else some (⟨id, be (r.take (kindOf id).toNat), ⟨#[]⟩, ⟨#[]⟩⟩, r.drop (kindOf id).toNat))
  else if kindOf id = 5 then
    (if (Dv.varGet r).2.2 ≠ 0 then none else some (⟨id, (Dv.varGet r).1, ⟨#[]⟩, ⟨#[]⟩⟩, r.drop (Dv.varGet r).2.1.toNat))
  else if kindOf id = 6 then
    (if (getText r).2.2 ≠ 0 then none else some (⟨id, 0, (getText r).1, ⟨#[]⟩⟩, r.drop (getText r).2.1.toNat))
  else if kindOf id = 7 then
    (if (getBin r).2.2 ≠ 0 then none else some (⟨id, 0, (getBin r).1, ⟨#[]⟩⟩, r.drop (getBin r).2.1.toNat))
  else if kindOf id = 8 then
    (if (getText r).2.2 ≠ 0 then none else
      (if (getText (r.drop (getText r).2.1.toNat)).2.2 ≠ 0 then none else some (⟨id, 0, (getText r).1, (getText (r.drop (getText r).2.1.toNat)).1⟩, (r.drop (getText r).2.1.toNat).drop (getText (r.drop (getText r).2.1.toNat)).2.1.toNat)))
  else none
def props : Nat → List Int → Option (List S112)
  | 0, _ => none
  | k + 1, l => if l = [] then some [] else match propOf l with
    | none => none
    | some x => (props k x.2).map (x.1 :: ·)
def get3 (b : List Int) (pl : Int) : List S112 × Int × Int :=
  if (Dv.varGet b).2.2 ≠ 0 then ([], 0, (Dv.varGet b).2.2)
  else if (b.length : Int) < (Dv.varGet b).2.1 + (Dv.varGet b).1 then ([], 0, 3)
  else match props (b.length + 1) ((b.take ((Dv.varGet b).2.1 + (Dv.varGet b).1).toNat).drop (Dv.varGet b).2.1.toNat) with
    | none => ([], 0, 1)
    | some l => if chk3 l pl ≠ 0 then ([], 0, chk3 l pl) else (l, (Dv.varGet b).2.1 + (Dv.varGet b).1, 0)
theorem varGet_good (l : List Int) (hb : bok l) : (Dv.varGet l).2.2 = 0 ∧ 1 ≤ (Dv.varGet l).2.1 ∧ (Dv.varGet l).2.1 ≤ 4 ∧ (Dv.varGet l).2.1 ≤ l.length ∧ 0 ≤ (Dv.varGet l).1 ∧ (Dv.varGet l).1 ≤ 268435455 ∨ ((Dv.varGet l).1 = 0 ∧ (Dv.varGet l).2.1 = 0 ∧ ((Dv.varGet l).2.2 = 1 ∨ (Dv.varGet l).2.2 = 3)) := by
  match l with
  | [] => right; simp [Dv.varGet]
  | b0 :: l =>
    have h0 := hb b0 (by simp)
    unfold byteOk at h0
    simp only [Dv.varGet]
    by_cases c0 : b0 < 128
    · left; rw [if_pos c0]; simp; omega
    rw [if_neg c0]
    match l with
    | [] => right; simp
    | b1 :: l =>
      have h1 := hb b1 (by simp)
      unfold byteOk at h1
      simp only
      by_cases c1 : b1 < 128
      · rw [if_pos c1]
        by_cases d1 : b1 = 0
        · right; rw [if_pos d1]; simp
        · left; rw [if_neg d1]; simp; omega
      rw [if_neg c1]
      match l with
      | [] => right; simp
      | b2 :: l =>
        have h2 := hb b2 (by simp)
        unfold byteOk at h2
        simp only
        by_cases c2 : b2 < 128
        · rw [if_pos c2]
          by_cases d2 : b2 = 0
          · right; rw [if_pos d2]; simp
          · left; rw [if_neg d2]; simp; omega
        rw [if_neg c2]
        match l with
        | [] => right; simp
        | b3 :: l =>
          have h3 := hb b3 (by simp)
          unfold byteOk at h3
          simp only
          by_cases c3 : b3 < 128
          · rw [if_pos c3]
            by_cases d3 : b3 = 0
            · right; rw [if_pos d3]; simp
            · left; rw [if_neg d3]; simp; omega
          · right; rw [if_neg c3]; simp
theorem bok_drop {l : List Int} (h : bok l) (n : Nat) : bok (l.drop n) := fun x hx => h x (List.mem_of_mem_drop hx)
theorem bok_take {l : List Int} (h : bok l) (n : Nat) : bok (l.take n) := fun x hx => h x (List.mem_of_mem_take hx)
theorem getBin_good (l : List Int) (hb : bok l) : (getBin l).2.2 = 0 ∧ 2 ≤ (getBin l).2.1 ∧ (getBin l).2.1 ≤ l.length ∧ (getBin l).1.size ≤ 65535 ∨ ((getBin l).1 = ⟨#[]⟩ ∧ (getBin l).2.1 = 0 ∧ (getBin l).2.2 = 3) := by
  have hz := getBin_size l hb
  by_cases h2 : l.length < 2
  · right; unfold getBin; rw [if_pos h2]; exact ⟨rfl, rfl, rfl⟩
  have h0 := bok_rd hb 0 (by omega) (by omega)
  have h1 := bok_rd hb 1 (by omega) (by omega)
  unfold byteOk at h0 h1
  by_cases h3 : (l.length : Int) < 2 + (rd l 0 * 256 + rd l 1)
  · right; unfold getBin; rw [if_neg h2, if_pos h3]; exact ⟨rfl, rfl, rfl⟩
  · left
    have e : (getBin l).2 = (2 + (rd l 0 * 256 + rd l 1), 0) := by unfold getBin; rw [if_neg h2, if_neg h3]
    rw [e]
    exact ⟨rfl, by simp only; omega, by simp only; omega, hz⟩
theorem getText_good (l : List Int) (hb : bok l) : (getText l).2.2 = 0 ∧ 2 ≤ (getText l).2.1 ∧ (getText l).2.1 ≤ l.length ∧ (getText l).1.size ≤ 65535 ∨ ((getText l).1 = ⟨#[]⟩ ∧ (getText l).2.1 = 0 ∧ ((getText l).2.2 = 1 ∨ (getText l).2.2 = 3)) := by
  have h := getBin_good l hb
  unfold getText
  by_cases c : (getBin l).2.2 = 0
  · rw [if_pos c]
    by_cases u : Dv.utf (getBin l).1.data.toList = true
    · rw [if_pos u]; rcases h with h | h
      · left; exact h
      · omega
    · rw [if_neg u]; right; simp
  · rw [if_neg c]; rcases h with h | h
    · omega
    · right; exact ⟨h.1, h.2.1, .inr h.2.2⟩
theorem propOf_rest {l : List Int} (hb : bok l) {p : S112} {r : List Int} (h : propOf l = some (p, r)) : (∃ n, r = l.drop n ∧ 0 < n ∧ n ≤ l.length) ∧ (p.f2.size ≤ 65535 ∧ p.f3.size ≤ 65535) := by
  have hv := varGet_good l hb
  unfold propOf at h
  by_cases c0 : (Dv.varGet l).2.2 ≠ 0
  · rw [if_pos c0] at h; cases h
  rw [if_neg c0] at h
  have hv' : 1 ≤ (Dv.varGet l).2.1 ∧ (Dv.varGet l).2.1 ≤ l.length := by omega
  clear hv
  simp only at h
  have hdr : ∀ (a : Int) (n : Nat), 1 ≤ a → a ≤ l.length → n ≤ (l.drop a.toNat).length → ∃ m, (l.drop a.toNat).drop n = l.drop m ∧ 0 < m ∧ m ≤ l.length := fun a n h1 h2 h3 => ⟨a.toNat + n, by rw [List.drop_drop], by omega, by rw [List.length_drop] at h3; omega⟩
  have hbr := bok_drop hb (Dv.varGet l).2.1.toNat
  generalize hid : (Dv.varGet l).1 = id at *
  generalize hsz : (Dv.varGet l).2.1 = sz at *
  split at h
  · split at h
    · cases h
    · rename_i hlen
      injection h with h
      injection h with hp hr
      subst hp hr
      exact ⟨hdr _ _ hv'.1 hv'.2 (by omega), by simp [ByteArray.size], by simp [ByteArray.size]⟩
  split at h
  · split at h
    · cases h
    · rename_i he
      have := varGet_good _ hbr
      injection h with h
      injection h with hp hr
      subst hp hr
      exact ⟨hdr _ _ hv'.1 hv'.2 (by omega), by simp [ByteArray.size], by simp [ByteArray.size]⟩
  split at h
  · split at h
    · cases h
    · rename_i he
      have := getText_good _ hbr
      injection h with h
      injection h with hp hr
      subst hp hr
      exact ⟨hdr _ _ hv'.1 hv'.2 (by omega), by dsimp only; omega, by simp [ByteArray.size]⟩
  split at h
  · split at h
    · cases h
    · rename_i he
      have := getBin_good _ hbr
      injection h with h
      injection h with hp hr
      subst hp hr
      exact ⟨hdr _ _ hv'.1 hv'.2 (by omega), by dsimp only; omega, by simp [ByteArray.size]⟩
  split at h
  · split at h
    · cases h
    · split at h
      · cases h
      · rename_i he1 he2
        have t1 := getText_good _ hbr
        have t2 := getText_good _ (bok_drop hbr (getText (List.drop sz.toNat l)).2.1.toNat)
        injection h with h
        injection h with hp hr
        subst hp hr
        refine ⟨?_, by dsimp only; omega, by dsimp only; omega⟩
        rw [List.drop_drop (l := List.drop sz.toNat l)]
        refine hdr _ _ hv'.1 hv'.2 ?_
        rw [List.length_drop] at t2
        omega
  · cases h
theorem props_nil (k : Nat) : props (k + 1) [] = some [] := by simp [props]
theorem props_step {k : Nat} {l : List Int} (hl : l ≠ []) : props (k + 1) l = match propOf l with
    | none => none
    | some x => (props k x.2).map (x.1 :: ·) := by rw [props, if_neg hl]
theorem props_up {l : List Int} (hb : bok l) : ∀ (k m : Nat), l.length < k → l.length < m → props k l = props m l := by
  intro k
  induction k generalizing l with
  | zero => intro m h; omega
  | succ k ih =>
    intro m h1 h2
    obtain ⟨m, rfl⟩ : ∃ j, m = j + 1 := ⟨m - 1, by omega⟩
    by_cases hl : l = []
    · subst hl; rw [props_nil, props_nil]
    rw [props_step hl, props_step hl]
    cases hp : propOf l with
    | none => rfl
    | some x =>
      obtain ⟨p, r⟩ := x
      obtain ⟨⟨n, rfl, h3, h4⟩, _⟩ := propOf_rest hb hp
      simp only
      have hlen : (l.drop n).length = l.length - n := List.length_drop
      rw [ih (bok_drop hb n) m (by omega) (by omega)]
theorem props_sizes {l : List Int} (hb : bok l) : ∀ (k : Nat) (ps : List S112), props k l = some ps → ∀ p ∈ ps, p.f2.size ≤ 65535 ∧ p.f3.size ≤ 65535 := by
  intro k
  induction k generalizing l with
  | zero => intro ps h; cases h
  | succ k ih =>
    intro ps h
    by_cases hl : l = []
    · subst hl; rw [props_nil] at h; cases h; intro p hp; cases hp
    rw [props_step hl] at h
    cases hp : propOf l with
    | none => rw [hp] at h; cases h
    | some x =>
      obtain ⟨p, r⟩ := x
      rw [hp] at h
      obtain ⟨⟨n, rfl, h3, h4⟩, hs⟩ := propOf_rest hb hp
      obtain ⟨qs, hq, rfl⟩ := Option.map_eq_some_iff.1 h
      intro q hqm
      rcases List.mem_cons.1 hqm with rfl | hqm
      · exact hs
      · exact ih (bok_drop hb n) qs hq q hqm
end Go.Proofs.YtdnmliidmnfijaaDoor.Q

import Derived.Test.YtdnmliidmnfijaaDoorKStub
import Derived.Test.YtdnmliidmnfijaaDoorKQ4
import Derived.Test.YtdnmliidmnfijaaDoorKQ5
namespace Go.Proofs.YtdnmliidmnfijaaDoor.Q
open Go.RowKit Go.Proofs.YtdnmliidmnfijaaDoorW.PrintWords Go.Proofs.YtdnmliidmnfijaaDoorW.PrintLast Go.Proofs.YtdnmliidmnfijaaDoorW.PrintMore
def kindOf (id : Int) : Int := if id ∈ ([1, 23, 25, 36, 37, 40, 41, 42] : List Int) then 1 else if id ∈ ([19, 33, 34, 35] : List Int) then 2 else if id ∈ ([2, 17, 24, 39] : List Int) then 4 else if id = 11 then 5 else if id ∈ ([3, 8, 18, 21, 26, 28, 31] : List Int) then 6 else if id ∈ ([9, 22] : List Int) then 7 else if id = 38 then 8 else 0
def lowOf (id : Int) : Int := if id = 33 ∨ id = 35 ∨ id = 39 ∨ id = 11 then 1 else 0
def maxOf (k : Int) : Int := if k = 1 then 1 else if k = 2 then 65535 else if k = 4 then 4294967295 else if k = 5 then 268435455 else 0
def ik (k : Int) : Int := if k = 4 then 3 else if k = 5 then 4 else if k = 6 then 5 else if k = 7 then 6 else if k = 8 then 7 else k
def placesOf (id : Int) : List Int := if id ∈ ([1, 2, 3, 8, 9] : List Int) then [3, 16] else if id = 11 then [3, 8] else if id = 17 then [1, 2, 14] else if id ∈ ([21, 22] : List Int) then [1, 2, 15] else if id ∈ ([23, 25] : List Int) then [1] else if id = 24 then [16] else if id = 28 then [2, 14] else if id = 31 then [2, 4, 5, 6, 7, 9, 11, 14, 15] else if id ∈ ([33, 34, 39] : List Int) then [1, 2] else if id = 35 then [3] else if id = 38 then [1, 2, 3, 4, 5, 6, 7, 8, 9, 10, 11, 14, 15, 16] else [2]
def stands (id pl : Int) : Bool := decide (pl ∈ placesOf id)
def may (id num : Int) (str val : ByteArray) : Bool :=
  decide (kindOf id ≠ 0) && (decide (lowOf id ≤ num) && decide (num ≤ maxOf (kindOf id))) &&
  (if kindOf id = 6 ∨ kindOf id = 8 then decide (Dv.chk str = 0) else if kindOf id = 7 then decide (str.size ≤ 65535) else decide (str.size = 0)) &&
  (if kindOf id = 8 then decide (Dv.chk val = 0) else decide (val.size = 0))

theorem fin43 {p : Int → Prop} (h : ∀ x : Fin 43, p (x.val : Int)) (ho : ∀ id : Int, id < 0 ∨ 42 < id → p id) (id : Int) : p id := by
  by_cases hc : 0 ≤ id ∧ id ≤ 42
  · have := h ⟨id.toNat, by omega⟩
    simpa [Int.toNat_of_nonneg hc.1] using this
  · exact ho id (by omega)
theorem kindOf_out (id : Int) (h : id < 0 ∨ 42 < id) : kindOf id = 0 := by
  unfold kindOf
  simp only [List.mem_cons, List.not_mem_nil, or_false]
  repeat rw [if_neg (by omega)]
theorem shape_f (id : Int) : prop_shape.f 10 id = some (ik (kindOf id), lowOf id) := by
  refine fin43 (p := fun id => prop_shape.f 10 id = some (ik (kindOf id), lowOf id)) (by decide +kernel) (fun id h => ?_) id
  rw [kindOf_out id h]
  have hl : lowOf id = 0 := by unfold lowOf; rw [if_neg (by omega)]
  rw [hl]
  have e : ∀ c : Int, 0 ≤ c → c ≤ 42 → (id == c) = false := fun c h0 h1 => beq_eq_false_iff_ne.2 (by omega)
  unfold prop_shape.f
  repeat rw [if_neg (by omega)]
  simp only [prop_shape.j0, prop_shape.j1, prop_shape.j2, prop_shape.j3, prop_shape.j4, prop_shape.j5, e 42 (by omega) (by omega), e 35 (by omega) (by omega), e 34 (by omega) (by omega), e 24 (by omega) (by omega), e 31 (by omega) (by omega), e 22 (by omega) (by omega), Bool.false_eq_true, if_false]
  repeat rw [if_neg (by omega)]
  rfl
theorem places_f (id : Int) : prop_places.f 10 id = some (placesOf id) := by
  refine fin43 (p := fun id => prop_places.f 10 id = some (placesOf id)) (by decide +kernel) (fun id h => ?_) id
  have e : ∀ c : Int, 0 ≤ c → c ≤ 42 → (id == c) = false := fun c h0 h1 => beq_eq_false_iff_ne.2 (by omega)
  have hp : placesOf id = [2] := by
    unfold placesOf
    simp only [List.mem_cons, List.not_mem_nil, or_false]
    repeat rw [if_neg (by omega)]
  rw [hp]
  unfold prop_places.f
  repeat rw [if_neg (by omega)]
  simp only [prop_places.j0, prop_places.j1, prop_places.j2, prop_places.j3, e 9 (by omega) (by omega), e 22 (by omega) (by omega), e 25 (by omega) (by omega), e 39 (by omega) (by omega), Bool.false_eq_true, if_false]
  repeat rw [if_neg (by omega)]
theorem stands_l0 (pl : Int) (l : List Int) (hl : l.length ≤ 1000) : ∀ (d k : Nat) (i : Int), 0 ≤ i → i ≤ l.length → (l.length : Int) - i = d → d < k → prop_stands.l0 k pl l (l.length : Int) i = some (decide (pl ∈ l.drop i.toNat))
  | 0, k + 1, i, h0, h1, hd, hk => by
    rw [prop_stands.l0, if_neg (by omega), List.drop_of_length_le (by omega)]; simp
  | d + 1, k + 1, i, h0, h1, hd, hk => by
    rw [prop_stands.l0, if_pos (by omega), if_pos h0, if_pos (by omega), show wrap64 (i + 1) = i + 1 by unfold wrap64; omega]
    have hlt : i.toNat < l.length := by omega
    have e : rd l i = l[i.toNat] := by unfold rd; rw [List.getD_eq_getElem?_getD, List.getElem?_eq_getElem hlt]; rfl
    rw [e, List.drop_eq_getElem_cons hlt]
    by_cases hc : l[i.toNat] = pl
    · rw [if_pos hc]; simp [hc]
    · rw [if_neg hc, stands_l0 pl l hl d k (i + 1) (by omega) (by omega) (by omega) (by omega), show (i + 1).toNat = i.toNat + 1 by omega]
      have hc' : ¬ pl = l[i.toNat] := fun h => hc h.symm
      exact congrArg some (decide_eq_decide.2 ⟨List.mem_cons_of_mem _, fun h => (List.mem_cons.1 h).resolve_left hc'⟩)
theorem placesOf_out (id : Int) (h : id < 0 ∨ 42 < id) : placesOf id = [2] := by
  unfold placesOf
  simp only [List.mem_cons, List.not_mem_nil, or_false]
  repeat rw [if_neg (by omega)]
theorem placesOf_len (id : Int) : (placesOf id).length ≤ 14 := fin43 (p := fun id => (placesOf id).length ≤ 14) (by decide +kernel) (fun id h => by rw [placesOf_out id h]; simp) id
theorem stands_f (id pl : Int) : prop_stands.f 20 id pl = some (stands id pl) := by
  unfold prop_stands.f
  have hm : prop_places.f 20 id = some (placesOf id) := by
    have : ∀ n, prop_places.f (10 + n) id = some (placesOf id) := fun n => by
      induction n with
      | zero => exact places_f id
      | succ n ih => exact prop_places.mono _ _ _ ih
    exact this 10
  rw [hm, Option.bind_some, stands_l0 pl _ (by have := placesOf_len id; omega) (placesOf id).length 20 0 (by omega) (by omega) (by omega) (by have := placesOf_len id; omega)]
  rfl
end Go.Proofs.YtdnmliidmnfijaaDoor.Q

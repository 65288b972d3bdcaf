import Derived.Test.YtondmmoabmhpfaaDoorMG6
import Derived.Test.YtondmmoabmhpfaaDoorMP8
set_option linter.unusedVariables false
set_option linter.unusedSimpArgs false
namespace Go.Proofs.YtondmmoabmhpfaaDoor.Q
open Go.RowKit Go.Proofs.YtondmmoabmhpfaaDoorW.PrintWords Go.Proofs.YtondmmoabmhpfaaDoorW.PrintLast Go.Proofs.YtondmmoabmhpfaaDoorW.PrintMore
theorem str_back (s : ByteArray) : strOfNums (bytesOf s) = s := by
  unfold strOfNums bytesOf
  rcases s with ⟨⟨l⟩⟩
  congr 1
  simp only [List.map_map]
  congr 1
  conv => rhs; rw [← List.map_id l]
  apply List.map_congr_left
  intro b _
  simp [UInt8.ofNat_toNat]
theorem empty_of {s : ByteArray} (h : s.size = 0) : s = ⟨#[]⟩ := by
  rcases s with ⟨⟨l⟩⟩
  have : l.length = 0 := h
  obtain rfl := List.length_eq_zero_iff.1 this
  rfl
theorem bok_append {a b : List Int} (ha : bok a) (hb : bok b) : bok (a ++ b) := fun x hx => (List.mem_append.1 hx).elim (ha x) (hb x)
theorem bok_cons {x : Int} {l : List Int} (hx : byteOk x) (hl : bok l) : bok (x :: l) := fun y hy => (List.mem_cons.1 hy).elim (fun e => e ▸ hx) (hl y)
theorem bok_nil : bok [] := fun x hx => by cases hx
theorem bok_bytesOf (s : ByteArray) : bok (bytesOf s) := fun x hx => by
  unfold bytesOf at hx
  obtain ⟨b, _, rfl⟩ := List.mem_map.1 hx
  have := b.toNat_lt
  exact ⟨by omega, by omega⟩
theorem bok_bin (s : ByteArray) : bok (bin s) := by
  unfold bin
  exact bok_append (bok_cons ⟨by omega, by omega⟩ (bok_cons ⟨by omega, by omega⟩ bok_nil)) (bok_bytesOf s)
theorem bok_varPut {n : Int} (h0 : 0 ≤ n) (h : n ≤ 268435455) : bok (Dv.varPut n) := by
  unfold Dv.varPut
  split
  · exact bok_cons ⟨by omega, by omega⟩ bok_nil
  split
  · exact bok_cons ⟨by omega, by omega⟩ (bok_cons ⟨by omega, by omega⟩ bok_nil)
  split
  · exact bok_cons ⟨by omega, by omega⟩ (bok_cons ⟨by omega, by omega⟩ (bok_cons ⟨by omega, by omega⟩ bok_nil))
  · exact bok_cons ⟨by omega, by omega⟩ (bok_cons ⟨by omega, by omega⟩ (bok_cons ⟨by omega, by omega⟩ (bok_cons ⟨by omega, by omega⟩ bok_nil)))
theorem getBin_bin (s : ByteArray) (hs : s.size ≤ 65535) (r : List Int) : getBin (bin s ++ r) = (s, ((bin s).length : Int), 0) := by
  have hl : (bin s ++ r).length = s.size + 2 + r.length := by rw [List.length_append, bin_len]
  have e0 : rd (bin s ++ r) 0 = (s.size : Int) / 256 % 256 := rfl
  have e1 : rd (bin s ++ r) 1 = (s.size : Int) % 256 := rfl
  unfold getBin
  rw [if_neg (by omega), e0, e1, if_neg (by omega), bin_len]
  have hz : (s.size : Int) / 256 % 256 * 256 + (s.size : Int) % 256 = s.size := by omega
  rw [hz, show (2 + (s.size : Int)).toNat = (bin s).length by rw [bin_len]; omega, List.take_left]
  have : (bin s).drop 2 = bytesOf s := rfl
  rw [this, str_back]
  congr 2
  omega
theorem getText_bin (s : ByteArray) (hs : Dv.chk s = 0) (r : List Int) : getText (bin s ++ r) = (s, ((bin s).length : Int), 0) := by
  have h1 := chk_size hs
  have hu : Dv.utf s.data.toList = true := by
    unfold Dv.chk at hs
    split at hs
    · assumption
    · omega
  unfold getText
  rw [getBin_bin s h1 r, if_pos rfl, if_pos hu]
theorem may_s0 {id num : Int} {s t : ByteArray} (h : may id num s t = true) (hk : ¬ (kindOf id = 6 ∨ kindOf id = 8)) (hk7 : kindOf id ≠ 7) : s = ⟨#[]⟩ := by
  unfold may at h
  simp only [Bool.and_eq_true, decide_eq_true_eq] at h
  have := h.1.2
  rw [if_neg hk, if_neg hk7] at this
  exact empty_of (by simpa using this)
theorem may_t0 {id num : Int} {s t : ByteArray} (h : may id num s t = true) (hk : kindOf id ≠ 8) : t = ⟨#[]⟩ := by
  unfold may at h
  simp only [Bool.and_eq_true, decide_eq_true_eq] at h
  have := h.2
  rw [if_neg hk] at this
  exact empty_of (by simpa using this)
theorem may_n0 {id num : Int} {s t : ByteArray} (h : may id num s t = true) (hk : kindOf id = 6 ∨ kindOf id = 7 ∨ kindOf id = 8) : num = 0 := by
  have h1 := may_num h
  have h2 := low_nonneg id
  have : maxOf (kindOf id) = 0 := by rcases hk with e | e | e <;> rw [e] <;> rfl
  omega
theorem propOf_put (p : S24) (hm : mayP p = true) (r : List Int) : propOf (putQ p ++ r) = some (p, r) := by
  obtain ⟨id, num, s, t⟩ := p
  have hm' : may id num s t = true := hm
  have hid := may_small hm'
  have hn := may_num hm'
  have hlow := low_nonneg id
  have hv : Dv.varGet (putQ ⟨id, num, s, t⟩ ++ r) = (id, ((Dv.varPut id).length : Int), 0) := by
    unfold putQ putP
    rw [List.append_assoc]
    exact Dv.varGet_put id hid.1 (by omega) _
  have hd : (putQ ⟨id, num, s, t⟩ ++ r).drop (Dv.varPut id).length = tailP (kindOf id) num s t ++ r := by
    unfold putQ putP
    rw [List.append_assoc, List.drop_left]
  unfold propOf
  rw [hv]
  simp only [ne_eq, not_true_eq_false, if_false, Int.toNat_natCast, hd]
  unfold tailP
  rcases kinds_of id with h | h | h | h | h | h | h | h
  · have := may_s0 hm' (by omega) (by omega); have := may_t0 hm' (by omega); subst_vars
    rw [h]; simp [be]
  · have := may_s0 hm' (by omega) (by omega); have := may_t0 hm' (by omega); subst_vars
    rw [h]; simp [be]; omega
  · have := may_s0 hm' (by omega) (by omega); have := may_t0 hm' (by omega); subst_vars
    have hmx : maxOf 4 = 4294967295 := rfl
    rw [h] at hn
    rw [h]; simp [be]; omega
  · have := may_s0 hm' (by omega) (by omega); have := may_t0 hm' (by omega); subst_vars
    have hmx : maxOf 5 = 268435455 := rfl
    rw [h] at hn
    rw [h]
    simp only [if_neg (show ¬ ((5 : Int) = 1 ∨ (5 : Int) = 2 ∨ (5 : Int) = 4) by decide), if_neg (show ¬ (5 : Int) = 1 by decide), if_neg (show ¬ (5 : Int) = 2 by decide), if_neg (show ¬ (5 : Int) = 4 by decide), if_true]
    rw [Dv.varGet_put num (by omega) (by omega) r]
    simp
  · have h0 := may_n0 hm' (by omega); have := may_t0 hm' (by omega); subst_vars
    have hc := may_str hm' (.inl h)
    rw [h]
    simp only [if_neg (show ¬ ((6 : Int) = 1 ∨ (6 : Int) = 2 ∨ (6 : Int) = 4) by decide), if_neg (show ¬ (6 : Int) = 1 by decide), if_neg (show ¬ (6 : Int) = 2 by decide), if_neg (show ¬ (6 : Int) = 4 by decide), if_neg (show ¬ (6 : Int) = 5 by decide), if_neg (show ¬ (6 : Int) = 8 by decide), if_true]
    rw [getText_bin s hc r]
    simp
  · have h0 := may_n0 hm' (by omega); have := may_t0 hm' (by omega); subst_vars
    have hc := may_bin7 hm' h
    rw [h]
    simp only [if_neg (show ¬ ((7 : Int) = 1 ∨ (7 : Int) = 2 ∨ (7 : Int) = 4) by decide), if_neg (show ¬ (7 : Int) = 1 by decide), if_neg (show ¬ (7 : Int) = 2 by decide), if_neg (show ¬ (7 : Int) = 4 by decide), if_neg (show ¬ (7 : Int) = 5 by decide), if_neg (show ¬ (7 : Int) = 6 by decide), if_neg (show ¬ (7 : Int) = 8 by decide), if_true]
    rw [getBin_bin s hc r]
    simp
  · have h0 := may_n0 hm' (by omega); subst_vars
    have hc := may_str hm' (.inr h)
    have hc2 := may_val hm' h
    rw [h]
    simp only [if_neg (show ¬ ((8 : Int) = 1 ∨ (8 : Int) = 2 ∨ (8 : Int) = 4) by decide), if_neg (show ¬ (8 : Int) = 1 by decide), if_neg (show ¬ (8 : Int) = 2 by decide), if_neg (show ¬ (8 : Int) = 4 by decide), if_neg (show ¬ (8 : Int) = 5 by decide), if_neg (show ¬ (8 : Int) = 6 by decide), if_neg (show ¬ (8 : Int) = 7 by decide), if_true]
    rw [List.append_assoc, getText_bin s hc]
    simp only [Int.toNat_natCast, List.drop_left]
    rw [getText_bin t hc2 r]
    simp
  · exfalso; unfold may at hm'; rw [h] at hm'; simp at hm'
theorem putQ_pos (p : S24) : 1 ≤ (putQ p).length := by
  unfold putQ putP
  rw [List.length_append]
  have := varPut_len p.f0
  omega
theorem props_body : ∀ (l : List S24) (k : Nat), (∀ p ∈ l, mayP p = true) → (body3 l).length < k → props k (body3 l) = some l
  | [], k + 1, _, _ => props_nil k
  | p :: l, k + 1, hm, hk => by
    have hb : body3 (p :: l) = putQ p ++ body3 l := rfl
    rw [hb] at hk ⊢
    have hp := putQ_pos p
    rw [List.length_append] at hk
    rw [props_step (by intro e; have h2 := congrArg List.length e; rw [List.length_append, List.length_nil] at h2; omega), propOf_put p (hm p (by simp))]
    simp only
    rw [props_body l k (fun q hq => hm q (by simp [hq])) (by omega)]
    rfl
theorem mayAll {l : List S24} (h : ∀ i, i < l.length → mayP (l.getD i z24) = true) : ∀ p ∈ l, mayP p = true := by
  intro p hp
  obtain ⟨i, hi, rfl⟩ := List.getElem_of_mem hp
  have := h i hi
  rwa [List.getD_eq_getElem?_getD, List.getElem?_eq_getElem hi] at this
theorem get3_put (l : List S24) (pl q : Int) (r : List Int) (h : chk3 l pl = 0) : get3 (bytes3 l ++ r) q = if chk3 l q ≠ 0 then ([], 0, chk3 l q) else (l, ((bytes3 l).length : Int), 0) := by
  obtain ⟨h32, hm⟩ := chk3_ok h
  have hs := body3_small h32 hm
  have hv : Dv.varGet (bytes3 l ++ r) = (((body3 l).length : Int), ((Dv.varPut (body3 l).length).length : Int), 0) := by
    unfold bytes3
    rw [List.append_assoc]
    exact Dv.varGet_put _ (by omega) (by omega) _
  have hlen : (bytes3 l).length = (Dv.varPut (body3 l).length).length + (body3 l).length := by unfold bytes3; rw [List.length_append]
  have e1 : ((Dv.varGet (bytes3 l ++ r)).2.1 + (Dv.varGet (bytes3 l ++ r)).1).toNat = (bytes3 l).length := by rw [hv]; dsimp only; omega
  have hbody : ((bytes3 l ++ r).take ((Dv.varGet (bytes3 l ++ r)).2.1 + (Dv.varGet (bytes3 l ++ r)).1).toNat).drop (Dv.varGet (bytes3 l ++ r)).2.1.toNat = body3 l := by
    rw [e1, List.take_left, hv]
    dsimp only
    rw [Int.toNat_natCast]
    unfold bytes3
    rw [List.drop_left]
  have hp := props_body l ((bytes3 l ++ r).length + 1) (mayAll hm) (by rw [List.length_append]; omega)
  rw [get3_some (b := bytes3 l ++ r) q (by rw [hv]) (by rw [hv, List.length_append]; dsimp only; omega) (by rw [hbody]; exact hp)]
  have e2 : (Dv.varGet (bytes3 l ++ r)).2.1 + (Dv.varGet (bytes3 l ++ r)).1 = ((bytes3 l).length : Int) := by rw [hv, hlen]; dsimp only; omega
  rw [e2]
theorem get3_cut (l : List S24) (pl q : Int) (k : Nat) (h : chk3 l pl = 0) (hk : k < (bytes3 l).length) : get3 ((bytes3 l).take k) q = ([], 0, 3) := by
  obtain ⟨h32, hm⟩ := chk3_ok h
  have hs := body3_small h32 hm
  have hlen : (bytes3 l).length = (Dv.varPut (body3 l).length).length + (body3 l).length := by unfold bytes3; rw [List.length_append]
  by_cases hc : k < (Dv.varPut (body3 l).length).length
  · have ht : (bytes3 l).take k = (Dv.varPut (body3 l).length).take k := by
      unfold bytes3
      rw [List.take_append_of_le_length (by omega)]
    have hv : Dv.varGet ((bytes3 l).take k) = (0, 0, 3) := by rw [ht]; exact Dv.varGet_short _ (by omega) (by omega) k hc
    rw [get3_err q (by rw [hv]; decide), hv]
  · have ht : (bytes3 l).take k = Dv.varPut (body3 l).length ++ (body3 l).take (k - (Dv.varPut (body3 l).length).length) := by
      unfold bytes3
      rw [List.take_append, List.take_of_length_le (by omega)]
    have hv : Dv.varGet ((bytes3 l).take k) = (((body3 l).length : Int), ((Dv.varPut (body3 l).length).length : Int), 0) := by
      rw [ht]; exact Dv.varGet_put _ (by omega) (by omega) _
    rw [get3_short q (by rw [hv]) (by rw [hv, List.length_take]; dsimp only; omega)]
theorem bok_put {p : S24} (hm : mayP p = true) : bok (putQ p) := by
  obtain ⟨id, num, s, t⟩ := p
  have hm' : may id num s t = true := hm
  have hid := may_small hm'
  have hn := may_num hm'
  have hlow := low_nonneg id
  unfold putQ putP
  refine bok_append (bok_varPut hid.1 (by dsimp only; omega)) ?_
  dsimp only
  unfold tailP
  rcases kinds_of id with h | h | h | h | h | h | h | h
  · rw [h] at hn ⊢; have hmx : maxOf 1 = 1 := rfl
    rw [if_pos rfl]; exact bok_cons ⟨by omega, by omega⟩ bok_nil
  · rw [h] at hn ⊢; have hmx : maxOf 2 = 65535 := rfl
    rw [if_neg (by decide), if_pos rfl]; exact bok_cons ⟨by omega, by omega⟩ (bok_cons ⟨by omega, by omega⟩ bok_nil)
  · rw [h] at hn ⊢; have hmx : maxOf 4 = 4294967295 := rfl
    rw [if_neg (by decide), if_neg (by decide), if_pos rfl]; exact bok_cons ⟨by omega, by omega⟩ (bok_cons ⟨by omega, by omega⟩ (bok_cons ⟨by omega, by omega⟩ (bok_cons ⟨by omega, by omega⟩ bok_nil)))
  · rw [h] at hn ⊢; have hmx : maxOf 5 = 268435455 := rfl
    rw [if_neg (by decide), if_neg (by decide), if_neg (by decide), if_pos rfl]; exact bok_varPut (by omega) (by omega)
  · rw [h, if_neg (by decide), if_neg (by decide), if_neg (by decide), if_neg (by decide), if_neg (by decide)]; exact bok_bin s
  · rw [h, if_neg (by decide), if_neg (by decide), if_neg (by decide), if_neg (by decide), if_neg (by decide)]; exact bok_bin s
  · rw [h, if_neg (by decide), if_neg (by decide), if_neg (by decide), if_neg (by decide), if_pos rfl]; exact bok_append (bok_bin s) (bok_bin t)
  · exfalso; unfold may at hm'; rw [h] at hm'; simp at hm'
theorem bok_body {l : List S24} (hm : ∀ p ∈ l, mayP p = true) : bok (body3 l) := fun x hx => by
  obtain ⟨p, hp, hx⟩ := List.mem_flatMap.1 hx
  exact bok_put (hm p hp) x hx
theorem bok_bytes3 {l : List S24} {pl : Int} (h : chk3 l pl = 0) : bok (bytes3 l) := by
  obtain ⟨h32, hm⟩ := chk3_ok h
  have hs := body3_small h32 hm
  exact bok_append (bok_varPut (by omega) (by omega)) (bok_body (mayAll hm))
end Go.Proofs.YtondmmoabmhpfaaDoor.Q

import Derived.Test.YtaenlmjllmcamaaDoorKP7
import Derived.Deep.DeepMust
import Derived.Outline
set_option linter.unusedVariables false
set_option linter.unusedSimpArgs false
namespace Go.Proofs.YtaenlmjllmcamaaDoor.Q
open Go.RowKit Go.Proofs.YtaenlmjllmcamaaDoorW.PrintWords Go.Proofs.YtaenlmjllmcamaaDoorW.PrintLast Go.Proofs.YtaenlmjllmcamaaDoorW.PrintMore
def putQ (p : S43) : List Int := putP p.f0 p.f1 p.f2 p.f3
def body3 (l : List S43) : List Int := l.flatMap putQ
def bytes3 (l : List S43) : List Int := Dv.varPut (body3 l).length ++ body3 l
theorem chk3_ok {l : List S43} {pl : Int} (h : chk3 l pl = 0) : l.length ≤ 32 ∧ ∀ i, i < l.length → mayP (l.getD i z43) = true := by
  unfold chk3 at h
  split at h
  · omega
  · rename_i hb
    split at h
    · omega
    · refine ⟨by omega, fun i hi => ?_⟩
      cases hm : mayP (l.getD i z43)
      · exact absurd ⟨i, hi, by unfold badAt; rw [hm]; simp⟩ hb
      · rfl
theorem putP_len {id num : Int} {s t : ByteArray} (h : may id num s t = true) : (putP id num s t).length ≤ 140000 := by
  have hv := varPut_len id
  have hn := varPut_len num
  unfold putP tailP
  rw [List.length_append]
  split
  · simp; omega
  split
  · simp; omega
  split
  · simp; omega
  split
  · omega
  split
  · rename_i h8
    have h1 := chk_size (may_str h (.inr h8))
    have h2 := chk_size (may_val h h8)
    rw [List.length_append, bin_len, bin_len]; omega
  · rename_i h1 h2 h4 h5 h8
    rw [bin_len]
    rcases kinds_of id with hk | hk | hk | hk | hk | hk | hk | hk
    · exact absurd hk h1
    · exact absurd hk h2
    · exact absurd hk h4
    · exact absurd hk h5
    · have := chk_size (may_str h (.inl hk)); omega
    · have := may_bin7 h hk; omega
    · exact absurd hk h8
    · exfalso; unfold may at h; rw [hk] at h; simp at h
theorem body3_take {l : List S43} {k : Nat} (hk : k < l.length) : body3 (l.take (k + 1)) = body3 (l.take k) ++ putQ (l.getD k z43) := by
  unfold body3
  rw [List.take_succ_eq_append_getElem hk, List.flatMap_append, List.getD_eq_getElem?_getD, List.getElem?_eq_getElem hk]
  simp
theorem body3_len {l : List S43} (hm : ∀ i, i < l.length → mayP (l.getD i z43) = true) : ∀ k, k ≤ l.length → (body3 (l.take k)).length ≤ k * 140000
  | 0, _ => by simp [body3]
  | k + 1, hk => by
    rw [body3_take (by omega), List.length_append]
    have := body3_len hm k (by omega)
    have := putP_len (hm k (by omega))
    unfold putQ
    omega
set_option maxRecDepth 100000 in
set_option maxHeartbeats 8000000 in
theorem Put_bad (A : Option Addr) (c : Nat) (l : List S43) (pl : Int) (w : World) (hr : Kd.C k43 w A l.length l) (hsz : ∀ p ∈ l, p.f2.size ≤ 140737488351232 ∧ p.f3.size ≤ 140737488351232) (hT : Dv.GTab w) (h : chk3 l pl ≠ 0) :
    Calls Tryd.prog 15 #[.slice A l.length c, .int .i64 pl] w fun e w' => ∃ er, e = .returned (.tuple #[.slice none 0 0, er]) ∧ Dv.Err w' er (chk3 l pl) ∧ Below w.heap.size w w' := by
  have C := Lib.hid (prop_Check A c l pl w hr hsz hT)
  clear hr hsz hT
  generalize chk3 l pl = r at *
  go_enter Tryd.func15, Tryd.ntmps15
  go_wp2_with fail
  refine C.out.mono ?_
  rintro e w1 ⟨v, rfl, he, hb⟩
  have he' := he
  rcases he' with ⟨rfl, h0⟩ | ⟨_, _, d, hd⟩
  · exact absurd h0 h
  obtain ⟨t, x, rfl⟩ := hd.form
  have HE := Lib.hid he
  clear he hd
  go_wp2
  go_ret2
  exact ⟨_, rfl, HE.out, hb⟩
end Go.Proofs.YtaenlmjllmcamaaDoor.Q

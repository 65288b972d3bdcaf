import Derived.Test.YtondmmoabmhpfaaDoorPV2
import Derived.Deep.Slices
import Derived.Deep.Fields
import Derived.ChangeSame
import Derived.SizedLaws
set_option linter.unusedVariables false
set_option linter.unusedSimpArgs false
namespace Go.Proofs.YtondmmoabmhpfaaDoor.Q
open Go.RowKit Go.Proofs.YtondmmoabmhpfaaDoorW.PrintWords Go.Proofs.YtondmmoabmhpfaaDoorW.PrintLast Go.Proofs.YtondmmoabmhpfaaDoorW.PrintMore
open Go.ChangeShapes Go.WideShapes Go.Deep
section
variable {H : Type} {enc : TypeId × Value → H} {W : World} {base : Nat} {spare : Nat → Bool} {held : Bool}
theorem weightsAll_mem {P : Program} {e : TypeId} {d : DataW H} : ∀ {l : List (DataW H)}, d ∈ l → ∀ m ∈ d.weights P e, m ∈ DataW.weightsAll P e l
  | x :: l, h, m, hm => by
    rw [DataW.weightsAll]
    rcases List.mem_cons.1 h with rfl | h
    · exact List.mem_append_left _ hm
    · exact List.mem_append_right _ (weightsAll_mem h m hm)
theorem rows_of {α : Type} (z : α) (d : Kd α) (Q : α → Prop) {t e : TypeId} {fuel : Nat} {v : Value} {y : DataW H × List MemPlace} (hu : Tryd.prog.underlying t = some (.slice e)) (hsz : Tryd.prog.cellsOf e = d.sz)
    (hel : ∀ n cs x, DataW.trod enc Tryd.prog W base spare held n e cs = some x → (∀ m ∈ x.1.weights Tryd.prog e, m ≤ reachBytes) → ∃ p, d.K W p cs ∧ Q p)
    (h : DataW.trod enc Tryd.prog W base spare held fuel t [v] = some y) (hw : ∀ m ∈ y.1.weights Tryd.prog t, m ≤ reachBytes) :
    ∃ A c l, v = .slice A l.length c ∧ l.length ≤ c ∧ d.C W A l.length l ∧ ∀ p ∈ l, Q p := by
  rcases open_slice hu h with ⟨h0, rfl⟩ | ⟨a, len, cap, m, n, D, Pl, hcs, hb, hl, hm, hmm, rfl, hi⟩
  · obtain rfl : v = .slice none 0 0 := by simpa using h0
    exact ⟨none, 0, [], rfl, Nat.le_refl _, Kd.C_nil d W, fun p hp => by cases hp⟩
  · obtain rfl : v = .slice (some a) len cap := by simpa using hcs
    have hlm : len ≤ m := by rw [hmm]; split <;> omega
    have each : ∀ i : Nat, ∃ p : α, ∀ (_ : i < len), ∃ cs, d.K W p cs ∧ Q p ∧ cs.length = d.sz ∧ ∀ j u, cs[j]? = some u → W.cell? (a.add (i * d.sz + j)) = some u := by
      intro i
      by_cases hil : i < len
      · obtain ⟨cs', hc, ht⟩ := hi i (by omega)
        obtain ⟨_, hcl, hat⟩ := World.cells?_some hc
        obtain ⟨p, hK, hQ⟩ := hel n cs' _ ht (fun m' hm' => by
          refine hw m' ?_
          show m' ∈ DataW.weights Tryd.prog t (DataW.slice _ _)
          rw [DataW.weights, hu]
          refine List.mem_cons_of_mem _ (List.mem_append_left _ (weightsAll_mem (d := D i) (List.mem_map.2 ⟨i, List.mem_range.2 hil, rfl⟩) m' hm')))
        refine ⟨p, fun _ => ⟨cs', hK, hQ, by rw [hcl, hsz], fun j u hj => ?_⟩⟩
        have hjl : j < cs'.length := (List.getElem?_eq_some_iff.1 hj).1
        have := hat j (by omega)
        rw [Go.Deep.add_add, hsz] at this
        rw [this, hj]
      · exact ⟨z, fun h => absurd h hil⟩
    obtain ⟨f, hf⟩ := Classical.axiomOfChoice each
    have hlen : ((List.range len).map f).length = len := by simp
    refine ⟨some a, cap, (List.range len).map f, by rw [hlen], by omega, ⟨rfl, by rw [hlen]; unfold maxLen at hm; omega, fun _ => ⟨a, rfl, fun j p hj => ?_⟩⟩, fun p hp => ?_⟩
    · have hjl : j < len := by have := (List.getElem?_eq_some_iff.1 hj).1; omega
      obtain rfl : f j = p := by
        rw [List.getElem?_map, List.getElem?_range hjl] at hj
        exact Option.some.inj hj
      obtain ⟨cs, hK, _, hl, hc⟩ := hf j hjl
      exact ⟨cs, hl, hK, hc⟩
    · obtain ⟨j, hj, rfl⟩ := List.mem_map.1 hp
      obtain ⟨_, _, hQ, _⟩ := hf j (List.mem_range.1 hj)
      exact hQ
theorem el_u8 (n : Nat) (cs : List Value) (x : DataW H × List MemPlace) (h : DataW.trod enc Tryd.prog W base spare held n 5 cs = some x) : ∃ p, (Kd.int .u8).K W p cs ∧ byteOk p := by
  obtain ⟨p, rfl, _, hw⟩ := DataW.trod_int Tryd.underlying5 h
  exact ⟨p, rfl, by unfold byteOk; simpa [Lit.wf, IntKind.min, IntKind.max, IntKind.bits, IntKind.signed] using hw⟩
theorem list4 {α : Type} {l : List α} (h : l.length = 4) : ∃ a b c d, l = [a, b, c, d] := by
  match l, h with
  | [a, b, c, d], _ => exact ⟨a, b, c, d, rfl⟩
theorem list3 {α : Type} {l : List α} (h : l.length = 3) : ∃ a b c, l = [a, b, c] := by
  match l, h with
  | [a, b, c], _ => exact ⟨a, b, c, rfl⟩
theorem field_at {fs : Array Field} {xs : List (DataW H × List MemPlace)} {cs : List Value} {n : Nat} (hf : ∀ (i : Nat) (f : Field), fs[i]? = some f → DataW.trod enc Tryd.prog W base spare held n f.type ((cs.drop f.offset).take (Tryd.prog.cellsOf f.type)) = xs[i]?) (i ty off : Nat) (f : Field) (hi : fs[i]? = some f) (h1 : f.type = ty) (h2 : f.offset = off) (hc : Tryd.prog.cellsOf ty = 1) : DataW.trod enc Tryd.prog W base spare held n ty ((cs.drop off).take 1) = xs[i]? := by
  subst h1 h2
  rw [← hc]
  exact hf i f hi
theorem cellsProp : Tryd.prog.cellsOf 24 = 4 := by kernel_rfl
theorem cellsAsk : Tryd.prog.cellsOf 37 = 3 := by kernel_rfl
theorem cells_int : Tryd.prog.cellsOf 3 = 1 := by kernel_rfl
theorem cells_u8 : Tryd.prog.cellsOf 5 = 1 := by kernel_rfl
theorem cells_str : Tryd.prog.cellsOf 9 = 1 := by kernel_rfl
theorem cells_bytes : Tryd.prog.cellsOf 35 = 1 := by kernel_rfl
theorem cells_props : Tryd.prog.cellsOf 29 = 1 := by kernel_rfl
theorem el_prop (n : Nat) (cs : List Value) (x : DataW H × List MemPlace) (h : DataW.trod enc Tryd.prog W base spare held n 24 cs = some x) (hw : ∀ m ∈ x.1.weights Tryd.prog 24, m ≤ reachBytes) : ∃ p, k24.K W p cs ∧ (p.f2.size ≤ 140737488351232 ∧ p.f3.size ≤ 140737488351232) := by
  have hu := Tryd.underlying24
  obtain ⟨xs, n', _, rfl, hl, hxl, hf⟩ := DataW.trod_struct hu h
  rw [cellsProp] at hl
  obtain ⟨a, b, c, d, rfl⟩ := list4 hl
  have hxl4 : xs.length = 4 := hxl
  obtain ⟨x0, x1, x2, x3, rfl⟩ := list4 hxl4
  have h0 : DataW.trod enc Tryd.prog W base spare held n' 3 [a] = some x0 := field_at hf 0 3 0 _ rfl rfl rfl cells_int
  have h1 : DataW.trod enc Tryd.prog W base spare held n' 3 [b] = some x1 := field_at hf 1 3 1 _ rfl rfl rfl cells_int
  have h2 : DataW.trod enc Tryd.prog W base spare held n' 9 [c] = some x2 := field_at hf 2 9 2 _ rfl rfl rfl cells_str
  have h3 : DataW.trod enc Tryd.prog W base spare held n' 9 [d] = some x3 := field_at hf 3 9 3 _ rfl rfl rfl cells_str
  obtain ⟨i0, e0, _⟩ := DataW.trod_int Tryd.underlying3 h0
  obtain ⟨i1, e1, _⟩ := DataW.trod_int Tryd.underlying3 h1
  obtain ⟨s2, e2, rfl, _⟩ := DataW.trod_string Tryd.underlying9 h2
  obtain ⟨s3, e3, rfl, _⟩ := DataW.trod_string Tryd.underlying9 h3
  have e0' := (List.cons.inj e0).1
  subst e0'
  have e1' := (List.cons.inj e1).1
  subst e1'
  have e2' := (List.cons.inj e2).1
  subst e2'
  have e3' := (List.cons.inj e3).1
  subst e3'
  refine ⟨⟨i0, i1, s2, s3⟩, k24_mk W _, ?_, ?_⟩
  · have := hw s2.data.toList.length (by
      show _ ∈ DataW.weights Tryd.prog 24 (DataW.agg [x0.1, x1.1, DataW.lit (.string s2.data.toList), DataW.lit (.string s3.data.toList)])
      rw [DataW.weights, hu]
      simp [DataW.weightsEach, DataW.weights])
    simpa [reachBytes] using this
  · have := hw s3.data.toList.length (by
      show _ ∈ DataW.weights Tryd.prog 24 (DataW.agg [x0.1, x1.1, DataW.lit (.string s2.data.toList), DataW.lit (.string s3.data.toList)])
      rw [DataW.weights, hu]
      simp [DataW.weightsEach, DataW.weights])
    simpa [reachBytes] using this
def AskSized (x : Ask) : Prop := ∀ p ∈ x.L, p.f2.size ≤ 140737488351232 ∧ p.f3.size ≤ 140737488351232
def AskGood (x : Ask) : Prop := AskSized x ∧ bok x.B
theorem el_ask (n : Nat) (cs : List Value) (x : DataW H × List MemPlace) (h : DataW.trod enc Tryd.prog W base spare held n 37 cs = some x) (hw : ∀ m ∈ x.1.weights Tryd.prog 37, m ≤ reachBytes) : ∃ p, kAsk.K W p cs ∧ AskGood p := by
  have hu := Tryd.underlying37
  obtain ⟨xs, n', _, rfl, hl, hxl, hf⟩ := DataW.trod_struct hu h
  rw [cellsAsk] at hl
  obtain ⟨a, b, c, rfl⟩ := list3 hl
  have hxl3 : xs.length = 3 := hxl
  obtain ⟨x0, x1, x2, rfl⟩ := list3 hxl3
  have h0 : DataW.trod enc Tryd.prog W base spare held n' 29 [a] = some x0 := field_at hf 0 29 0 _ rfl rfl rfl cells_props
  have h1 : DataW.trod enc Tryd.prog W base spare held n' 3 [b] = some x1 := field_at hf 1 3 1 _ rfl rfl rfl cells_int
  have h2 : DataW.trod enc Tryd.prog W base spare held n' 35 [c] = some x2 := field_at hf 2 35 2 _ rfl rfl rfl cells_bytes
  obtain ⟨i1, e1, _⟩ := DataW.trod_int Tryd.underlying3 h1
  have e1' := (List.cons.inj e1).1
  subst e1'
  have hwx : DataW.weights Tryd.prog 37 (DataW.agg ([x0, x1, x2].map (·.1))) = DataW.weights Tryd.prog 29 x0.1 ++ (DataW.weights Tryd.prog 3 x1.1 ++ (DataW.weights Tryd.prog 35 x2.1 ++ [])) := by
    rw [DataW.weights, hu]
    simp [DataW.weightsEach]
  have hw' : ∀ m ∈ DataW.weights Tryd.prog 37 (DataW.agg ([x0, x1, x2].map (·.1))), m ≤ reachBytes := hw
  rw [hwx] at hw'
  obtain ⟨A0, c0, L, rfl, hc0, hC0, hL⟩ := rows_of z24 k24 (fun p => p.f2.size ≤ 140737488351232 ∧ p.f3.size ≤ 140737488351232) Tryd.underlying29 cellsProp el_prop h0 (fun m hm => hw' m (List.mem_append_left _ hm))
  obtain ⟨A2, c2, B, rfl, hc2, hC2, hB⟩ := rows_of 0 (Kd.int .u8) byteOk Tryd.underlying35 cells_u8 (fun n cs x h _ => el_u8 n cs x h) h2 (fun m hm => hw' m (List.mem_append_right _ (List.mem_append_right _ (List.mem_append_left _ hm))))
  exact ⟨⟨L, i1, B⟩, kAsk_mk ⟨L, i1, B⟩ hc0 hC0 hc2 hC2, hL, hB⟩
theorem asks_of {fuel : Nat} {v : Value} {y : DataW H × List MemPlace} (h : DataW.trod enc Tryd.prog W base spare held fuel 22 [v] = some y) (hw : ∀ m ∈ y.1.weights Tryd.prog 22, m ≤ reachBytes) :
    ∃ A c l, v = .slice A l.length c ∧ l.length ≤ c ∧ Kd.C kAsk W A l.length l ∧ ∀ p ∈ l, AskGood p :=
  rows_of zAsk kAsk AskGood Tryd.underlying22 cellsAsk el_ask h hw
end
end Go.Proofs.YtondmmoabmhpfaaDoor.Q

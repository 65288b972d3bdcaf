import Derived.Test.YtdnmliidmnfijaaDoorKP3
import Derived.Maps.Own
import Derived.Maps.OwnOps
import Derived.Maps.Views
import Derived.Maps.Keyed
import Derived.Test.YtdnmliidmnfijaaDoorKQ5
import Derived.Outline
namespace Go.Proofs.YtdnmliidmnfijaaDoor.Q
open Go.RowKit Go.Proofs.YtdnmliidmnfijaaDoorW.PrintWords Go.Proofs.YtdnmliidmnfijaaDoorW.PrintLast Go.Proofs.YtdnmliidmnfijaaDoorW.PrintMore
open Go.Maps
def again (id pl : Int) : Bool := decide (id = 38) || (decide (id = 11) && decide (pl = 3))
def ids (l : List S112) : List Int := l.map (·.f0)
def mayP (p : S112) : Bool := may p.f0 p.f1 p.f2 p.f3
def badAt (l : List S112) (pl : Int) (i : Nat) : Bool :=
  !(mayP (l.getD i z112)) || !(stands (l.getD i z112).f0 pl) || (decide ((l.getD i z112).f0 ∈ ids (l.take i)) && !(again (l.getD i z112).f0 pl))
def chk3 (l : List S112) (pl : Int) : Int := if ∃ i, i < l.length ∧ badAt l pl i = true then 1 else if l.length > 32 then 2 else 0
abbrev seenD (l : List Int) : DataW Unit := l.foldl (fun D id => D.put (.int .i64 id) (.lit (.bool true))) (.map [])
theorem seenD_snoc (l : List Int) (x : Int) : seenD (l ++ [x]) = (seenD l).put (.int .i64 x) (.lit (.bool true)) := by simp [seenD]
theorem atKey_foldl (id : Int) (l : List Int) : ∀ D : DataW Unit, IsMap D → (l.foldl (fun D id => D.put (.int .i64 id) (.lit (.bool true))) D).atKey (.int .i64 id) (.lit (.bool false)) = if id ∈ l then .lit (.bool true) else D.atKey (.int .i64 id) (.lit (.bool false)) := by
  induction l with
  | nil => intro D h; simp
  | cons x l ih =>
    intro D h
    rw [List.foldl_cons, ih _ (IsMap.put h _ _)]
    by_cases hm : id ∈ l
    · simp [hm]
    · rw [if_neg hm]
      by_cases hx : id = x
      · subst hx; rw [atKey_put_same h (by trivial), if_pos (by simp)]
      · rw [atKey_put_other (by intro e; injection e with _ e; exact hx e), if_neg (by simp [hm, hx])]
theorem seen_at (id : Int) (l : List Int) : (seenD l).atKey (.int .i64 id) (.lit (.bool false)) = .lit (.bool (decide (id ∈ l))) := by
  rw [seenD, atKey_foldl id l _ isMap_empty]
  by_cases h : id ∈ l
  · rw [if_pos h, decide_eq_true h]
  · rw [if_neg h, decide_eq_false h]; rfl
theorem key_int (id : Int) (h0 : 0 ≤ id) (h1 : id ≤ 42) : keyOf Tryd.prog 3 (.int .i64 id) = some (.int .i64 id) := by
  have hw : (Lit.int .i64 id).wf = true := by
    have e1 : IntKind.i64.min ≤ 0 := by decide
    have e2 : 42 ≤ IntKind.i64.max := by decide
    simp only [Lit.wf, Bool.and_eq_true, decide_eq_true_eq]
    omega
  unfold keyOf mapKey
  simp [Tryd.underlying3, hw]
theorem bool_inv {v : Value} {b : Bool} {ps : List MemPlace} (h : plainElem (H := Unit) Tryd.prog 4 v = some (.lit (.bool b), ps)) : v = .bool b := by
  have hu := Tryd.underlying4
  unfold plainElem at h
  generalize Tryd.prog.underlying 4 = u at *
  subst hu
  cases v with
  | bool x =>
    injection h with h
    injection h with h _
    injection h with h
    injection h with h
    rw [h]
  | _ => cases h
theorem look_seen (w : World) (M n : Nat) (l : List Int) (id : Int) (h0 : 0 ≤ id) (h1 : id ≤ 42) (h : w.ownsMap Tryd.prog 3 (plainElem (H := Unit) Tryd.prog 4) M n (seenD l)) :
    (Instr.lookup 134 (.map (some M)) (.int .i64 id) false).run Tryd.prog w = .ok (.bool (decide (id ∈ l))) w := by
  have hz : (zeroValue 4).run Tryd.prog w = .ok (.bool false) w := by kernel_rfl
  have hkey := key_int id h0 h1
  obtain ⟨v, ps, hrun, hv⟩ := h.lookup (int_keyed Tryd.underlying3) Tryd.underlying134 hz (plainElem_bool Tryd.underlying4 false) hkey
  rw [seen_at] at hv
  rw [hrun, bool_inv hv]
end Go.Proofs.YtdnmliidmnfijaaDoor.Q

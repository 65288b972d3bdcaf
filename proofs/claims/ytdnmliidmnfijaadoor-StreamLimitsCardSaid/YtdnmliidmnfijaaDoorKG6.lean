import Derived.Test.YtdnmliidmnfijaaDoorKG5
import Derived.Test.YtdnmliidmnfijaaDoorKP6
import Derived.Outline
import Derived.Deep.DeepMust
import Derived.Deep.LoopGhost
section
set_option linter.unusedVariables false
set_option linter.unusedSimpArgs false
namespace Go.Proofs.YtdnmliidmnfijaaDoor.Q
open Go.RowKit Go.Proofs.YtdnmliidmnfijaaDoorW.PrintWords Go.Proofs.YtdnmliidmnfijaaDoorW.PrintLast Go.Proofs.YtdnmliidmnfijaaDoorW.PrintMore
def PropRes (w0 w : World) (g : Nat) (l : List Int) (e : Ending) (w' : World) : Prop :=
  ∃ (p : S112) (r : List Int) (n : Int), e = .returned (.agg #[.int .i64 p.f0, .int .i64 p.f1, .string p.f2, .string p.f3]) ∧ After w0 w g r n w' ∧ ((n = 0 ∧ propOf l = some (p, r)) ∨ (n ≠ 0 ∧ propOf l = none))
theorem place_prop (w0 w : World) (g : Nat) (A : Option Addr) (c : Nat) (l : List Int) (h : Pl w0 w g A c l .nilIface) (hb : bok l) (hT : Dv.GTab w0) :
    Calls Tryd.prog 51 #[.pointer (some ⟨g, 0, none⟩)] w (PropRes w0 w g l) := by
  have hg := varGet_good l hb
  have hbr := bok_drop hb (Dv.varGet l).2.1.toNat
  obtain ⟨q, hQ⟩ : ∃ q, propOf l = q := ⟨_, rfl⟩
  have hP := hQ
  unfold propOf at hP
  rcases hg with ⟨h0, h1, h2, h3, _⟩ | ⟨h0, h1, h2⟩
  · rw [if_neg (by rw [h0]; simp)] at hP
    obtain ⟨id, sz, er⟩ : ∃ x, x = Dv.varGet l := ⟨_, rfl⟩
    have hv : Dv.varGet l = ((Dv.varGet l).1, (Dv.varGet l).2.1, 0) := by rw [← h0]
    generalize (Dv.varGet l).1 = id at *
    generalize (Dv.varGet l).2.1 = sz at *
    dsimp only at hP
    rcases kinds_of id with hk | hk | hk | hk | hk | hk | hk | hk
    · rw [hk, if_pos (by simp)] at hP
      by_cases hl : 1 ≤ (l.drop sz.toNat).length
      · rw [if_neg (by simp; simp at hl; omega)] at hP
        exact (prop_num1 w0 w g A c l h hb hT id sz hv hk hl).mono fun e w' ⟨e1, e2⟩ => ⟨⟨id, _, ⟨#[]⟩, ⟨#[]⟩⟩, _, _, e1, e2, .inl ⟨rfl, hQ.trans hP.symm⟩⟩
      · rw [if_pos (by simp; simp at hl; omega)] at hP
        exact (prop_num1s w0 w g A c l h hb hT id sz hv hk (by omega)).mono fun e w' ⟨e1, e2⟩ => ⟨⟨id, 0, ⟨#[]⟩, ⟨#[]⟩⟩, _, _, e1, e2, .inr ⟨by decide, hQ.trans hP.symm⟩⟩
    · rw [hk, if_pos (by simp)] at hP
      by_cases hl : 2 ≤ (l.drop sz.toNat).length
      · rw [if_neg (by simp; simp at hl; omega)] at hP
        exact (prop_num2 w0 w g A c l h hb hT id sz hv hk hl).mono fun e w' ⟨e1, e2⟩ => ⟨⟨id, _, ⟨#[]⟩, ⟨#[]⟩⟩, _, _, e1, e2, .inl ⟨rfl, hQ.trans hP.symm⟩⟩
      · rw [if_pos (by simp; simp at hl; omega)] at hP
        exact (prop_num2s w0 w g A c l h hb hT id sz hv hk (by omega)).mono fun e w' ⟨e1, e2⟩ => ⟨⟨id, 0, ⟨#[]⟩, ⟨#[]⟩⟩, _, _, e1, e2, .inr ⟨by decide, hQ.trans hP.symm⟩⟩
    · rw [hk, if_pos (by simp)] at hP
      by_cases hl : 4 ≤ (l.drop sz.toNat).length
      · rw [if_neg (by simp; simp at hl; omega)] at hP
        exact (prop_num4 w0 w g A c l h hb hT id sz hv hk hl).mono fun e w' ⟨e1, e2⟩ => ⟨⟨id, _, ⟨#[]⟩, ⟨#[]⟩⟩, _, _, e1, e2, .inl ⟨rfl, hQ.trans hP.symm⟩⟩
      · rw [if_pos (by simp; simp at hl; omega)] at hP
        exact (prop_num4s w0 w g A c l h hb hT id sz hv hk (by omega)).mono fun e w' ⟨e1, e2⟩ => ⟨⟨id, 0, ⟨#[]⟩, ⟨#[]⟩⟩, _, _, e1, e2, .inr ⟨by decide, hQ.trans hP.symm⟩⟩
    · rw [hk, if_neg (by simp), if_pos rfl] at hP
      by_cases he : (Dv.varGet (l.drop sz.toNat)).2.2 = 0
      · rw [if_neg (by rw [he]; simp)] at hP
        exact (prop_var w0 w g A c l h hb hT id sz hv hk).mono fun e w' ⟨e1, e2⟩ => ⟨⟨id, _, ⟨#[]⟩, ⟨#[]⟩⟩, _, _, e1, e2, .inl ⟨he, hQ.trans hP.symm⟩⟩
      · rw [if_pos he] at hP
        exact (prop_var w0 w g A c l h hb hT id sz hv hk).mono fun e w' ⟨e1, e2⟩ => ⟨⟨id, _, ⟨#[]⟩, ⟨#[]⟩⟩, _, _, e1, e2, .inr ⟨he, hQ.trans hP.symm⟩⟩
    · rw [hk, if_neg (by simp), if_neg (by decide), if_pos rfl] at hP
      by_cases he : (getText (l.drop sz.toNat)).2.2 = 0
      · rw [if_neg (by rw [he]; simp)] at hP
        exact (prop_text w0 w g A c l h hb hT id sz hv hk).mono fun e w' ⟨e1, e2⟩ => ⟨⟨id, 0, _, ⟨#[]⟩⟩, _, _, e1, e2, .inl ⟨he, hQ.trans hP.symm⟩⟩
      · rw [if_pos he] at hP
        exact (prop_text w0 w g A c l h hb hT id sz hv hk).mono fun e w' ⟨e1, e2⟩ => ⟨⟨id, 0, _, ⟨#[]⟩⟩, _, _, e1, e2, .inr ⟨he, hQ.trans hP.symm⟩⟩
    · rw [hk, if_neg (by simp), if_neg (by decide), if_neg (by decide), if_pos rfl] at hP
      by_cases he : (getBin (l.drop sz.toNat)).2.2 = 0
      · rw [if_neg (by rw [he]; simp)] at hP
        exact (prop_bin w0 w g A c l h hb hT id sz hv hk).mono fun e w' ⟨e1, e2⟩ => ⟨⟨id, 0, _, ⟨#[]⟩⟩, _, _, e1, e2, .inl ⟨he, hQ.trans hP.symm⟩⟩
      · rw [if_pos he] at hP
        exact (prop_bin w0 w g A c l h hb hT id sz hv hk).mono fun e w' ⟨e1, e2⟩ => ⟨⟨id, 0, _, ⟨#[]⟩⟩, _, _, e1, e2, .inr ⟨he, hQ.trans hP.symm⟩⟩
    · rw [hk, if_neg (by simp), if_neg (by decide), if_neg (by decide), if_neg (by decide), if_pos rfl] at hP
      by_cases he : (getText (l.drop sz.toNat)).2.2 = 0
      · rw [if_neg (by rw [he]; simp)] at hP
        by_cases he2 : (getText ((l.drop sz.toNat).drop (getText (l.drop sz.toNat)).2.1.toNat)).2.2 = 0
        · rw [if_neg (by rw [he2]; simp)] at hP
          exact (prop_pair w0 w g A c l h hb hT id sz hv hk he).mono fun e w' ⟨e1, e2⟩ => ⟨⟨id, 0, _, _⟩, _, _, e1, e2, .inl ⟨he2, hQ.trans hP.symm⟩⟩
        · rw [if_pos he2] at hP
          exact (prop_pair w0 w g A c l h hb hT id sz hv hk he).mono fun e w' ⟨e1, e2⟩ => ⟨⟨id, 0, _, _⟩, _, _, e1, e2, .inr ⟨he2, hQ.trans hP.symm⟩⟩
      · rw [if_pos he] at hP
        exact (prop_pairs w0 w g A c l h hb hT id sz hv hk he).mono fun e w' ⟨e1, e2⟩ => ⟨⟨id, 0, _, ⟨#[]⟩⟩, _, _, e1, e2, .inr ⟨he, hQ.trans hP.symm⟩⟩
    · rw [hk, if_neg (by simp), if_neg (by decide), if_neg (by decide), if_neg (by decide), if_neg (by decide)] at hP
      exact (prop_none w0 w g A c l h hb hT id sz 0 hv hk).mono fun e w' ⟨e1, e2⟩ => ⟨⟨id, 0, ⟨#[]⟩, ⟨#[]⟩⟩, _, _, e1, e2, .inr ⟨by decide, hQ.trans hP.symm⟩⟩
  · rw [if_pos (by omega)] at hP
    have hv : Dv.varGet l = (0, 0, (Dv.varGet l).2.2) := Prod.ext h0 (Prod.ext h1 rfl)
    exact (prop_none w0 w g A c l h hb hT 0 0 _ hv (by decide)).mono fun e w' ⟨e1, e2⟩ => ⟨⟨0, 0, ⟨#[]⟩, ⟨#[]⟩⟩, _, _, e1, e2, .inr ⟨by decide, hQ.trans hP.symm⟩⟩
theorem get3_err {b : List Int} (pl : Int) (h : (Dv.varGet b).2.2 ≠ 0) : get3 b pl = ([], 0, (Dv.varGet b).2.2) := by unfold get3; rw [if_pos h]
theorem get3_short {b : List Int} (pl : Int) (h : (Dv.varGet b).2.2 = 0) (h2 : (b.length : Int) < (Dv.varGet b).2.1 + (Dv.varGet b).1) : get3 b pl = ([], 0, 3) := by unfold get3; rw [if_neg (by simpa using h), if_pos h2]
theorem get3_none {b : List Int} (pl : Int) (h : (Dv.varGet b).2.2 = 0) (h2 : ¬ (b.length : Int) < (Dv.varGet b).2.1 + (Dv.varGet b).1) (hp : props (b.length + 1) ((b.take ((Dv.varGet b).2.1 + (Dv.varGet b).1).toNat).drop (Dv.varGet b).2.1.toNat) = none) : get3 b pl = ([], 0, 1) := by
  unfold get3; rw [if_neg (by simpa using h), if_neg h2, hp]
theorem get3_some {b : List Int} (pl : Int) (h : (Dv.varGet b).2.2 = 0) (h2 : ¬ (b.length : Int) < (Dv.varGet b).2.1 + (Dv.varGet b).1) {l : List S112} (hp : props (b.length + 1) ((b.take ((Dv.varGet b).2.1 + (Dv.varGet b).1).toNat).drop (Dv.varGet b).2.1.toNat) = some l) : get3 b pl = if chk3 l pl ≠ 0 then ([], 0, chk3 l pl) else (l, (Dv.varGet b).2.1 + (Dv.varGet b).1, 0) := by
  unfold get3; rw [if_neg (by simpa using h), if_neg h2, hp]
def Mid (P : Option (List S112)) (acc : List S112) (rest : List Int) (n : Int) : Prop :=
  (n = 0 ∧ P = (props (rest.length + 1) rest).map (acc ++ ·)) ∨ (n ≠ 0 ∧ P = none)
theorem Mid.step {P : Option (List S112)} {acc : List S112} {rest r : List Int} {n : Int} {p : S112} (hb : bok rest) (hne : rest ≠ []) (h : Mid P acc rest 0) (hr : (n = 0 ∧ propOf rest = some (p, r)) ∨ (n ≠ 0 ∧ propOf rest = none)) : Mid P (acc ++ [p]) r n := by
  rcases h with ⟨_, h⟩ | ⟨h, _⟩
  · rw [props_step hne] at h
    rcases hr with ⟨rfl, hr⟩ | ⟨hn, hr⟩
    · left
      obtain ⟨⟨m, rfl, h3, h4⟩, _⟩ := propOf_rest hb hr
      refine ⟨rfl, ?_⟩
      rw [h, hr]
      simp only [Option.map_map]
      rw [props_up (bok_drop hb m) rest.length ((rest.drop m).length + 1) (by rw [List.length_drop]; omega) (by omega)]
      congr 1
      funext x
      simp
    · right
      exact ⟨hn, by rw [h, hr]; rfl⟩
  · exact absurd rfl h
theorem Mid.done {P : Option (List S112)} {acc : List S112} (h : Mid P acc [] 0) : P = some acc := by
  rcases h with ⟨_, h⟩ | ⟨h, _⟩
  · rw [h, props_nil]; simp
  · exact absurd rfl h
theorem Mid.bad {P : Option (List S112)} {acc : List S112} {rest : List Int} {n : Int} (h : Mid P acc rest n) (hn : n ≠ 0) : P = none := by
  rcases h with ⟨h, _⟩ | ⟨_, h⟩
  · exact absurd h hn
  · exact h
end Go.Proofs.YtdnmliidmnfijaaDoor.Q
end
section
set_option linter.unusedVariables false
set_option linter.unusedSimpArgs false
namespace Go.Proofs.YtdnmliidmnfijaaDoor.Q
open Go.RowKit Go.Proofs.YtdnmliidmnfijaaDoorW.PrintWords Go.Proofs.YtdnmliidmnfijaaDoorW.PrintLast Go.Proofs.YtdnmliidmnfijaaDoorW.PrintMore
theorem qinfoProp7 : (Tryd.prog.info? 112).map (fun i => (i.zero, i.size, i.bytes)) = some (some (.agg #[(.int .i64 0), (.int .i64 0), (.string ⟨#[]⟩), (.string ⟨#[]⟩)]), 4, 48) := by kernel_rfl
theorem ErrV_row {w W : World} {row : Option Nat} (hg : w.grownBy W row) (hrow : ∀ k, row = some k → ∃ cs, w.heap[k]? = some (.cells cs 112 (0, 0))) : ∀ (d : Nat) {v : Value} {n : Int}, Dv.ErrV w d v n → Dv.ErrV W d v n
  | 0, _, _, h => h
  | d + 1, _, _, ⟨b, L, u, e, hb, hu⟩ => by
    refine ⟨b, L, u, e, ?_, ErrV_row hg hrow d hu⟩
    rw [← hb]
    refine hg.block b (Array.getElem?_eq_some_iff.1 hb).1 (fun he => ?_)
    obtain ⟨cs, hc⟩ := hrow b he.symm
    rw [hb] at hc
    injection hc with hc
    injection hc with _ h2
    exact absurd h2 (by decide)
theorem Err_row {w W : World} {row : Option Nat} {v : Value} {n : Int} (hg : w.grownBy W row) (hrow : ∀ k, row = some k → ∃ cs, w.heap[k]? = some (.cells cs 112 (0, 0))) (h : Dv.Err w v n) : Dv.Err W v n := by
  rcases h with h | ⟨h1, h2, d, hd⟩
  · exact .inl h
  · exact .inr ⟨h1, h2, d, ErrV_row hg hrow d hd⟩
theorem R_rows {w : World} {base : Nat} {ok : Nat → Prop} {v : Value} {xs : List S112} (h : Kd.R k112 112 w base ok v xs) : ∀ k, v.ownBlock = some k → ∃ cs, w.heap[k]? = some (.cells cs 112 (0, 0)) := by
  obtain ⟨inner, ho⟩ := Kd.R_own h
  exact fun k hk => own_typed ho k hk
set_option maxRecDepth 100000 in
set_option maxHeartbeats 8000000 in
theorem propGet (A : Option Addr) (c : Nat) (b : List Int) (pl : Int) (w : World) (hr : Kd.C (Kd.int .u8) w A b.length b) (hc : b.length ≤ c) (hb : bok b) (hT : Dv.GTab w) (hlen : b.length ≤ 1000000000) :
    Calls Tryd.prog 48 #[.slice A b.length c, .int .i64 pl] w fun e w' => ∃ x v, e = .returned (.tuple #[x, .int .i64 (get3 b pl).2.1, v]) ∧ Kd.R k112 112 w' w.heap.size (fun _ => True) x (get3 b pl).1 ∧ Dv.Err w' v (get3 b pl).2.2 ∧ Below w.heap.size w w' := by
  have hg := varGet_good b hb
  have C := Lib.hid (varint_Get A c b w hr hc hb)
  have hm := hr.2.1
  have G1 := @get3_err b pl
  have G2 := @get3_short b pl
  have G3 := @get3_none b pl
  have G4 := @get3_some b pl
  have HT := Lib.hid hT
  obtain ⟨i0, hi, _, hsz, _⟩ := info_parts qinfo5
  have hcuts := fun (x y : Int) (h0 : 0 ≤ x) (h1 : x ≤ y) (h2 : y ≤ b.length) => print_mid_of (P := Tryd.prog) (Value.int .u8) 0 25 5 .i64 .i64 Tryd.underlying25 hi hsz A c b x y h0 h1 h2 hc
  obtain ⟨R, hR⟩ : ∃ R, get3 b pl = R := ⟨_, rfl⟩
  rw [hR] at G1 G2 G3 G4 ⊢
  clear hR hi hsz hT
  generalize Dv.varGet b = vg at *
  obtain ⟨n, sz, er⟩ := vg
  dsimp only at *
  rcases hg with ⟨rfl, h1, h2, h3, h4, h5⟩ | ⟨rfl, rfl, h0⟩
  · by_cases hs : (b.length : Int) < sz + n
    · obtain rfl := G2 rfl hs
      have d1 : decide ((b.length : Int) - sz < n) = true := decide_eq_true (by omega)
      clear G1 G2 G3 G4 hcuts hr hb HT
      go_enter Tryd.func48, Tryd.ntmps48
      go_wp2_with fail
      refine C.out.mono ?_
      rintro e w1 ⟨v, rfl, he, hb1⟩
      obtain rfl := Err_nil he
      have HB := Lib.hid hb1
      clear he hb1
      go_wp2_with (go_at_call 12; refine (Dv.fail_At _ _ _ _ (Dv.Err.no _ 3 (by decide) (by decide))).mono ?_; rintro e w2 ⟨v, rfl, he, hb⟩; have HE := Lib.hid he; have HB2 := Lib.hid hb; clear he hb)
      go_ret3
      exact ⟨_, v, rfl, Kd.R_nil _ _ _ _ _, HE.out, HB.out.then_ HB2.out⟩
    · have d1 : decide ((b.length : Int) - sz < n) = false := decide_eq_false (by omega)
      obtain ⟨A1, hcut, hA1, hc1⟩ := hcuts sz (sz + n) (by omega) (by omega) (by omega)
      have hr1 := Kd.C_of_reads (h1 := fun _ => rfl) (hA1 w (Kd.reads_of_C hr))
      have hbq : bok ((b.take (sz + n).toNat).drop sz.toNat) := bok_drop (bok_take hb _) _
      have hql : ((b.take (sz + n).toNat).drop sz.toNat).length ≤ b.length := by rw [List.length_drop, List.length_take]; omega
      have G3' := G3 rfl hs
      have G4' := fun l => @G4 rfl hs l
      obtain ⟨P, hP⟩ : ∃ P, props (b.length + 1) ((b.take (sz + n).toNat).drop sz.toNat) = P := ⟨_, rfl⟩
      have hP0 : Mid P [] ((b.take (sz + n).toNat).drop sz.toNat) 0 := .inl ⟨rfl, by rw [← hP, props_up hbq (b.length + 1) _ (by omega) (Nat.lt_succ_self _)]; simp⟩
      have hPs := props_sizes hbq (b.length + 1)
      rw [hP] at G3' G4' hPs
      have HG3 := Lib.hid G3'
      have HG4 := Lib.hid G4'
      have HPS := Lib.hid hPs
      have HP0 := Lib.hid hP0
      have HBQ := Lib.hid hbq
      have HR1 := Lib.hid hr1
      have HC1 := Lib.hid hc1
      have HQL := Lib.hid hql
      have HLN := Lib.hid hlen
      clear G1 G2 G3 G4 G3' G4' hcuts hr hb hP hP0 hPs hbq hr1 hc1 hA1 hql hlen
      generalize (b.take (sz + n).toNat).drop sz.toNat = q at *
      generalize c - sz.toNat = c1 at *
      go_enter Tryd.func48, Tryd.ntmps48
      go_wp2_with fail
      refine C.out.mono ?_
      rintro e w1 ⟨v, rfl, he, hb1⟩
      obtain rfl := Err_nil he
      have HB := Lib.hid hb1
      clear he hb1
      go_wp2_with fail
      have hp0 : Pl w (w1.alloc (.cells #[.slice A1 q.length c1, .nilIface] 126)) w1.heap.size A1 c1 q .nilIface := ⟨heap_alloc_new _ _, HR1.out, HC1.out, below_alloc HB.out _, HB.out.size⟩
      generalize w1.alloc (.cells #[.slice A1 q.length c1, .nilIface] 126) = W2 at *
      generalize w1.heap.size = g at *
      have HQ0 := Lib.hid hp0
      clear hp0
      go_loopg [4] (q.length + 1) (fun gk x wr => ∃ acc rest A1 c1' v n, (n = 0 → rest.length < gk ∧ bok rest ∧ acc.length + rest.length ≤ q.length) ∧ Kd.R k112 112 wr w.heap.size (fun k => k ≠ g) x acc ∧ Pl w wr g A1 c1' rest v ∧ Dv.Err wr v n ∧ Mid P acc rest n)
      case atStart => exact ⟨[], q, A1, c1, .nilIface, 0, fun _ => ⟨Nat.lt_succ_self _, HBQ.out, by simp⟩, Kd.R_nil _ _ _ _ _, HQ0.out, .inl ⟨rfl, rfl⟩, HP0.out⟩
      case round =>
        clear HQ0 HP0 HR1 HC1 HB
        obtain ⟨acc, rest, A1, c1', v, n1, hz, hO, hp, he, hM⟩ := hrel
        have HO := Lib.hid hO
        have HP := Lib.hid hp
        have HM := Lib.hid hM
        have c0 := hp.c0
        have c1 := hp.c1
        have hr63 := hp.rd.2.1
        by_cases hn1 : n1 = 0
        · subst hn1
          obtain rfl := Err_nil he
          obtain ⟨hz1, hz2, hz3⟩ := hz rfl
          clear hz he hO hp hM
          have HZ1 := Lib.hid hz1
          have HZ2 := Lib.hid hz2
          have HZ3 := Lib.hid hz3
          clear hz1 hz2 hz3
          by_cases hl : 0 < rest.length
          · have d2 : decide (0 < rest.length) = true := decide_eq_true hl
            have d3 : (0 < rest.length) = True := eq_true hl
            have hne : rest ≠ [] := fun e => by rw [e] at hl; cases hl
            have HNE := Lib.hid hne
            clear hl hne
            go_wp2_with fail
            refine (place_prop w _ g A1 c1' rest HP.out HZ2.out HT.out).mono ?_
            rintro e w4 ⟨p, r, n2, rfl, ⟨A2, c2, v2, hp2, he2, hg2⟩, hr2⟩
            have hO4 := Kd.R_grown HO.out hg2 (fun k hk e => hk (by injection e))
            have hM2 := Mid.step HZ2.out HNE.out HM.out hr2
            have HX := Lib.hid hr2
            have HO4 := Lib.hid hO4
            have HP2 := Lib.hid hp2
            have HE2 := Lib.hid he2
            have HM2 := Lib.hid hM2
            have HGL := Lib.hid (Array.getElem?_eq_some_iff.1 hp2.hp).1
            clear hp2 he2 hg2 hr2 hO4 hM2 HO HP HM c0 c1 d2 d3
            go_wp2_with (first | ((with_reducible refine gate_builtin (b := .append) (xs := #[.tmp 53, .tmp 56]) rfl ?_); at_builtin; go_must (refine Kd.R_append k112 (w0 := w) w.heap.size rfl (.tmp 53) (.tmp 56) 34 112 (.agg #[(.int .i64 0), (.int .i64 0), (.string ⟨#[]⟩), (.string ⟨#[]⟩)]) 48 rfl Tryd.underlying34 qinfoProp7 rfl (by decide) (by omega) u4 acc p [.int .i64 p.f0, .int .i64 p.f1, .string p.f2, .string p.f3] (fun k => k ≠ g) (fun _ => False) rfl rfl (k112_mkM _ _ _ p) (fun _ hk => hk.elim) (fun k hk => by have := HGL.out; omega) HO4.out HP2.out.below HP2.out.below.size (by have := HZ3.out; have := HQL.out; have := HLN.out; omega) ?_); intro v5 w5 ho5 hb5 hg5 hat5; have HO5 := Lib.hid ho5; have HB5 := Lib.hid hb5; have HG5 := Lib.hid hg5; clear ho5 hb5 hg5 hat5))
            go_roundg rest.length
            case measure => exact HZ1.out
            case rel =>
              have hgne : ∀ k, u4.ownBlock = some k → k ≠ g := HO4.out.1
              refine ⟨acc ++ [p], r, A2, c2, v2, n2, fun hn => ?_, HO5.out, ⟨?_, HP2.out.rd, HP2.out.cap, HB5.out, HP2.out.old⟩, Err_row HG5.out (R_rows HO4.out) HE2.out, HM2.out⟩
              · rcases HX.out with ⟨_, hx⟩ | ⟨hx, _⟩
                · obtain ⟨⟨m, rfl, m1, m2⟩, _⟩ := propOf_rest HZ2.out hx
                  refine ⟨by rw [List.length_drop]; omega, bok_drop HZ2.out m, ?_⟩
                  have := HZ3.out
                  rw [List.length_drop, List.length_append, List.length_singleton]; omega
                · exact absurd hn hx
              · exact (HG5.out.block g HGL.out (fun e => hgne g e.symm rfl)).trans HP2.out.hp
          · obtain rfl : rest = [] := List.length_eq_zero_iff.1 (by omega)
            have hPa := HM.out.done
            have hsz := HPS.out acc hPa
            obtain ⟨Ax, cx, hux⟩ := Kd.R_slice HO.out
            subst hux
            have hrd := (Kd.R_reads' HO.out).2.2
            have hac := hrd.2.1
            have hRR := HG4.out acc hPa
            have HRD := Lib.hid hrd
            have HSZ := Lib.hid hsz
            have c0' : wr.cell? ⟨g, 0, none⟩ = some (.slice A1 0 c1') := c0
            clear hPa hrd hsz hl c0 HG3 HG4 HM HPS HBQ hr63 HZ1 HZ2 HZ3
            go_wp2_with fail
            refine (Dv.Is_any _ 0 3 _ (.inl ⟨rfl, rfl⟩) (by decide)).mono ?_
            rintro e w6 ⟨rfl, rfl⟩
            go_wp2_with fail
            refine (prop_Check Ax cx acc pl _ HRD.out (fun p hp => by have := HSZ.out p hp; omega) (Dv.GTab.below HT.out HP.out.below)).mono ?_
            rintro e w7 ⟨v7, rfl, he7, hb7⟩
            have HB7 := Lib.hid hb7
            have HE7 := Lib.hid he7
            clear hb7
            generalize chk3 acc pl = k at *
            by_cases hk : k = 0
            · rw [if_neg (by simpa using hk)] at hRR
              subst hRR hk
              obtain rfl := Err_nil he7
              clear he7
              go_wp2
              go_ret3
              exact ⟨_, .nilIface, rfl, Kd.R_mono (Kd.R_below HO.out HB7.out) (fun _ _ => trivial), HE7.out, HP.out.below.then_ HB7.out⟩
            · rw [if_pos hk] at hRR
              subst hRR
              obtain ⟨t, x, rfl⟩ := Err_iface he7 hk
              clear he7
              go_wp2
              go_ret3
              exact ⟨_, _, rfl, Kd.R_nil _ _ _ _ _, HE7.out, HP.out.below.then_ HB7.out⟩
        · obtain rfl := HG3.out (HM.out.bad hn1)
          obtain ⟨t, x, rfl⟩ := Err_iface he hn1
          have HE := Lib.hid he
          clear hz he hO hp hM HG3 HG4 HPS HBQ hn1
          by_cases hl : 0 < rest.length
          · have d2 : decide (0 < rest.length) = true := decide_eq_true hl
            have d3 : (0 < rest.length) = True := eq_true hl
            clear hl
            go_wp2_with fail
            refine (Dv.Is_any _ n1 3 _ HE.out (by decide)).mono ?_
            generalize (n1 == 3) = b3
            rintro e w6 ⟨rfl, rfl⟩
            cases b3
            all_goals
              go_wp2_with (go_at_call 12; refine (Dv.fail_At _ _ _ _ (Dv.Err.no _ 1 (by decide) (by decide))).mono ?_; rintro e w7 ⟨v7, rfl, he7, hb7⟩; have HE7 := Lib.hid he7; have HB7 := Lib.hid hb7; clear he7 hb7)
              go_ret3
              exact ⟨_, v7, rfl, Kd.R_nil _ _ _ _ _, HE7.out, HP.out.below.then_ HB7.out⟩
          · have d2 : decide (0 < rest.length) = false := decide_eq_false hl
            have d3 : (0 < rest.length) = False := eq_false hl
            have c0' : wr.cell? ⟨g, 0, none⟩ = some (.slice A1 0 c1') := by rw [c0]; congr 2; omega
            clear hl c0
            go_wp2_with fail
            refine (Dv.Is_any _ n1 3 _ HE.out (by decide)).mono ?_
            generalize (n1 == 3) = b3
            rintro e w6 ⟨rfl, rfl⟩
            cases b3
            all_goals
              go_wp2_with (go_at_call 12; refine (Dv.fail_At _ _ _ _ (Dv.Err.no _ 1 (by decide) (by decide))).mono ?_; rintro e w7 ⟨v7, rfl, he7, hb7⟩; have HE7 := Lib.hid he7; have HB7 := Lib.hid hb7; clear he7 hb7)
              go_ret3
              exact ⟨_, v7, rfl, Kd.R_nil _ _ _ _ _, HE7.out, HP.out.below.then_ HB7.out⟩
  · obtain rfl := G1 (by omega)
    clear G1 G2 G3 G4 hcuts hr hb HT
    go_enter Tryd.func48, Tryd.ntmps48
    go_wp2_with fail
    refine C.out.mono ?_
    rintro e w1 ⟨v, rfl, he, hb1⟩
    obtain ⟨t, x, rfl⟩ := Err_iface he (by omega)
    have HB := Lib.hid hb1
    have HE0 := Lib.hid he
    clear he hb1
    go_wp2_with (go_at_call 12; refine (Dv.fail_At _ _ _ _ HE0.out).mono ?_; rintro e w2 ⟨v, rfl, he, hb⟩; have HE := Lib.hid he; have HB2 := Lib.hid hb; clear he hb)
    go_ret3
    exact ⟨_, v, rfl, Kd.R_nil _ _ _ _ _, HE.out, HB.out.then_ HB2.out⟩
end Go.Proofs.YtdnmliidmnfijaaDoor.Q
end

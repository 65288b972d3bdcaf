import Derived.Test.YtondmmoabmhpfaaDoorKG8
import Derived.Test.YtondmmoabmhpfaaDoorKQ2
import Derived.Test.YtondmmoabmhpfaaDoorKQ10
import Derived.Outline
import Derived.Deep.DeepMust
import Derived.Deep.RegionHeld3
import Derived.StillTailTactics
import Derived.Test.YtondmmoabmhpfaaDoorKG10
import Derived.Test.YtondmmoabmhpfaaDoorKV2
import Derived.Deep.LoopGhost
section
set_option linter.unusedVariables false
set_option linter.unusedSimpArgs false
namespace Go.Proofs.YtondmmoabmhpfaaDoor.Q
open Go.RowKit Go.Proofs.YtondmmoabmhpfaaDoorW.PrintWords Go.Proofs.YtondmmoabmhpfaaDoorW.PrintLast Go.Proofs.YtondmmoabmhpfaaDoorW.PrintMore
set_option maxRecDepth 100000 in
set_option maxHeartbeats 4000000 in
theorem ref3_none (A : Option Addr) (c : Nat) (l : List Int) (w : World) (hr : Kd.C (Kd.int .u8) w A l.length l) (hc : l.length ≤ c) (hb : bok l) (id sz : Int) (hv : Dv.varGet l = (id, sz, 0)) (hk : kindOf id = 0) :
    Calls Tryd.prog 33 #[.slice A l.length c] w fun e w' => e = .returned (.tuple #[.agg #[.int .i64 id, .int .i64 0, .string ⟨#[]⟩, .string ⟨#[]⟩], .int .i64 0]) ∧ Below w.heap.size w w' := by
  have hg := varGet_good l hb
  have hbr := bok_drop hb sz.toNat
  rw [hv] at hg
  dsimp only at hg
  have hm := hr.2.1
  obtain ⟨A2, hcut, hr2, hc2⟩ : ∃ A', (∀ W : World, (Instr.slice 35 (.slice A l.length c) (some (.int .i64 sz)) none none).run Tryd.prog W = .ok (.slice A' (l.drop sz.toNat).length (c - sz.toNat)) W) ∧ Kd.C (Kd.int .u8) w A' (l.drop sz.toNat).length (l.drop sz.toNat) ∧ (l.drop sz.toNat).length ≤ c - sz.toNat := by
    obtain ⟨i0, hi, _, hsz, _⟩ := info_parts qinfo5
    obtain ⟨A', h1, h2, h3⟩ := print_drop_of (P := Tryd.prog) (Value.int .u8) 0 35 5 .i64 Tryd.underlying35 hi hsz A c l sz (by omega) (by omega) hc
    exact ⟨A', h1, Kd.C_of_reads (h1 := fun _ => rfl) (h2 _ (Kd.reads_of_C hr)), h3⟩
  have CC := Lib.hid (dovecoteref1_Get.calls 20 A c l id sz 0 (w.alloc (.cells #[.int .i64 0, .int .i64 0, .string ⟨#[]⟩, .string ⟨#[]⟩] 24)) (Kd.C_below hr (below_alloc (Below.refl _ _) _)) hc (rget3 hb hv))
  have CK := Lib.hid (fun w => dovecoteref3_kind.calls 10 id 0 w (by rw [← hk]; exact kind_f id))
  have HR2 := Lib.hid hr2
  have HC2 := Lib.hid hc2
  have HBR := Lib.hid hbr
  obtain ⟨hsz0, hsz4⟩ : 0 ≤ sz ∧ sz ≤ 4 := by omega
  have hr63 := hr2.2.1
  clear hr hb hv hk hr2 hc2 hbr hg
  generalize l.drop sz.toNat = r at *
  generalize c - sz.toNat = c2 at *
  go_enter Tryd.func33, Tryd.ntmps33
  go_wp2_with fail
  refine CC.out.mono ?_
  rintro e w2 ⟨rfl, hb2⟩
  have hT := Two.start id hb2
  have HT := Lib.hid hT
  clear hb2 hT
  go_wp2_with fail
  refine (CK.out _).mono ?_
  rintro e w3 ⟨rfl, hd⟩
  have hT3 := HT.out.after hd.below
  clear hd HT
  generalize w2.heap.size = b at *
  obtain ⟨⟨x0, x1, x2, x3⟩, f0, f1, f2, f3⟩ := hT3.row.facts
  obtain ⟨⟨y0, y1, y2, y3⟩, g0, g1, g2, g3⟩ := hT3.out.facts
  obtain ⟨n1, n2⟩ := hT3.nes
  have HT3 := Lib.hid hT3
  clear hT3
  go_wp2
  refine bodyPost_ret (v := .tuple #[.agg #[.int .i64 id, .int .i64 0, .string ⟨#[]⟩, .string ⟨#[]⟩], .int .i64 0]) (by simp [results, Tryd.results33, go_sem, x0, x1, x2, x3, y0, y1, y2, y3]) rfl ⟨rfl, ?_⟩
  exact HT3.out.ends _ _ _ _
set_option maxRecDepth 100000 in
set_option maxHeartbeats 4000000 in
theorem ref3_err (A : Option Addr) (c : Nat) (l : List Int) (w : World) (hr : Kd.C (Kd.int .u8) w A l.length l) (hc : l.length ≤ c) (hb : bok l) (er : Int) (hv : Dv.varGet l = (0, 0, er)) (he : er ≠ 0) :
    Calls Tryd.prog 33 #[.slice A l.length c] w fun e w' => e = .returned (.tuple #[.agg #[.int .i64 0, .int .i64 0, .string ⟨#[]⟩, .string ⟨#[]⟩], .int .i64 0]) ∧ Below w.heap.size w w' := by
  have hg := varGet_good l hb
  rw [hv] at hg
  have he13 : er = 1 ∨ er = 3 := by rcases hg with h | h <;> simp at h <;> omega
  have CC := Lib.hid (dovecoteref1_Get.calls 20 A c l 0 0 er (w.alloc (.cells #[.int .i64 0, .int .i64 0, .string ⟨#[]⟩, .string ⟨#[]⟩] 24)) (Kd.C_below hr (below_alloc (Below.refl _ _) _)) hc (rget3 hb hv))
  have hm := hr.2.1
  clear hr hb hv hg he
  rcases he13 with rfl | rfl
  all_goals
    go_enter Tryd.func33, Tryd.ntmps33
    go_wp2_with fail
    refine CC.out.mono ?_
    rintro e w2 ⟨rfl, hb2⟩
    have h0 : Row w2 w.heap.size 0 0 ⟨#[]⟩ ⟨#[]⟩ := Row.below (show Row _ w.heap.size 0 0 ⟨#[]⟩ ⟨#[]⟩ from heap_alloc_new w _) hb2
    obtain ⟨⟨y0, y1, y2, y3⟩, g0, g1, g2, g3⟩ := h0.facts
    have HB := Lib.hid ((below_alloc (Below.refl _ w) _).then_ hb2)
    clear h0 hb2
    go_wp2
    refine bodyPost_ret (v := .tuple #[.agg #[.int .i64 0, .int .i64 0, .string ⟨#[]⟩, .string ⟨#[]⟩], .int .i64 0]) (by simp [results, Tryd.results33, go_sem, y0, y1, y2, y3]) rfl ⟨rfl, ?_⟩
    exact (((HB.out.setCell (Nat.le_refl _) _).setCell (Nat.le_refl _) _).setCell (Nat.le_refl _) _).setCell (Nat.le_refl _) _
def RefRes (w : World) (l : List Int) (e : Ending) (w' : World) : Prop :=
  ∃ (p : S24) (n : Int), e = .returned (.tuple #[.agg #[.int .i64 p.f0, .int .i64 p.f1, .string p.f2, .string p.f3], .int .i64 n]) ∧ Below w.heap.size w w' ∧ ((∃ r, propOf l = some (p, r) ∧ n = (l.length : Int) - r.length) ∨ (propOf l = none ∧ n = 0))
theorem ref3_get (A : Option Addr) (c : Nat) (l : List Int) (w : World) (hr : Kd.C (Kd.int .u8) w A l.length l) (hc : l.length ≤ c) (hb : bok l) :
    Calls Tryd.prog 33 #[.slice A l.length c] w (RefRes w l) := by
  have hg := varGet_good l hb
  have hbr := bok_drop hb (Dv.varGet l).2.1.toNat
  have hl0 : (l.drop (Dv.varGet l).2.1.toNat).length = l.length - (Dv.varGet l).2.1.toNat := List.length_drop
  obtain ⟨q, hQ⟩ : ∃ q, propOf l = q := ⟨_, rfl⟩
  have hP := hQ
  unfold propOf at hP
  rcases hg with ⟨h0, h1, h2, h3, _⟩ | ⟨h0, h1, h2⟩
  · rw [if_neg (by rw [h0]; simp)] at hP
    have hv : Dv.varGet l = ((Dv.varGet l).1, (Dv.varGet l).2.1, 0) := by rw [← h0]
    generalize (Dv.varGet l).1 = id at *
    generalize (Dv.varGet l).2.1 = sz at *
    dsimp only at hP
    rcases kinds_of id with hk | hk | hk | hk | hk | hk | hk | hk
    · rw [hk, if_pos (by simp)] at hP
      by_cases hl : 1 ≤ (l.drop sz.toNat).length
      · rw [if_neg (by simp; simp at hl; omega)] at hP
        exact (ref3_num1 A c l w hr hc hb id sz hv hk hl).mono fun e w' ⟨e1, e2⟩ => ⟨⟨id, _, ⟨#[]⟩, ⟨#[]⟩⟩, _, e1, e2, .inl ⟨_, hQ.trans hP.symm, by rw [List.length_drop]; show sz + 1 = (l.length : Int) - (((l.drop sz.toNat).length - 1 : Nat) : Int); omega⟩⟩
      · rw [if_pos (by simp; simp at hl; omega)] at hP
        exact (ref3_num1s A c l w hr hc hb id sz hv hk (by omega)).mono fun e w' ⟨e1, e2⟩ => ⟨⟨id, 0, ⟨#[]⟩, ⟨#[]⟩⟩, _, e1, e2, .inr ⟨hQ.trans hP.symm, rfl⟩⟩
    · rw [hk, if_pos (by simp)] at hP
      by_cases hl : 2 ≤ (l.drop sz.toNat).length
      · rw [if_neg (by simp; simp at hl; omega)] at hP
        exact (ref3_num2 A c l w hr hc hb id sz hv hk hl).mono fun e w' ⟨e1, e2⟩ => ⟨⟨id, _, ⟨#[]⟩, ⟨#[]⟩⟩, _, e1, e2, .inl ⟨_, hQ.trans hP.symm, by rw [List.length_drop]; show sz + 2 = (l.length : Int) - (((l.drop sz.toNat).length - 2 : Nat) : Int); omega⟩⟩
      · rw [if_pos (by simp; simp at hl; omega)] at hP
        exact (ref3_num2s A c l w hr hc hb id sz hv hk (by omega)).mono fun e w' ⟨e1, e2⟩ => ⟨⟨id, 0, ⟨#[]⟩, ⟨#[]⟩⟩, _, e1, e2, .inr ⟨hQ.trans hP.symm, rfl⟩⟩
    · rw [hk, if_pos (by simp)] at hP
      by_cases hl : 4 ≤ (l.drop sz.toNat).length
      · rw [if_neg (by simp; simp at hl; omega)] at hP
        exact (ref3_num4 A c l w hr hc hb id sz hv hk hl).mono fun e w' ⟨e1, e2⟩ => ⟨⟨id, _, ⟨#[]⟩, ⟨#[]⟩⟩, _, e1, e2, .inl ⟨_, hQ.trans hP.symm, by rw [List.length_drop]; show sz + 4 = (l.length : Int) - (((l.drop sz.toNat).length - 4 : Nat) : Int); omega⟩⟩
      · rw [if_pos (by simp; simp at hl; omega)] at hP
        exact (ref3_num4s A c l w hr hc hb id sz hv hk (by omega)).mono fun e w' ⟨e1, e2⟩ => ⟨⟨id, 0, ⟨#[]⟩, ⟨#[]⟩⟩, _, e1, e2, .inr ⟨hQ.trans hP.symm, rfl⟩⟩
    · rw [hk, if_neg (by simp), if_pos rfl] at hP
      have hgd := varGet_good _ hbr
      by_cases he : (Dv.varGet (l.drop sz.toNat)).2.2 = 0
      · rw [if_neg (by rw [he]; simp)] at hP
        exact (ref3_var A c l w hr hc hb id sz hv hk he).mono fun e w' ⟨e1, e2⟩ => ⟨⟨id, _, ⟨#[]⟩, ⟨#[]⟩⟩, _, e1, e2, .inl ⟨_, hQ.trans hP.symm, by rw [List.length_drop]; omega⟩⟩
      · rw [if_pos he] at hP
        exact (ref3_vare A c l w hr hc hb id sz hv hk he).mono fun e w' ⟨e1, e2⟩ => ⟨⟨id, _, ⟨#[]⟩, ⟨#[]⟩⟩, _, e1, e2, .inr ⟨hQ.trans hP.symm, rfl⟩⟩
    · rw [hk, if_neg (by simp), if_neg (by decide), if_pos rfl] at hP
      have hgd := getText_good _ hbr
      by_cases he : (getText (l.drop sz.toNat)).2.2 = 0
      · rw [if_neg (by rw [he]; simp)] at hP
        exact (ref3_text A c l w hr hc hb id sz hv hk he).mono fun e w' ⟨e1, e2⟩ => ⟨⟨id, 0, _, ⟨#[]⟩⟩, _, e1, e2, .inl ⟨_, hQ.trans hP.symm, by rw [List.length_drop]; omega⟩⟩
      · rw [if_pos he] at hP
        exact (ref3_texte A c l w hr hc hb id sz hv hk he).mono fun e w' ⟨e1, e2⟩ => ⟨⟨id, 0, _, ⟨#[]⟩⟩, _, e1, e2, .inr ⟨hQ.trans hP.symm, rfl⟩⟩
    · rw [hk, if_neg (by simp), if_neg (by decide), if_neg (by decide), if_pos rfl] at hP
      have hgd := getBin_good _ hbr
      by_cases he : (getBin (l.drop sz.toNat)).2.2 = 0
      · rw [if_neg (by rw [he]; simp)] at hP
        exact (ref3_bin A c l w hr hc hb id sz hv hk he).mono fun e w' ⟨e1, e2⟩ => ⟨⟨id, 0, _, ⟨#[]⟩⟩, _, e1, e2, .inl ⟨_, hQ.trans hP.symm, by rw [List.length_drop]; omega⟩⟩
      · rw [if_pos he] at hP
        exact (ref3_bine A c l w hr hc hb id sz hv hk he).mono fun e w' ⟨e1, e2⟩ => ⟨⟨id, 0, _, ⟨#[]⟩⟩, _, e1, e2, .inr ⟨hQ.trans hP.symm, rfl⟩⟩
    · rw [hk, if_neg (by simp), if_neg (by decide), if_neg (by decide), if_neg (by decide), if_pos rfl] at hP
      have hgd := getText_good _ hbr
      have hgd2 := getText_good _ (bok_drop hbr (getText (l.drop sz.toNat)).2.1.toNat)
      have hl2 : ((l.drop sz.toNat).drop (getText (l.drop sz.toNat)).2.1.toNat).length = (l.drop sz.toNat).length - (getText (l.drop sz.toNat)).2.1.toNat := List.length_drop
      by_cases he : (getText (l.drop sz.toNat)).2.2 = 0
      · rw [if_neg (by rw [he]; simp)] at hP
        by_cases he2 : (getText ((l.drop sz.toNat).drop (getText (l.drop sz.toNat)).2.1.toNat)).2.2 = 0
        · rw [if_neg (by rw [he2]; simp)] at hP
          exact (ref3_pair A c l w hr hc hb id sz hv hk he he2).mono fun e w' ⟨e1, e2⟩ => ⟨⟨id, 0, _, _⟩, _, e1, e2, .inl ⟨_, hQ.trans hP.symm, by rw [List.length_drop (l := List.drop _ (l.drop sz.toNat))]; omega⟩⟩
        · rw [if_pos he2] at hP
          exact (ref3_pair2 A c l w hr hc hb id sz hv hk he he2).mono fun e w' ⟨e1, e2⟩ => ⟨⟨id, 0, _, _⟩, _, e1, e2, .inr ⟨hQ.trans hP.symm, rfl⟩⟩
      · rw [if_pos he] at hP
        exact (ref3_pair1 A c l w hr hc hb id sz hv hk he).mono fun e w' ⟨e1, e2⟩ => ⟨⟨id, 0, _, ⟨#[]⟩⟩, _, e1, e2, .inr ⟨hQ.trans hP.symm, rfl⟩⟩
    · rw [hk, if_neg (by simp), if_neg (by decide), if_neg (by decide), if_neg (by decide), if_neg (by decide)] at hP
      exact (ref3_none A c l w hr hc hb id sz hv hk).mono fun e w' ⟨e1, e2⟩ => ⟨⟨id, 0, ⟨#[]⟩, ⟨#[]⟩⟩, _, e1, e2, .inr ⟨hQ.trans hP.symm, rfl⟩⟩
  · rw [if_pos (by omega)] at hP
    have hv : Dv.varGet l = (0, 0, (Dv.varGet l).2.2) := Prod.ext h0 (Prod.ext h1 rfl)
    exact (ref3_err A c l w hr hc hb _ hv (by omega)).mono fun e w' ⟨e1, e2⟩ => ⟨⟨0, 0, ⟨#[]⟩, ⟨#[]⟩⟩, _, e1, e2, .inr ⟨hQ.trans hP.symm, rfl⟩⟩
end Go.Proofs.YtondmmoabmhpfaaDoor.Q
end
section
set_option linter.unusedVariables false
set_option linter.unusedSimpArgs false
namespace Go.Proofs.YtondmmoabmhpfaaDoor.Q
open Go.RowKit Go.Proofs.YtondmmoabmhpfaaDoorW.PrintWords Go.Proofs.YtondmmoabmhpfaaDoorW.PrintLast Go.Proofs.YtondmmoabmhpfaaDoorW.PrintMore
set_option maxRecDepth 100000 in
set_option maxHeartbeats 8000000 in
theorem ref3_Get (A : Option Addr) (c : Nat) (b : List Int) (pl : Int) (w : World) (hr : Kd.C (Kd.int .u8) w A b.length b) (hc : b.length ≤ c) (hb : bok b) (hlen : b.length ≤ 1000000000) :
    Calls Tryd.prog 16 #[.slice A b.length c, .int .i64 pl] w fun e w' => ∃ y, e = .returned (.tuple #[y, .int .i64 (get3 b pl).2.1, .int .i64 (get3 b pl).2.2]) ∧ Kd.R k24 24 w' w.heap.size (fun _ => True) y (get3 b pl).1 ∧ Below w.heap.size w w' := by
  have hg := varGet_good b hb
  have C := Lib.hid (varB b hb A c w w hr hc (Below.refl _ _))
  have hm := hr.2.1
  have G1 := @get3_err b pl
  have G2 := @get3_short b pl
  have G3 := @get3_none b pl
  have G4 := @get3_some b pl
  obtain ⟨i0, hi, _, hsz, _⟩ := info_parts qinfo5
  have hcuts := fun (x y : Int) (h0 : 0 ≤ x) (h1 : x ≤ y) (h2 : y ≤ b.length) => print_mid_of (P := Tryd.prog) (Value.int .u8) 0 35 5 .i64 .i64 Tryd.underlying35 hi hsz A c b x y h0 h1 h2 hc
  obtain ⟨R, hR⟩ : ∃ R, get3 b pl = R := ⟨_, rfl⟩
  rw [hR] at G1 G2 G3 G4 ⊢
  clear hR hi hsz
  generalize Dv.varGet b = vg at *
  obtain ⟨n, sz, er⟩ := vg
  dsimp only at *
  rcases hg with ⟨rfl, h1, h2, h3, h4, h5⟩ | ⟨rfl, rfl, h0⟩
  · by_cases hs : (b.length : Int) < sz + n
    · obtain rfl := G2 rfl hs
      have d1 : decide ((b.length : Int) < sz + n) = true := decide_eq_true (by omega)
      clear G1 G2 G3 G4 hcuts hr hb hs
      go_enter Tryd.func16, Tryd.ntmps16
      go_wp2_with fail
      refine C.out.mono ?_
      rintro e w1 ⟨rfl, hb1⟩
      have HB := Lib.hid hb1
      clear hb1
      go_wp2
      go_ret3
      exact ⟨_, rfl, Kd.R_nil _ _ _ _ _, HB.out⟩
    · have d1 : decide ((b.length : Int) < sz + n) = false := decide_eq_false (by omega)
      have G3' := G3 rfl hs
      have G4' := fun l => @G4 rfl hs l
      obtain ⟨E, hE⟩ : ∃ E : Nat, (E : Int) = sz + n := ⟨(sz + n).toNat, by omega⟩
      obtain ⟨s0, hs0⟩ : ∃ s0 : Nat, (s0 : Int) = sz := ⟨sz.toNat, by omega⟩
      rw [← hE, ← hs0, Int.toNat_natCast, Int.toNat_natCast] at G3'
      rw [← hE, ← hs0] at G4'
      simp only [Int.toNat_natCast] at G4'
      clear d1
      have d1 : decide (b.length < E) = false := decide_eq_false (by omega)
      have hbq : bok ((b.take E).drop s0) := bok_drop (bok_take hb _) _
      have hql : ((b.take E).drop s0).length ≤ b.length := by rw [List.length_drop, List.length_take]; omega
      obtain ⟨P, hP⟩ : ∃ P, props (b.length + 1) ((b.take E).drop s0) = P := ⟨_, rfl⟩
      have hP0 : Mid P [] ((b.take E).drop s0) 0 := .inl ⟨rfl, by rw [← hP, props_up hbq (b.length + 1) _ (by omega) (Nat.lt_succ_self _)]; simp⟩
      have hPs := props_sizes hbq (b.length + 1)
      rw [hP] at G3' G4' hPs
      subst hs0
      have HG3 := Lib.hid G3'
      have HG4 := Lib.hid G4'
      have HPS := Lib.hid hPs
      have HP0 := Lib.hid hP0
      have HBK := Lib.hid hb
      have HRR := Lib.hid hr
      have HCU := Lib.hid hcuts
      have HLN := Lib.hid hlen
      have HE := Lib.hid hE
      have hEb : E ≤ b.length := by omega
      have hEs : s0 ≤ E := by omega
      have HEB := Lib.hid hEb
      have HES := Lib.hid hEs
      have HQL := Lib.hid hql
      have hsum : (s0 : Int) + n = (E : Int) := hE.symm
      clear G1 G2 G3 G4 G3' G4' hcuts hr hb hP hP0 hPs hbq hql hlen hs hE hEb hEs
      have hb63 : (E : Int) ≤ 1000000000 := by have := HEB.out; have := HLN.out; omega
      go_enter Tryd.func16, Tryd.ntmps16
      go_wp2_with fail
      refine C.out.mono ?_
      rintro e w1 ⟨rfl, hb1⟩
      have HB := Lib.hid hb1
      clear hb1
      go_wp2_with fail
      go_loopg [10, 11] (b.length + 1) (fun gk x a wr => ∃ acc, ∃ j : Nat, a = .int .i64 j ∧ j ≤ E ∧ E - j < gk ∧ Kd.R k24 24 wr w.heap.size (fun _ => True) x acc ∧ Below w.heap.size w wr ∧ Mid P acc ((b.take E).drop j) 0 ∧ acc.length + (E - j) ≤ b.length)
      case atStart => exact ⟨[], s0, rfl, HES.out, by have := HEB.out; omega, Kd.R_nil _ _ _ _ _, HB.out, HP0.out, by have := HEB.out; simp; omega⟩
      case round =>
        clear HB HP0
        obtain ⟨acc, j, rfl, hjE, hgk, hO, hBr, hM, hacc⟩ := hrel
        have HO := Lib.hid hO
        have HBR := Lib.hid hBr
        have HM := Lib.hid hM
        have HAC := Lib.hid hacc
        have HGK := Lib.hid hgk
        clear hO hBr hM hacc hgk
        by_cases hlt : j < E
        · have d2 : decide ((j : Int) < (E : Int)) = true := decide_eq_true (by omega)
          have d2n : decide (j < E) = true := decide_eq_true hlt
          obtain ⟨A1, hcut, hA1, hc1⟩ := HCU.out (j : Int) (E : Int) (by omega) (by omega) (by have := HEB.out; omega)
          simp only [Int.toNat_natCast] at hcut hA1 hc1
          have hrl : ((b.take E).drop j).length = E - j := by rw [List.length_drop, List.length_take]; have := HEB.out; omega
          have hne : (b.take E).drop j ≠ [] := fun e => by rw [e] at hrl; simp at hrl; omega
          have hr1 := Kd.C_of_reads (h1 := fun _ => rfl) (hA1 w (Kd.reads_of_C HRR.out))
          have hbq : bok ((b.take E).drop j) := bok_drop (bok_take HBK.out _) _
          have hnext : ∀ r : List Int, (∃ m, r = ((b.take E).drop j).drop m ∧ 0 < m ∧ m ≤ ((b.take E).drop j).length) → r = (b.take E).drop (j + ((((b.take E).drop j).length - r.length))) := by
            rintro r ⟨m, rfl, m1, m2⟩
            have hl : (((b.take E).drop j).drop m).length = ((b.take E).drop j).length - m := List.length_drop
            rw [hl, show ((b.take E).drop j).length - (((b.take E).drop j).length - m) = m by omega, List.drop_drop]
          have HNX := Lib.hid hnext
          have HRL := Lib.hid hrl
          have HNE := Lib.hid hne
          have HR1 := Lib.hid hr1
          have HC1 := Lib.hid hc1
          have HBQ := Lib.hid hbq
          clear hnext hrl hne hr1 hc1 hbq hA1 hlt
          generalize (b.take E).drop j = q at *
          generalize c - j = c1 at *
          go_wp2_with fail
          refine (ref3_get A1 c1 q _ (Kd.C_below HR1.out HBR.out) HC1.out HBQ.out).mono ?_
          rintro e w4 ⟨p, n2, rfl, hb4, hr2⟩
          have hB4 := HBR.out.then_ hb4
          have hO4 := Kd.R_below HO.out hb4
          have HB4 := Lib.hid hB4
          have HO4 := Lib.hid hO4
          clear hb4 hB4 hO4 HBR HO
          rcases hr2 with ⟨r, hpr, hn2⟩ | ⟨hpr, rfl⟩
          · obtain ⟨⟨m, hrm, m1, m2⟩, _⟩ := propOf_rest HBQ.out hpr
            have hM2 := Mid.step (n := 0) HBQ.out HNE.out HM.out (.inl ⟨rfl, hpr⟩)
            have hrl2 : r.length = q.length - m := by rw [hrm, List.length_drop]
            have hnx := HNX.out r ⟨m, hrm, m1, m2⟩
            have hm2 : n2 = (m : Int) := by omega
            subst hm2
            rw [show q.length - r.length = m by omega] at hnx
            have e0 : ((m : Int) == 0) = false := by simp; omega
            have HM2 := Lib.hid hM2
            have HNX2 := Lib.hid hnx
            have HML := Lib.hid (show m ≤ E - j by have := HRL.out; omega)
            have HM1 := Lib.hid m1
            have em : m ≠ 0 := by omega
            clear hpr hM2 hrl2 hnx hrm m1 m2 hn2
            have hsm : (j : Int) + (m : Int) ≤ 1000000000 := by have := HML.out; omega
            go_wp2_with (first | ((with_reducible refine gate_builtin (b := .append) (xs := #[.tmp 47, .tmp 49]) rfl ?_); at_builtin; go_must (refine Kd.R_append k24 (w0 := w) w.heap.size rfl (.tmp 47) (.tmp 49) 29 24 (.agg #[(.int .i64 0), (.int .i64 0), (.string ⟨#[]⟩), (.string ⟨#[]⟩)]) 48 rfl Tryd.underlying29 info24 rfl (by decide) (by omega) u10 acc p [.int .i64 p.f0, .int .i64 p.f1, .string p.f2, .string p.f3] (fun _ => True) (fun _ => False) rfl (by simp [Act.eval]) (k24_mkM _ _ _ p) (fun _ hk => hk.elim) (fun _ _ => trivial) (Kd.R_alloc HO4.out _) (below_alloc HB4.out _) (below_alloc HB4.out _).size (by have := HAC.out; have := HLN.out; omega) ?_); intro v5 w5 ho5 hb5 hg5 hat5; have HO5 := Lib.hid ho5; have HB5 := Lib.hid hb5; clear ho5 hb5 hg5 hat5))
            go_roundg (E - j)
            case measure => exact HGK.out
            case rel =>
              refine ⟨acc ++ [p], j + m, by go_num, by have := HML.out; omega, by have := HML.out; have := HM1.out; omega, HO5.out, HB5.out, by rw [← HNX2.out]; exact HM2.out, ?_⟩
              have := HAC.out; have := HML.out; have := HM1.out
              rw [List.length_append, List.length_singleton]; omega
          · obtain rfl := HG3.out (by
              have := Mid.step (n := 1) (r := []) (p := p) HBQ.out HNE.out HM.out (.inr ⟨by decide, hpr⟩)
              exact this.bad (by decide))
            clear hpr HG3 HG4
            go_wp2
            go_ret3
            exact ⟨_, rfl, Kd.R_nil _ _ _ _ _, below_alloc HB4.out _⟩
        · obtain rfl : j = E := by omega
          have d2 : decide ((j : Int) < (j : Int)) = false := decide_eq_false (by omega)
          have d2n : decide (j < j) = false := decide_eq_false (by omega)
          have hq : (b.take j).drop j = [] := by rw [List.drop_of_length_le]; rw [List.length_take]; omega
          have hPa : P = some acc := by have := HM.out; rw [hq] at this; exact this.done
          have hsz := HPS.out acc hPa
          have hRR := HG4.out acc hPa
          obtain ⟨Ax, cx, hux⟩ := Kd.R_slice HO.out
          subst hux
          obtain ⟨_, hcl, hrd⟩ := Kd.R_reads' HO.out
          have hac := hrd.2.1
          have HSZ := Lib.hid hsz
          have HRD := Lib.hid hrd
          have HCL := Lib.hid hcl
          have HQ := Lib.hid (show acc.length ≤ 1000000000 by have := HAC.out; have := HLN.out; omega)
          clear hq hPa hsz hrd hcl HG3 HG4 HM HPS hlt
          go_wp2_with fail
          refine (dovecoteref3_Check.calls _ Ax cx acc pl _ _ HRD.out HCL.out (Check3_f acc pl HQ.out (fun p hp => by have := HSZ.out p hp; omega))).mono ?_
          rintro e w7 ⟨rfl, hb7⟩
          have HB7 := Lib.hid hb7
          clear hb7
          generalize chk3 acc pl = k at *
          by_cases hk : k = 0
          · rw [if_neg (by simpa using hk)] at hRR
            subst hRR hk
            go_wp2
            go_ret3
            exact ⟨_, rfl, Kd.R_below HO.out HB7.out, HBR.out.then_ HB7.out⟩
          · rw [if_pos hk] at hRR
            subst hRR
            have e0 : (k == 0) = false := by simpa using hk
            go_wp2
            go_ret3
            exact ⟨_, rfl, Kd.R_nil _ _ _ _ _, HBR.out.then_ HB7.out⟩
  · obtain rfl := G1 (by omega)
    have h13 : er = 1 ∨ er = 3 := h0
    clear G1 G2 G3 G4 hcuts hr hb h0
    rcases h13 with rfl | rfl
    all_goals
      go_enter Tryd.func16, Tryd.ntmps16
      go_wp2_with fail
      refine C.out.mono ?_
      rintro e w1 ⟨rfl, hb1⟩
      have HB := Lib.hid hb1
      clear hb1
      go_wp2
      go_ret3
      exact ⟨_, rfl, Kd.R_nil _ _ _ _ _, HB.out⟩
end Go.Proofs.YtondmmoabmhpfaaDoor.Q
end

import Derived.Test.YtondmmoabmhpfaaDoorKG6
import Derived.Test.YtondmmoabmhpfaaDoorKG11
import Derived.Test.YtondmmoabmhpfaaDoorKV2
import Derived.Test.YtondmmoabmhpfaaDoorKQ7
import Derived.Test.YtondmmoabmhpfaaDoorKQ6
import Derived.Outline
import Derived.Deep.DeepMust
set_option linter.unusedVariables false
set_option linter.unusedSimpArgs false
namespace Go.Proofs.YtondmmoabmhpfaaDoor.Q
open Go.RowKit Go.Proofs.YtondmmoabmhpfaaDoorW.PrintWords Go.Proofs.YtondmmoabmhpfaaDoorW.PrintLast Go.Proofs.YtondmmoabmhpfaaDoorW.PrintMore
structure Qb (w W : World) (g : Nat) (A0 : Option Addr) (n0 c0 : Nat) (P : Int) (A2 : Option Addr) (n2 c2 : Nat) : Prop where
  below : Below w.heap.size w W
  row : W.heap[g]? = some (.cells #[.slice A0 n0 c0, .int .i64 P, .slice A2 n2 c2] 37 (0, 0))
theorem Qb.after {w W W1 : World} {g : Nat} {A0 : Option Addr} {n0 c0 : Nat} {P : Int} {A2 : Option Addr} {n2 c2 : Nat} (h : Qb w W g A0 n0 c0 P A2 n2 c2) (hb : Below W.heap.size W W1) : Qb w W1 g A0 n0 c0 P A2 n2 c2 := ⟨h.below.then_ hb, (hb.block g (Array.getElem?_eq_some_iff.1 h.row).1).trans h.row⟩
theorem Qb.facts {w W : World} {g : Nat} {A0 : Option Addr} {n0 c0 : Nat} {P : Int} {A2 : Option Addr} {n2 c2 : Nat} (h : Qb w W g A0 n0 c0 P A2 n2 c2) : W.cell? ⟨g, 0, none⟩ = some (.slice A0 n0 c0) ∧ W.cell? ⟨g, 1, none⟩ = some (.int .i64 P) ∧ W.cell? ⟨g, 2, none⟩ = some (.slice A2 n2 c2) :=
  ⟨(cell_of_row _ _ 0 _ _ _ h.row).trans rfl, (cell_of_row _ _ 1 _ _ _ h.row).trans rfl, (cell_of_row _ _ 2 _ _ _ h.row).trans rfl⟩
theorem CopyBytes_l0 (l : List Int) (hl : l.length ≤ 1000000000) : ∀ (d k i : Nat), i + d = l.length → d < k → dovecoteref0_CopyBytes.l0 k l (l.take i) i = some l
  | 0, k + 1, i, h, hk => by rw [dovecoteref0_CopyBytes.l0, if_neg (by omega), List.take_of_length_le (by omega)]
  | d + 1, k + 1, i, h, hk => by
    rw [dovecoteref0_CopyBytes.l0, if_pos (by omega), if_pos (by omega), if_pos (by rw [List.length_take]; omega), show wrap64 ((i : Int) + 1) = ((i + 1 : Nat) : Int) by unfold wrap64; omega]
    rw [show l.take i ++ [rd l (i : Int)] = l.take (i + 1) by
      rw [List.take_succ_eq_append_getElem (by omega)]; unfold rd; rw [Int.toNat_natCast, List.getD_eq_getElem?_getD, List.getElem?_eq_getElem (by omega)]; rfl]
    exact CopyBytes_l0 l hl d k (i + 1) (by omega) (by omega)
theorem CopyBytes_f (l : List Int) (hl : l.length ≤ 1000000000) : dovecoteref0_CopyBytes.f (l.length + 1) l = some l :=
  CopyBytes_l0 l hl l.length _ 0 (by omega) (Nat.lt_succ_self _)
theorem Props_l0 : ∀ (d k : Nat) (l : List S24) (i : Nat), l.length ≤ 1000000000 → i + d = l.length → d < k → dovecotelaw0_Props.l0 k l i = some ()
  | 0, k + 1, l, i, hl, h, hk => by rw [dovecotelaw0_Props.l0, if_neg (by omega), if_pos (by omega)]
  | d + 1, k + 1, l, i, hl, h, hk => by
    rw [dovecotelaw0_Props.l0, if_pos (by omega), if_pos (by omega), show wrap64 ((i : Int) + 1) = ((i + 1 : Nat) : Int) by unfold wrap64; omega]
    exact Props_l0 d k _ (i + 1) (by rw [List.length_set]; exact hl) (by rw [List.length_set]; omega) (by omega)
theorem Props_f (l : List S24) (hl : l.length ≤ 1000000000) : dovecotelaw0_Props.f (l.length + 1) l = some () := Props_l0 l.length _ l 0 hl (by omega) (Nat.lt_succ_self _)
theorem props_count {l : List Int} (hb : bok l) : ∀ (k : Nat) (ps : List S24), props k l = some ps → ps.length ≤ l.length := by
  intro k
  induction k generalizing l with
  | zero => intro ps h; cases h
  | succ k ih =>
    intro ps h
    by_cases hl : l = []
    · subst hl; rw [props_nil] at h; cases h; simp
    rw [props_step hl] at h
    cases hp : propOf l with
    | none => rw [hp] at h; cases h
    | some x =>
      obtain ⟨p, r⟩ := x
      rw [hp] at h
      obtain ⟨⟨n, rfl, h3, h4⟩, hs⟩ := propOf_rest hb hp
      obtain ⟨qs, hq, rfl⟩ := Option.map_eq_some_iff.1 h
      have := ih (bok_drop hb n) qs hq
      rw [List.length_drop] at this
      rw [List.length_cons]; omega
theorem get3_count (b : List Int) (pl : Int) (hb : bok b) : (get3 b pl).1.length ≤ b.length := by
  by_cases h1 : (Dv.varGet b).2.2 = 0
  · by_cases h2 : (b.length : Int) < (Dv.varGet b).2.1 + (Dv.varGet b).1
    · rw [get3_short pl h1 h2]; simp
    · cases hp : props (b.length + 1) ((b.take ((Dv.varGet b).2.1 + (Dv.varGet b).1).toNat).drop (Dv.varGet b).2.1.toNat) with
      | none => rw [get3_none pl h1 h2 hp]; simp
      | some ps =>
        rw [get3_some pl h1 h2 hp]
        split
        · simp
        · have := props_count (bok_drop (bok_take hb _) _) _ _ hp
          rw [List.length_drop, List.length_take] at this
          dsimp only; omega
  · rw [get3_err pl h1]; simp
set_option maxRecDepth 100000 in
set_option maxHeartbeats 8000000 in
theorem PropGets_walk (A : Option Addr) (c : Nat) (l : List Ask) (w : World) (hr : Kd.C kAsk w A l.length l) (hby : ∀ a ∈ l, bok a.B) (hG : Dv.GErr w) (hT : Dv.GTab w) :
    Calls Tryd.prog 5 #[.slice A l.length c] w fun e w' => e = .returned (.bool true) ∧ Below w.heap.size w w' := by
  have hm63 := hr.2.1
  have HR := Lib.hid hr
  have HY := Lib.hid hby
  have HT := Lib.hid hT
  have HG := Lib.hid hG
  clear hr hby hT hG
  go_enter Tryd.func5, Tryd.ntmps5
  go_wp2_with fail
  go_loopw [3] (fun i wr => ∃ k : Nat, k ≤ l.length ∧ i = .int .i64 k ∧ Below w.heap.size w wr) (fun i _ => l.length - (intOf i).toNat)
  case atStart => exact ⟨0, Nat.zero_le _, rfl, Below.refl _ _⟩
  case round =>
    obtain ⟨k, hk, rfl, hB⟩ := hrel
    have HB := Lib.hid hB
    clear hB
    by_cases hlt : k < l.length
    · have d1 : decide (k < l.length) = true := decide_eq_true hlt
      by_cases h12 : k < 12
      · have d2 : decide ((k : Int) < 12) = true := decide_eq_true (by omega)
        obtain ⟨ad, A0, c0, A2, c2, ea, x0, x1, x2, g0, g1, g2, g3⟩ := at_Ask HR.out k hlt
        cases ea
        replace x0 := (HB.out.cell (World.block_lt_of_cell? _ _ x0)).trans x0
        replace x1 := (HB.out.cell (World.block_lt_of_cell? _ _ x1)).trans x1
        replace x2 := (HB.out.cell (World.block_lt_of_cell? _ _ x2)).trans x2
        obtain ⟨p, hp⟩ : ∃ p, l.getD k zAsk = p := ⟨_, rfl⟩
        rw [hp] at x0 x1 x2 g0 g1 g2 g3
        have hpy := HY.out p (by rw [← hp]; exact getD_mem hlt)
        clear hp
        have HPY := Lib.hid hpy
        have G0 := Lib.hid g0
        have G1 := Lib.hid g1
        have G2 := Lib.hid g2
        have G3 := Lib.hid g3
        clear hpy g0 g1 g2 g3
        go_wp2_with fail
        have hK : Qb w (wr.alloc (.cells #[.slice A0 p.L.length c0, .int .i64 p.P, .slice A2 p.B.length c2] 37)) wr.heap.size A0 p.L.length c0 p.P A2 p.B.length c2 := ⟨below_alloc HB.out _, heap_alloc_new _ _⟩
        obtain ⟨y0, y1, y2⟩ := hK.facts
        have HK := Lib.hid hK
        clear hK x0 x1 x2
        generalize wr.alloc (.cells #[.slice A0 p.L.length c0, .int .i64 p.P, .slice A2 p.B.length c2] 37) = W0 at *
        generalize wr.heap.size = g at *
        obtain ⟨hv, hf, hs⟩ := heavy_f p.L p.P p.B
        have HV := Lib.hid hs
        have HF := Lib.hid hf
        clear hf hs
        refine (dovecotelaw3_heavy.calls 1001 A0 c0 p.L p.P A2 c2 p.B hv _ (Kd.C_below G1.out HK.out.below) G0.out (Kd.C_below G3.out HK.out.below) G2.out HF.out).mono ?_
        rintro e wa ⟨rfl, hba⟩
        have hK := HK.out.after hba
        clear HK y0 y1 y2 hba
        obtain ⟨y0, y1, y2⟩ := hK.facts
        have HK := Lib.hid hK
        clear hK
        cases hv
        rotate_left
        · go_wp2
          go_ret
          exact ⟨rfl, HK.out.below⟩
        have HL := Lib.hid (show p.B.length ≤ 1000000000 by have := (HV.out rfl).2; omega)
        clear HV HF
        go_wp2_with fail
        refine (dovecoteref0_CopyBytes.calls _ A2 c2 p.B p.B _ (Kd.C_below G3.out HK.out.below) G2.out (CopyBytes_f p.B HL.out)).mono ?_
        rintro e wb ⟨vb, rfl, hob, hbb⟩
        obtain ⟨Ab, cb, hvb⟩ := Kd.R_slice hob
        subst hvb
        obtain ⟨_, hcb, hrb⟩ := Kd.R_reads' hob
        have hK := HK.out.after hbb
        have hl63 := hrb.2.1
        clear HK y0 y1 y2 hbb hob
        obtain ⟨y0, y1, y2⟩ := hK.facts
        have HK := Lib.hid hK
        have HCB := Lib.hid hcb
        have HRB := Lib.hid hrb
        clear hK hcb hrb
        go_wp2_with fail
        refine (propGet Ab cb p.B p.P _ HRB.out HCB.out HPY.out (Dv.GTab.below HT.out HK.out.below) HL.out).mono ?_
        rintro e wc ⟨x, v, rfl, hox, hev, hbc⟩
        have hK := HK.out.after hbc
        have hrb := Kd.C_below HRB.out hbc
        have hox := Kd.R_lower hox HK.out.below.size
        clear HK HRB y0 y1 y2 hbc
        obtain ⟨y0, y1, y2⟩ := hK.facts
        have HK := Lib.hid hK
        have HRB := Lib.hid hrb
        have HOX := Lib.hid hox
        have HEV := Lib.hid hev
        clear hK hrb hox hev
        go_wp2_with fail
        refine (ref3_Get A2 c2 p.B p.P _ (Kd.C_below G3.out HK.out.below) G2.out HPY.out HL.out).mono ?_
        rintro e wd ⟨y, rfl, hoy, hbd⟩
        have hK := HK.out.after hbd
        have hrb := Kd.C_below HRB.out hbd
        have hox := Kd.R_below HOX.out hbd
        have hev := HEV.out.below hbd
        have HN := Lib.hid (get3_count p.B p.P HPY.out)
        clear HK HRB HOX HEV y0 y1 y2 hbd
        generalize get3 p.B p.P = R at *
        obtain ⟨q, kk, er⟩ := R
        dsimp only at *
        obtain ⟨Ax, cx, hvx⟩ := Kd.R_slice hox
        subst hvx
        obtain ⟨_, hcx, hrx⟩ := Kd.R_reads' hox
        obtain ⟨Ay, cy, hvy⟩ := Kd.R_slice hoy
        subst hvy
        obtain ⟨_, hcy, hry⟩ := Kd.R_reads' hoy
        obtain ⟨y0, y1, y2⟩ := hK.facts
        have HK := Lib.hid hK
        have HRB := Lib.hid hrb
        have HOX := Lib.hid hox
        have HRX := Lib.hid hrx
        have HCX := Lib.hid hcx
        have HRY := Lib.hid hry
        have HCY := Lib.hid hcy
        have HEV := Lib.hid hev
        have HQ := Lib.hid (show q.length ≤ 1000000000 by have := HN.out; have := HL.out; omega)
        clear hK hrb hox hrx hcx hry hcy hoy hev HN
        go_wp2_with fail
        refine (num3 _ _ _ (Dv.GErr.below HG.out HK.out.below) HEV.out).mono ?_
        rintro e we ⟨rfl, hbe⟩
        have hK := HK.out.after hbe
        have hrb := Kd.C_below HRB.out hbe
        have hox := Kd.R_below HOX.out hbe
        have hrx := Kd.C_below HRX.out hbe
        have hry := Kd.C_below HRY.out hbe
        clear HK HRB HOX HRX HRY HEV y0 y1 y2 hbe
        obtain ⟨y0, y1, y2⟩ := hK.facts
        have HK := Lib.hid hK
        have HRB := Lib.hid hrb
        have HOX := Lib.hid hox
        have HRX := Lib.hid hrx
        have HRY := Lib.hid hry
        clear hK hrb hox hrx hry
        go_wp2_with fail
        refine (dovecoteref0_EqProps.calls _ Ax cx q Ay cy q true _ HRX.out HCX.out HRY.out HCY.out (EqProps_f _ HQ.out)).mono ?_
        rintro e wf ⟨rfl, hbf⟩
        replace hbf := hbf.below
        have hK := HK.out.after hbf
        have hrb := Kd.C_below HRB.out hbf
        have hox := Kd.R_below HOX.out hbf
        clear HK HRB HOX HRX HRY y0 y1 y2 hbf
        obtain ⟨y0, y1, y2⟩ := hK.facts
        have HK := Lib.hid hK
        have HRB := Lib.hid hrb
        have HOX := Lib.hid hox
        clear hK hrb hox
        go_wp2_with fail
        refine (dovecoteref0_EqBytes.calls _ Ab cb p.B A2 c2 p.B true _ HRB.out HCB.out (Kd.C_below G3.out HK.out.below) G2.out (EqBytes_f _ HL.out)).mono ?_
        rintro e wg ⟨rfl, hbg⟩
        replace hbg := hbg.below
        have hK := HK.out.after hbg
        have hox := Kd.R_below HOX.out hbg
        clear HK HRB HOX y0 y1 y2 hbg
        have HK := Lib.hid hK
        have HOX := Lib.hid hox
        clear hK hox
        go_wp2_with fail
        refine (dovecotelaw0_Props.calls _ (fun _ => True) _ q w _ HK.out.below HOX.out (Props_f q HQ.out)).mono ?_
        rintro e wh ⟨rfl, hbh, _⟩
        have HBh := Lib.hid hbh
        clear hbh
        go_wp2_with fail
        go_roundw
        case rel => exact ⟨k + 1, by omega, by simp, HBh.out⟩
        case measure => simp [intOf]; omega
      · have d2 : decide ((k : Int) < 12) = false := decide_eq_false (by omega)
        go_wp2_with fail
        refine (wakes3 _ (Dv.GErr.below HG.out HB.out) (Dv.GTab.below HT.out HB.out)).mono ?_
        rintro e we ⟨rfl, hbe⟩
        have HBe := Lib.hid (HB.out.then_ hbe)
        clear hbe
        go_wp2
        go_ret
        exact ⟨rfl, HBe.out⟩
    · have d1 : decide (k < l.length) = false := decide_eq_false hlt
      go_wp2_with fail
      refine (wakes3 _ (Dv.GErr.below HG.out HB.out) (Dv.GTab.below HT.out HB.out)).mono ?_
      rintro e we ⟨rfl, hbe⟩
      have HBe := Lib.hid (HB.out.then_ hbe)
      clear hbe
      go_wp2
      go_ret
      exact ⟨rfl, HBe.out⟩
end Go.Proofs.YtondmmoabmhpfaaDoor.Q

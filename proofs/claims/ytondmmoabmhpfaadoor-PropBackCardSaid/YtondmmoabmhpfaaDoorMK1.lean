import Derived.Test.YtondmmoabmhpfaaDoorMB1
import Derived.Test.YtondmmoabmhpfaaDoorMG13
import Derived.Test.YtondmmoabmhpfaaDoorMQ7
import Derived.Outline
import Derived.Deep.DeepMust
import Derived.Deep.RegionHeld3
set_option linter.unusedVariables false
set_option linter.unusedSimpArgs false
namespace Go.Proofs.YtondmmoabmhpfaaDoor.Q
open Go.RowKit Go.Proofs.YtondmmoabmhpfaaDoorW.PrintWords Go.Proofs.YtondmmoabmhpfaaDoorW.PrintLast Go.Proofs.YtondmmoabmhpfaaDoorW.PrintMore
theorem bytes3_le {l : List S24} {pl : Int} (h : chk3 l pl = 0) : (bytes3 l).length ≤ 4480004 := by
  have h1 := body3_small (chk3_ok h).1 (chk3_ok h).2
  have h2 := varPut_len ((body3 l).length : Int)
  unfold bytes3
  rw [List.length_append]
  omega
theorem code_of {α : Type} (m : Int) (x y : α) (n : Int) : (if m ≠ 0 then (x, (0 : Int), m) else (y, n, (0 : Int))).2.2 = m := by
  by_cases h : m = 0
  · subst h; rfl
  · rw [if_pos h]
theorem Qb.drew {w W : World} {g : Nat} {A0 : Option Addr} {n0 c0 : Nat} {P : Int} {A2 : Option Addr} {n2 c2 : Nat} (h : Qb w W g A0 n0 c0 P A2 n2 c2) : Qb w W.drew g A0 n0 c0 P A2 n2 c2 := h.after (Drawn0.below ⟨⟨1, rfl⟩⟩)
theorem bdrew {w W : World} (h : Below w.heap.size w W) : Below w.heap.size w W.drew := h.then_ (Drawn0.below ⟨⟨1, rfl⟩⟩)
set_option maxRecDepth 100000 in
set_option maxHeartbeats 8000000 in
theorem PropBack_walk (A : Option Addr) (c : Nat) (l : List Ask) (w : World) (hr : Kd.C kAsk w A l.length l) (hq : ∀ a ∈ l, (∀ p ∈ a.L, p.f2.size ≤ 140737488351232 ∧ p.f3.size ≤ 140737488351232) ∧ bok a.B) (hG : Dv.GErr w) (hT : Dv.GTab w) :
    Calls Tryd.prog 6 #[.slice A l.length c] w fun e w' => e = .returned (.bool true) ∧ Below w.heap.size w w' := by
  have hm63 := hr.2.1
  have HR := Lib.hid hr
  have HY := Lib.hid hq
  have HT := Lib.hid hT
  have HG := Lib.hid hG
  clear hr hq hT hG
  go_enter Tryd.func6, Tryd.ntmps6
  go_wp2_with fail
  go_loopw [3] (fun i wr => ∃ k : Nat, k ≤ l.length ∧ i = .int .i64 k ∧ Below w.heap.size w wr) (fun i _ => l.length - (intOf i).toNat)
  case atStart => exact ⟨0, Nat.zero_le _, rfl, Below.refl _ _⟩
  case round =>
    obtain ⟨k, hk, rfl, hB⟩ := hrel
    have HB := Lib.hid hB
    clear hB
    by_cases hlt : k < l.length
    · have d1 : decide (k < l.length) = true := decide_eq_true hlt
      by_cases h12 : k < 12
      · have d2 : decide ((k : Int) < 12) = true := decide_eq_true (by omega)
        obtain ⟨ad, A0, c0, A2, c2, ea, x0, x1, x2, g0, g1, g2, g3⟩ := at_Ask HR.out k hlt
        cases ea
        replace x0 := (HB.out.cell (World.block_lt_of_cell? _ _ x0)).trans x0
        replace x1 := (HB.out.cell (World.block_lt_of_cell? _ _ x1)).trans x1
        replace x2 := (HB.out.cell (World.block_lt_of_cell? _ _ x2)).trans x2
        obtain ⟨p, hp⟩ : ∃ p, l.getD k zAsk = p := ⟨_, rfl⟩
        rw [hp] at x0 x1 x2 g0 g1 g2 g3
        have hpy := HY.out p (by rw [← hp]; exact getD_mem hlt)
        clear hp
        have HPZ := Lib.hid hpy.1
        have HPY := Lib.hid hpy.2
        have G0 := Lib.hid g0
        have G1 := Lib.hid g1
        have G2 := Lib.hid g2
        have G3 := Lib.hid g3
        have HLT := Lib.hid hlt
        clear hpy g0 g1 g2 g3 hlt
        go_wp2_with fail
        have hK : Qb w (wr.alloc (.cells #[.slice A0 p.L.length c0, .int .i64 p.P, .slice A2 p.B.length c2] 37)) wr.heap.size A0 p.L.length c0 p.P A2 p.B.length c2 := ⟨below_alloc HB.out _, heap_alloc_new _ _⟩
        obtain ⟨y0, y1, y2⟩ := hK.facts
        have HK := Lib.hid hK
        clear hK x0 x1 x2
        generalize wr.alloc (.cells #[.slice A0 p.L.length c0, .int .i64 p.P, .slice A2 p.B.length c2] 37) = W0 at *
        generalize wr.heap.size = g at *
        obtain ⟨hv, hf, hs⟩ := heavy_f p.L p.P p.B
        have HV := Lib.hid hs
        have HF := Lib.hid hf
        clear hf hs
        refine (dovecotelaw3_heavy.calls 1001 A0 c0 p.L p.P A2 c2 p.B hv _ (Kd.C_below G1.out HK.out.below) G0.out (Kd.C_below G3.out HK.out.below) G2.out HF.out).mono ?_
        rintro e wa ⟨rfl, hba⟩
        have hK := HK.out.after hba
        clear HK y0 y1 y2 hba
        obtain ⟨y0, y1, y2⟩ := hK.facts
        have HK := Lib.hid hK
        clear hK
        cases hv
        rotate_left
        · go_wp2
          go_ret
          exact ⟨rfl, HK.out.below⟩
        have HL := Lib.hid (show p.B.length ≤ 5000 by have := (HV.out rfl).2; omega)
        clear HV HF
        obtain ⟨wt, hwt⟩ := Weight_f p.L
        have HWT := Lib.hid hwt
        clear hwt
        go_wp2_with fail
        refine (dovecotelaw0_PropsWeight.calls 1001 A0 c0 p.L wt _ (Kd.C_below G1.out HK.out.below) G0.out HWT.out).mono ?_
        rintro e wb ⟨rfl, hbb⟩
        replace hbb := hbb.below
        have hK := HK.out.after hbb
        clear HK y0 y1 y2 hbb HWT
        obtain ⟨y0, y1, y2⟩ := hK.facts
        have HK := Lib.hid hK
        clear hK
        by_cases hw : 3000 < wt
        · have d4 : decide ((3000 : Int) < wt) = true := decide_eq_true hw
          go_wp2
          go_ret
          exact ⟨rfl, HK.out.below⟩
        have d4 : decide ((3000 : Int) < wt) = false := decide_eq_false hw
        clear hw
        go_wp2_with fail
        by_cases hck : chk3 p.L p.P = 0
        rotate_left
        · have C := Lib.hid (Put_bad A0 c0 p.L p.P _ (Kd.C_below G1.out HK.out.below) HPZ.out (Dv.GTab.below HT.out HK.out.below) hck)
          generalize chk3 p.L p.P = m at *
          refine C.out.mono ?_
          rintro e wc ⟨v, rfl, hev, hbc⟩
          have hB := HK.out.below.then_ hbc
          have HB2 := Lib.hid hB
          have HE := Lib.hid hev
          have m0 : (m == 0) = false := by simpa using hck
          clear hB hev hbc HK y0 y1 y2 hck
          go_wp2_with fail
          refine (num3 _ m _ (Dv.GErr.below HG.out HB2.out) HE.out).mono ?_
          rintro e wd ⟨rfl, hbd⟩
          have HB3 := Lib.hid (HB2.out.then_ hbd)
          clear hbd
          go_wp2_with fail
          go_roundw
          case rel => exact ⟨k + 1, by have := HLT.out; omega, by simp, HB3.out⟩
          case measure => have := HLT.out; simp [intOf]; omega
        refine (propPut_ok A0 c0 p.L p.P _ (Kd.C_below G1.out HK.out.below) HPZ.out (Dv.GTab.below HT.out HK.out.below) hck).mono ?_
        rintro e wc ⟨v, rfl, hob, hbc⟩
        obtain ⟨Ab, cb, hvb⟩ := Kd.R_slice hob
        subst hvb
        obtain ⟨_, hcb, hrb⟩ := Kd.R_reads' hob
        have hK := HK.out.after hbc
        clear HK y0 y1 y2 hbc hob
        obtain ⟨y0, y1, y2⟩ := hK.facts
        have hb63 := hrb.2.1
        have HK := Lib.hid hK
        have HCB := Lib.hid hcb
        have HRB := Lib.hid hrb
        have HCK := Lib.hid hck
        clear hK hcb hrb hck
        have HBS := Lib.hid (bytes3_le HCK.out)
        have HBO := Lib.hid (bok_bytes3 HCK.out)
        have HG1 := Lib.hid (show get3 (bytes3 p.L ++ p.B) p.P = (p.L, ((bytes3 p.L).length : Int), 0) by
          rw [get3_put p.L p.P p.P p.B HCK.out, HCK.out]; rfl)
        have HG2 := Lib.hid (fun q k hk => get3_cut p.L p.P q k HCK.out hk)
        have HG3 := Lib.hid (fun q => (by have := get3_put p.L p.P q [] HCK.out; rw [List.append_nil] at this; exact this : get3 (bytes3 p.L) q = if chk3 p.L q ≠ 0 then ([], 0, chk3 p.L q) else (p.L, ((bytes3 p.L).length : Int), 0)))
        generalize bytes3 p.L = bs at *
        obtain ⟨q, hq⟩ : ∃ q, q = bs ++ p.B := ⟨_, rfl⟩
        have HGQ := Lib.hid (show get3 q p.P = (p.L, ((bs.length : Nat) : Int), 0) by rw [hq]; exact HG1.out)
        have HQB := Lib.hid (show bok q by rw [hq]; exact bok_append HBO.out HPY.out)
        have HQL := Lib.hid (show q.length ≤ 1000000000 by rw [hq, List.length_append]; have := HBS.out; have := HL.out; omega)
        have HQ := Lib.hid hq
        clear hq HG1
        go_wp2_with fail
        refine (num3 .nilIface 0 _ (Dv.GErr.below HG.out HK.out.below) (.inl ⟨rfl, rfl⟩)).mono ?_
        rintro e wd ⟨rfl, hbd⟩
        have hK := HK.out.after hbd
        have hrb := Kd.C_below HRB.out hbd
        clear HK HRB y0 y1 y2 hbd
        obtain ⟨y0, y1, y2⟩ := hK.facts
        have HK := Lib.hid hK
        have HRB := Lib.hid hrb
        clear hK hrb
        go_wp2_with fail
        have hKd := HK.out.drew
        obtain ⟨t0, t1, t2⟩ := hKd.facts
        have HKD := Lib.hid hKd
        have HRD := Lib.hid (Kd.C_below HRB.out (Drawn0.below ⟨⟨1, rfl⟩⟩ : Below wd.heap.size wd wd.drew))
        clear hKd
        go_region_held3 (fun w' => w'.cell? ⟨g, 1, none⟩ = some (.int .i64 p.P) ∧ w'.cell? ⟨g, 2, none⟩ = some (.slice A2 p.B.length c2)) (first | exact ⟨t1, t2⟩ | exact ⟨z1, z2⟩ | exact ⟨s1, s2⟩ | exact ⟨r1, r2⟩) (first
          | (go_at_call 14; refine (dovecoteref0_CopyBytes.calls _ Ab cb bs bs wd.drew HRD.out HCB.out (CopyBytes_f bs (by have := HBS.out; omega))).mono ?_; rintro e we ⟨ve, rfl, hoe, hbe⟩; have hKe := HKD.out.after hbe; obtain ⟨z0, z1, z2⟩ := hKe.facts; obtain ⟨Ae, ce, hve⟩ := Kd.R_slice hoe; subst hve; have HKE := Lib.hid hKe; have HOE := Lib.hid hoe; have HBE := Lib.hid hbe; clear hKe hoe hbe)
          | (refine Kd.R_append_rows_step (Kd.int .u8) (Rr := (Kd.int .u8).K we) (w0 := wd.drew) wd.drew.heap.size (by rfl) (.tmp 53) (.tmp 55) 35 5 (.int .u8 0) 1 rfl Tryd.underlying35 qinfo5 rfl (by decide) (by omega) (.slice Ae bs.length ce) bs p.B A2 p.B.length c2 (fun _ => True) (fun _ => False) (by rfl) (by rfl) HOE.out (Kd.C_below G3.out HKE.out.below) (fun _ _ h => h) (fun _ hk => hk.elim) (fun _ _ => trivial) HBE.out HBE.out.size (by have := HBS.out; have := HL.out; omega) ?_; intro vf wf hof hbf hgf hatf; rw [← HQ.out] at hof; have hKf := HKD.out.after hbf; obtain ⟨s0, s1, s2⟩ := hKf.facts; obtain ⟨Af, cf, hvf⟩ := Kd.R_slice hof; subst hvf; have HKF := Lib.hid hKf; have HOF := Lib.hid (Kd.R_reads' hof).2; have HBF := Lib.hid hbf; clear hKf hof hbf hgf hatf)
          | (go_at_call 15; refine (propGet Af cf q p.P _ HOF.out.2 HOF.out.1 HQB.out (Dv.GTab.below HT.out HKF.out.below) HQL.out).mono ?_; rw [HGQ.out]; dsimp only; rintro e wg ⟨vg, eg, rfl, hog, heg, hbg⟩; obtain rfl := Err_nil heg; obtain ⟨Ag, cg, hvg⟩ := Kd.R_slice hog; subst hvg; have hKg := HKF.out.after hbg; obtain ⟨r0, r1, r2⟩ := hKg.facts; have HKG := Lib.hid hKg; have HOG := Lib.hid (Kd.R_reads' hog).2; have HRG := Lib.hid (Kd.C_below HRD.out (HBF.out.then_ hbg)); clear hKg hog heg hbg))
        -- TAIL
        clear HK HRB HRD HKD HKE HOE HBE HKF HOF HBF HQ HQB HQL HGQ y0 y1 y2 t0 t1 t2 z0 z1 z2 s0 s1 s2
        have HLL := Lib.hid (show p.L.length ≤ 1000000000 by have := (chk3_ok HCK.out).1; omega)
        go_wp2_with fail
        refine (num3 .nilIface 0 _ (Dv.GErr.below HG.out HKG.out.below) (.inl ⟨rfl, rfl⟩)).mono ?_
        rintro e wh ⟨rfl, hbh⟩
        have hK := HKG.out.after hbh
        have hrb := Kd.C_below HRG.out hbh
        have hrg := Kd.C_below HOG.out.2 hbh
        clear HKG HRG r0 r1 r2 hbh
        obtain ⟨y0, y1, y2⟩ := hK.facts
        have HK := Lib.hid hK
        have HRB := Lib.hid hrb
        have HRG := Lib.hid hrg
        clear hK hrb hrg
        go_wp2_with fail
        refine (dovecoteref0_EqProps.calls _ Ag cg p.L A0 c0 p.L true _ HRG.out HOG.out.1 (Kd.C_below G1.out HK.out.below) G0.out (EqProps_f _ HLL.out)).mono ?_
        rintro e wi ⟨rfl, hbi⟩
        replace hbi := hbi.below
        have hK := HK.out.after hbi
        have hrb := Kd.C_below HRB.out hbi
        clear HK HRB HRG HOG y0 y1 y2 hbi
        have HK := Lib.hid hK
        have HRB := Lib.hid hrb
        clear hK hrb
        go_wp2_with fail
        go_loopw [10] (fun i wr => ∃ k2 : Nat, k2 ≤ 10000000 ∧ i = .int .i64 k2 ∧ Below wi.heap.size wi wr) (fun i _ => bs.length - (intOf i).toNat)
        case atStart => exact ⟨0, by decide, rfl, Below.refl _ _⟩
        case round =>
          obtain ⟨k2, hk2, rfl, hB2⟩ := hrel
          have HB2 := Lib.hid hB2
          have hK := HK.out.after hB2
          clear hB2
          obtain ⟨y0, y1, y2⟩ := hK.facts
          have HKJ := Lib.hid hK
          have HRJ := Lib.hid (Kd.C_below HRB.out HB2.out)
          clear hK
          have hbsz : (bs.length : Int) ≤ 4480004 := by have := HBS.out; omega
          by_cases hkb : k2 < bs.length
          · have d5 : decide (k2 < bs.length) = true := decide_eq_true hkb
            obtain ⟨i0, hi, _, hsz, _⟩ := info_parts qinfo5
            obtain ⟨hcut, hrt, hct⟩ := print_take_of (P := Tryd.prog) (Value.int .u8) 0 35 5 .i64 Tryd.underlying35 hi hsz Ab cb bs (k2 : Int) (by omega) (by omega) HCB.out
            simp only [Int.toNat_natCast] at hcut hrt hct
            have hrp := Kd.C_of_reads (h1 := fun _ => rfl) (hrt wr (Kd.reads_of_C HRJ.out))
            have HG2k := Lib.hid (HG2.out p.P k2 hkb)
            have HPL := Lib.hid (show (bs.take k2).length ≤ 1000000000 by rw [List.length_take]; have := HBS.out; omega)
            have HPB := Lib.hid (bok_take HBO.out k2)
            have HCT := Lib.hid hct
            have HRP := Lib.hid (Kd.C_below hrp (Drawn0.below ⟨⟨1, rfl⟩⟩ : Below wr.heap.size wr wr.drew))
            have hKd := HKJ.out.drew
            obtain ⟨t0, t1, t2⟩ := hKd.facts
            have HKD := Lib.hid hKd
            have HKB := Lib.hid hkb
            clear hKd hrt hrp hct hi hsz hkb
            generalize bs.take k2 = pre at *
            go_wp2_with fail
            go_region_held3 (fun w' => w'.cell? ⟨g, 1, none⟩ = some (.int .i64 p.P)) (first | exact t1 | exact r1) (first
              | (go_at_call 15; refine (propGet Ab cb pre p.P _ HRP.out HCT.out HPB.out (Dv.GTab.below HT.out HKD.out.below) HPL.out).mono ?_; rw [HG2k.out]; dsimp only; rintro e wg ⟨vg, eg, rfl, hog, heg, hbg⟩; have hKg := HKD.out.after hbg; obtain ⟨r0, r1, r2⟩ := hKg.facts; have HKG := Lib.hid hKg; have HBG := Lib.hid (HB2.out.then_ ((Drawn0.below ⟨⟨1, rfl⟩⟩ : Below wr.heap.size wr wr.drew).then_ hbg)); have HEG := Lib.hid heg; clear hKg hog heg hbg))
            go_wp2_with fail
            refine (num3 _ 3 _ (Dv.GErr.below HG.out HKG.out.below) HEG.out).mono ?_
            rintro e wh2 ⟨rfl, hbh2⟩
            have HBH2 := Lib.hid (HBG.out.then_ hbh2)
            clear hbh2
            go_wp2_with fail
            go_roundw
            case rel => exact ⟨k2 + 1 + bs.length / 10, by have := HBS.out; have := HKB.out; omega, by go_num, HBH2.out⟩
            case measure => have := HKB.out; simp [intOf]; omega
          · have d5 : decide (k2 < bs.length) = false := decide_eq_false hkb
            clear hkb
            go_wp2_with fail
            go_loopw [14] (fun i wr => ∃ q : Nat, q ≤ 18 ∧ i = .int .i64 q ∧ Below wi.heap.size wi wr) (fun i _ => 18 - (intOf i).toNat)
            case atStart => exact ⟨0, by decide, rfl, HB2.out⟩
            case round =>
              obtain ⟨q, hq, rfl, hB3⟩ := hrel
              clear HKJ HRJ HB2 y0 y1 y2
              have HB3 := Lib.hid hB3
              have hK := HK.out.after hB3
              clear hB3
              obtain ⟨y0, y1, y2⟩ := hK.facts
              have HKJ := Lib.hid hK
              have HRJ := Lib.hid (Kd.C_below HRB.out HB3.out)
              clear hK
              by_cases hq18 : q < 18
              · have d6 : decide ((q : Int) ≤ 17) = true := decide_eq_true (by omega)
                have HGq := Lib.hid (HG3.out (q : Int))
                obtain ⟨m, hm⟩ : ∃ m, chk3 p.L (q : Int) = m := ⟨_, rfl⟩
                have HM := Lib.hid hm
                rw [hm] at HGq
                have HR3 := Lib.hid (show (get3 bs (q : Int)).2.2 = m by rw [HGq.out]; exact code_of m _ _ _)
                clear hm HGq
                go_wp2_with fail
                refine (propGet Ab cb bs (q : Int) _ HRJ.out HCB.out HBO.out (Dv.GTab.below HT.out HKJ.out.below) (by have := HBS.out; omega)).mono ?_
                rw [HR3.out]
                generalize (get3 bs (q : Int)).2.1 = n2
                rintro e wk ⟨xk, vk, rfl, hok, hek, hbk0⟩
                have hK := HKJ.out.after hbk0
                have HB4 := Lib.hid (HB3.out.then_ hbk0)
                have HEK := Lib.hid (hek.below (Drawn0.below ⟨⟨1, rfl⟩⟩ : Below wk.heap.size wk wk.drew))
                have hKd := hK.drew
                obtain ⟨t0, t1, t2⟩ := hKd.facts
                have HKD := Lib.hid hKd
                clear hK hKd hok hek hbk0 HKJ HRJ y0 y1 y2 HR3
                obtain ⟨W0, hW0⟩ : ∃ W0, W0 = wk.drew := ⟨_, rfl⟩
                have HB5 := Lib.hid (show Below wi.heap.size wi W0 by rw [hW0]; exact bdrew HB4.out)
                rw [← hW0] at t0 HKD HEK
                have HG0 := Lib.hid (Dv.GErr.below HG.out HKD.out.below)
                have HT0 := Lib.hid (Dv.GTab.below HT.out HKD.out.below)
                have HL0 := Lib.hid (Kd.C_below G1.out HKD.out.below)
                go_wp2_with fail
                have t0' : wk.drew.cell? ⟨g, 0, none⟩ = some (.slice A0 p.L.length c0) := by rw [← hW0]; exact t0
                subst hW0
                by_cases hm0 : m = 0
                · subst hm0
                  go_region_held3 (fun w' => w'.cell? ⟨g, 0, none⟩ = some (.slice A0 p.L.length c0)) (first | exact t0' | exact ((by first | exact Below.refl _ _ | exact hbv | exact hbk | exact hbv.then_ hbk | exact hbk.then_ hbv | exact hbk.then_ hbe | exact (hbv.then_ hbk).then_ hbe | exact (hbk.then_ hbv).then_ hbe | exact (hbk.then_ hbe).then_ hbv : Below wk.drew.heap.size wk.drew _).cell (World.block_lt_of_cell? _ _ t0')).trans t0') (first
                    | (go_at_call 8; refine (num3 vk 0 _ (Dv.GErr.below HG0.out (by first | exact Below.refl _ _ | exact hbv | exact hbk | exact hbv.then_ hbk | exact hbk.then_ hbv | exact hbk.then_ hbe | exact (hbv.then_ hbk).then_ hbe | exact (hbk.then_ hbv).then_ hbe | exact (hbk.then_ hbe).then_ hbv : Below wk.drew.heap.size wk.drew _)) (HEK.out.below (by first | exact Below.refl _ _ | exact hbv | exact hbk | exact hbv.then_ hbk | exact hbk.then_ hbv | exact hbk.then_ hbe | exact (hbv.then_ hbk).then_ hbe | exact (hbk.then_ hbv).then_ hbe | exact (hbk.then_ hbe).then_ hbv : Below wk.drew.heap.size wk.drew _))).mono ?_; rintro e wv ⟨rfl, hbv⟩)
                    | (go_at_call 8; refine (num3 ek 0 _ (Dv.GErr.below HG0.out (by first | exact Below.refl _ _ | exact hbv | exact hbk | exact hbv.then_ hbk | exact hbk.then_ hbv | exact hbk.then_ hbe | exact (hbv.then_ hbk).then_ hbe | exact (hbk.then_ hbv).then_ hbe | exact (hbk.then_ hbe).then_ hbv : Below wk.drew.heap.size wk.drew _)) (by first | exact hek2 | exact hek2.below hbv)).mono ?_; rintro e we2 ⟨rfl, hbe⟩)
                    | (go_at_call 9; refine (prop_Check A0 c0 p.L (q : Int) _ (Kd.C_below HL0.out (by first | exact Below.refl _ _ | exact hbv | exact hbk | exact hbv.then_ hbk | exact hbk.then_ hbv | exact hbk.then_ hbe | exact (hbv.then_ hbk).then_ hbe | exact (hbk.then_ hbv).then_ hbe | exact (hbk.then_ hbe).then_ hbv : Below wk.drew.heap.size wk.drew _)) HPZ.out (Dv.GTab.below HT0.out (by first | exact Below.refl _ _ | exact hbv | exact hbk | exact hbv.then_ hbk | exact hbk.then_ hbv | exact hbk.then_ hbe | exact (hbv.then_ hbk).then_ hbe | exact (hbk.then_ hbv).then_ hbe | exact (hbk.then_ hbe).then_ hbv : Below wk.drew.heap.size wk.drew _))).mono ?_; rw [HM.out]; rintro e wc2 ⟨ek, rfl, hek2, hbk⟩))
                  all_goals
                    go_wp2_with fail
                    go_roundw
                    case rel => exact ⟨q + 1, by omega, by go_num, HB5.out.then_ (by first | exact Below.refl _ _ | exact hbv | exact hbk | exact hbv.then_ hbk | exact hbk.then_ hbv | exact hbk.then_ hbe | exact (hbv.then_ hbk).then_ hbe | exact (hbk.then_ hbv).then_ hbe | exact (hbk.then_ hbe).then_ hbv : Below wk.drew.heap.size wk.drew _)⟩
                    case measure => simp [intOf]; omega
                · have m0 : (m == 0) = false := by simpa using hm0
                  clear hm0
                  go_region_held3 (fun w' => w'.cell? ⟨g, 0, none⟩ = some (.slice A0 p.L.length c0)) (first | exact t0' | exact ((by first | exact Below.refl _ _ | exact hbv | exact hbk | exact hbv.then_ hbk | exact hbk.then_ hbv | exact hbk.then_ hbe | exact (hbv.then_ hbk).then_ hbe | exact (hbk.then_ hbv).then_ hbe | exact (hbk.then_ hbe).then_ hbv : Below wk.drew.heap.size wk.drew _).cell (World.block_lt_of_cell? _ _ t0')).trans t0') (first
                    | (go_at_call 8; refine (num3 vk m _ (Dv.GErr.below HG0.out (by first | exact Below.refl _ _ | exact hbv | exact hbk | exact hbv.then_ hbk | exact hbk.then_ hbv | exact hbk.then_ hbe | exact (hbv.then_ hbk).then_ hbe | exact (hbk.then_ hbv).then_ hbe | exact (hbk.then_ hbe).then_ hbv : Below wk.drew.heap.size wk.drew _)) (HEK.out.below (by first | exact Below.refl _ _ | exact hbv | exact hbk | exact hbv.then_ hbk | exact hbk.then_ hbv | exact hbk.then_ hbe | exact (hbv.then_ hbk).then_ hbe | exact (hbk.then_ hbv).then_ hbe | exact (hbk.then_ hbe).then_ hbv : Below wk.drew.heap.size wk.drew _))).mono ?_; rintro e wv ⟨rfl, hbv⟩)
                    | (go_at_call 8; refine (num3 ek m _ (Dv.GErr.below HG0.out (by first | exact Below.refl _ _ | exact hbv | exact hbk | exact hbv.then_ hbk | exact hbk.then_ hbv | exact hbk.then_ hbe | exact (hbv.then_ hbk).then_ hbe | exact (hbk.then_ hbv).then_ hbe | exact (hbk.then_ hbe).then_ hbv : Below wk.drew.heap.size wk.drew _)) (by first | exact hek2 | exact hek2.below hbv)).mono ?_; rintro e we2 ⟨rfl, hbe⟩)
                    | (go_at_call 9; refine (prop_Check A0 c0 p.L (q : Int) _ (Kd.C_below HL0.out (by first | exact Below.refl _ _ | exact hbv | exact hbk | exact hbv.then_ hbk | exact hbk.then_ hbv | exact hbk.then_ hbe | exact (hbv.then_ hbk).then_ hbe | exact (hbk.then_ hbv).then_ hbe | exact (hbk.then_ hbe).then_ hbv : Below wk.drew.heap.size wk.drew _)) HPZ.out (Dv.GTab.below HT0.out (by first | exact Below.refl _ _ | exact hbv | exact hbk | exact hbv.then_ hbk | exact hbk.then_ hbv | exact hbk.then_ hbe | exact (hbv.then_ hbk).then_ hbe | exact (hbk.then_ hbv).then_ hbe | exact (hbk.then_ hbe).then_ hbv : Below wk.drew.heap.size wk.drew _))).mono ?_; rw [HM.out]; rintro e wc2 ⟨ek, rfl, hek2, hbk⟩))
                  all_goals
                    go_wp2_with fail
                    go_roundw
                    case rel => exact ⟨q + 1, by omega, by go_num, HB5.out.then_ (by first | exact Below.refl _ _ | exact hbv | exact hbk | exact hbv.then_ hbk | exact hbk.then_ hbv | exact hbk.then_ hbe | exact (hbv.then_ hbk).then_ hbe | exact (hbk.then_ hbv).then_ hbe | exact (hbk.then_ hbe).then_ hbv : Below wk.drew.heap.size wk.drew _)⟩
                    case measure => simp [intOf]; omega
              · have d6 : decide ((q : Int) ≤ 17) = false := decide_eq_false (by omega)
                go_wp2_with fail
                go_roundw
                case rel => exact ⟨k + 1, by have := HLT.out; omega, by simp, HK.out.below.then_ HB3.out⟩
                case measure => have := HLT.out; simp [intOf]; omega
      · have d2 : decide ((k : Int) < 12) = false := decide_eq_false (by omega)
        go_wp2_with fail
        refine (wakes3 _ (Dv.GErr.below HG.out HB.out) (Dv.GTab.below HT.out HB.out)).mono ?_
        rintro e we ⟨rfl, hbe⟩
        have HBe := Lib.hid (HB.out.then_ hbe)
        clear hbe
        go_wp2
        go_ret
        exact ⟨rfl, HBe.out⟩
    · have d1 : decide (k < l.length) = false := decide_eq_false hlt
      go_wp2_with fail
      refine (wakes3 _ (Dv.GErr.below HG.out HB.out) (Dv.GTab.below HT.out HB.out)).mono ?_
      rintro e we ⟨rfl, hbe⟩
      have HBe := Lib.hid (HB.out.then_ hbe)
      clear hbe
      go_wp2
      go_ret
      exact ⟨rfl, HBe.out⟩
end Go.Proofs.YtondmmoabmhpfaaDoor.Q

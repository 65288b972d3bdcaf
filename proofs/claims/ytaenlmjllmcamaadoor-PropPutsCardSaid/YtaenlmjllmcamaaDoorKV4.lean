import Derived.Test.YtaenlmjllmcamaaDoorKV3
import Derived.Deep.DeepMust
import Derived.Outline
set_option linter.unusedVariables false
set_option linter.unusedSimpArgs false
namespace Go.Proofs.YtaenlmjllmcamaaDoor.Q
open Go.RowKit Go.Proofs.YtaenlmjllmcamaaDoorW.PrintWords Go.Proofs.YtaenlmjllmcamaaDoorW.PrintLast Go.Proofs.YtaenlmjllmcamaaDoorW.PrintMore
structure Ask where
  L : List S43
  P : Int
  B : List Int
def kAsk : Kd Ask := Kd.iso (Kd.pair (Kd.slice 43 k43) (Kd.pair (Kd.int .i64) (Kd.slice 5 (Kd.int .u8)))) (fun x : Ask => (x.L, x.P, x.B))
def zAsk : Ask := ⟨[], 0, []⟩
theorem kAsk_open {w : World} {x : Ask} {cs : List Value} (h : kAsk.K w x cs) : ∃ A0 c0 A2 c2, cs = [.slice A0 x.L.length c0, .int .i64 x.P, .slice A2 x.B.length c2] ∧ x.L.length ≤ c0 ∧ Kd.C k43 w A0 x.L.length x.L ∧ x.B.length ≤ c2 ∧ Kd.C (Kd.int .u8) w A2 x.B.length x.B := by
  obtain ⟨_, _, rfl, ⟨A0, c0, rfl, h0, h1⟩, ⟨_, _, rfl, rfl, ⟨A2, c2, rfl, h2, h3⟩⟩⟩ := h
  exact ⟨A0, c0, A2, c2, rfl, h0, h1, h2, h3⟩
theorem kAsk_mk {w : World} (x : Ask) {A0 A2 : Option Addr} {c0 c2 : Nat} (h0 : x.L.length ≤ c0) (h1 : Kd.C k43 w A0 x.L.length x.L) (h2 : x.B.length ≤ c2) (h3 : Kd.C (Kd.int .u8) w A2 x.B.length x.B) : kAsk.K w x [.slice A0 x.L.length c0, .int .i64 x.P, .slice A2 x.B.length c2] :=
  ⟨[_], [_, _], rfl, ⟨A0, c0, rfl, h0, h1⟩, ⟨[_], [_], rfl, rfl, ⟨A2, c2, rfl, h2, h3⟩⟩⟩
theorem at_Ask {w : World} {A : Option Addr} {n : Nat} {xs : List Ask} (h : Kd.C kAsk w A n xs) (k : Nat) (h1 : k < n) : ∃ ad A0 c0 A2 c2, A = some ad ∧ w.cell? (ad.add (k * 3)) = some (.slice A0 (xs.getD k zAsk).L.length c0) ∧ w.cell? ⟨(ad.add (k * 3)).block, (ad.add (k * 3)).off + 1, none⟩ = some (.int .i64 (xs.getD k zAsk).P) ∧ w.cell? ⟨(ad.add (k * 3)).block, (ad.add (k * 3)).off + 2, none⟩ = some (.slice A2 (xs.getD k zAsk).B.length c2) ∧
    (xs.getD k zAsk).L.length ≤ c0 ∧ Kd.C k43 w A0 (xs.getD k zAsk).L.length (xs.getD k zAsk).L ∧ (xs.getD k zAsk).B.length ≤ c2 ∧ Kd.C (Kd.int .u8) w A2 (xs.getD k zAsk).B.length (xs.getD k zAsk).B := by
  obtain ⟨ad, c, e, _, hK, hc0⟩ := Kd.C_get h zAsk (k : Int) (by omega) (by omega)
  rw [Int.toNat_natCast] at hK hc0
  have hc : ∀ j u, c[j]? = some u → w.cell? (ad.add (k * 3 + j)) = some u := hc0
  obtain ⟨A0, c0, A2, c2, rfl, a, b, c', d⟩ := kAsk_open hK
  exact ⟨ad, A0, c0, A2, c2, e, hc 0 _ rfl, by rw [← add_field _ _ 1 (by omega)]; exact hc 1 _ rfl, by rw [← add_field _ _ 2 (by omega)]; exact hc 2 _ rfl, a, b, c', d⟩
theorem bytes3_small {l : List S43} {pl : Int} (h : chk3 l pl = 0) : (bytes3 l).length ≤ 1000000000 := by
  have h1 := body3_small (chk3_ok h).1 (chk3_ok h).2
  have h2 := varPut_len ((body3 l).length : Int)
  unfold bytes3
  rw [List.length_append]
  omega
set_option maxRecDepth 100000 in
set_option maxHeartbeats 8000000 in
theorem PropPuts_walk (A : Option Addr) (c : Nat) (l : List Ask) (w : World) (hr : Kd.C kAsk w A l.length l) (hsz : ∀ a ∈ l, ∀ p ∈ a.L, p.f2.size ≤ 140737488351232 ∧ p.f3.size ≤ 140737488351232) (hG : Dv.GErr w) (hT : Dv.GTab w) :
    Calls Tryd.prog 3 #[.slice A l.length c] w fun e w' => e = .returned (.bool true) ∧ Below w.heap.size w w' := by
  have hm63 := hr.2.1
  have HR := Lib.hid hr
  have HZ := Lib.hid hsz
  have HT := Lib.hid hT
  have HG := Lib.hid hG
  clear hr hsz hT hG
  go_enter Tryd.func3, Tryd.ntmps3
  go_wp2_with fail
  go_loopw [3] (fun i wr => ∃ k : Nat, k ≤ l.length ∧ i = .int .i64 k ∧ Below w.heap.size w wr) (fun i _ => l.length - (intOf i).toNat)
  case atStart => exact ⟨0, Nat.zero_le _, rfl, Below.refl _ _⟩
  case round =>
    obtain ⟨k, hk, rfl, hB⟩ := hrel
    have HB := Lib.hid hB
    clear hB
    by_cases hlt : k < l.length
    · have d1 : decide (k < l.length) = true := decide_eq_true hlt
      by_cases h12 : k < 12
      · have d2 : decide ((k : Int) < 12) = true := decide_eq_true (by omega)
        obtain ⟨ad, A0, c0, A2, c2, ea, x0, x1, x2, g0, g1, g2, g3⟩ := at_Ask HR.out k hlt
        cases ea
        replace x0 := (HB.out.cell (World.block_lt_of_cell? _ _ x0)).trans x0
        replace x1 := (HB.out.cell (World.block_lt_of_cell? _ _ x1)).trans x1
        replace x2 := (HB.out.cell (World.block_lt_of_cell? _ _ x2)).trans x2
        obtain ⟨p, hp⟩ : ∃ p, l.getD k zAsk = p := ⟨_, rfl⟩
        rw [hp] at x0 x1 x2 g0 g1 g2 g3
        have hpz := HZ.out p (by rw [← hp]; exact getD_mem hlt)
        clear hp
        have HPZ := Lib.hid hpz
        have G0 := Lib.hid g0
        have G1 := Lib.hid g1
        have G2 := Lib.hid g2
        have G3 := Lib.hid g3
        clear hpz g0 g1 g2 g3
        go_wp2_with fail
        -- GEN
        have BKx := Aside0.mk (heap_alloc_new wr (.cells #[.slice A0 p.L.length c0, .int .i64 p.P, .slice A2 p.B.length c2] 26))
        have HBx := Lib.hid (below_alloc HB.out (.cells #[.slice A0 p.L.length c0, .int .i64 p.P, .slice A2 p.B.length c2] 26))
        have x0_x : (wr.alloc (.cells #[.slice A0 p.L.length c0, .int .i64 p.P, .slice A2 p.B.length c2] 26)).cell? ⟨wr.heap.size, 0, none⟩ = some (.slice A0 p.L.length c0) := (cell_of_row _ _ 0 _ _ _ BKx.out).trans rfl
        have x1_x : (wr.alloc (.cells #[.slice A0 p.L.length c0, .int .i64 p.P, .slice A2 p.B.length c2] 26)).cell? ⟨wr.heap.size, 1, none⟩ = some (.int .i64 p.P) := (cell_of_row _ _ 1 _ _ _ BKx.out).trans rfl
        have x2_x : (wr.alloc (.cells #[.slice A0 p.L.length c0, .int .i64 p.P, .slice A2 p.B.length c2] 26)).cell? ⟨wr.heap.size, 2, none⟩ = some (.slice A2 p.B.length c2) := (cell_of_row _ _ 2 _ _ _ BKx.out).trans rfl
        obtain ⟨hv, hf, hs⟩ := heavy_f p.L p.P p.B
        have HV := Lib.hid hs
        have HF := Lib.hid hf
        clear hf hs
        refine (dovecotelaw3_heavy.calls 1001 A0 c0 p.L p.P A2 c2 p.B hv _ (Kd.C_below G1.out HBx.out) G0.out (Kd.C_below G3.out HBx.out) G2.out HF.out).mono ?_
        rintro e wa ⟨rfl, hba⟩
        have BKa := Aside0.mk ((hba.block wr.heap.size (Array.getElem?_eq_some_iff.1 BKx.out).1).trans BKx.out)
        have HBa := Lib.hid (HBx.out.then_ hba)
        clear x0_x x1_x x2_x
        have x0_a : wa.cell? ⟨wr.heap.size, 0, none⟩ = some (.slice A0 p.L.length c0) := (cell_of_row _ _ 0 _ _ _ BKa.out).trans rfl
        have x1_a : wa.cell? ⟨wr.heap.size, 1, none⟩ = some (.int .i64 p.P) := (cell_of_row _ _ 1 _ _ _ BKa.out).trans rfl
        have x2_a : wa.cell? ⟨wr.heap.size, 2, none⟩ = some (.slice A2 p.B.length c2) := (cell_of_row _ _ 2 _ _ _ BKa.out).trans rfl
        clear hba
        cases hv
        rotate_left
        · go_wp2
          go_ret
          exact ⟨rfl, HBa.out⟩
        have HL := Lib.hid (show p.L.length ≤ 1000000000 by have := (HV.out rfl).1; omega)
        by_cases h2 : 2 < k
        · have d3 : decide ((2 : Int) < (k : Int)) = true := decide_eq_true (by omega)
          go_wp2_with fail
          obtain ⟨wt, hwt⟩ := Weight_f p.L
          have HWT := Lib.hid hwt
          clear hwt
          refine (dovecotelaw0_PropsWeight.calls 1001 A0 c0 p.L wt _ (Kd.C_below G1.out HBa.out) G0.out HWT.out).mono ?_
          rintro e wb ⟨rfl, hbb⟩
          replace hbb := hbb.below
          have BKb := Aside0.mk ((hbb.block wr.heap.size (Array.getElem?_eq_some_iff.1 BKa.out).1).trans BKa.out)
          have HBb := Lib.hid (HBa.out.then_ hbb)
          clear x0_a x1_a x2_a
          have x0_b : wb.cell? ⟨wr.heap.size, 0, none⟩ = some (.slice A0 p.L.length c0) := (cell_of_row _ _ 0 _ _ _ BKb.out).trans rfl
          have x1_b : wb.cell? ⟨wr.heap.size, 1, none⟩ = some (.int .i64 p.P) := (cell_of_row _ _ 1 _ _ _ BKb.out).trans rfl
          have x2_b : wb.cell? ⟨wr.heap.size, 2, none⟩ = some (.slice A2 p.B.length c2) := (cell_of_row _ _ 2 _ _ _ BKb.out).trans rfl
          clear hbb
          by_cases hw : 5000 < wt
          · have d4 : decide ((5000 : Int) < wt) = true := decide_eq_true hw
            go_wp2
            go_ret
            exact ⟨rfl, HBb.out⟩
          · have d4 : decide ((5000 : Int) < wt) = false := decide_eq_false hw
            go_wp2_with fail
            refine (dovecoteref3_Check.calls _ A0 c0 p.L p.P _ _ (Kd.C_below G1.out HBb.out) G0.out (Check3_f p.L p.P HL.out HPZ.out)).mono ?_
            rintro e wd ⟨rfl, hbd⟩
            have BKd := Aside0.mk ((hbd.block wr.heap.size (Array.getElem?_eq_some_iff.1 BKb.out).1).trans BKb.out)
            have HBd := Lib.hid (HBb.out.then_ hbd)
            clear x0_b x1_b x2_b
            have x0_d : wd.cell? ⟨wr.heap.size, 0, none⟩ = some (.slice A0 p.L.length c0) := (cell_of_row _ _ 0 _ _ _ BKd.out).trans rfl
            have x1_d : wd.cell? ⟨wr.heap.size, 1, none⟩ = some (.int .i64 p.P) := (cell_of_row _ _ 1 _ _ _ BKd.out).trans rfl
            have x2_d : wd.cell? ⟨wr.heap.size, 2, none⟩ = some (.slice A2 p.B.length c2) := (cell_of_row _ _ 2 _ _ _ BKd.out).trans rfl
            clear hbd
            obtain ⟨r, hrr⟩ : ∃ r, chk3 p.L p.P = r := ⟨_, rfl⟩
            rw [hrr]
            have HR0 := Lib.hid hrr
            clear hrr
            by_cases hr0 : r = 0
            · subst hr0
              go_wp2_with fail
              refine (dovecoteref3_Bytes.calls _ A0 c0 p.L _ _ (Kd.C_below G1.out HBd.out) G0.out (Bytes3_f p.L p.P HR0.out)).mono ?_
              rintro e we ⟨vw, rfl, how, hbe⟩
              have BKe := Aside0.mk ((hbe.block wr.heap.size (Array.getElem?_eq_some_iff.1 BKd.out).1).trans BKd.out)
              have HBe := Lib.hid (HBd.out.then_ hbe)
              clear x0_d x1_d x2_d
              have x0_e : we.cell? ⟨wr.heap.size, 0, none⟩ = some (.slice A0 p.L.length c0) := (cell_of_row _ _ 0 _ _ _ BKe.out).trans rfl
              have x1_e : we.cell? ⟨wr.heap.size, 1, none⟩ = some (.int .i64 p.P) := (cell_of_row _ _ 1 _ _ _ BKe.out).trans rfl
              have x2_e : we.cell? ⟨wr.heap.size, 2, none⟩ = some (.slice A2 p.B.length c2) := (cell_of_row _ _ 2 _ _ _ BKe.out).trans rfl
              obtain ⟨Aw, cw, hvw⟩ := Kd.R_slice how
              subst hvw
              have hcw := (Kd.R_reads' how).2.1
              have HCW := Lib.hid hcw
              have WTe := Lib.hid (Kd.R_reads' how).2.2
              clear how hcw hbe
              go_wp2_with fail
              refine (dovecoteref0_CopyProps.calls _ A0 c0 p.L _ _ (Kd.C_below G1.out HBe.out) G0.out (CopyProps_f p.L HL.out)).mono ?_
              rintro e wf ⟨vx, rfl, hox, hbf⟩
              have BKf := Aside0.mk ((hbf.block wr.heap.size (Array.getElem?_eq_some_iff.1 BKe.out).1).trans BKe.out)
              have HBf := Lib.hid (HBe.out.then_ hbf)
              clear x0_e x1_e x2_e
              have x0_f : wf.cell? ⟨wr.heap.size, 0, none⟩ = some (.slice A0 p.L.length c0) := (cell_of_row _ _ 0 _ _ _ BKf.out).trans rfl
              have x1_f : wf.cell? ⟨wr.heap.size, 1, none⟩ = some (.int .i64 p.P) := (cell_of_row _ _ 1 _ _ _ BKf.out).trans rfl
              have x2_f : wf.cell? ⟨wr.heap.size, 2, none⟩ = some (.slice A2 p.B.length c2) := (cell_of_row _ _ 2 _ _ _ BKf.out).trans rfl
              have WTf := Lib.hid (Kd.C_below WTe.out hbf)
              obtain ⟨Ax, cx, hvx⟩ := Kd.R_slice hox
              subst hvx
              have hcx := (Kd.R_reads' hox).2.1
              have HCX := Lib.hid hcx
              have XTf := Lib.hid (Kd.R_reads' hox).2.2
              clear hox hcx hbf
              go_wp2_with fail
              refine (propPut_ok Ax cx p.L p.P _ XTf.out HPZ.out (Dv.GTab.below HT.out HBf.out) HR0.out).mono ?_
              rintro e wg ⟨vb, rfl, hob, hbg⟩
              have BKg := Aside0.mk ((hbg.block wr.heap.size (Array.getElem?_eq_some_iff.1 BKf.out).1).trans BKf.out)
              have HBg := Lib.hid (HBf.out.then_ hbg)
              clear x0_f x1_f x2_f
              have x0_g : wg.cell? ⟨wr.heap.size, 0, none⟩ = some (.slice A0 p.L.length c0) := (cell_of_row _ _ 0 _ _ _ BKg.out).trans rfl
              have x1_g : wg.cell? ⟨wr.heap.size, 1, none⟩ = some (.int .i64 p.P) := (cell_of_row _ _ 1 _ _ _ BKg.out).trans rfl
              have x2_g : wg.cell? ⟨wr.heap.size, 2, none⟩ = some (.slice A2 p.B.length c2) := (cell_of_row _ _ 2 _ _ _ BKg.out).trans rfl
              obtain ⟨Ab, cb, hvb⟩ := Kd.R_slice hob
              subst hvb
              have hcb := (Kd.R_reads' hob).2.1
              have HCB := Lib.hid hcb
              have BTg := Lib.hid (Kd.R_reads' hob).2.2
              clear hob hcb
              have WTg := Lib.hid (Kd.C_below WTf.out hbg)
              have XTg := Lib.hid (Kd.C_below XTf.out hbg)
              clear hbg
              go_wp2_with fail
              refine (prop_Check Ax cx p.L p.P _ XTg.out HPZ.out (Dv.GTab.below HT.out HBg.out)).mono ?_
              rintro e wh ⟨ek, rfl, hek, hbh⟩
              have BKh := Aside0.mk ((hbh.block wr.heap.size (Array.getElem?_eq_some_iff.1 BKg.out).1).trans BKg.out)
              have HBh := Lib.hid (HBg.out.then_ hbh)
              clear x0_g x1_g x2_g
              have x0_h : wh.cell? ⟨wr.heap.size, 0, none⟩ = some (.slice A0 p.L.length c0) := (cell_of_row _ _ 0 _ _ _ BKh.out).trans rfl
              have x1_h : wh.cell? ⟨wr.heap.size, 1, none⟩ = some (.int .i64 p.P) := (cell_of_row _ _ 1 _ _ _ BKh.out).trans rfl
              have x2_h : wh.cell? ⟨wr.heap.size, 2, none⟩ = some (.slice A2 p.B.length c2) := (cell_of_row _ _ 2 _ _ _ BKh.out).trans rfl
              rw [HR0.out] at hek
              have EKh := Lib.hid hek
              clear hek
              have WTh := Lib.hid (Kd.C_below WTg.out hbh)
              have XTh := Lib.hid (Kd.C_below XTg.out hbh)
              have BTh := Lib.hid (Kd.C_below BTg.out hbh)
              clear hbh
              go_wp2_with fail
              refine (num3 _ _ _ (Dv.GErr.below HG.out HBh.out) EKh.out).mono ?_
              rintro e wi ⟨rfl, hbi⟩
              have BKi := Aside0.mk ((hbi.block wr.heap.size (Array.getElem?_eq_some_iff.1 BKh.out).1).trans BKh.out)
              have HBi := Lib.hid (HBh.out.then_ hbi)
              clear x0_h x1_h x2_h
              have x0_i : wi.cell? ⟨wr.heap.size, 0, none⟩ = some (.slice A0 p.L.length c0) := (cell_of_row _ _ 0 _ _ _ BKi.out).trans rfl
              have x1_i : wi.cell? ⟨wr.heap.size, 1, none⟩ = some (.int .i64 p.P) := (cell_of_row _ _ 1 _ _ _ BKi.out).trans rfl
              have x2_i : wi.cell? ⟨wr.heap.size, 2, none⟩ = some (.slice A2 p.B.length c2) := (cell_of_row _ _ 2 _ _ _ BKi.out).trans rfl
              have WTi := Lib.hid (Kd.C_below WTh.out hbi)
              have XTi := Lib.hid (Kd.C_below XTh.out hbi)
              have BTi := Lib.hid (Kd.C_below BTh.out hbi)
              clear hbi
              go_wp2_with fail
              refine (num3 _ _ _ (Dv.GErr.below HG.out HBi.out) (.inl ⟨rfl, rfl⟩)).mono ?_
              rintro e wj ⟨rfl, hbj⟩
              have BKj := Aside0.mk ((hbj.block wr.heap.size (Array.getElem?_eq_some_iff.1 BKi.out).1).trans BKi.out)
              have HBj := Lib.hid (HBi.out.then_ hbj)
              clear x0_i x1_i x2_i
              have x0_j : wj.cell? ⟨wr.heap.size, 0, none⟩ = some (.slice A0 p.L.length c0) := (cell_of_row _ _ 0 _ _ _ BKj.out).trans rfl
              have x1_j : wj.cell? ⟨wr.heap.size, 1, none⟩ = some (.int .i64 p.P) := (cell_of_row _ _ 1 _ _ _ BKj.out).trans rfl
              have x2_j : wj.cell? ⟨wr.heap.size, 2, none⟩ = some (.slice A2 p.B.length c2) := (cell_of_row _ _ 2 _ _ _ BKj.out).trans rfl
              have WTj := Lib.hid (Kd.C_below WTi.out hbj)
              have XTj := Lib.hid (Kd.C_below XTi.out hbj)
              have BTj := Lib.hid (Kd.C_below BTi.out hbj)
              clear hbj
              go_wp2_with fail
              refine (dovecoteref0_EqBytes.calls _ Ab cb (bytes3 p.L) Aw cw (bytes3 p.L) true _ BTj.out HCB.out WTj.out HCW.out (EqBytes_f _ (bytes3_small HR0.out))).mono ?_
              rintro e wk ⟨rfl, hbk⟩
              replace hbk := hbk.below
              have BKk := Aside0.mk ((hbk.block wr.heap.size (Array.getElem?_eq_some_iff.1 BKj.out).1).trans BKj.out)
              have HBk := Lib.hid (HBj.out.then_ hbk)
              clear x0_j x1_j x2_j
              have x0_k : wk.cell? ⟨wr.heap.size, 0, none⟩ = some (.slice A0 p.L.length c0) := (cell_of_row _ _ 0 _ _ _ BKk.out).trans rfl
              have x1_k : wk.cell? ⟨wr.heap.size, 1, none⟩ = some (.int .i64 p.P) := (cell_of_row _ _ 1 _ _ _ BKk.out).trans rfl
              have x2_k : wk.cell? ⟨wr.heap.size, 2, none⟩ = some (.slice A2 p.B.length c2) := (cell_of_row _ _ 2 _ _ _ BKk.out).trans rfl
              have XTk := Lib.hid (Kd.C_below XTj.out hbk)
              clear hbk
              go_wp2_with fail
              refine (dovecoteref0_EqProps.calls _ Ax cx p.L A0 c0 p.L true _ XTk.out HCX.out (Kd.C_below G1.out HBk.out) G0.out (EqProps_f _ HL.out)).mono ?_
              rintro e wl ⟨rfl, hbl⟩
              replace hbl := hbl.below
              have BKl := Aside0.mk ((hbl.block wr.heap.size (Array.getElem?_eq_some_iff.1 BKk.out).1).trans BKk.out)
              have HBl := Lib.hid (HBk.out.then_ hbl)
              clear x0_k x1_k x2_k
              have x0_l : wl.cell? ⟨wr.heap.size, 0, none⟩ = some (.slice A0 p.L.length c0) := (cell_of_row _ _ 0 _ _ _ BKl.out).trans rfl
              have x1_l : wl.cell? ⟨wr.heap.size, 1, none⟩ = some (.int .i64 p.P) := (cell_of_row _ _ 1 _ _ _ BKl.out).trans rfl
              have x2_l : wl.cell? ⟨wr.heap.size, 2, none⟩ = some (.slice A2 p.B.length c2) := (cell_of_row _ _ 2 _ _ _ BKl.out).trans rfl
              clear hbl
              go_wp2_with fail
              go_roundw
              case rel => exact ⟨k + 1, by omega, by simp, HBl.out⟩
              case measure => simp [intOf]; omega
            · have q0 : (r == 0) = false := beq_eq_false_iff_ne.2 hr0
              have HN := Lib.hid hr0
              clear hr0
              go_wp2_with fail
              refine (dovecoteref0_CopyProps.calls _ A0 c0 p.L _ _ (Kd.C_below G1.out HBd.out) G0.out (CopyProps_f p.L HL.out)).mono ?_
              rintro e wf ⟨vx, rfl, hox, hbf⟩
              have BKf := Aside0.mk ((hbf.block wr.heap.size (Array.getElem?_eq_some_iff.1 BKd.out).1).trans BKd.out)
              have HBf := Lib.hid (HBd.out.then_ hbf)
              clear x0_d x1_d x2_d
              have x0_f : wf.cell? ⟨wr.heap.size, 0, none⟩ = some (.slice A0 p.L.length c0) := (cell_of_row _ _ 0 _ _ _ BKf.out).trans rfl
              have x1_f : wf.cell? ⟨wr.heap.size, 1, none⟩ = some (.int .i64 p.P) := (cell_of_row _ _ 1 _ _ _ BKf.out).trans rfl
              have x2_f : wf.cell? ⟨wr.heap.size, 2, none⟩ = some (.slice A2 p.B.length c2) := (cell_of_row _ _ 2 _ _ _ BKf.out).trans rfl
              obtain ⟨Ax, cx, hvx⟩ := Kd.R_slice hox
              subst hvx
              have hcx := (Kd.R_reads' hox).2.1
              have HCX := Lib.hid hcx
              have XTf := Lib.hid (Kd.R_reads' hox).2.2
              clear hox hcx hbf
              go_wp2_with fail
              refine (Put_bad Ax cx p.L p.P _ XTf.out HPZ.out (Dv.GTab.below HT.out HBf.out) (by rw [HR0.out]; exact HN.out)).mono ?_
              rintro e wg ⟨er, rfl, her, hbg⟩
              have BKg := Aside0.mk ((hbg.block wr.heap.size (Array.getElem?_eq_some_iff.1 BKf.out).1).trans BKf.out)
              have HBg := Lib.hid (HBf.out.then_ hbg)
              clear x0_f x1_f x2_f
              have x0_g : wg.cell? ⟨wr.heap.size, 0, none⟩ = some (.slice A0 p.L.length c0) := (cell_of_row _ _ 0 _ _ _ BKg.out).trans rfl
              have x1_g : wg.cell? ⟨wr.heap.size, 1, none⟩ = some (.int .i64 p.P) := (cell_of_row _ _ 1 _ _ _ BKg.out).trans rfl
              have x2_g : wg.cell? ⟨wr.heap.size, 2, none⟩ = some (.slice A2 p.B.length c2) := (cell_of_row _ _ 2 _ _ _ BKg.out).trans rfl
              rw [HR0.out] at her
              have ERg := Lib.hid her
              clear her
              have XTg := Lib.hid (Kd.C_below XTf.out hbg)
              clear hbg
              go_wp2_with fail
              refine (prop_Check Ax cx p.L p.P _ XTg.out HPZ.out (Dv.GTab.below HT.out HBg.out)).mono ?_
              rintro e wh ⟨ek, rfl, hek, hbh⟩
              have BKh := Aside0.mk ((hbh.block wr.heap.size (Array.getElem?_eq_some_iff.1 BKg.out).1).trans BKg.out)
              have HBh := Lib.hid (HBg.out.then_ hbh)
              clear x0_g x1_g x2_g
              have x0_h : wh.cell? ⟨wr.heap.size, 0, none⟩ = some (.slice A0 p.L.length c0) := (cell_of_row _ _ 0 _ _ _ BKh.out).trans rfl
              have x1_h : wh.cell? ⟨wr.heap.size, 1, none⟩ = some (.int .i64 p.P) := (cell_of_row _ _ 1 _ _ _ BKh.out).trans rfl
              have x2_h : wh.cell? ⟨wr.heap.size, 2, none⟩ = some (.slice A2 p.B.length c2) := (cell_of_row _ _ 2 _ _ _ BKh.out).trans rfl
              rw [HR0.out] at hek
              have EKh := Lib.hid hek
              clear hek
              have XTh := Lib.hid (Kd.C_below XTg.out hbh)
              have ERh := Lib.hid (Dv.Err.below ERg.out hbh)
              clear hbh
              go_wp2_with fail
              refine (num3 _ _ _ (Dv.GErr.below HG.out HBh.out) EKh.out).mono ?_
              rintro e wi ⟨rfl, hbi⟩
              have BKi := Aside0.mk ((hbi.block wr.heap.size (Array.getElem?_eq_some_iff.1 BKh.out).1).trans BKh.out)
              have HBi := Lib.hid (HBh.out.then_ hbi)
              clear x0_h x1_h x2_h
              have x0_i : wi.cell? ⟨wr.heap.size, 0, none⟩ = some (.slice A0 p.L.length c0) := (cell_of_row _ _ 0 _ _ _ BKi.out).trans rfl
              have x1_i : wi.cell? ⟨wr.heap.size, 1, none⟩ = some (.int .i64 p.P) := (cell_of_row _ _ 1 _ _ _ BKi.out).trans rfl
              have x2_i : wi.cell? ⟨wr.heap.size, 2, none⟩ = some (.slice A2 p.B.length c2) := (cell_of_row _ _ 2 _ _ _ BKi.out).trans rfl
              have XTi := Lib.hid (Kd.C_below XTh.out hbi)
              have ERi := Lib.hid (Dv.Err.below ERh.out hbi)
              clear hbi
              go_wp2_with fail
              refine (num3 _ _ _ (Dv.GErr.below HG.out HBi.out) ERi.out).mono ?_
              rintro e wj ⟨rfl, hbj⟩
              have BKj := Aside0.mk ((hbj.block wr.heap.size (Array.getElem?_eq_some_iff.1 BKi.out).1).trans BKi.out)
              have HBj := Lib.hid (HBi.out.then_ hbj)
              clear x0_i x1_i x2_i
              have x0_j : wj.cell? ⟨wr.heap.size, 0, none⟩ = some (.slice A0 p.L.length c0) := (cell_of_row _ _ 0 _ _ _ BKj.out).trans rfl
              have x1_j : wj.cell? ⟨wr.heap.size, 1, none⟩ = some (.int .i64 p.P) := (cell_of_row _ _ 1 _ _ _ BKj.out).trans rfl
              have x2_j : wj.cell? ⟨wr.heap.size, 2, none⟩ = some (.slice A2 p.B.length c2) := (cell_of_row _ _ 2 _ _ _ BKj.out).trans rfl
              have XTj := Lib.hid (Kd.C_below XTi.out hbj)
              clear hbj
              go_wp2_with fail
              refine (dovecoteref0_EqBytes.calls _ none 0 [] none 0 [] true _ (C_none _) (Nat.le_refl _) (C_none _) (Nat.le_refl _) (EqBytes_f _ (by simp))).mono ?_
              rintro e wk ⟨rfl, hbk⟩
              replace hbk := hbk.below
              have BKk := Aside0.mk ((hbk.block wr.heap.size (Array.getElem?_eq_some_iff.1 BKj.out).1).trans BKj.out)
              have HBk := Lib.hid (HBj.out.then_ hbk)
              clear x0_j x1_j x2_j
              have x0_k : wk.cell? ⟨wr.heap.size, 0, none⟩ = some (.slice A0 p.L.length c0) := (cell_of_row _ _ 0 _ _ _ BKk.out).trans rfl
              have x1_k : wk.cell? ⟨wr.heap.size, 1, none⟩ = some (.int .i64 p.P) := (cell_of_row _ _ 1 _ _ _ BKk.out).trans rfl
              have x2_k : wk.cell? ⟨wr.heap.size, 2, none⟩ = some (.slice A2 p.B.length c2) := (cell_of_row _ _ 2 _ _ _ BKk.out).trans rfl
              have XTk := Lib.hid (Kd.C_below XTj.out hbk)
              clear hbk
              go_wp2_with fail
              refine (dovecoteref0_EqProps.calls _ Ax cx p.L A0 c0 p.L true _ XTk.out HCX.out (Kd.C_below G1.out HBk.out) G0.out (EqProps_f _ HL.out)).mono ?_
              rintro e wl ⟨rfl, hbl⟩
              replace hbl := hbl.below
              have BKl := Aside0.mk ((hbl.block wr.heap.size (Array.getElem?_eq_some_iff.1 BKk.out).1).trans BKk.out)
              have HBl := Lib.hid (HBk.out.then_ hbl)
              clear x0_k x1_k x2_k
              have x0_l : wl.cell? ⟨wr.heap.size, 0, none⟩ = some (.slice A0 p.L.length c0) := (cell_of_row _ _ 0 _ _ _ BKl.out).trans rfl
              have x1_l : wl.cell? ⟨wr.heap.size, 1, none⟩ = some (.int .i64 p.P) := (cell_of_row _ _ 1 _ _ _ BKl.out).trans rfl
              have x2_l : wl.cell? ⟨wr.heap.size, 2, none⟩ = some (.slice A2 p.B.length c2) := (cell_of_row _ _ 2 _ _ _ BKl.out).trans rfl
              clear hbl
              go_wp2_with fail
              go_roundw
              case rel => exact ⟨k + 1, by omega, by simp, HBl.out⟩
              case measure => simp [intOf]; omega
        · have d3 : decide ((2 : Int) < (k : Int)) = false := decide_eq_false (by omega)
          go_wp2_with fail
          refine (dovecoteref3_Check.calls _ A0 c0 p.L p.P _ _ (Kd.C_below G1.out HBa.out) G0.out (Check3_f p.L p.P HL.out HPZ.out)).mono ?_
          rintro e wd ⟨rfl, hbd⟩
          have BKd := Aside0.mk ((hbd.block wr.heap.size (Array.getElem?_eq_some_iff.1 BKa.out).1).trans BKa.out)
          have HBd := Lib.hid (HBa.out.then_ hbd)
          clear x0_a x1_a x2_a
          have x0_d : wd.cell? ⟨wr.heap.size, 0, none⟩ = some (.slice A0 p.L.length c0) := (cell_of_row _ _ 0 _ _ _ BKd.out).trans rfl
          have x1_d : wd.cell? ⟨wr.heap.size, 1, none⟩ = some (.int .i64 p.P) := (cell_of_row _ _ 1 _ _ _ BKd.out).trans rfl
          have x2_d : wd.cell? ⟨wr.heap.size, 2, none⟩ = some (.slice A2 p.B.length c2) := (cell_of_row _ _ 2 _ _ _ BKd.out).trans rfl
          clear hbd
          obtain ⟨r, hrr⟩ : ∃ r, chk3 p.L p.P = r := ⟨_, rfl⟩
          rw [hrr]
          have HR0 := Lib.hid hrr
          clear hrr
          by_cases hr0 : r = 0
          · subst hr0
            go_wp2_with fail
            refine (dovecoteref3_Bytes.calls _ A0 c0 p.L _ _ (Kd.C_below G1.out HBd.out) G0.out (Bytes3_f p.L p.P HR0.out)).mono ?_
            rintro e we ⟨vw, rfl, how, hbe⟩
            have BKe := Aside0.mk ((hbe.block wr.heap.size (Array.getElem?_eq_some_iff.1 BKd.out).1).trans BKd.out)
            have HBe := Lib.hid (HBd.out.then_ hbe)
            clear x0_d x1_d x2_d
            have x0_e : we.cell? ⟨wr.heap.size, 0, none⟩ = some (.slice A0 p.L.length c0) := (cell_of_row _ _ 0 _ _ _ BKe.out).trans rfl
            have x1_e : we.cell? ⟨wr.heap.size, 1, none⟩ = some (.int .i64 p.P) := (cell_of_row _ _ 1 _ _ _ BKe.out).trans rfl
            have x2_e : we.cell? ⟨wr.heap.size, 2, none⟩ = some (.slice A2 p.B.length c2) := (cell_of_row _ _ 2 _ _ _ BKe.out).trans rfl
            obtain ⟨Aw, cw, hvw⟩ := Kd.R_slice how
            subst hvw
            have hcw := (Kd.R_reads' how).2.1
            have HCW := Lib.hid hcw
            have WTe := Lib.hid (Kd.R_reads' how).2.2
            clear how hcw hbe
            go_wp2_with fail
            refine (dovecoteref0_CopyProps.calls _ A0 c0 p.L _ _ (Kd.C_below G1.out HBe.out) G0.out (CopyProps_f p.L HL.out)).mono ?_
            rintro e wf ⟨vx, rfl, hox, hbf⟩
            have BKf := Aside0.mk ((hbf.block wr.heap.size (Array.getElem?_eq_some_iff.1 BKe.out).1).trans BKe.out)
            have HBf := Lib.hid (HBe.out.then_ hbf)
            clear x0_e x1_e x2_e
            have x0_f : wf.cell? ⟨wr.heap.size, 0, none⟩ = some (.slice A0 p.L.length c0) := (cell_of_row _ _ 0 _ _ _ BKf.out).trans rfl
            have x1_f : wf.cell? ⟨wr.heap.size, 1, none⟩ = some (.int .i64 p.P) := (cell_of_row _ _ 1 _ _ _ BKf.out).trans rfl
            have x2_f : wf.cell? ⟨wr.heap.size, 2, none⟩ = some (.slice A2 p.B.length c2) := (cell_of_row _ _ 2 _ _ _ BKf.out).trans rfl
            have WTf := Lib.hid (Kd.C_below WTe.out hbf)
            obtain ⟨Ax, cx, hvx⟩ := Kd.R_slice hox
            subst hvx
            have hcx := (Kd.R_reads' hox).2.1
            have HCX := Lib.hid hcx
            have XTf := Lib.hid (Kd.R_reads' hox).2.2
            clear hox hcx hbf
            go_wp2_with fail
            refine (propPut_ok Ax cx p.L p.P _ XTf.out HPZ.out (Dv.GTab.below HT.out HBf.out) HR0.out).mono ?_
            rintro e wg ⟨vb, rfl, hob, hbg⟩
            have BKg := Aside0.mk ((hbg.block wr.heap.size (Array.getElem?_eq_some_iff.1 BKf.out).1).trans BKf.out)
            have HBg := Lib.hid (HBf.out.then_ hbg)
            clear x0_f x1_f x2_f
            have x0_g : wg.cell? ⟨wr.heap.size, 0, none⟩ = some (.slice A0 p.L.length c0) := (cell_of_row _ _ 0 _ _ _ BKg.out).trans rfl
            have x1_g : wg.cell? ⟨wr.heap.size, 1, none⟩ = some (.int .i64 p.P) := (cell_of_row _ _ 1 _ _ _ BKg.out).trans rfl
            have x2_g : wg.cell? ⟨wr.heap.size, 2, none⟩ = some (.slice A2 p.B.length c2) := (cell_of_row _ _ 2 _ _ _ BKg.out).trans rfl
            obtain ⟨Ab, cb, hvb⟩ := Kd.R_slice hob
            subst hvb
            have hcb := (Kd.R_reads' hob).2.1
            have HCB := Lib.hid hcb
            have BTg := Lib.hid (Kd.R_reads' hob).2.2
            clear hob hcb
            have WTg := Lib.hid (Kd.C_below WTf.out hbg)
            have XTg := Lib.hid (Kd.C_below XTf.out hbg)
            clear hbg
            go_wp2_with fail
            refine (prop_Check Ax cx p.L p.P _ XTg.out HPZ.out (Dv.GTab.below HT.out HBg.out)).mono ?_
            rintro e wh ⟨ek, rfl, hek, hbh⟩
            have BKh := Aside0.mk ((hbh.block wr.heap.size (Array.getElem?_eq_some_iff.1 BKg.out).1).trans BKg.out)
            have HBh := Lib.hid (HBg.out.then_ hbh)
            clear x0_g x1_g x2_g
            have x0_h : wh.cell? ⟨wr.heap.size, 0, none⟩ = some (.slice A0 p.L.length c0) := (cell_of_row _ _ 0 _ _ _ BKh.out).trans rfl
            have x1_h : wh.cell? ⟨wr.heap.size, 1, none⟩ = some (.int .i64 p.P) := (cell_of_row _ _ 1 _ _ _ BKh.out).trans rfl
            have x2_h : wh.cell? ⟨wr.heap.size, 2, none⟩ = some (.slice A2 p.B.length c2) := (cell_of_row _ _ 2 _ _ _ BKh.out).trans rfl
            rw [HR0.out] at hek
            have EKh := Lib.hid hek
            clear hek
            have WTh := Lib.hid (Kd.C_below WTg.out hbh)
            have XTh := Lib.hid (Kd.C_below XTg.out hbh)
            have BTh := Lib.hid (Kd.C_below BTg.out hbh)
            clear hbh
            go_wp2_with fail
            refine (num3 _ _ _ (Dv.GErr.below HG.out HBh.out) EKh.out).mono ?_
            rintro e wi ⟨rfl, hbi⟩
            have BKi := Aside0.mk ((hbi.block wr.heap.size (Array.getElem?_eq_some_iff.1 BKh.out).1).trans BKh.out)
            have HBi := Lib.hid (HBh.out.then_ hbi)
            clear x0_h x1_h x2_h
            have x0_i : wi.cell? ⟨wr.heap.size, 0, none⟩ = some (.slice A0 p.L.length c0) := (cell_of_row _ _ 0 _ _ _ BKi.out).trans rfl
            have x1_i : wi.cell? ⟨wr.heap.size, 1, none⟩ = some (.int .i64 p.P) := (cell_of_row _ _ 1 _ _ _ BKi.out).trans rfl
            have x2_i : wi.cell? ⟨wr.heap.size, 2, none⟩ = some (.slice A2 p.B.length c2) := (cell_of_row _ _ 2 _ _ _ BKi.out).trans rfl
            have WTi := Lib.hid (Kd.C_below WTh.out hbi)
            have XTi := Lib.hid (Kd.C_below XTh.out hbi)
            have BTi := Lib.hid (Kd.C_below BTh.out hbi)
            clear hbi
            go_wp2_with fail
            refine (num3 _ _ _ (Dv.GErr.below HG.out HBi.out) (.inl ⟨rfl, rfl⟩)).mono ?_
            rintro e wj ⟨rfl, hbj⟩
            have BKj := Aside0.mk ((hbj.block wr.heap.size (Array.getElem?_eq_some_iff.1 BKi.out).1).trans BKi.out)
            have HBj := Lib.hid (HBi.out.then_ hbj)
            clear x0_i x1_i x2_i
            have x0_j : wj.cell? ⟨wr.heap.size, 0, none⟩ = some (.slice A0 p.L.length c0) := (cell_of_row _ _ 0 _ _ _ BKj.out).trans rfl
            have x1_j : wj.cell? ⟨wr.heap.size, 1, none⟩ = some (.int .i64 p.P) := (cell_of_row _ _ 1 _ _ _ BKj.out).trans rfl
            have x2_j : wj.cell? ⟨wr.heap.size, 2, none⟩ = some (.slice A2 p.B.length c2) := (cell_of_row _ _ 2 _ _ _ BKj.out).trans rfl
            have WTj := Lib.hid (Kd.C_below WTi.out hbj)
            have XTj := Lib.hid (Kd.C_below XTi.out hbj)
            have BTj := Lib.hid (Kd.C_below BTi.out hbj)
            clear hbj
            go_wp2_with fail
            refine (dovecoteref0_EqBytes.calls _ Ab cb (bytes3 p.L) Aw cw (bytes3 p.L) true _ BTj.out HCB.out WTj.out HCW.out (EqBytes_f _ (bytes3_small HR0.out))).mono ?_
            rintro e wk ⟨rfl, hbk⟩
            replace hbk := hbk.below
            have BKk := Aside0.mk ((hbk.block wr.heap.size (Array.getElem?_eq_some_iff.1 BKj.out).1).trans BKj.out)
            have HBk := Lib.hid (HBj.out.then_ hbk)
            clear x0_j x1_j x2_j
            have x0_k : wk.cell? ⟨wr.heap.size, 0, none⟩ = some (.slice A0 p.L.length c0) := (cell_of_row _ _ 0 _ _ _ BKk.out).trans rfl
            have x1_k : wk.cell? ⟨wr.heap.size, 1, none⟩ = some (.int .i64 p.P) := (cell_of_row _ _ 1 _ _ _ BKk.out).trans rfl
            have x2_k : wk.cell? ⟨wr.heap.size, 2, none⟩ = some (.slice A2 p.B.length c2) := (cell_of_row _ _ 2 _ _ _ BKk.out).trans rfl
            have XTk := Lib.hid (Kd.C_below XTj.out hbk)
            clear hbk
            go_wp2_with fail
            refine (dovecoteref0_EqProps.calls _ Ax cx p.L A0 c0 p.L true _ XTk.out HCX.out (Kd.C_below G1.out HBk.out) G0.out (EqProps_f _ HL.out)).mono ?_
            rintro e wl ⟨rfl, hbl⟩
            replace hbl := hbl.below
            have BKl := Aside0.mk ((hbl.block wr.heap.size (Array.getElem?_eq_some_iff.1 BKk.out).1).trans BKk.out)
            have HBl := Lib.hid (HBk.out.then_ hbl)
            clear x0_k x1_k x2_k
            have x0_l : wl.cell? ⟨wr.heap.size, 0, none⟩ = some (.slice A0 p.L.length c0) := (cell_of_row _ _ 0 _ _ _ BKl.out).trans rfl
            have x1_l : wl.cell? ⟨wr.heap.size, 1, none⟩ = some (.int .i64 p.P) := (cell_of_row _ _ 1 _ _ _ BKl.out).trans rfl
            have x2_l : wl.cell? ⟨wr.heap.size, 2, none⟩ = some (.slice A2 p.B.length c2) := (cell_of_row _ _ 2 _ _ _ BKl.out).trans rfl
            clear hbl
            go_wp2_with fail
            go_roundw
            case rel => exact ⟨k + 1, by omega, by simp, HBl.out⟩
            case measure => simp [intOf]; omega
          · have q0 : (r == 0) = false := beq_eq_false_iff_ne.2 hr0
            have HN := Lib.hid hr0
            clear hr0
            go_wp2_with fail
            refine (dovecoteref0_CopyProps.calls _ A0 c0 p.L _ _ (Kd.C_below G1.out HBd.out) G0.out (CopyProps_f p.L HL.out)).mono ?_
            rintro e wf ⟨vx, rfl, hox, hbf⟩
            have BKf := Aside0.mk ((hbf.block wr.heap.size (Array.getElem?_eq_some_iff.1 BKd.out).1).trans BKd.out)
            have HBf := Lib.hid (HBd.out.then_ hbf)
            clear x0_d x1_d x2_d
            have x0_f : wf.cell? ⟨wr.heap.size, 0, none⟩ = some (.slice A0 p.L.length c0) := (cell_of_row _ _ 0 _ _ _ BKf.out).trans rfl
            have x1_f : wf.cell? ⟨wr.heap.size, 1, none⟩ = some (.int .i64 p.P) := (cell_of_row _ _ 1 _ _ _ BKf.out).trans rfl
            have x2_f : wf.cell? ⟨wr.heap.size, 2, none⟩ = some (.slice A2 p.B.length c2) := (cell_of_row _ _ 2 _ _ _ BKf.out).trans rfl
            obtain ⟨Ax, cx, hvx⟩ := Kd.R_slice hox
            subst hvx
            have hcx := (Kd.R_reads' hox).2.1
            have HCX := Lib.hid hcx
            have XTf := Lib.hid (Kd.R_reads' hox).2.2
            clear hox hcx hbf
            go_wp2_with fail
            refine (Put_bad Ax cx p.L p.P _ XTf.out HPZ.out (Dv.GTab.below HT.out HBf.out) (by rw [HR0.out]; exact HN.out)).mono ?_
            rintro e wg ⟨er, rfl, her, hbg⟩
            have BKg := Aside0.mk ((hbg.block wr.heap.size (Array.getElem?_eq_some_iff.1 BKf.out).1).trans BKf.out)
            have HBg := Lib.hid (HBf.out.then_ hbg)
            clear x0_f x1_f x2_f
            have x0_g : wg.cell? ⟨wr.heap.size, 0, none⟩ = some (.slice A0 p.L.length c0) := (cell_of_row _ _ 0 _ _ _ BKg.out).trans rfl
            have x1_g : wg.cell? ⟨wr.heap.size, 1, none⟩ = some (.int .i64 p.P) := (cell_of_row _ _ 1 _ _ _ BKg.out).trans rfl
            have x2_g : wg.cell? ⟨wr.heap.size, 2, none⟩ = some (.slice A2 p.B.length c2) := (cell_of_row _ _ 2 _ _ _ BKg.out).trans rfl
            rw [HR0.out] at her
            have ERg := Lib.hid her
            clear her
            have XTg := Lib.hid (Kd.C_below XTf.out hbg)
            clear hbg
            go_wp2_with fail
            refine (prop_Check Ax cx p.L p.P _ XTg.out HPZ.out (Dv.GTab.below HT.out HBg.out)).mono ?_
            rintro e wh ⟨ek, rfl, hek, hbh⟩
            have BKh := Aside0.mk ((hbh.block wr.heap.size (Array.getElem?_eq_some_iff.1 BKg.out).1).trans BKg.out)
            have HBh := Lib.hid (HBg.out.then_ hbh)
            clear x0_g x1_g x2_g
            have x0_h : wh.cell? ⟨wr.heap.size, 0, none⟩ = some (.slice A0 p.L.length c0) := (cell_of_row _ _ 0 _ _ _ BKh.out).trans rfl
            have x1_h : wh.cell? ⟨wr.heap.size, 1, none⟩ = some (.int .i64 p.P) := (cell_of_row _ _ 1 _ _ _ BKh.out).trans rfl
            have x2_h : wh.cell? ⟨wr.heap.size, 2, none⟩ = some (.slice A2 p.B.length c2) := (cell_of_row _ _ 2 _ _ _ BKh.out).trans rfl
            rw [HR0.out] at hek
            have EKh := Lib.hid hek
            clear hek
            have XTh := Lib.hid (Kd.C_below XTg.out hbh)
            have ERh := Lib.hid (Dv.Err.below ERg.out hbh)
            clear hbh
            go_wp2_with fail
            refine (num3 _ _ _ (Dv.GErr.below HG.out HBh.out) EKh.out).mono ?_
            rintro e wi ⟨rfl, hbi⟩
            have BKi := Aside0.mk ((hbi.block wr.heap.size (Array.getElem?_eq_some_iff.1 BKh.out).1).trans BKh.out)
            have HBi := Lib.hid (HBh.out.then_ hbi)
            clear x0_h x1_h x2_h
            have x0_i : wi.cell? ⟨wr.heap.size, 0, none⟩ = some (.slice A0 p.L.length c0) := (cell_of_row _ _ 0 _ _ _ BKi.out).trans rfl
            have x1_i : wi.cell? ⟨wr.heap.size, 1, none⟩ = some (.int .i64 p.P) := (cell_of_row _ _ 1 _ _ _ BKi.out).trans rfl
            have x2_i : wi.cell? ⟨wr.heap.size, 2, none⟩ = some (.slice A2 p.B.length c2) := (cell_of_row _ _ 2 _ _ _ BKi.out).trans rfl
            have XTi := Lib.hid (Kd.C_below XTh.out hbi)
            have ERi := Lib.hid (Dv.Err.below ERh.out hbi)
            clear hbi
            go_wp2_with fail
            refine (num3 _ _ _ (Dv.GErr.below HG.out HBi.out) ERi.out).mono ?_
            rintro e wj ⟨rfl, hbj⟩
            have BKj := Aside0.mk ((hbj.block wr.heap.size (Array.getElem?_eq_some_iff.1 BKi.out).1).trans BKi.out)
            have HBj := Lib.hid (HBi.out.then_ hbj)
            clear x0_i x1_i x2_i
            have x0_j : wj.cell? ⟨wr.heap.size, 0, none⟩ = some (.slice A0 p.L.length c0) := (cell_of_row _ _ 0 _ _ _ BKj.out).trans rfl
            have x1_j : wj.cell? ⟨wr.heap.size, 1, none⟩ = some (.int .i64 p.P) := (cell_of_row _ _ 1 _ _ _ BKj.out).trans rfl
            have x2_j : wj.cell? ⟨wr.heap.size, 2, none⟩ = some (.slice A2 p.B.length c2) := (cell_of_row _ _ 2 _ _ _ BKj.out).trans rfl
            have XTj := Lib.hid (Kd.C_below XTi.out hbj)
            clear hbj
            go_wp2_with fail
            refine (dovecoteref0_EqBytes.calls _ none 0 [] none 0 [] true _ (C_none _) (Nat.le_refl _) (C_none _) (Nat.le_refl _) (EqBytes_f _ (by simp))).mono ?_
            rintro e wk ⟨rfl, hbk⟩
            replace hbk := hbk.below
            have BKk := Aside0.mk ((hbk.block wr.heap.size (Array.getElem?_eq_some_iff.1 BKj.out).1).trans BKj.out)
            have HBk := Lib.hid (HBj.out.then_ hbk)
            clear x0_j x1_j x2_j
            have x0_k : wk.cell? ⟨wr.heap.size, 0, none⟩ = some (.slice A0 p.L.length c0) := (cell_of_row _ _ 0 _ _ _ BKk.out).trans rfl
            have x1_k : wk.cell? ⟨wr.heap.size, 1, none⟩ = some (.int .i64 p.P) := (cell_of_row _ _ 1 _ _ _ BKk.out).trans rfl
            have x2_k : wk.cell? ⟨wr.heap.size, 2, none⟩ = some (.slice A2 p.B.length c2) := (cell_of_row _ _ 2 _ _ _ BKk.out).trans rfl
            have XTk := Lib.hid (Kd.C_below XTj.out hbk)
            clear hbk
            go_wp2_with fail
            refine (dovecoteref0_EqProps.calls _ Ax cx p.L A0 c0 p.L true _ XTk.out HCX.out (Kd.C_below G1.out HBk.out) G0.out (EqProps_f _ HL.out)).mono ?_
            rintro e wl ⟨rfl, hbl⟩
            replace hbl := hbl.below
            have BKl := Aside0.mk ((hbl.block wr.heap.size (Array.getElem?_eq_some_iff.1 BKk.out).1).trans BKk.out)
            have HBl := Lib.hid (HBk.out.then_ hbl)
            clear x0_k x1_k x2_k
            have x0_l : wl.cell? ⟨wr.heap.size, 0, none⟩ = some (.slice A0 p.L.length c0) := (cell_of_row _ _ 0 _ _ _ BKl.out).trans rfl
            have x1_l : wl.cell? ⟨wr.heap.size, 1, none⟩ = some (.int .i64 p.P) := (cell_of_row _ _ 1 _ _ _ BKl.out).trans rfl
            have x2_l : wl.cell? ⟨wr.heap.size, 2, none⟩ = some (.slice A2 p.B.length c2) := (cell_of_row _ _ 2 _ _ _ BKl.out).trans rfl
            clear hbl
            go_wp2_with fail
            go_roundw
            case rel => exact ⟨k + 1, by omega, by simp, HBl.out⟩
            case measure => simp [intOf]; omega
      · have d2 : decide ((k : Int) < 12) = false := decide_eq_false (by omega)
        go_wp2_with fail
        refine (wakes3 _ (Dv.GErr.below HG.out HB.out) (Dv.GTab.below HT.out HB.out)).mono ?_
        rintro e we ⟨rfl, hbe⟩
        have HBe := Lib.hid (HB.out.then_ hbe)
        clear hbe
        go_wp2
        go_ret
        exact ⟨rfl, HBe.out⟩
    · have d1 : decide (k < l.length) = false := decide_eq_false hlt
      go_wp2_with fail
      refine (wakes3 _ (Dv.GErr.below HG.out HB.out) (Dv.GTab.below HT.out HB.out)).mono ?_
      rintro e we ⟨rfl, hbe⟩
      have HBe := Lib.hid (HB.out.then_ hbe)
      clear hbe
      go_wp2
      go_ret
      exact ⟨rfl, HBe.out⟩
end Go.Proofs.YtaenlmjllmcamaaDoor.Q

import Derived.Test.YtdnmliidmnfijaaDoorKP4
import Derived.Outline
namespace Go.Proofs.YtdnmliidmnfijaaDoor.Q
open Go.RowKit Go.Proofs.YtdnmliidmnfijaaDoorW.PrintWords Go.Proofs.YtdnmliidmnfijaaDoorW.PrintLast Go.Proofs.YtdnmliidmnfijaaDoorW.PrintMore
open Go.Maps
theorem kinds_small (id : Int) (h : kindOf id ≠ 0) : 0 ≤ id ∧ id ≤ 42 := by
  by_cases hc : 0 ≤ id ∧ id ≤ 42
  · exact hc
  · exact absurd (kindOf_out id (by omega)) h
theorem may_small {id num : Int} {s t : ByteArray} (h : may id num s t = true) : 0 ≤ id ∧ id ≤ 42 := by
  refine kinds_small id fun hk => ?_
  unfold may at h; rw [hk] at h; simp at h
theorem getD_mem {α : Type} {l : List α} {z : α} {k : Nat} (h : k < l.length) : l.getD k z ∈ l := by
  rw [List.getD_eq_getElem?_getD, List.getElem?_eq_getElem h]; exact List.getElem_mem h
theorem stands_calls (id pl : Int) (w : World) : Calls Tryd.prog 62 #[.int .i64 id, .int .i64 pl] w fun e w' => e = .returned (.bool (stands id pl)) ∧ Below w.heap.size w w' := prop_stands.calls 20 id pl _ w (stands_f id pl)
def AskI (l : List S112) (pl : Int) (w : World) (i : Value) (wr : World) : Prop :=
  ∃ k : Nat, k ≤ l.length ∧ i = .int .i64 k ∧ (∀ j, j < k → badAt l pl j = false) ∧ wr.ownsMap Tryd.prog 3 (plainElem (H := Unit) Tryd.prog 4) w.heap.size k (seenD (ids (l.take k))) ∧ Below w.heap.size w wr
theorem chk3_bad (l : List S112) (pl : Int) (k : Nat) (hk : k < l.length) (hb : badAt l pl k = true) : chk3 l pl = 1 := by
  unfold chk3; rw [if_pos ⟨k, hk, hb⟩]
theorem ask_next {l : List S112} {pl : Int} {w w2 w3 : World} {k : Nat} {p : S112} (hg : ∀ j, j < k → badAt l pl j = false) (hb : badAt l pl k = false) (hlt : k < l.length) (hp : l.getD k z112 = p)
    (ho : w3.ownsMap Tryd.prog 3 (plainElem (H := Unit) Tryd.prog 4) w.heap.size (k + 1) ((seenD (ids (l.take k))).put (.int .i64 p.f0) (.lit (.bool true)))) (hB : Below w.heap.size w w2) (hgr : w2.grownBy w3 (some w.heap.size)) :
    AskI l pl w (.int .i64 ((k : Int) + 1)) w3 := by
  refine ⟨k + 1, by omega, by simp, fun j hj => ?_, ?_, hB.grown hgr hB.size (fun b hb => by injection hb with hb; omega)⟩
  · rcases Nat.lt_or_ge j k with h | h
    · exact hg j h
    · obtain rfl : j = k := by omega
      exact hb
  · have e : ids (l.take (k + 1)) = ids (l.take k) ++ [p.f0] := by
      unfold ids
      rw [List.take_succ_eq_append_getElem hlt, List.map_append, ← hp, List.getD_eq_getElem?_getD, List.getElem?_eq_getElem hlt]
      rfl
    rw [e, seenD_snoc]
    exact ho
set_option maxRecDepth 100000 in
set_option maxHeartbeats 8000000 in
theorem prop_ask (A : Option Addr) (c : Nat) (l : List S112) (pl : Int) (w : World) (hr : Kd.C k112 w A l.length l) (hsz : ∀ p ∈ l, p.f2.size ≤ 140737488351232 ∧ p.f3.size ≤ 140737488351232) (hT : Dv.GTab w) :
    Calls Tryd.prog 58 #[.slice A l.length c, .int .i64 pl] w fun e w' => ∃ v, e = .returned v ∧ Dv.Err w' v (chk3 l pl) ∧ Below w.heap.size w w' := by
  have hmm := @run_makeMap Tryd.prog
  have hm63 := hr.2.1
  have HR := Lib.hid hr
  have HZ := Lib.hid hsz
  have HT := Lib.hid hT
  clear hr hsz hT
  go_enter Tryd.func58, Tryd.ntmps58
  go_wp2_with fail
  go_loopw [12] (fun i wr => AskI l pl w i wr) (fun i _ => l.length - (intOf i).toNat)
  case atStart => exact ⟨0, Nat.zero_le _, rfl, fun j hj => absurd hj (by omega), World.ownsMap_made w _ _ _, (Below.refl _ _).alloc (Nat.le_refl _) _⟩
  case round =>
    obtain ⟨k, hk, rfl, hgood, hown, hB⟩ := hrel
    have HG := Lib.hid hgood
    have HO := Lib.hid hown
    have HB := Lib.hid hB
    clear hgood hown hB
    by_cases hlt : k < l.length
    · obtain ⟨ad, ea, x0, x1, x2, x3⟩ := at_T112 (Kd.C_below HR.out HB.out) (k : Int) (by omega) (by omega)
      cases ea
      rw [Int.toNat_natCast] at x0 x1 x2 x3
      have erd : rd_T112 l (k : Int) = l.getD k z112 := by unfold rd_T112; rw [Int.toNat_natCast]
      rw [erd] at x0 x1 x2 x3
      clear erd
      obtain ⟨p, hp⟩ : ∃ p, l.getD k z112 = p := ⟨_, rfl⟩
      rw [hp] at x0 x1 x2 x3
      have hpz := HZ.out p (by rw [← hp]; exact getD_mem hlt)
      have HP := Lib.hid hp
      have HPZ := Lib.hid hpz
      clear hp hpz
      have d1 : decide (k < l.length) = true := decide_eq_true hlt
      by_cases a1 : p.f0 = 38
      · have q1 : (p.f0 == 38) = true := beq_iff_eq.2 a1
        have hag : again p.f0 pl = true := by unfold again; rw [decide_eq_true a1]; rfl
        clear a1
        go_wp2_with fail
        have hB1 := below_alloc HB.out (.cells #[.int .i64 p.f0, .int .i64 p.f1, .string p.f2, .string p.f3] 112)
        by_cases g : mayP p = true
        · have sm := may_small g
          have hmay : may p.f0 p.f1 p.f2 p.f3 = true := g
          refine (prop_good p.f0 p.f1 p.f2 p.f3 _ HPZ.out.1 HPZ.out.2 (Dv.GTab.below HT.out hB1)).mono ?_
          rintro e w1 ⟨rfl, hb1⟩
          rw [hmay]
          have O1 := (HO.out.alloc (.cells #[.int .i64 p.f0, .int .i64 p.f1, .string p.f2, .string p.f3] 112)).kept (grown_of_below hb1 none) (by simp)
          have B1 := hB1.then_ hb1
          have y0 : w1.cell? ⟨wr.heap.size, 0, none⟩ = some (.int .i64 p.f0) := (hb1.cell (p := ⟨wr.heap.size, 0, none⟩) (by simp)).trans (by simp)
          have HO1 := Lib.hid O1
          have HB1 := Lib.hid B1
          clear O1 B1 hb1 hmay hB1
          go_wp2_with fail
          refine (stands_calls p.f0 pl _).mono ?_
          rintro e w2 ⟨rfl, hb2⟩
          have O2 := HO1.out.kept (grown_of_below hb2 none) (by simp)
          have z0 : w2.cell? ⟨wr.heap.size, 0, none⟩ = some (.int .i64 p.f0) := (hb2.cell (World.block_lt_of_cell? _ _ y0)).trans y0
          have HB2 := Lib.hid (HB1.out.then_ hb2)
          have hlk := look_seen w2 w.heap.size k (ids (l.take k)) p.f0 sm.1 sm.2 O2
          have HO2 := Lib.hid O2
          clear O2 hb2 y0
          by_cases st : stands p.f0 pl = true
          · rw [st]
            have HS := Lib.hid st
            by_cases sn : p.f0 ∈ ids (l.take k)
            · rw [decide_eq_true sn] at hlk
              have HN := Lib.hid sn
              clear st sn
              have hbad : badAt l pl k = false := by unfold badAt; rw [HP.out, g, HS.out, hag]; simp
              have HBD := Lib.hid hbad
              clear hbad
              go_wp2_with (at_mapUpdate; refine wpList_mapUpdate_own _ rfl _ _ _ 134 rfl 3 4 (int_keyed Tryd.underlying3) Tryd.underlying134 _ w.heap.size k _ rfl HO2.out (by unfold maxLen; omega) _ _ _ rfl rfl (key_int p.f0 sm.1 sm.2) _ [] (plainElem_bool Tryd.underlying4 true) ?_; intro w3 hown3 hgrow3; have HO3 := Lib.hid hown3; have HG3 := Lib.hid hgrow3; clear hown3 hgrow3)
              go_roundw
              case rel => exact ask_next HG.out HBD.out hlt HP.out HO3.out HB2.out HG3.out
              case measure => simp [intOf]; omega
            · rw [decide_eq_false sn] at hlk
              have HN := Lib.hid sn
              clear st sn
              have hbad : badAt l pl k = false := by unfold badAt; rw [HP.out, g, HS.out, decide_eq_false HN.out]; simp
              have HBD := Lib.hid hbad
              clear hbad
              go_wp2_with (at_mapUpdate; refine wpList_mapUpdate_own _ rfl _ _ _ 134 rfl 3 4 (int_keyed Tryd.underlying3) Tryd.underlying134 _ w.heap.size k _ rfl HO2.out (by unfold maxLen; omega) _ _ _ rfl rfl (key_int p.f0 sm.1 sm.2) _ [] (plainElem_bool Tryd.underlying4 true) ?_; intro w3 hown3 hgrow3; have HO3 := Lib.hid hown3; have HG3 := Lib.hid hgrow3; clear hown3 hgrow3)
              go_roundw
              case rel => exact ask_next HG.out HBD.out hlt HP.out HO3.out HB2.out HG3.out
              case measure => simp [intOf]; omega
          · have st' : stands p.f0 pl = false := by simpa using st
            rw [st']
            have hbad : badAt l pl k = true := by unfold badAt; rw [HP.out, st']; simp
            clear st st' hlk
            have hres := chk3_bad l pl k hlt hbad
            have HRS := Lib.hid hres
            clear hres hbad
            go_wp2
            go_ret
            exact ⟨_, rfl, by rw [HRS.out]; exact Dv.Err.no _ 1 (by omega) (by omega), HB2.out⟩
        · have g' : mayP p = false := by simpa using g
          have hmay : may p.f0 p.f1 p.f2 p.f3 = false := g'
          refine (prop_good p.f0 p.f1 p.f2 p.f3 _ HPZ.out.1 HPZ.out.2 (Dv.GTab.below HT.out hB1)).mono ?_
          rintro e w1 ⟨rfl, hb1⟩
          rw [hmay]
          have HB2 := Lib.hid (hB1.then_ hb1)
          have hbad : badAt l pl k = true := by unfold badAt; rw [HP.out, g']; simp
          clear hmay g g' hb1 hB1
          have hres := chk3_bad l pl k hlt hbad
          have HRS := Lib.hid hres
          clear hres hbad
          go_wp2
          go_ret
          exact ⟨_, rfl, by rw [HRS.out]; exact Dv.Err.no _ 1 (by omega) (by omega), HB2.out⟩
      · have q1 : (p.f0 == 38) = false := beq_eq_false_iff_ne.2 a1
        by_cases a2 : p.f0 = 11
        · have q2 : (p.f0 == 11) = true := beq_iff_eq.2 a2
          by_cases a3 : pl = 3
          · have q3 : (pl == 3) = true := beq_iff_eq.2 a3
            have hag : again p.f0 pl = true := by unfold again; rw [decide_eq_false a1, decide_eq_true a2, decide_eq_true a3]; rfl
            clear a1 a2 a3
            go_wp2_with fail
            have hB1 := below_alloc HB.out (.cells #[.int .i64 p.f0, .int .i64 p.f1, .string p.f2, .string p.f3] 112)
            by_cases g : mayP p = true
            · have sm := may_small g
              have hmay : may p.f0 p.f1 p.f2 p.f3 = true := g
              refine (prop_good p.f0 p.f1 p.f2 p.f3 _ HPZ.out.1 HPZ.out.2 (Dv.GTab.below HT.out hB1)).mono ?_
              rintro e w1 ⟨rfl, hb1⟩
              rw [hmay]
              have O1 := (HO.out.alloc (.cells #[.int .i64 p.f0, .int .i64 p.f1, .string p.f2, .string p.f3] 112)).kept (grown_of_below hb1 none) (by simp)
              have B1 := hB1.then_ hb1
              have y0 : w1.cell? ⟨wr.heap.size, 0, none⟩ = some (.int .i64 p.f0) := (hb1.cell (p := ⟨wr.heap.size, 0, none⟩) (by simp)).trans (by simp)
              have HO1 := Lib.hid O1
              have HB1 := Lib.hid B1
              clear O1 B1 hb1 hmay hB1
              go_wp2_with fail
              refine (stands_calls p.f0 pl _).mono ?_
              rintro e w2 ⟨rfl, hb2⟩
              have O2 := HO1.out.kept (grown_of_below hb2 none) (by simp)
              have z0 : w2.cell? ⟨wr.heap.size, 0, none⟩ = some (.int .i64 p.f0) := (hb2.cell (World.block_lt_of_cell? _ _ y0)).trans y0
              have HB2 := Lib.hid (HB1.out.then_ hb2)
              have hlk := look_seen w2 w.heap.size k (ids (l.take k)) p.f0 sm.1 sm.2 O2
              have HO2 := Lib.hid O2
              clear O2 hb2 y0
              by_cases st : stands p.f0 pl = true
              · rw [st]
                have HS := Lib.hid st
                by_cases sn : p.f0 ∈ ids (l.take k)
                · rw [decide_eq_true sn] at hlk
                  have HN := Lib.hid sn
                  clear st sn
                  have hbad : badAt l pl k = false := by unfold badAt; rw [HP.out, g, HS.out, hag]; simp
                  have HBD := Lib.hid hbad
                  clear hbad
                  go_wp2_with (at_mapUpdate; refine wpList_mapUpdate_own _ rfl _ _ _ 134 rfl 3 4 (int_keyed Tryd.underlying3) Tryd.underlying134 _ w.heap.size k _ rfl HO2.out (by unfold maxLen; omega) _ _ _ rfl rfl (key_int p.f0 sm.1 sm.2) _ [] (plainElem_bool Tryd.underlying4 true) ?_; intro w3 hown3 hgrow3; have HO3 := Lib.hid hown3; have HG3 := Lib.hid hgrow3; clear hown3 hgrow3)
                  go_roundw
                  case rel => exact ask_next HG.out HBD.out hlt HP.out HO3.out HB2.out HG3.out
                  case measure => simp [intOf]; omega
                · rw [decide_eq_false sn] at hlk
                  have HN := Lib.hid sn
                  clear st sn
                  have hbad : badAt l pl k = false := by unfold badAt; rw [HP.out, g, HS.out, decide_eq_false HN.out]; simp
                  have HBD := Lib.hid hbad
                  clear hbad
                  go_wp2_with (at_mapUpdate; refine wpList_mapUpdate_own _ rfl _ _ _ 134 rfl 3 4 (int_keyed Tryd.underlying3) Tryd.underlying134 _ w.heap.size k _ rfl HO2.out (by unfold maxLen; omega) _ _ _ rfl rfl (key_int p.f0 sm.1 sm.2) _ [] (plainElem_bool Tryd.underlying4 true) ?_; intro w3 hown3 hgrow3; have HO3 := Lib.hid hown3; have HG3 := Lib.hid hgrow3; clear hown3 hgrow3)
                  go_roundw
                  case rel => exact ask_next HG.out HBD.out hlt HP.out HO3.out HB2.out HG3.out
                  case measure => simp [intOf]; omega
              · have st' : stands p.f0 pl = false := by simpa using st
                rw [st']
                have hbad : badAt l pl k = true := by unfold badAt; rw [HP.out, st']; simp
                clear st st' hlk
                have hres := chk3_bad l pl k hlt hbad
                have HRS := Lib.hid hres
                clear hres hbad
                go_wp2
                go_ret
                exact ⟨_, rfl, by rw [HRS.out]; exact Dv.Err.no _ 1 (by omega) (by omega), HB2.out⟩
            · have g' : mayP p = false := by simpa using g
              have hmay : may p.f0 p.f1 p.f2 p.f3 = false := g'
              refine (prop_good p.f0 p.f1 p.f2 p.f3 _ HPZ.out.1 HPZ.out.2 (Dv.GTab.below HT.out hB1)).mono ?_
              rintro e w1 ⟨rfl, hb1⟩
              rw [hmay]
              have HB2 := Lib.hid (hB1.then_ hb1)
              have hbad : badAt l pl k = true := by unfold badAt; rw [HP.out, g']; simp
              clear hmay g g' hb1 hB1
              have hres := chk3_bad l pl k hlt hbad
              have HRS := Lib.hid hres
              clear hres hbad
              go_wp2
              go_ret
              exact ⟨_, rfl, by rw [HRS.out]; exact Dv.Err.no _ 1 (by omega) (by omega), HB2.out⟩
          · have q3 : (pl == 3) = false := beq_eq_false_iff_ne.2 a3
            have hag : again p.f0 pl = false := by unfold again; rw [decide_eq_false a1, decide_eq_true a2, decide_eq_false a3]; rfl
            clear a1 a2 a3
            go_wp2_with fail
            have hB1 := below_alloc HB.out (.cells #[.int .i64 p.f0, .int .i64 p.f1, .string p.f2, .string p.f3] 112)
            by_cases g : mayP p = true
            · have sm := may_small g
              have hmay : may p.f0 p.f1 p.f2 p.f3 = true := g
              refine (prop_good p.f0 p.f1 p.f2 p.f3 _ HPZ.out.1 HPZ.out.2 (Dv.GTab.below HT.out hB1)).mono ?_
              rintro e w1 ⟨rfl, hb1⟩
              rw [hmay]
              have O1 := (HO.out.alloc (.cells #[.int .i64 p.f0, .int .i64 p.f1, .string p.f2, .string p.f3] 112)).kept (grown_of_below hb1 none) (by simp)
              have B1 := hB1.then_ hb1
              have y0 : w1.cell? ⟨wr.heap.size, 0, none⟩ = some (.int .i64 p.f0) := (hb1.cell (p := ⟨wr.heap.size, 0, none⟩) (by simp)).trans (by simp)
              have HO1 := Lib.hid O1
              have HB1 := Lib.hid B1
              clear O1 B1 hb1 hmay hB1
              go_wp2_with fail
              refine (stands_calls p.f0 pl _).mono ?_
              rintro e w2 ⟨rfl, hb2⟩
              have O2 := HO1.out.kept (grown_of_below hb2 none) (by simp)
              have z0 : w2.cell? ⟨wr.heap.size, 0, none⟩ = some (.int .i64 p.f0) := (hb2.cell (World.block_lt_of_cell? _ _ y0)).trans y0
              have HB2 := Lib.hid (HB1.out.then_ hb2)
              have hlk := look_seen w2 w.heap.size k (ids (l.take k)) p.f0 sm.1 sm.2 O2
              have HO2 := Lib.hid O2
              clear O2 hb2 y0
              by_cases st : stands p.f0 pl = true
              · rw [st]
                have HS := Lib.hid st
                by_cases sn : p.f0 ∈ ids (l.take k)
                · rw [decide_eq_true sn] at hlk
                  have HN := Lib.hid sn
                  clear st sn
                  have hbad : badAt l pl k = true := by unfold badAt; rw [HP.out, g, HS.out, hag, decide_eq_true HN.out]; simp
                  have hres := chk3_bad l pl k hlt hbad
                  have HRS := Lib.hid hres
                  clear hres hbad
                  go_wp2
                  go_ret
                  exact ⟨_, rfl, by rw [HRS.out]; exact Dv.Err.no _ 1 (by omega) (by omega), HB2.out⟩
                · rw [decide_eq_false sn] at hlk
                  have HN := Lib.hid sn
                  clear st sn
                  have hbad : badAt l pl k = false := by unfold badAt; rw [HP.out, g, HS.out, decide_eq_false HN.out]; simp
                  have HBD := Lib.hid hbad
                  clear hbad
                  go_wp2_with (at_mapUpdate; refine wpList_mapUpdate_own _ rfl _ _ _ 134 rfl 3 4 (int_keyed Tryd.underlying3) Tryd.underlying134 _ w.heap.size k _ rfl HO2.out (by unfold maxLen; omega) _ _ _ rfl rfl (key_int p.f0 sm.1 sm.2) _ [] (plainElem_bool Tryd.underlying4 true) ?_; intro w3 hown3 hgrow3; have HO3 := Lib.hid hown3; have HG3 := Lib.hid hgrow3; clear hown3 hgrow3)
                  go_roundw
                  case rel => exact ask_next HG.out HBD.out hlt HP.out HO3.out HB2.out HG3.out
                  case measure => simp [intOf]; omega
              · have st' : stands p.f0 pl = false := by simpa using st
                rw [st']
                have hbad : badAt l pl k = true := by unfold badAt; rw [HP.out, st']; simp
                clear st st' hlk
                have hres := chk3_bad l pl k hlt hbad
                have HRS := Lib.hid hres
                clear hres hbad
                go_wp2
                go_ret
                exact ⟨_, rfl, by rw [HRS.out]; exact Dv.Err.no _ 1 (by omega) (by omega), HB2.out⟩
            · have g' : mayP p = false := by simpa using g
              have hmay : may p.f0 p.f1 p.f2 p.f3 = false := g'
              refine (prop_good p.f0 p.f1 p.f2 p.f3 _ HPZ.out.1 HPZ.out.2 (Dv.GTab.below HT.out hB1)).mono ?_
              rintro e w1 ⟨rfl, hb1⟩
              rw [hmay]
              have HB2 := Lib.hid (hB1.then_ hb1)
              have hbad : badAt l pl k = true := by unfold badAt; rw [HP.out, g']; simp
              clear hmay g g' hb1 hB1
              have hres := chk3_bad l pl k hlt hbad
              have HRS := Lib.hid hres
              clear hres hbad
              go_wp2
              go_ret
              exact ⟨_, rfl, by rw [HRS.out]; exact Dv.Err.no _ 1 (by omega) (by omega), HB2.out⟩
        · have q2 : (p.f0 == 11) = false := beq_eq_false_iff_ne.2 a2
          have hag : again p.f0 pl = false := by unfold again; rw [decide_eq_false a1, decide_eq_false a2]; rfl
          clear a1 a2
          go_wp2_with fail
          have hB1 := below_alloc HB.out (.cells #[.int .i64 p.f0, .int .i64 p.f1, .string p.f2, .string p.f3] 112)
          by_cases g : mayP p = true
          · have sm := may_small g
            have hmay : may p.f0 p.f1 p.f2 p.f3 = true := g
            refine (prop_good p.f0 p.f1 p.f2 p.f3 _ HPZ.out.1 HPZ.out.2 (Dv.GTab.below HT.out hB1)).mono ?_
            rintro e w1 ⟨rfl, hb1⟩
            rw [hmay]
            have O1 := (HO.out.alloc (.cells #[.int .i64 p.f0, .int .i64 p.f1, .string p.f2, .string p.f3] 112)).kept (grown_of_below hb1 none) (by simp)
            have B1 := hB1.then_ hb1
            have y0 : w1.cell? ⟨wr.heap.size, 0, none⟩ = some (.int .i64 p.f0) := (hb1.cell (p := ⟨wr.heap.size, 0, none⟩) (by simp)).trans (by simp)
            have HO1 := Lib.hid O1
            have HB1 := Lib.hid B1
            clear O1 B1 hb1 hmay hB1
            go_wp2_with fail
            refine (stands_calls p.f0 pl _).mono ?_
            rintro e w2 ⟨rfl, hb2⟩
            have O2 := HO1.out.kept (grown_of_below hb2 none) (by simp)
            have z0 : w2.cell? ⟨wr.heap.size, 0, none⟩ = some (.int .i64 p.f0) := (hb2.cell (World.block_lt_of_cell? _ _ y0)).trans y0
            have HB2 := Lib.hid (HB1.out.then_ hb2)
            have hlk := look_seen w2 w.heap.size k (ids (l.take k)) p.f0 sm.1 sm.2 O2
            have HO2 := Lib.hid O2
            clear O2 hb2 y0
            by_cases st : stands p.f0 pl = true
            · rw [st]
              have HS := Lib.hid st
              by_cases sn : p.f0 ∈ ids (l.take k)
              · rw [decide_eq_true sn] at hlk
                have HN := Lib.hid sn
                clear st sn
                have hbad : badAt l pl k = true := by unfold badAt; rw [HP.out, g, HS.out, hag, decide_eq_true HN.out]; simp
                have hres := chk3_bad l pl k hlt hbad
                have HRS := Lib.hid hres
                clear hres hbad
                go_wp2
                go_ret
                exact ⟨_, rfl, by rw [HRS.out]; exact Dv.Err.no _ 1 (by omega) (by omega), HB2.out⟩
              · rw [decide_eq_false sn] at hlk
                have HN := Lib.hid sn
                clear st sn
                have hbad : badAt l pl k = false := by unfold badAt; rw [HP.out, g, HS.out, decide_eq_false HN.out]; simp
                have HBD := Lib.hid hbad
                clear hbad
                go_wp2_with (at_mapUpdate; refine wpList_mapUpdate_own _ rfl _ _ _ 134 rfl 3 4 (int_keyed Tryd.underlying3) Tryd.underlying134 _ w.heap.size k _ rfl HO2.out (by unfold maxLen; omega) _ _ _ rfl rfl (key_int p.f0 sm.1 sm.2) _ [] (plainElem_bool Tryd.underlying4 true) ?_; intro w3 hown3 hgrow3; have HO3 := Lib.hid hown3; have HG3 := Lib.hid hgrow3; clear hown3 hgrow3)
                go_roundw
                case rel => exact ask_next HG.out HBD.out hlt HP.out HO3.out HB2.out HG3.out
                case measure => simp [intOf]; omega
            · have st' : stands p.f0 pl = false := by simpa using st
              rw [st']
              have hbad : badAt l pl k = true := by unfold badAt; rw [HP.out, st']; simp
              clear st st' hlk
              have hres := chk3_bad l pl k hlt hbad
              have HRS := Lib.hid hres
              clear hres hbad
              go_wp2
              go_ret
              exact ⟨_, rfl, by rw [HRS.out]; exact Dv.Err.no _ 1 (by omega) (by omega), HB2.out⟩
          · have g' : mayP p = false := by simpa using g
            have hmay : may p.f0 p.f1 p.f2 p.f3 = false := g'
            refine (prop_good p.f0 p.f1 p.f2 p.f3 _ HPZ.out.1 HPZ.out.2 (Dv.GTab.below HT.out hB1)).mono ?_
            rintro e w1 ⟨rfl, hb1⟩
            rw [hmay]
            have HB2 := Lib.hid (hB1.then_ hb1)
            have hbad : badAt l pl k = true := by unfold badAt; rw [HP.out, g']; simp
            clear hmay g g' hb1 hB1
            have hres := chk3_bad l pl k hlt hbad
            have HRS := Lib.hid hres
            clear hres hbad
            go_wp2
            go_ret
            exact ⟨_, rfl, by rw [HRS.out]; exact Dv.Err.no _ 1 (by omega) (by omega), HB2.out⟩
    · obtain rfl : k = l.length := by omega
      have d1 : decide (l.length < l.length) = false := decide_eq_false (by omega)
      clear hlt
      by_cases h32 : l.length > 32
      · have HRS := Lib.hid (show chk3 l pl = 2 by unfold chk3; rw [if_neg (fun ⟨i, hi, hb⟩ => by rw [HG.out i hi] at hb; cases hb), if_pos h32])
        have d2 : decide (32 < l.length) = true := decide_eq_true h32
        have d3 : decide ((32 : Int) < (l.length : Int)) = true := decide_eq_true (by omega)
        clear h32
        go_wp2
        go_ret
        exact ⟨_, rfl, by rw [HRS.out]; exact Dv.Err.no _ 2 (by omega) (by omega), HB.out⟩
      · have HRS := Lib.hid (show chk3 l pl = 0 by unfold chk3; rw [if_neg (fun ⟨i, hi, hb⟩ => by rw [HG.out i hi] at hb; cases hb), if_neg h32])
        have d2 : decide (32 < l.length) = false := decide_eq_false h32
        have d3 : decide ((32 : Int) < (l.length : Int)) = false := decide_eq_false (by omega)
        clear h32
        go_wp2
        go_ret
        exact ⟨_, rfl, .inl ⟨rfl, HRS.out⟩, HB.out⟩
end Go.Proofs.YtdnmliidmnfijaaDoor.Q

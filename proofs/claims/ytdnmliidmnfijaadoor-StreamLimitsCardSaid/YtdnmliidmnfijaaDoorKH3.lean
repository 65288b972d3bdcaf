import Derived.Test.YtdnmliidmnfijaaDoorKH2
set_option linter.unusedVariables false
set_option linter.unusedSimpArgs false
namespace Go.Proofs.YtdnmliidmnfijaaDoor.Q
open Go.RowKit Go.Proofs.YtdnmliidmnfijaaDoorW.PrintWords Go.Proofs.YtdnmliidmnfijaaDoorW.PrintLast Go.Proofs.YtdnmliidmnfijaaDoorW.PrintMore
set_option maxRecDepth 100000 in
set_option maxHeartbeats 2000000 in
/-- r.str(text.Get) -/
theorem reader_text (w0 w : World) (g : Nat) (s : RS) (h : Rdr w0 w g s) (hs : s.ok) (hT : Dv.GTab w0) :
    Calls Tryd.prog 38 #[.pointer (some ⟨g, 0, none⟩), .func (.func 39) #[] #[]] w fun e w' => e = .returned (.string (rStr getText s).1) ∧ Rdr w0 w' g (rStr getText s).2 ∧ Kept w w' (· = g) := by
  obtain ⟨A, c, v, hp, he⟩ := h
  have k0 := hp.c0
  have k1 := hp.c1
  by_cases h0 : s.e = 0
  · have hz : rStr getText s = ((getText s.l).1, ⟨s.l.drop (getText s.l).2.1.toNat, (getText s.l).2.2⟩) := by unfold rStr; rw [if_neg (by simpa using h0)]
    rw [hz]
    rw [h0] at he
    obtain rfl := Err_nil he
    have C := Lib.hid (text_Get A c s.l w (Kd.C_below hp.rd hp.below) hp.cap hs.1 (Dv.GTab.below hT hp.below))
    have hg := getText_good s.l hs.1
    obtain ⟨A2, hcut, hr2, hc2⟩ := cutN A c s.l w0 hp.cap hp.rd (getText s.l).2.1 (by omega) (by omega)
    obtain ⟨q2, hq2⟩ : ∃ q2, q2 = s.l.drop (getText s.l).2.1.toNat := ⟨_, rfl⟩
    rw [← hq2] at hcut hr2 hc2 ⊢
    have HP := Lib.hid hp
    have HR2 := Lib.hid hr2
    have HC2 := Lib.hid hc2
    have hm63 := hp.rd.2.1
    clear hz h0 hs hr2 hc2 hg he hq2
    have f0 := hp.fr 0
    have f1 := hp.fr 1
    clear hp
    generalize getText s.l = G at *
    obtain ⟨st, sz, er⟩ := G
    dsimp only at *
    go_enter Tryd.func38, Tryd.ntmps38
    go_wp2_with fail
    refine C.out.mono ?_
    rintro e w1 ⟨v, rfl, he1, hb1⟩
    have HE1 := Lib.hid he1
    have HP1 := Lib.hid (HP.out.after hb1)
    have HK1 := Lib.hid (Kept.of_below hb1 (· = g))
    have k0 := HP1.out.c0
    have k1 := HP1.out.c1
    have f0 := HP1.out.fr 0
    have f1 := HP1.out.fr 1
    clear hb1 C
    rcases Err_form he1 with rfl | ⟨t1, x1, rfl⟩
    · clear he1
      go_wp2
      go_ret
      refine ⟨rfl, ⟨A2, c - sz.toNat, .nilIface, ?_, ?_⟩, ?_⟩
      · exact (HP1.out.set_e _).set_b HR2.out HC2.out
      · exact Err_kept (Err_kept HE1.out (kept_set _ g 1 _) (row_ne HP1.out.hp (by decide))) (kept_set _ g 0 _) (row_ne (HP1.out.set_e _).hp (by decide))
      · exact (HK1.out.setCell (.inl rfl) _).setCell (.inl rfl) _
    · clear he1
      go_wp2
      go_ret
      refine ⟨rfl, ⟨A2, c - sz.toNat, .iface t1 x1, ?_, ?_⟩, ?_⟩
      · exact (HP1.out.set_e _).set_b HR2.out HC2.out
      · exact Err_kept (Err_kept HE1.out (kept_set _ g 1 _) (row_ne HP1.out.hp (by decide))) (kept_set _ g 0 _) (row_ne (HP1.out.set_e _).hp (by decide))
      · exact (HK1.out.setCell (.inl rfl) _).setCell (.inl rfl) _
  · have hz : rStr getText s = (⟨#[]⟩, s) := by unfold rStr; rw [if_pos h0]
    rw [hz]
    obtain ⟨t, x, rfl⟩ := Err_pos he h0
    have HP := Lib.hid hp
    have HE := Lib.hid he
    clear hp he h0 hz hs
    go_enter Tryd.func38, Tryd.ntmps38
    go_wp2
    go_ret
    exact ⟨rfl, ⟨A, c, _, HP.out, HE.out⟩, Kept.refl _ _⟩

theorem get3_size (b : List Int) (pl : Int) (hb : bok b) : 0 ≤ (get3 b pl).2.1 ∧ (get3 b pl).2.1 ≤ b.length ∧ 0 ≤ (get3 b pl).2.2 := by
  unfold get3
  have hg := varGet_good b hb
  split
  · simp; omega
  split
  · simp
  split
  · simp
  · split
    · refine ⟨by simp, by simp, ?_⟩
      unfold chk3
      dsimp only
      repeat' split
      all_goals decide
    · dsimp only
      omega
theorem rProps_ok {s : RS} (h : s.ok) (pl : Int) : (rProps pl s).2.ok := by
  unfold rProps
  split
  · exact h
  · exact ⟨bok_drop h.1 _, (get3_size s.l pl h.1).2.2⟩
set_option maxRecDepth 100000 in
set_option maxHeartbeats 2000000 in
/-- r.props -/
theorem reader_props (w0 w : World) (g : Nat) (s : RS) (pl : Int) (h : Rdr w0 w g s) (hs : s.ok) (hT : Dv.GTab w0) (hlen : s.l.length ≤ 1000000000) :
    Calls Tryd.prog 37 #[.pointer (some ⟨g, 0, none⟩), .int .i64 pl] w fun e w' => ∃ x, e = .returned x ∧ Kd.R k112 112 w' w.heap.size (fun _ => True) x (rProps pl s).1 ∧ Rdr w0 w' g (rProps pl s).2 ∧ Kept w w' (· = g) := by
  obtain ⟨A, c, v, hp, he⟩ := h
  have k0 := hp.c0
  have k1 := hp.c1
  by_cases h0 : s.e = 0
  · have hz : rProps pl s = ((get3 s.l pl).1, ⟨s.l.drop (get3 s.l pl).2.1.toNat, (get3 s.l pl).2.2⟩) := by unfold rProps; rw [if_neg (by simpa using h0)]
    rw [hz]
    rw [h0] at he
    obtain rfl := Err_nil he
    have C := Lib.hid (propGet A c s.l pl w (Kd.C_below hp.rd hp.below) hp.cap hs.1 (Dv.GTab.below hT hp.below) hlen)
    have hg := get3_size s.l pl hs.1
    obtain ⟨A2, hcut, hr2, hc2⟩ := cutN A c s.l w0 hp.cap hp.rd (get3 s.l pl).2.1 (by omega) (by omega)
    obtain ⟨q2, hq2⟩ : ∃ q2, q2 = s.l.drop (get3 s.l pl).2.1.toNat := ⟨_, rfl⟩
    rw [← hq2] at hcut hr2 hc2 ⊢
    have HP := Lib.hid hp
    have HR2 := Lib.hid hr2
    have HC2 := Lib.hid hc2
    have hm63 := hp.rd.2.1
    clear hz h0 hs hr2 hc2 hg he hq2
    have f0 := hp.fr 0
    have f1 := hp.fr 1
    clear hp
    generalize get3 s.l pl = G at *
    obtain ⟨st, sz, er⟩ := G
    dsimp only at *
    go_enter Tryd.func37, Tryd.ntmps37
    go_wp2_with fail
    refine C.out.mono ?_
    rintro e w1 ⟨x, v, rfl, hx, he1, hb1⟩
    have HX := Lib.hid hx
    have HE1 := Lib.hid he1
    have HP1 := Lib.hid (HP.out.after hb1)
    have HK1 := Lib.hid (Kept.of_below hb1 (· = g))
    have HS1 := Lib.hid (show w.heap.size ≤ w1.heap.size from hb1.size)
    have k0 := HP1.out.c0
    have k1 := HP1.out.c1
    have f0 := HP1.out.fr 0
    have f1 := HP1.out.fr 1
    obtain ⟨Ax, cx, hux⟩ := Kd.R_slice hx
    subst hux
    clear hx hb1 C
    rcases Err_form he1 with rfl | ⟨t1, x1, rfl⟩
    · clear he1
      go_wp2
      go_ret
      refine ⟨_, rfl, ?_, ⟨A2, c - sz.toNat, .nilIface, ?_, ?_⟩, ?_⟩
      · have hg1 : g < w.heap.size := HP.out.lt
        refine Kd.R_mono (Kd.R_step (Kd.R_bound HX.out) (fun k hk _ => ?_)) (fun _ hk => trivial)
        have hne : k ≠ g := by have := hk.2.1; omega
        exact (Below.heap_setCell _ ⟨g, 0, none⟩ _ k hne).trans (Below.heap_setCell _ ⟨g, 1, none⟩ _ k hne)
      · exact (HP1.out.set_e _).set_b HR2.out HC2.out
      · exact Err_kept (Err_kept HE1.out (kept_set _ g 1 _) (row_ne HP1.out.hp (by decide))) (kept_set _ g 0 _) (row_ne (HP1.out.set_e _).hp (by decide))
      · exact (HK1.out.setCell (.inl rfl) _).setCell (.inl rfl) _
    · clear he1
      go_wp2
      go_ret
      refine ⟨_, rfl, ?_, ⟨A2, c - sz.toNat, .iface t1 x1, ?_, ?_⟩, ?_⟩
      · have hg1 : g < w.heap.size := HP.out.lt
        refine Kd.R_mono (Kd.R_step (Kd.R_bound HX.out) (fun k hk _ => ?_)) (fun _ hk => trivial)
        have hne : k ≠ g := by have := hk.2.1; omega
        exact (Below.heap_setCell _ ⟨g, 0, none⟩ _ k hne).trans (Below.heap_setCell _ ⟨g, 1, none⟩ _ k hne)
      · exact (HP1.out.set_e _).set_b HR2.out HC2.out
      · exact Err_kept (Err_kept HE1.out (kept_set _ g 1 _) (row_ne HP1.out.hp (by decide))) (kept_set _ g 0 _) (row_ne (HP1.out.set_e _).hp (by decide))
      · exact (HK1.out.setCell (.inl rfl) _).setCell (.inl rfl) _
  · have hz : rProps pl s = ([], s) := by unfold rProps; rw [if_pos h0]
    rw [hz]
    obtain ⟨t, x, rfl⟩ := Err_pos he h0
    have HP := Lib.hid hp
    have HE := Lib.hid he
    clear hp he h0 hz hs
    go_enter Tryd.func37, Tryd.ntmps37
    go_wp2
    go_ret
    exact ⟨_, rfl, Kd.R_nil _ _ _ _ _, ⟨A, c, _, HP.out, HE.out⟩, Kept.refl _ _⟩
end Go.Proofs.YtdnmliidmnfijaaDoor.Q

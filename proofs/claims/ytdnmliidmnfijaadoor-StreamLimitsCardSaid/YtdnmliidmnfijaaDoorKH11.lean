import Derived.Test.YtdnmliidmnfijaaDoorKH10
set_option linter.unusedVariables false
set_option linter.unusedSimpArgs false
namespace Go.Proofs.YtdnmliidmnfijaaDoor.Q
open Go.RowKit Go.Proofs.YtdnmliidmnfijaaDoorW.PrintWords Go.Proofs.YtdnmliidmnfijaaDoorW.PrintLast Go.Proofs.YtdnmliidmnfijaaDoorW.PrintMore
set_option maxRecDepth 100000 in
set_option maxHeartbeats 4000000 in
/-- s.Feed where the bytes wait -/
theorem feed_short (w : World) (g : Nat) (lim : Int) (A A0 : Option Addr) (c c0 : Nat) (b x : List Int) (h : SP w g lim A c b .nilIface) (hx : Kd.C (Kd.int .u8) w A0 x.length x) (hlen : b.length + x.length ≤ 1000000000) (hbok : bok (b ++ x)) (he : pkSize (b ++ x) = (0, 3) ∨ pkSize (b ++ x) = (1, 3)) :
    Calls Tryd.prog 5 #[.pointer (some ⟨g, 0, none⟩), .slice A0 x.length c0] w fun e w' => ∃ A' c', e = .returned (.tuple #[nilS, .nilIface]) ∧ SP w' g lim A' c' (b ++ x) .nilIface ∧ w.grownBy w' (some g) := by
  have k1 := h.c1
  have k2 := h.c2
  have H := Lib.hid h
  have HX := Lib.hid hx
  have hm63 := h.C.2.1
  have hmx := hx.2.1
  have HL := Lib.hid hlen
  have C := Lib.hid (clone_bytes A c b w h.C h.cap (by omega))
  obtain ⟨bx, hbx⟩ : ∃ bx, b ++ x = bx := ⟨_, rfl⟩
  rw [hbx] at he hbok ⊢
  have HBX := Lib.hid hbx
  have HBK := Lib.hid hbok
  have HEE := Lib.hid he
  clear h hx hbx hlen hbok he
  go_enter Tryd.func5, Tryd.ntmps5
  go_wp2_with fail
  refine C.out.mono ?_
  rintro e w1 ⟨v1, rfl, hx1, hb1⟩
  obtain ⟨A1, c1, hu1⟩ := Kd.R_slice hx1
  subst hu1
  have HX1 := Lib.hid hx1
  have HB1 := Lib.hid hb1
  clear hx1 hb1 C k1 k2
  go_wp2_with (first | ((with_reducible refine gate_builtin (b := .append) (xs := #[.tmp 22, .tmp 23]) rfl ?_); at_builtin; go_must (refine Kd.R_append_row (Value.int .u8) 0 (h1 := fun _ => rfl) (w0 := w) w.heap.size rfl (.tmp 22) (.tmp 23) 25 5 (.int .u8 0) 1 rfl Tryd.underlying25 qinfo5 rfl (by omega) (.slice A1 b.length c1) b x _ x.length _ (fun _ => True) rfl rfl (fun _ _ => trivial) HX1.out (Kd.C_below HX.out HB1.out) HB1.out HB1.out.size (by have := HL.out; omega) ?_); intro v2 w2 ho2 hb2 hg2 hat2; obtain ⟨A2, c2, hu2⟩ := Kd.R_slice ho2; subst hu2; have HO2 := Lib.hid ho2; have HB2 := Lib.hid hb2; have m1 := (H.out.after hb2).c1; have mf1 := (H.out.after hb2).fr 1; clear ho2 hb2 hg2 hat2))
  have hro : Kd.R (Kd.int .u8) 5 w2 w.heap.size (fun k => k ≠ g) (.slice A2 (b ++ x).length c2) (b ++ x) := Kd.R_mono (Kd.R_bound HO2.out) (fun k hk => by have := hk.2.1; have := H.out.lt; omega)
  have hsp2 := (H.out.after HB2.out).set_b (A' := A2) (c' := c2) (b' := b ++ x) (Kd.C_kept_own hro (fun k hk h => hk h)) (Kd.R_reads' hro).2.1
  have hK2 : Kept w (w2.setCell ⟨g, 1, none⟩ (.slice A2 (b ++ x).length c2)) (· = g) := (Kept.of_below HB2.out (· = g)).setCell (.inl rfl) _
  have hg2' : w.grownBy (w2.setCell ⟨g, 1, none⟩ (.slice A2 (b ++ x).length c2)) (some g) := grown_of hK2 HB2.out.os HB2.out.tape HB2.out.output
  have hW : w2.setCell ⟨g, 1, none⟩ (.slice A2 (b ++ x).length c2) = w2.setCell ⟨g, 1, none⟩ (.slice A2 (b.length + x.length) c2) := by rw [List.length_append]
  rw [hW] at hsp2 hg2'
  rw [HBX.out] at hsp2
  have HSP2 := Lib.hid hsp2
  have HG2 := Lib.hid hg2'
  clear hsp2 hK2 hro HO2 m1 mf1 hg2' hW
  refine wp_loop_rounds 1 ?_
  rw [rounds_succ]
  go_wp2_with fail
  generalize w2.setCell ⟨g, 1, none⟩ (.slice A2 (b.length + x.length) c2) = W2 at *
  refine (next_bad W2 g lim A2 c2 bx .nilIface HSP2.out HBK.out 3 (by rcases HEE.out with h | h <;> rw [h] <;> rfl) (by decide)).mono ?_
  rintro e w3 ⟨u, rfl, hu, hb3⟩
  obtain ⟨t, y, rfl⟩ := Err_iface hu (by decide)
  have HU := Lib.hid (Err_kept hu (Kept.of_below (below_alloc (Below.refl w3.heap.size w3) (.cells (pkN pkZ) 40)) (fun _ => False)) (fun _ hk => hk.elim))
  have HB3 := Lib.hid (hb3.then_ (below_alloc (Below.refl w3.heap.size w3) (.cells (pkN pkZ) 40)))
  clear hu hb3
  go_upto_region 7 with (refine wpList_store_row rfl 40 _ _ rfl w3.heap.size _ rfl rfl 40 _ (heap_alloc_new w3 _) (by kernel_rfl) rfl (by simp [pkN, pkC, Value.oneCell']) ?_; rw [World.setRow_alloc_new])
  go_wp2_with fail
  refine (Dv.Is_any _ 3 3 _ HU.out (by decide)).mono ?_
  rintro e w6 ⟨rfl, rfl⟩
  go_wp2
  go_ret2
  exact ⟨A2, c2, rfl, HSP2.out.after HB3.out, grown_trans HG2.out (grown_below HB3.out _)⟩
set_option maxRecDepth 100000 in
set_option maxHeartbeats 4000000 in
/-- s.Feed where the bytes are refused -/
theorem feed_bad (w : World) (g : Nat) (lim : Int) (A A0 : Option Addr) (c c0 : Nat) (b x : List Int) (h : SP w g lim A c b .nilIface) (hx : Kd.C (Kd.int .u8) w A0 x.length x) (hlen : b.length + x.length ≤ 1000000000) (hbok : bok (b ++ x)) (e : Int) (he : e = if (pkSize (b ++ x)).2 = 0 ∧ lim < (pkSize (b ++ x)).1 then 2 else (pkSize (b ++ x)).2) (he0 : e ≠ 0) (he3 : e ≠ 3) :
    Calls Tryd.prog 5 #[.pointer (some ⟨g, 0, none⟩), .slice A0 x.length c0] w fun e' w' => ∃ u, e' = .returned (.tuple #[nilS, u]) ∧ Dv.Err w' u e ∧ SP w' g lim none 0 [] u ∧ w.grownBy w' (some g) := by
  have HE0 := Lib.hid he0
  have HE3 := Lib.hid he3
  clear he0 he3
  have k1 := h.c1
  have k2 := h.c2
  have H := Lib.hid h
  have HX := Lib.hid hx
  have hm63 := h.C.2.1
  have hmx := hx.2.1
  have HL := Lib.hid hlen
  have C := Lib.hid (clone_bytes A c b w h.C h.cap (by omega))
  obtain ⟨bx, hbx⟩ : ∃ bx, b ++ x = bx := ⟨_, rfl⟩
  rw [hbx] at he hbok
  have HBX := Lib.hid hbx
  have HBK := Lib.hid hbok
  have HEE := Lib.hid he
  clear h hx hbx hlen hbok he
  go_enter Tryd.func5, Tryd.ntmps5
  go_wp2_with fail
  refine C.out.mono ?_
  rintro e w1 ⟨v1, rfl, hx1, hb1⟩
  obtain ⟨A1, c1, hu1⟩ := Kd.R_slice hx1
  subst hu1
  have HX1 := Lib.hid hx1
  have HB1 := Lib.hid hb1
  clear hx1 hb1 C k1 k2
  go_wp2_with (first | ((with_reducible refine gate_builtin (b := .append) (xs := #[.tmp 22, .tmp 23]) rfl ?_); at_builtin; go_must (refine Kd.R_append_row (Value.int .u8) 0 (h1 := fun _ => rfl) (w0 := w) w.heap.size rfl (.tmp 22) (.tmp 23) 25 5 (.int .u8 0) 1 rfl Tryd.underlying25 qinfo5 rfl (by omega) (.slice A1 b.length c1) b x _ x.length _ (fun _ => True) rfl rfl (fun _ _ => trivial) HX1.out (Kd.C_below HX.out HB1.out) HB1.out HB1.out.size (by have := HL.out; omega) ?_); intro v2 w2 ho2 hb2 hg2 hat2; obtain ⟨A2, c2, hu2⟩ := Kd.R_slice ho2; subst hu2; have HO2 := Lib.hid ho2; have HB2 := Lib.hid hb2; have m1 := (H.out.after hb2).c1; have mf1 := (H.out.after hb2).fr 1; clear ho2 hb2 hg2 hat2))
  have hro : Kd.R (Kd.int .u8) 5 w2 w.heap.size (fun k => k ≠ g) (.slice A2 (b ++ x).length c2) (b ++ x) := Kd.R_mono (Kd.R_bound HO2.out) (fun k hk => by have := hk.2.1; have := H.out.lt; omega)
  have hsp2 := (H.out.after HB2.out).set_b (A' := A2) (c' := c2) (b' := b ++ x) (Kd.C_kept_own hro (fun k hk h => hk h)) (Kd.R_reads' hro).2.1
  have hK2 : Kept w (w2.setCell ⟨g, 1, none⟩ (.slice A2 (b ++ x).length c2)) (· = g) := (Kept.of_below HB2.out (· = g)).setCell (.inl rfl) _
  have hg2' : w.grownBy (w2.setCell ⟨g, 1, none⟩ (.slice A2 (b ++ x).length c2)) (some g) := grown_of hK2 HB2.out.os HB2.out.tape HB2.out.output
  have hW : w2.setCell ⟨g, 1, none⟩ (.slice A2 (b ++ x).length c2) = w2.setCell ⟨g, 1, none⟩ (.slice A2 (b.length + x.length) c2) := by rw [List.length_append]
  rw [hW] at hsp2 hg2'
  rw [HBX.out] at hsp2
  have HSP2 := Lib.hid hsp2
  have HG2 := Lib.hid hg2'
  clear hsp2 hK2 hro HO2 m1 mf1 hg2' hW
  refine wp_loop_rounds 1 ?_
  rw [rounds_succ]
  go_wp2_with fail
  generalize w2.setCell ⟨g, 1, none⟩ (.slice A2 (b.length + x.length) c2) = W2 at *
  refine (next_bad W2 g lim A2 c2 bx .nilIface HSP2.out HBK.out e HEE.out HE0.out).mono ?_
  rintro _ w3 ⟨u, rfl, hu, hb3⟩
  obtain ⟨t, y, rfl⟩ := Err_iface hu HE0.out
  have HU := Lib.hid (Err_kept hu (Kept.of_below (below_alloc (Below.refl w3.heap.size w3) (.cells (pkN pkZ) 40)) (fun _ => False)) (fun _ hk => hk.elim))
  have HB3 := Lib.hid (hb3.then_ (below_alloc (Below.refl w3.heap.size w3) (.cells (pkN pkZ) 40)))
  clear hu hb3
  go_upto_region 7 with (refine wpList_store_row rfl 40 _ _ rfl w3.heap.size _ rfl rfl 40 _ (heap_alloc_new w3 _) (by kernel_rfl) rfl (by simp [pkN, pkC, Value.oneCell']) ?_; rw [World.setRow_alloc_new])
  generalize w3.alloc (.cells (pkN pkZ) 40) = W4 at *
  go_wp2_with fail
  refine (Dv.Is_any _ e 3 _ HU.out (by decide)).mono ?_
  rintro _ w6 ⟨rfl, rfl⟩
  have e3 : (e == 3) = false := beq_eq_false_iff_ne.2 HE3.out
  rw [e3]
  go_wp2_with fail
  refine (Dv.fail_At _ _ _ _ HU.out).mono ?_
  rintro _ w7 ⟨v7, rfl, he7, hb7⟩
  obtain ⟨t7, y7, rfl⟩ := Err_iface he7 HE0.out
  have HE7 := Lib.hid he7
  have sp7 := (HSP2.out.after HB3.out).after hb7
  have n1 := sp7.c1
  have n2 := sp7.c2
  have nf1 := sp7.fr 1
  have nf2 := sp7.fr 2
  have HB7 := Lib.hid hb7
  have HSP7 := Lib.hid sp7
  clear he7 hb7 sp7 e3
  go_upto_region 6 with fail
  have hspe := (HSP7.out.set_b (A' := none) (c' := 0) (b' := []) (fun W' _ => Kd.C_nil (Kd.int .u8) W') (Nat.le_refl _)).set_e (.iface t7 y7)
  have hue := Err_kept (Err_kept HE7.out (kept_set _ g 1 nilS) (row_ne HSP7.out.hp (by decide))) (kept_set _ g 2 (.iface t7 y7)) (row_ne (HSP7.out.set_b (A' := none) (c' := 0) (b' := []) (fun W' _ => Kd.C_nil (Kd.int .u8) W') (Nat.le_refl _)).hp (by decide))
  have hke := ((Kept.of_row (grown_trans (grown_trans HG2.out (grown_below HB3.out _)) (grown_below HB7.out _))).setCell (p := ⟨g, 1, none⟩) (.inl rfl) nilS).setCell (p := ⟨g, 2, none⟩) (.inl rfl) (.iface t7 y7)
  have hge := grown_trans (grown_trans HG2.out (grown_below HB3.out _)) (grown_below HB7.out (some g))
  have HSE := Lib.hid hspe
  have HUE := Lib.hid hue
  have HGE := Lib.hid (grown_of hke (show ((w7.setCell ⟨g, 1, none⟩ nilS).setCell ⟨g, 2, none⟩ (.iface t7 y7)).os = w.os from hge.os) (show ((w7.setCell ⟨g, 1, none⟩ nilS).setCell ⟨g, 2, none⟩ (.iface t7 y7)).tape = w.tape from hge.tape) (show ((w7.setCell ⟨g, 1, none⟩ nilS).setCell ⟨g, 2, none⟩ (.iface t7 y7)).output = w.output from hge.output))
  have p2 := hspe.c2
  clear hspe hue hke hge n1 n2 nf1 nf2
  change Code.wp _ _ _ _ ((w7.setCell ⟨g, 1, none⟩ nilS).setCell ⟨g, 2, none⟩ (.iface t7 y7))
  generalize (w7.setCell ⟨g, 1, none⟩ nilS).setCell ⟨g, 2, none⟩ (.iface t7 y7) = W8 at *
  go_quiet (fail)
  go_wp2
  go_ret2
  have hd := fun n => Drawn0.below (w := W8) (w' := W8.drewN n) ⟨⟨n, rfl⟩⟩
  exact ⟨_, rfl, Err_kept HUE.out (Kept.of_below (hd _) (fun _ => False)) (fun _ hk => hk.elim), HSE.out.after (hd _), grown_trans HGE.out (grown_below (hd _) _)⟩
set_option maxRecDepth 100000 in
set_option maxHeartbeats 4000000 in
/-- s.Feed behind an error -/
theorem feed_err (w : World) (g : Nat) (lim : Int) (A A0 : Option Addr) (c c0 n : Nat) (b : List Int) (t : TypeId) (y : Value) (h : SP w g lim A c b (.iface t y)) :
    Calls Tryd.prog 5 #[.pointer (some ⟨g, 0, none⟩), .slice A0 n c0] w fun e' w' => e' = .returned (.tuple #[nilS, .iface t y]) ∧ Below w.heap.size w w' := by
  have k2 := h.c2
  clear h
  go_enter Tryd.func5, Tryd.ntmps5
  go_wp2_with fail
  go_quiet (fail)
  go_wp2
  go_ret2
  exact ⟨rfl, Drawn0.below ⟨⟨_, rfl⟩⟩⟩
end Go.Proofs.YtdnmliidmnfijaaDoor.Q

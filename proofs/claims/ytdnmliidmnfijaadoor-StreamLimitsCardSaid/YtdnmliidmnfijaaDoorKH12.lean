import Derived.Test.YtdnmliidmnfijaaDoorKH11
set_option linter.unusedVariables false
set_option linter.unusedSimpArgs false
namespace Go.Proofs.YtdnmliidmnfijaaDoor.Q
open Go.RowKit Go.Proofs.YtdnmliidmnfijaaDoorW.PrintWords Go.Proofs.YtdnmliidmnfijaaDoorW.PrintLast Go.Proofs.YtdnmliidmnfijaaDoorW.PrintMore
set_option maxRecDepth 100000 in
set_option maxHeartbeats 4000000 in
/-- s.Feed where just one packet is whole -/
theorem feed_one (w0 w : World) (hB0 : Below w0.heap.size w0 w) (g : Nat) (hg0 : w0.heap.size ≤ g) (lim : Int) (A A0 : Option Addr) (c c0 : Nat) (b x : List Int) (h : SP w g lim A c b .nilIface) (hx : Kd.C (Kd.int .u8) w A0 x.length x) (hlen : b.length + x.length ≤ 1000000000) (hbok : bok (b ++ x)) (n : Int) (hz : pkSize (b ++ x) = (n, 0)) (hl : n ≤ lim) (hn : n = (b ++ x).length) (p' : Pk)
    (HD : ∀ W A' c', Below w0.heap.size w0 W → Kd.C (Kd.int .u8) W A' (b ++ x).length (b ++ x) → (b ++ x).length ≤ c' → Calls Tryd.prog 16 #[.slice A' (b ++ x).length c'] W fun e w' => ∃ cs, e = .returned (.tuple #[.agg cs, .int .i64 n, .nilIface]) ∧ kPk.M w' W.heap.size (fun _ => True) p' cs.toList ∧ Below W.heap.size W w') :
    Calls Tryd.prog 5 #[.pointer (some ⟨g, 0, none⟩), .slice A0 x.length c0] w fun e' w' => ∃ v A' c', e' = .returned (.tuple #[v, .nilIface]) ∧ Kd.R kPk 40 w' w.heap.size (fun _ => True) v [p'] ∧ SP w' g lim A' c' [] .nilIface ∧ w.grownBy w' (some g) := by
  have k1 := h.c1
  have k2 := h.c2
  have H := Lib.hid h
  have HX := Lib.hid hx
  have hm63 := h.C.2.1
  have hmx := hx.2.1
  have HL := Lib.hid hlen
  have C := Lib.hid (clone_bytes A c b w h.C h.cap (by omega))
  obtain ⟨bx, hbx⟩ : ∃ bx, b ++ x = bx := ⟨_, rfl⟩
  rw [hbx] at hz hn HD hbok
  have HBX := Lib.hid hbx
  have HBK := Lib.hid hbok
  have HEE := Lib.hid (And.intro hz (And.intro hl hn))
  have HDD := Lib.hid HD
  clear h hx hbx hlen hbok hz hn HD hl
  go_enter Tryd.func5, Tryd.ntmps5
  go_wp2_with fail
  refine C.out.mono ?_
  rintro e w1 ⟨v1, rfl, hx1, hb1⟩
  obtain ⟨A1, c1, hu1⟩ := Kd.R_slice hx1
  subst hu1
  have HX1 := Lib.hid hx1
  have HB1 := Lib.hid hb1
  clear hx1 hb1 C k1 k2
  go_wp2_with (first | ((with_reducible refine gate_builtin (b := .append) (xs := #[.tmp 22, .tmp 23]) rfl ?_); at_builtin; go_must (refine Kd.R_append_row (Value.int .u8) 0 (h1 := fun _ => rfl) (w0 := w) w.heap.size rfl (.tmp 22) (.tmp 23) 25 5 (.int .u8 0) 1 rfl Tryd.underlying25 qinfo5 rfl (by omega) (.slice A1 b.length c1) b x _ x.length _ (fun _ => True) rfl rfl (fun _ _ => trivial) HX1.out (Kd.C_below HX.out HB1.out) HB1.out HB1.out.size (by have := HL.out; omega) ?_); intro v2 w2 ho2 hb2 hg2 hat2; obtain ⟨A2, c2, hu2⟩ := Kd.R_slice ho2; subst hu2; have HO2 := Lib.hid ho2; have HB2 := Lib.hid hb2; have m1 := (H.out.after hb2).c1; have mf1 := (H.out.after hb2).fr 1; clear ho2 hb2 hg2 hat2))
  have hro : Kd.R (Kd.int .u8) 5 w2 w.heap.size (fun k => k ≠ g) (.slice A2 (b ++ x).length c2) (b ++ x) := Kd.R_mono (Kd.R_bound HO2.out) (fun k hk => by have := hk.2.1; have := H.out.lt; omega)
  have hsp2 := (H.out.after HB2.out).set_b (A' := A2) (c' := c2) (b' := b ++ x) (Kd.C_kept_own hro (fun k hk h => hk h)) (Kd.R_reads' hro).2.1
  have hK2 : Kept w (w2.setCell ⟨g, 1, none⟩ (.slice A2 (b ++ x).length c2)) (· = g) := (Kept.of_below HB2.out (· = g)).setCell (.inl rfl) _
  have hg2' : w.grownBy (w2.setCell ⟨g, 1, none⟩ (.slice A2 (b ++ x).length c2)) (some g) := grown_of hK2 HB2.out.os HB2.out.tape HB2.out.output
  have hW : w2.setCell ⟨g, 1, none⟩ (.slice A2 (b ++ x).length c2) = w2.setCell ⟨g, 1, none⟩ (.slice A2 (b.length + x.length) c2) := by rw [List.length_append]
  rw [hW] at hsp2 hg2'
  rw [HBX.out] at hsp2
  have HSP2 := Lib.hid hsp2
  have HG2 := Lib.hid hg2'
  clear hsp2 hK2 hro HO2 m1 mf1 hg2' hW
  refine wp_loop_rounds 2 ?_
  rw [rounds_succ]
  go_wp2_with fail
  generalize w2.setCell ⟨g, 1, none⟩ (.slice A2 (b.length + x.length) c2) = W2 at *
  have HBW := Lib.hid (hB0.grown HG2.out hB0.size (fun k hk => by injection hk with hk; rw [← hk]; exact hg0))
  have hnb : n = bx.length := HEE.out.2.2
  refine (next_ok W2 g lim A2 c2 bx .nilIface HSP2.out HBK.out n HEE.out.1 HEE.out.2.1 (by omega) (by omega) p' (fun W hW => HDD.out W A2 c2 (HBW.out.then_ hW) (HSP2.out.rd W (Kept.of_below hW _)) HSP2.out.cap)).mono ?_
  rintro _ w3 ⟨cs, A3, c3, rfl, hM3, hsp3, hg3⟩
  rw [show bx.drop n.toNat = [] by rw [hnb]; simp] at hsp3
  obtain ⟨p1, p2, p3, p4, p5, p6, p7, hcs, -⟩ := kPk_openM hM3
  obtain ⟨csl⟩ := cs
  change csl = _ at hcs
  subst hcs
  have HSZ := Lib.hid (kPk_size hM3)
  have HG3 := Lib.hid (grown_trans HG2.out hg3)
  have HM3 := Lib.hid (kPk.M_lower HG2.out.size hM3)
  have HSP3 := Lib.hid hsp3
  clear hM3 hsp3 hg3 hnb
  go_upto_region 7 with (refine wpList_store_row rfl 40 _ _ rfl w3.heap.size (#[.int .i64 p'.kind, .bool p'.dup, .int .i64 p'.qos, .bool p'.retain, .string p'.topic, .int .i64 p'.id, .string p'.payload, p1, .string p'.client, .bool p'.clean, .int .i64 p'.keep, p2, p3, p4, .int .i64 p'.code, .bool p'.session, p5, p6, p7]) rfl rfl 40 _ (heap_alloc_new w3 _) (by rw [HSZ.out.1]; kernel_rfl) (by rw [HSZ.out.1]; rfl) HSZ.out.2 ?_; rw [World.setRow_alloc_new])
  have HQ4 := Lib.hid (show PRow (w3.alloc (.cells (#[.int .i64 p'.kind, .bool p'.dup, .int .i64 p'.qos, .bool p'.retain, .string p'.topic, .int .i64 p'.id, .string p'.payload, p1, .string p'.client, .bool p'.clean, .int .i64 p'.keep, p2, p3, p4, .int .i64 p'.code, .bool p'.session, p5, p6, p7]) 40)) w3.heap.size (#[.int .i64 p'.kind, .bool p'.dup, .int .i64 p'.qos, .bool p'.retain, .string p'.topic, .int .i64 p'.id, .string p'.payload, p1, .string p'.client, .bool p'.clean, .int .i64 p'.keep, p2, p3, p4, .int .i64 p'.code, .bool p'.session, p5, p6, p7]) from heap_alloc_new w3 _)
  have HM4 := Lib.hid (Kd.M_below HM3.out (below_alloc (Below.refl _ _) (.cells (#[.int .i64 p'.kind, .bool p'.dup, .int .i64 p'.qos, .bool p'.retain, .string p'.topic, .int .i64 p'.id, .string p'.payload, p1, .string p'.client, .bool p'.clean, .int .i64 p'.keep, p2, p3, p4, .int .i64 p'.code, .bool p'.session, p5, p6, p7]) 40)))
  have HSP4 := Lib.hid (HSP3.out.after (below_alloc (Below.refl _ _) (.cells (#[.int .i64 p'.kind, .bool p'.dup, .int .i64 p'.qos, .bool p'.retain, .string p'.topic, .int .i64 p'.id, .string p'.payload, p1, .string p'.client, .bool p'.clean, .int .i64 p'.keep, p2, p3, p4, .int .i64 p'.code, .bool p'.session, p5, p6, p7]) 40)))
  have HG4 := Lib.hid (grown_trans HG3.out (grown_below (below_alloc (Below.refl _ _) (.cells (#[.int .i64 p'.kind, .bool p'.dup, .int .i64 p'.qos, .bool p'.retain, .string p'.topic, .int .i64 p'.id, .string p'.payload, p1, .string p'.client, .bool p'.clean, .int .i64 p'.keep, p2, p3, p4, .int .i64 p'.code, .bool p'.session, p5, p6, p7]) 40)) _))
  generalize w3.alloc (.cells (#[.int .i64 p'.kind, .bool p'.dup, .int .i64 p'.qos, .bool p'.retain, .string p'.topic, .int .i64 p'.id, .string p'.payload, p1, .string p'.client, .bool p'.clean, .int .i64 p'.keep, p2, p3, p4, .int .i64 p'.code, .bool p'.session, p5, p6, p7]) 40) = W4 at *
  generalize w3.heap.size = q4 at *
  clear HSP3 HM3
  go_upto_region 8 with fail
  go_wp2_with (first | ((with_reducible refine gate_builtin (b := .append) (xs := #[.tmp 48, .tmp 50]) rfl ?_); at_builtin; go_must (refine Kd.R_append kPk (w0 := W4) (W := W4) w.heap.size rfl (.tmp 48) (.tmp 50) 28 40 (.agg (pkN pkZ)) 288 rfl Tryd.underlying28 infoPk rfl (by decide) (by omega) (.slice none 0 0) [] p' [.int .i64 p'.kind, .bool p'.dup, .int .i64 p'.qos, .bool p'.retain, .string p'.topic, .int .i64 p'.id, .string p'.payload, p1, .string p'.client, .bool p'.clean, .int .i64 p'.keep, p2, p3, p4, .int .i64 p'.code, .bool p'.session, p5, p6, p7] (fun _ => True) (fun _ => True) rfl rfl HM4.out (fun _ _ => ⟨trivial, by simp [Value.ownBlock]⟩) (fun _ _ => trivial) (Kd.R_nil _ _ _ _ _) (Below.refl _ _) HG4.out.size (by simp) ?_); intro v5 w5 ho5 hb5 hg5 hat5; obtain ⟨A5, c5, hu5⟩ := Kd.R_slice ho5; subst hu5; have HO5 := Lib.hid ho5; have HG5 := Lib.hid hg5; clear ho5 hb5 hg5 hat5) | (refine wpList_load_row rfl 40 _ rfl q4 rfl 40 (#[.int .i64 p'.kind, .bool p'.dup, .int .i64 p'.qos, .bool p'.retain, .string p'.topic, .int .i64 p'.id, .string p'.payload, p1, .string p'.client, .bool p'.clean, .int .i64 p'.keep, p2, p3, p4, .int .i64 p'.code, .bool p'.session, p5, p6, p7]) (0, 0) _ HQ4.out Tryd.underlying40 rfl (by rw [HSZ.out.1]; kernel_rfl) ?_))
  have hb5 : Below W4.heap.size W4 w5 := ⟨HG5.out.os, HG5.out.tape, HG5.out.output, HG5.out.size, fun k hk => HG5.out.block k hk (by simp [Value.ownBlock])⟩
  have HSP5 := Lib.hid (HSP4.out.after hb5)
  have HGG5 := Lib.hid (grown_trans HG4.out (grown_below hb5 _))
  clear hb5 HG5 HSP4 HG4 HQ4 HM4 HSZ
  rw [rounds_succ]
  go_wp2_with fail
  refine (next_bad w5 g lim A3 c3 [] .nilIface HSP5.out (fun x hx => by cases hx) 3 (by rfl) (by decide)).mono ?_
  rintro _ w3 ⟨u, rfl, hu, hb3⟩
  obtain ⟨t, y, rfl⟩ := Err_iface hu (by decide)
  have HU := Lib.hid (Err_kept hu (Kept.of_below (below_alloc (Below.refl w3.heap.size w3) (.cells (pkN pkZ) 40)) (fun _ => False)) (fun _ hk => hk.elim))
  have HB3 := Lib.hid (hb3.then_ (below_alloc (Below.refl w3.heap.size w3) (.cells (pkN pkZ) 40)))
  clear hu hb3
  go_upto_region 7 with (refine wpList_store_row rfl 40 _ _ rfl w3.heap.size _ rfl rfl 40 _ (heap_alloc_new w3 _) (by kernel_rfl) rfl (by simp [pkN, pkC, Value.oneCell']) ?_; rw [World.setRow_alloc_new])
  go_wp2_with fail
  refine (Dv.Is_any _ 3 3 _ HU.out (by decide)).mono ?_
  rintro e w6 ⟨rfl, rfl⟩
  go_wp2
  go_ret2
  exact ⟨_, A3, c3, rfl, Kd.R_below HO5.out HB3.out, HSP5.out.after HB3.out, grown_trans HGG5.out (grown_below HB3.out _)⟩
end Go.Proofs.YtdnmliidmnfijaaDoor.Q

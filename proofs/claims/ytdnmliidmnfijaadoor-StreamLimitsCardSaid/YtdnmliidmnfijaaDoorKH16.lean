import Derived.Test.YtdnmliidmnfijaaDoorKH15
set_option linter.unusedVariables false
set_option linter.unusedSimpArgs false
namespace Go.Proofs.YtdnmliidmnfijaaDoor.Q
open Go.RowKit Go.Proofs.YtdnmliidmnfijaaDoorW.PrintWords Go.Proofs.YtdnmliidmnfijaaDoorW.PrintLast Go.Proofs.YtdnmliidmnfijaaDoorW.PrintMore
theorem kPk_ping {w : World} {cs : List Value} (h : kPk.K w pk192 cs) : ∃ A1 A2 A3 A4 A5 A6 A7 c1 c2 c3 c4 c5 c6 c7, cs = [.int .i64 12, .bool false, .int .i64 0, .bool false, .string ⟨#[]⟩, .int .i64 0, .string ⟨#[]⟩, .slice A1 0 c1, .string ⟨#[]⟩, .bool false, .int .i64 0, .slice A2 0 c2, .slice A3 0 c3, .slice A4 0 c4, .int .i64 0, .bool false, .slice A5 0 c5, .slice A6 0 c6, .slice A7 0 c7] ∧ Kd.C k112 w A1 0 [] ∧ Kd.C k115 w A2 0 [] ∧ Kd.C Kd.string w A3 0 [] ∧ Kd.C Kd.string w A4 0 [] ∧ Kd.C k117 w A5 0 [] ∧ Kd.C Kd.string w A6 0 [] ∧ Kd.C (Kd.int .i64) w A7 0 [] := by
  obtain ⟨_, _, rfl, rfl, ⟨_, _, rfl, rfl, ⟨_, _, rfl, rfl, ⟨_, _, rfl, rfl, ⟨_, _, rfl, rfl, ⟨_, _, rfl, rfl, ⟨_, _, rfl, rfl, ⟨_, _, rfl, ⟨A1, c1, rfl, _, h1⟩, ⟨_, _, rfl, rfl, ⟨_, _, rfl, rfl, ⟨_, _, rfl, rfl, ⟨_, _, rfl, ⟨A2, c2, rfl, _, h2⟩, ⟨_, _, rfl, ⟨A3, c3, rfl, _, h3⟩, ⟨_, _, rfl, ⟨A4, c4, rfl, _, h4⟩, ⟨_, _, rfl, rfl, ⟨_, _, rfl, rfl, ⟨_, _, rfl, ⟨A5, c5, rfl, _, h5⟩, ⟨_, _, rfl, ⟨A6, c6, rfl, _, h6⟩, ⟨A7, c7, rfl, _, h7⟩⟩⟩⟩⟩⟩⟩⟩⟩⟩⟩⟩⟩⟩⟩⟩⟩⟩⟩ := h
  exact ⟨A1, A2, A3, A4, A5, A6, A7, c1, c2, c3, c4, c5, c6, c7, rfl, h1, h2, h3, h4, h5, h6, h7⟩
theorem C_row {W : World} {g t : Nat} {fr : Nat × Nat} {cs : Array Value} (xs : List Int) (h : W.heap[g]? = some (.cells cs t fr)) (hl : xs.length ≤ 9223372036854775807) (hc : ∀ j, j < xs.length → cs[j]? = some (.int .u8 (xs.getD j 0))) : Kd.C (Kd.int .u8) W (some ⟨g, 0, none⟩) xs.length xs := by
  refine Kd.C_of_reads (d := (0 : Int)) (h1 := fun _ => rfl) ⟨rfl, hl, fun _ => ⟨_, rfl, fun j hj => ?_⟩⟩
  rw [add_plain, ← hc j hj]
  simpa using cell_of_row W g j cs t fr h
theorem C_lit1 (W : World) (x : Int) : Kd.C (Kd.int .u8) (W.alloc (.cells #[.int .u8 x] 5)) (some ⟨W.heap.size, 0, none⟩) ([x] : List Int).length [x] := by
  refine C_row [x] (heap_alloc_new _ _) (by simp) (fun j hj => ?_)
  have : j = 0 := by simpa using hj
  subst this
  rfl
set_option maxRecDepth 100000 in
set_option maxHeartbeats 4000000 in
theorem law5_num (v : Value) (n : Int) (w : World) (hG : Dv.GErr w) (hv : Dv.Err w v n) :
    Calls Tryd.prog 6 #[v] w fun e w' => e = .returned (.int .i64 n) ∧ Below w.heap.size w w' := by
  have C := Lib.hid (Dv.Num_any v n w hG hv)
  clear hG hv
  go_enter Tryd.func6, Tryd.ntmps6
  go_wp2_with fail
  refine C.out.mono ?_
  rintro e w1 ⟨rfl, hb⟩
  have HB := Lib.hid hb
  clear hb C
  go_wp2
  go_ret
  exact ⟨rfl, HB.out⟩
set_option maxRecDepth 100000 in
set_option maxHeartbeats 4000000 in
theorem law5_wakes (w : World) (hG : Dv.GErr w) : Calls Tryd.prog 8 #[] w fun e w' => e = .returned (.bool true) ∧ Below w.heap.size w w' := by
  have HG := Lib.hid hG
  clear hG
  go_enter Tryd.func8, Tryd.ntmps8
  go_wp2_with fail
  refine (stream_New 100 w (by decide) (by decide)).mono ?_
  rintro e w1 ⟨rfl, hsp1, hb1⟩
  obtain ⟨g, hg⟩ : ∃ g, w.heap.size = g := ⟨_, rfl⟩
  have HGE := Lib.hid (show w.heap.size ≤ g by omega)
  rw [hg] at hsp1
  have HSP1 := Lib.hid hsp1
  have HB1 := Lib.hid hb1
  clear hsp1 hb1
  rw [hg]
  clear hg
  go_wp2_with fail
  have hc1 : Kd.C (Kd.int .u8) (w1.alloc (.cells #[.int .u8 192] 5)) (some ⟨w1.heap.size, 0, none⟩) ([192] : List Int).length [192] := C_lit1 w1 192
  refine (feed_short _ g 100 none (some ⟨w1.heap.size, 0, none⟩) 0 1 [] [192] (HSP1.out.after (below_alloc (Below.refl _ _) _)) hc1 (by decide) (by decide) (.inr ping_all.2.2)).mono ?_
  rintro e w2 ⟨A2, c2, rfl, hsp2, hg2⟩
  have HSP2 := Lib.hid hsp2
  have HB2 := Lib.hid ((HB1.out.then_ (below_alloc (Below.refl _ _) _)).grown hg2 (by have := HB1.out.size; exact Nat.le_trans this (below_alloc (Below.refl w1.heap.size w1) _).size) (fun k hk => by injection hk with hk; rw [← hk]; exact HGE.out))
  clear hsp2 hg2 hc1
  go_wp2_with fail
  have hc2 : Kd.C (Kd.int .u8) (w2.alloc (.cells #[.int .u8 0] 5)) (some ⟨w2.heap.size, 0, none⟩) ([0] : List Int).length [0] := C_lit1 w2 0
  refine (feed_one w _ (HB2.out.then_ (below_alloc (Below.refl _ _) _)) g HGE.out 100 A2 (some ⟨w2.heap.size, 0, none⟩) c2 1 [192] [0] (HSP2.out.after (below_alloc (Below.refl _ _) _)) hc2 (by decide) (by decide) 2 ping_all.1 (by decide) (by decide) pk192 (fun W A' c' _ hC hc => dec_ping A' c' W hC hc)).mono ?_
  rintro e w3 ⟨v3, A3, c3, rfl, hR3, hsp3, hg3⟩
  have HSP3 := Lib.hid hsp3
  have HB3 := Lib.hid ((HB2.out.then_ (below_alloc (Below.refl _ _) _)).grown hg3 (by have := HB2.out.size; exact Nat.le_trans this (below_alloc (Below.refl w2.heap.size w2) _).size) (fun k hk => by injection hk with hk; rw [← hk]; exact HGE.out))
  obtain ⟨inner, hown⟩ := Kd.R_own hR3
  rcases hown.2 with ⟨_, h0⟩ | ⟨gl, cap, cur, hv3, _, hgl, _⟩
  · exact absurd h0 (by decide)
  subst hv3
  have hC3 := (Kd.R_reads' hR3).2.2
  obtain ⟨ad, cs, ead, hlen, hK, hcell⟩ := Kd.C_get hC3 pk192 0 (by decide) (by decide)
  cases ead
  obtain ⟨A1', A2', A3', A4', A5', A6', A7', c1', c2', c3', c4', c5', c6', c7', rfl, k1, k2, k3, k4, k5, k6, k7⟩ := kPk_ping hK
  have hrange : w3.rangeAt gl 0 _ := fun j u hu => by
    have := hcell j u hu
    rw [add_plain] at this
    simpa using this
  have HRG := Lib.hid hrange
  have HK := Lib.hid (And.intro k1 (And.intro k2 (And.intro k3 (And.intro k4 (And.intro k5 (And.intro k6 k7))))))
  clear hR3 hsp3 hg3 hown hC3 hlen hK hcell hrange k1 k2 k3 k4 k5 k6 k7 hc2 hgl
  have G3 := Dv.GErr.below HG.out HB3.out
  have N1 := Lib.hid (law5_num .nilIface 0 w3 G3 (.inl ⟨rfl, rfl⟩))
  clear G3
  go_wp2_with fail
  refine N1.out.mono ?_
  rintro e w4 ⟨rfl, hb4⟩
  have HB4 := Lib.hid hb4
  clear hb4 N1
  go_wp2_with fail
  refine (law5_num .nilIface 0 w4 (Dv.GErr.below HG.out (HB3.out.then_ HB4.out)) (.inl ⟨rfl, rfl⟩)).mono ?_
  rintro e w5 ⟨rfl, hb5⟩
  have HB5 := Lib.hid (HB4.out.then_ hb5)
  clear hb5
  go_wp2_with fail
  have HB6 := Lib.hid (HB5.out.then_ (below_alloc (Below.refl w5.heap.size w5) (.cells #[.int .i64 12, .bool false, .int .i64 0, .bool false, .string ⟨#[]⟩, .int .i64 0, .string ⟨#[]⟩, .slice none 0 0, .string ⟨#[]⟩, .bool false, .int .i64 0, .slice none 0 0, .slice none 0 0, .slice none 0 0, .int .i64 0, .bool false, .slice none 0 0, .slice none 0 0, .slice none 0 0] 40)))
  refine (EqPackets_ping _ gl 0 w5.heap.size cap A1' A2' A3' A4' A5' A6' A7' c1' c2' c3' c4' c5' c6' c7' (Kd.C_below HK.out.1 HB6.out) (Kd.C_below HK.out.2.1 HB6.out) (Kd.C_below HK.out.2.2.1 HB6.out) (Kd.C_below HK.out.2.2.2.1 HB6.out) (Kd.C_below HK.out.2.2.2.2.1 HB6.out) (Kd.C_below HK.out.2.2.2.2.2.1 HB6.out) (Kd.C_below HK.out.2.2.2.2.2.2 HB6.out) (fun j u hu => (HB6.out.cell (World.block_lt_of_cell? _ _ (HRG.out j u hu))).trans (HRG.out j u hu)) (fun j u hu => by
    rw [Nat.zero_add, cell_of_row _ _ j _ _ _ (heap_alloc_new w5 _)]
    simpa using hu)).mono ?_
  rintro e w6 ⟨rfl, hb6⟩
  have HB7 := Lib.hid (HB6.out.then_ hb6)
  clear hb6
  go_wp2_with fail
  refine (stream_Held w6 g 100 A3 c3 [] .nilIface (HSP3.out.after HB7.out)).mono ?_
  rintro e w7 ⟨rfl, rfl⟩
  go_wp2
  go_ret
  exact ⟨rfl, HB3.out.then_ HB7.out⟩
end Go.Proofs.YtdnmliidmnfijaaDoor.Q

import Derived.Test.YtdnmliidmnfijaaDoorKH8
set_option linter.unusedVariables false
set_option linter.unusedSimpArgs false
namespace Go.Proofs.YtdnmliidmnfijaaDoor.Q
open Go.RowKit Go.Proofs.YtdnmliidmnfijaaDoorW.PrintWords Go.Proofs.YtdnmliidmnfijaaDoorW.PrintLast Go.Proofs.YtdnmliidmnfijaaDoorW.PrintMore
theorem cutA (A : Option Addr) (c : Nat) (q : List Int) (hc : q.length ≤ c) (n : Int) (h0 : 0 ≤ n) (hn : n ≤ q.length) (hm : q.length ≤ 9223372036854775807) :
    ∃ A', (∀ W : World, (Instr.slice 25 (.slice A q.length c) (some (.int .i64 n)) none none).run Tryd.prog W = .ok (.slice A' (q.drop n.toNat).length (c - n.toNat)) W) ∧ (∀ W0, Kd.C (Kd.int .u8) W0 A q.length q → Kd.C (Kd.int .u8) W0 A' (q.drop n.toNat).length (q.drop n.toNat)) ∧ (q.drop n.toNat).length ≤ c - n.toNat := by
  obtain ⟨i0, hi, _, hsz, _⟩ := info_parts qinfo5
  obtain ⟨A', h1, h2, h3⟩ := print_drop_of (P := Tryd.prog) (Value.int .u8) 0 25 5 .i64 Tryd.underlying25 hi hsz A c q n h0 (by omega) hc
  exact ⟨A', h1, fun W0 hr => Kd.C_of_reads (h1 := fun _ => rfl) (h2 W0 (Kd.reads_of_C hr)), h3⟩
theorem grown_of {w W : World} {g : Nat} (hk : Kept w W (· = g)) (h1 : W.os = w.os) (h2 : W.tape = w.tape) (h3 : W.output = w.output) : w.grownBy W (some g) :=
  ⟨h1, h2, h3, hk.1, fun i hi hn => hk.2 i hi (fun e => hn (by rw [e]))⟩
set_option maxRecDepth 100000 in
set_option maxHeartbeats 4000000 in
/-- s.next where there is a packet -/
theorem next_ok (w : World) (g : Nat) (lim : Int) (A : Option Addr) (c : Nat) (b : List Int) (v : Value) (h : SP w g lim A c b v) (hb : bok b) (n : Int) (hz : pkSize b = (n, 0)) (hl : n ≤ lim) (hn : n ≤ b.length) (hn0 : 0 ≤ n) (p' : Pk)
    (HD : ∀ W, Below w.heap.size w W → Calls Tryd.prog 16 #[.slice A b.length c] W fun e w' => ∃ cs, e = .returned (.tuple #[.agg cs, .int .i64 n, .nilIface]) ∧ kPk.M w' W.heap.size (fun _ => True) p' cs.toList ∧ Below W.heap.size W w') :
    Calls Tryd.prog 10 #[.pointer (some ⟨g, 0, none⟩)] w fun x w' => ∃ cs A' c', x = .returned (.tuple #[.agg cs, .nilIface]) ∧ kPk.M w' w.heap.size (fun _ => True) p' cs.toList ∧ SP w' g lim A' c' (b.drop n.toNat) v ∧ w.grownBy w' (some g) := by
  have k1 := fun o => (h.after (below_alloc (Below.refl _ _) o)).c1
  have hm63 := h.C.2.1
  have H := Lib.hid h
  have SZ := Lib.hid (fun W (H : Below w.heap.size w W) => packet_Size A c b W (Kd.C_below h.C H) h.cap hb)
  rw [hz] at SZ
  obtain ⟨A', hcut, hA', hc'⟩ := cutA A c b h.cap n hn0 hn hm63
  obtain ⟨q2, hq2⟩ : ∃ q2, b.drop n.toNat = q2 := ⟨_, rfl⟩
  rw [hq2] at hcut hA' hc' ⊢
  have HA' := Lib.hid hA'
  have HC' := Lib.hid hc'
  have HDD := Lib.hid HD
  have HN := Lib.hid hn
  have t1 : decide (lim < n) = false := decide_eq_false (by omega)
  clear h hz HD hA' hc' hq2 hn hn0 hl
  go_enter Tryd.func10, Tryd.ntmps10
  go_wp2_with fail
  refine (SZ.out _ (below_alloc (Below.refl _ _) _)).mono ?_
  rintro e w1 ⟨v1, rfl, he, hb1⟩
  obtain rfl := Err_nil he
  have HB1 := Lib.hid ((below_alloc (Below.refl w.heap.size w) _).then_ hb1)
  have HP1 := Lib.hid ((hb1.block w.heap.size (Array.getElem?_eq_some_iff.1 (heap_alloc_new w _)).1).trans (heap_alloc_new w _))
  have j0 := (H.out.after HB1.out).c0
  have j1 := (H.out.after HB1.out).c1
  clear he hb1 SZ k1
  go_wp2_with fail
  refine (HDD.out _ HB1.out).mono ?_
  rintro e w2 ⟨cs, rfl, hM, hb2⟩
  have HB2 := Lib.hid (HB1.out.then_ hb2)
  have HP2 := Lib.hid ((hb2.block w.heap.size (Array.getElem?_eq_some_iff.1 HP1.out).1).trans HP1.out)
  have HM2 := Lib.hid (kPk.M_lower HB1.out.size hM)
  have HSZ := Lib.hid (kPk_size hM)
  clear hM hb2 j0 j1 HDD
  go_upto_region 7 with (refine wpList_store_row rfl 40 _ _ rfl w2.heap.size cs rfl rfl 40 _ (heap_alloc_new w2 _) (by rw [HSZ.out.1]; kernel_rfl) (by rw [HSZ.out.1]; rfl) HSZ.out.2 ?_; rw [World.setRow_alloc_new])
  have HB3 := Lib.hid (below_alloc HB2.out (.cells cs 40))
  have HP3 := Lib.hid ((heap_alloc_old w2 (.cells cs 40) (Array.getElem?_eq_some_iff.1 HP2.out).1).trans HP2.out)
  have HQ3 := Lib.hid (show PRow (w2.alloc (.cells cs 40)) w2.heap.size cs from heap_alloc_new w2 _)
  have HM3 := Lib.hid (Kd.M_below HM2.out (below_alloc (Below.refl _ _) (.cells cs 40)))
  have HS3 := Lib.hid (H.out.after HB3.out)
  have hqne := Lib.hid (show w2.heap.size ≠ g from by have := H.out.lt; have := HB2.out.size; omega)
  have hqne2 := Lib.hid (show w.heap.size ≠ g from by have := H.out.lt; omega)
  generalize w2.alloc (.cells cs 40) = W3 at *
  generalize w2.heap.size = q6 at *
  have j1 := HS3.out.c1
  have f1 := HS3.out.fr 1
  clear HP1 HP2 HM2 HB1
  go_upto_region 8 with fail
  have HS4 := Lib.hid (HS3.out.set_b (fun W' hk => HA'.out W' (HS3.out.rd W' hk)) HC'.out)
  have HP4 := Lib.hid ((heap_setCell_other W3 ⟨g, 1, none⟩ w.heap.size (.slice A' q2.length (c - n.toNat)) hqne2.out).trans HP3.out)
  have HQ4 := Lib.hid (HQ3.out.far hqne.out 1 (.slice A' q2.length (c - n.toNat)))
  have HM4 := Lib.hid (kPk_types (W' := W3.setCell ⟨g, 1, none⟩ (.slice A' q2.length (c - n.toNat))) HM3.out (fun k _ => by
    by_cases hk : k = g
    · rw [hk]; exact .inr ⟨_, _, HS3.out.hp, fun h => (kPk_E _ h).2.1 rfl⟩
    · exact .inl (heap_setCell_other W3 ⟨g, 1, none⟩ k _ hk)))
  have HK4 := Lib.hid ((Kept.of_below HB3.out (· = g)).setCell (p := ⟨g, 1, none⟩) (.inl rfl) (.slice A' q2.length (c - n.toNat)))
  have HO4 := Lib.hid (And.intro (show (W3.setCell ⟨g, 1, none⟩ (.slice A' q2.length (c - n.toNat))).os = w.os from HB3.out.os) (And.intro (show (W3.setCell ⟨g, 1, none⟩ (.slice A' q2.length (c - n.toNat))).tape = w.tape from HB3.out.tape) (show (W3.setCell ⟨g, 1, none⟩ (.slice A' q2.length (c - n.toNat))).output = w.output from HB3.out.output)))
  generalize W3.setCell ⟨g, 1, none⟩ (.slice A' q2.length (c - n.toNat)) = W4 at *
  go_wp2_with (first | (refine wpList_load_row rfl 40 _ rfl q6 rfl 40 cs (0, 0) _ HQ4.out Tryd.underlying40 rfl (by rw [HSZ.out.1]; kernel_rfl) ?_) | (refine wpList_store_row rfl 40 _ _ rfl w.heap.size cs rfl rfl 40 _ HP4.out (by rw [HSZ.out.1]; kernel_rfl) (by rw [HSZ.out.1]; rfl) HSZ.out.2 ?_))
  (try simp only [Exit.inBlock, Exit.then])
  refine bodyPost_ret (res_ct rfl _ _ w.heap.size 40 cs (0, 0) _ rfl (setRow_heap W4 w.heap.size _ cs _ _ HP4.out) Tryd.underlying40 rfl (by rw [HSZ.out.1]; kernel_rfl)) rfl ?_
  have hsr : ∀ i, i ≠ w.heap.size → (W4.setRow w.heap.size cs).heap[i]? = W4.heap[i]? := fun i hi => by
    simp only [World.setRow, Array.getElem?_modify]
    rw [if_neg (fun e => hi e.symm)]
  have hKf : Kept w (W4.setRow w.heap.size cs) (· = g) := ⟨by rw [size_setRow]; exact HK4.out.1, fun i hi hn => (hsr i (by omega)).trans (HK4.out.2 i hi hn)⟩
  refine ⟨cs, A', c - n.toNat, rfl, ?_, ⟨?_, fun W' hk => HA'.out W' (H.out.rd W' (hKf.then_ hk (fun _ h => .inl h))), HC'.out⟩, grown_of hKf HO4.out.1 HO4.out.2.1 HO4.out.2.2⟩
  · refine kPk_types HM4.out (fun k _ => ?_)
    by_cases hk : k = w.heap.size
    · rw [hk]; exact .inr ⟨_, _, HP4.out, fun h => (kPk_E _ h).1 rfl⟩
    · exact .inl (hsr k hk)
  · exact (hsr g (fun e => hqne2.out e.symm)).trans HS4.out.hp
end Go.Proofs.YtdnmliidmnfijaaDoor.Q

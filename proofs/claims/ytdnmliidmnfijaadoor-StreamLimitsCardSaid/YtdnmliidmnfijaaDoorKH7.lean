import Derived.Test.YtdnmliidmnfijaaDoorKH6
set_option linter.unusedVariables false
set_option linter.unusedSimpArgs false
namespace Go.Proofs.YtdnmliidmnfijaaDoor.Q
open Go.RowKit Go.Proofs.YtdnmliidmnfijaaDoorW.PrintWords Go.Proofs.YtdnmliidmnfijaaDoorW.PrintLast Go.Proofs.YtdnmliidmnfijaaDoorW.PrintMore
theorem res_ctt {P : Program} {fn : Func} {p u v : Tmp} {ty : TypeId} (h : fn.results = #[.cell p ty, .tmp u, .tmp v]) (tmps : Array Value) (w : World) (g : Nat) (t : TypeId) (cs : Array Value) (fr : Nat × Nat) (d : TypeDesc)
    (hp : tmps.getD p undef = .pointer (some ⟨g, 0, none⟩)) (hg : w.heap[g]? = some (.cells cs t fr))
    (hu : P.underlying ty = some d) (hd : (match d with | .struct _ | .array _ _ => true | _ => false) = true) (hi : (P.info? ty).map (·.size) = some cs.size) :
    (results fn tmps).run P w = .ok (.tuple #[.agg cs, tmps.getD u undef, tmps.getD v undef]) w := by
  have hp' : tmps[p]?.getD undef = .pointer (some ⟨g, 0, none⟩) := by simpa using hp
  simp only [results, h]
  simp [Sem.run_bind, Result.andThen, asAddr, hp', run_loadVar_row w g t ty cs fr d hg hu hd hi]
theorem setRow_same {W : World} {g t : Nat} {cs : Array Value} (h : W.heap[g]? = some (.cells cs t (0, 0))) : W.setRow g cs = W := by
  have e : (W.setRow g cs).heap = W.heap := by
    apply Array.ext_getElem?
    intro i
    by_cases hi : i = g
    · subst hi
      rw [setRow_heap W i cs _ _ _ h, h]
    · simp only [World.setRow, Array.getElem?_modify]
      rw [if_neg (fun e => hi e.symm)]
  calc W.setRow g cs = { W with heap := (W.setRow g cs).heap } := rfl
    _ = W := by rw [e]
theorem below_setRow {w W : World} (h : Below w.heap.size w W) {g : Nat} (hg : w.heap.size ≤ g) (cs : Array Value) : Below w.heap.size w (W.setRow g cs) :=
  ⟨h.os, h.tape, h.output, by rw [size_setRow]; exact h.size, fun i hi => by
    rw [← h.block i hi]
    simp only [World.setRow, Array.getElem?_modify]
    rw [if_neg (by omega)]⟩
set_option maxRecDepth 100000 in
set_option maxHeartbeats 4000000 in
theorem packet_Decode_ok (A : Option Addr) (c : Nat) (b : List Int) (w : World) (hr : Kd.C (Kd.int .u8) w A b.length b) (hc : b.length ≤ c) (hb : bok b) (n : Int) (hz : pkSize b = (n, 0)) (hn : n ≤ b.length) (s s' : RS) (p : Pk) (hp : (pkHead (rd b 0)).1 = p)
    (hs : s = ⟨(b.take n.toNat).drop (1 + (Dv.varGet (b.drop 1)).2.1).toNat, 0⟩) (hs' : s'.e = 0) (R : World → Array Value → Prop)
    (HBody : ∀ (W : World) (g q : Nat), Rdr w W g s → PRow W q (pkN p) → w.heap.size ≤ q → Calls Tryd.prog 23 #[.pointer (some ⟨g, 0, none⟩), .pointer (some ⟨q, 0, none⟩)] W fun e w' => ∃ cs, e = .returned (.tuple #[]) ∧ Rdr w w' g s' ∧ PRow w' q cs ∧ cs.size = 19 ∧ cs.all (·.oneCell') = true ∧ R w' cs ∧ Kept W w' (fun k => k = g ∨ k = q)) :
    Calls Tryd.prog 16 #[.slice A b.length c] w fun e w' => ∃ cs, e = .returned (.tuple #[.agg cs, .int .i64 n, .nilIface]) ∧ R w' cs ∧ Below w.heap.size w w' := by
  have hm := hr.2.1
  have hl : b.length ≠ 0 := by rintro h; unfold pkSize at hz; rw [if_pos h] at hz; cases hz
  obtain ⟨b0, b1⟩ := bok_rd hb 0 (by omega) (by omega)
  have hh : (pkHead (rd b 0)).2 = 0 := by
    apply Classical.byContradiction
    intro h
    unfold pkSize at hz
    rw [if_neg hl, if_pos h] at hz
    cases hz
  have hz1 := hz
  unfold pkSize at hz1
  rw [if_neg hl, if_neg (by simpa using hh)] at hz1
  injection hz1 with hz2 hz3
  have q0 : (0 < b.length) = True := eq_true (by omega)
  have q0i : ((0 : Int) < (b.length : Int)) = True := eq_true (by omega)
  obtain ⟨ad, ea, hc0⟩ := Kd.at_int hr 0 (by omega) (by omega)
  cases ea
  rw [show (0 : Int).toNat = 0 from rfl, Addr.add_zero'] at hc0
  obtain ⟨A2, hcut, hr2, hc2⟩ := cutN (some ad) c b w hc hr 1 (by omega) (by omega)
  rw [show (1 : Int).toNat = 1 from rfl] at hcut hr2 hc2
  have hb2 := bok_drop hb 1
  have hq2l : (b.drop 1).length ≤ b.length := by simp
  have SZ := Lib.hid (fun W (H : Below w.heap.size w W) => packet_Size (some ad) c b W (Kd.C_below hr H) hc hb)
  rw [hz] at SZ
  have H := Lib.hid (fun W => packet_head (rd b 0) W b0 b1)
  rw [hh, hp] at H
  obtain ⟨i0, hi, _, hszz, _⟩ := info_parts qinfo5
  have hcuts := fun (x y : Int) (h0 : 0 ≤ x) (h1 : x ≤ y) (h2 : y ≤ b.length) => print_mid_of (P := Tryd.prog) (Value.int .u8) 0 25 5 .i64 .i64 Tryd.underlying25 hi hszz (some ad) c b x y h0 h1 h2 hc
  obtain ⟨q2, hq2⟩ : ∃ q2, b.drop 1 = q2 := ⟨_, rfl⟩
  rw [hq2] at hcut hr2 hc2 hb2 hq2l hz2 hz3 hs
  have V := Lib.hid (fun W (H : Below w.heap.size w W) => varint_Get A2 (c - 1) q2 W (Kd.C_below hr2 H) hc2 hb2)
  have hg := varGet_good q2 hb2
  generalize Dv.varGet q2 = vg at *
  obtain ⟨m, sz, er⟩ := vg
  dsimp only at *
  have her : er = 0 := by
    apply Classical.byContradiction
    intro h
    rw [if_neg (fun hh => h hh.1)] at hz3
    exact h hz3
  subst her
  have hsn : 1 ≤ sz ∧ sz ≤ 4 ∧ 0 ≤ m ∧ m ≤ 268435455 := by omega
  have s1 : IntKind.i64.wrap (1 + sz) = 1 + sz := by rw [IntKind.wrap_i64]; omega
  obtain ⟨A3, hcut3, hA3, hc3⟩ := hcuts (1 + sz) n (by omega) (by omega) (by omega)
  have hr3 := Kd.C_of_reads (h1 := fun _ => rfl) (hA3 w (Kd.reads_of_C hr))
  obtain ⟨l3, hl3⟩ : ∃ l3, (b.take n.toNat).drop (1 + sz).toNat = l3 := ⟨_, rfl⟩
  rw [hl3] at hcut3 hr3 hc3 hs
  have t1 : decide ((b.length : Int) < n) = false := decide_eq_false (by omega)
  obtain ⟨x, hx⟩ : ∃ x, rd b 0 = x := ⟨_, rfl⟩
  rw [hx] at H hc0
  obtain ⟨c3, hcc3⟩ : ∃ c3, c - (1 + sz).toNat = c3 := ⟨_, rfl⟩
  rw [hcc3] at hcut3 hc3
  have HC3 := Lib.hid hc3
  have HR3 := Lib.hid hr3
  have HBD := Lib.hid HBody
  have HS := Lib.hid hs
  have HSE := Lib.hid hs'
  have hltc := World.block_lt_of_cell? _ _ hc0
  have hcw : ∀ W, Below w.heap.size w W → W.cell? ad = some (.int .u8 x) := fun W h => (h.cell hltc).trans hc0
  have HCW := Lib.hid hcw
  clear hr hb hz hz2 hz3 hh hp hs hs' HBody hr2 hc2 hb2 hq2l hq2 hg hA3 hr3 hc3 hl3 hx hcc3 hcuts hcw b0 b1 hn hi hszz hsn
  have HQ := Lib.hid (show w.heap.size ≤ w.heap.size from Nat.le_refl _)
  go_enter Tryd.func16, Tryd.ntmps16
  go_wp2_with fail
  refine (SZ.out _ (below_alloc (Below.refl _ _) _)).mono ?_
  rintro e w1 ⟨v, rfl, he, hb1⟩
  obtain rfl := Err_nil he
  have HB1 := Lib.hid ((below_alloc (Below.refl w.heap.size w) _).then_ hb1)
  have HP1 := Lib.hid ((hb1.block w.heap.size (Array.getElem?_eq_some_iff.1 (heap_alloc_new w _)).1).trans (heap_alloc_new w _))
  have hcw1 := HCW.out _ HB1.out
  clear he hb1 SZ
  go_wp2_with fail
  refine (H.out _).mono ?_
  rintro e w2 ⟨v, rfl, he, hb2⟩
  obtain rfl := Err_nil he
  have HB2 := Lib.hid (HB1.out.then_ hb2)
  have HP2 := Lib.hid ((hb2.block w.heap.size (Array.getElem?_eq_some_iff.1 HP1.out).1).trans HP1.out)
  clear he hb2 H HP1 hcw1
  go_upto_region 7 with (refine wpList_store_row rfl 40 _ _ rfl w.heap.size _ rfl rfl 40 _ HP2.out (by kernel_rfl) rfl (by simp [pkN, pkC, Value.oneCell']) ?_)
  have HB3 := Lib.hid (below_setRow HB2.out (Nat.le_refl _) (pkN p))
  have HP3 := Lib.hid (setRow_heap w2 w.heap.size _ (pkN p) _ _ HP2.out)
  generalize w2.setRow w.heap.size (pkN p) = W3 at *
  go_wp2_with fail
  refine (V.out _ HB3.out).mono ?_
  rintro e w4 ⟨v, rfl, he, hb4⟩
  obtain rfl := Err_nil he
  have HB4 := Lib.hid (HB3.out.then_ hb4)
  have HP4 := Lib.hid ((hb4.block w.heap.size (Array.getElem?_eq_some_iff.1 HP3.out).1).trans HP3.out)
  clear he hb4 V HP2 HP3
  go_wp2_with fail
  have hgl : w.heap.size ≠ w4.heap.size := fun e => by have := (Array.getElem?_eq_some_iff.1 HP4.out).1; omega
  have hrd : Rdr w (w4.alloc (.cells #[.slice A3 l3.length c3, .nilIface] 72)) w4.heap.size s := by
    rw [HS.out]
    exact ⟨A3, c3, .nilIface, ⟨heap_alloc_new _ _, HR3.out, HC3.out, below_alloc HB4.out _, HB4.out.size⟩, .inl ⟨rfl, rfl⟩⟩
  have hpr : PRow (w4.alloc (.cells #[.slice A3 l3.length c3, .nilIface] 72)) w.heap.size (pkN p) := (heap_alloc_old w4 _ (Array.getElem?_eq_some_iff.1 HP4.out).1).trans HP4.out
  refine (HBD.out _ _ _ hrd hpr (Nat.le_refl _)).mono ?_
  rintro e w5 ⟨cs, rfl, hr5, hp5, hsz5, hone5, hR5, hk5⟩
  obtain ⟨A5, c5, v5, hq5, he5⟩ := hr5
  rw [HSE.out] at he5
  obtain rfl := Err_nil he5
  have k1 := hq5.c1
  have HP5 := Lib.hid hp5
  have HSZ5 := Lib.hid hsz5
  have HON5 := Lib.hid hone5
  have HR5 := Lib.hid hR5
  have HB5 := Lib.hid hq5.below
  clear hq5 he5 hp5 hsz5 hone5 hR5 hk5 hrd hpr hgl hcut hcut3
  go_wp2_with fail
  refine (Dv.Is_any _ 0 3 _ (.inl ⟨rfl, rfl⟩) (by decide)).mono ?_
  rintro e w6 ⟨rfl, rfl⟩
  go_wp2_with (first | (refine wpList_load_row rfl 40 _ rfl w.heap.size rfl 40 cs (0, 0) _ HP5.out Tryd.underlying40 rfl (by rw [HSZ5.out]; kernel_rfl) ?_) | (refine wpList_store_row rfl 40 _ _ rfl w.heap.size cs rfl rfl 40 cs HP5.out (by rw [HSZ5.out]; kernel_rfl) rfl HON5.out ?_; rw [setRow_same HP5.out]))
  (try simp only [Exit.inBlock, Exit.then])
  refine bodyPost_ret (res_ctt rfl _ _ w.heap.size 40 cs (0, 0) _ rfl HP5.out Tryd.underlying40 rfl (by rw [HSZ5.out]; kernel_rfl)) rfl ?_
  exact ⟨_, rfl, HR5.out, HB5.out⟩
end Go.Proofs.YtdnmliidmnfijaaDoor.Q

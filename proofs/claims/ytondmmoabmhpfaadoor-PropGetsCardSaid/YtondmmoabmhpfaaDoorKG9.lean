import Derived.Test.YtondmmoabmhpfaaDoorKG8
import Derived.Test.YtondmmoabmhpfaaDoorKQ2
import Derived.Test.YtondmmoabmhpfaaDoorKQ10
import Derived.Outline
import Derived.Deep.DeepMust
import Derived.Deep.RegionHeld3
set_option linter.unusedVariables false
set_option linter.unusedSimpArgs false
namespace Go.Proofs.YtondmmoabmhpfaaDoor.Q
open Go.RowKit Go.Proofs.YtondmmoabmhpfaaDoorW.PrintWords Go.Proofs.YtondmmoabmhpfaaDoorW.PrintLast Go.Proofs.YtondmmoabmhpfaaDoorW.PrintMore
theorem Row.below {W W1 : World} {b : Nat} {i j : Int} {s t : ByteArray} (h : Row W b i j s t) (hb : Below W.heap.size W W1) : Row W1 b i j s t := (hb.block b (Array.getElem?_eq_some_iff.1 h).1).trans h
theorem Row.far {W : World} {b : Nat} {i j : Int} {s t : ByteArray} (h : Row W b i j s t) {b' : Nat} (hne : b ≠ b') (k : Nat) (u : Value) : Row (W.setCell ⟨b', k, none⟩ u) b i j s t := (Below.heap_setCell W ⟨b', k, none⟩ u b hne).trans h
theorem Row.lt {W : World} {b : Nat} {i j : Int} {s t : ByteArray} (h : Row W b i j s t) : b < W.heap.size := (Array.getElem?_eq_some_iff.1 h).1
structure Two (w W : World) (b : Nat) (i j : Int) (s t : ByteArray) : Prop where
  below : Below w.heap.size w W
  out : Row W w.heap.size 0 0 ⟨#[]⟩ ⟨#[]⟩
  row : Row W b i j s t
  ne : w.heap.size < b
theorem Two.after {w W W1 : World} {b : Nat} {i j : Int} {s t : ByteArray} (h : Two w W b i j s t) (hb : Below W.heap.size W W1) : Two w W1 b i j s t := ⟨h.below.then_ hb, h.out.below hb, h.row.below hb, h.ne⟩
theorem Two.set1 {w W : World} {b : Nat} {i j : Int} {s t : ByteArray} (h : Two w W b i j s t) (u : Int) : Two w (W.setCell ⟨b, 1, none⟩ (.int .i64 u)) b i u s t := ⟨h.below.setCell (Nat.le_of_lt h.ne) _, h.out.far (Nat.ne_of_lt h.ne) _ _, h.row.set1 u, h.ne⟩
theorem Two.set2 {w W : World} {b : Nat} {i j : Int} {s t : ByteArray} (h : Two w W b i j s t) (u : ByteArray) : Two w (W.setCell ⟨b, 2, none⟩ (.string u)) b i j u t := ⟨h.below.setCell (Nat.le_of_lt h.ne) _, h.out.far (Nat.ne_of_lt h.ne) _ _, h.row.set2 u, h.ne⟩
theorem Two.set3 {w W : World} {b : Nat} {i j : Int} {s t : ByteArray} (h : Two w W b i j s t) (u : ByteArray) : Two w (W.setCell ⟨b, 3, none⟩ (.string u)) b i j s u := ⟨h.below.setCell (Nat.le_of_lt h.ne) _, h.out.far (Nat.ne_of_lt h.ne) _ _, h.row.set3 u, h.ne⟩
theorem Two.ends {w W : World} {b : Nat} {i j : Int} {s t : ByteArray} (h : Two w W b i j s t) (x y z u : Value) : Below w.heap.size w ((((W.setCell ⟨w.heap.size, 0, none⟩ x).setCell ⟨w.heap.size, 1, none⟩ y).setCell ⟨w.heap.size, 2, none⟩ z).setCell ⟨w.heap.size, 3, none⟩ u) :=
  (((h.below.setCell (Nat.le_refl _) _).setCell (Nat.le_refl _) _).setCell (Nat.le_refl _) _).setCell (Nat.le_refl _) _
theorem Two.nes {w W : World} {b : Nat} {i j : Int} {s t : ByteArray} (h : Two w W b i j s t) : b ≠ w.heap.size ∧ w.heap.size ≠ b := ⟨by have := h.ne; omega, by have := h.ne; omega⟩
theorem Two.start {w w2 : World} (id : Int) (hb : Below (w.alloc (.cells #[.int .i64 0, .int .i64 0, .string ⟨#[]⟩, .string ⟨#[]⟩] 24)).heap.size (w.alloc (.cells #[.int .i64 0, .int .i64 0, .string ⟨#[]⟩, .string ⟨#[]⟩] 24)) w2) :
    Two w (w2.alloc (.cells #[.int .i64 id, .int .i64 0, .string ⟨#[]⟩, .string ⟨#[]⟩] 24)) w2.heap.size id 0 ⟨#[]⟩ ⟨#[]⟩ := by
  have h1 : Below w.heap.size w w2 := (below_alloc (Below.refl _ _) _).then_ hb
  have h0 : Row (w.alloc (.cells #[.int .i64 0, .int .i64 0, .string ⟨#[]⟩, .string ⟨#[]⟩] 24)) w.heap.size 0 0 ⟨#[]⟩ ⟨#[]⟩ := heap_alloc_new w _
  exact ⟨below_alloc h1 _, (h0.below hb).below (below_alloc (Below.refl _ _) _), heap_alloc_new _ _, (h0.below hb).lt⟩
theorem rget3 {l : List Int} (hb : bok l) {n sz er : Int} (hv : Dv.varGet l = (n, sz, er)) : dovecoteref1_Get.f 20 l = some (n, sz, er) := by rw [← hv]; exact rGet_f (by decide) l hb
theorem varGet_le (l : List Int) (hb : bok l) : (Dv.varGet l).2.1 ≤ 70000 := by have := varGet_good l hb; omega
theorem getBin_le (l : List Int) (hb : bok l) : (getBin l).2.1 ≤ 70000 := by
  by_cases h2 : l.length < 2
  · unfold getBin; rw [if_pos h2]; dsimp only; omega
  have h0 := bok_rd hb 0 (by omega) (by omega)
  have h1 := bok_rd hb 1 (by omega) (by omega)
  unfold byteOk at h0 h1
  unfold getBin
  rw [if_neg h2]
  split <;> dsimp only <;> omega
theorem getText_le (l : List Int) (hb : bok l) : (getText l).2.1 ≤ 70000 := by
  have := getBin_le l hb
  unfold getText
  split
  · split
    · exact this
    · dsimp only; omega
  · exact this
theorem getTextB (l : List Int) (hb : bok l) (A : Option Addr) (c : Nat) (w W : World) (hr : Kd.C (Kd.int .u8) w A l.length l) (hc : l.length ≤ c) (hB : Below w.heap.size w W) : Calls Tryd.prog 52 #[.slice A l.length c] W fun e w' => e = .returned (.tuple #[.string (getText l).1, .int .i64 (getText l).2.1, .int .i64 (getText l).2.2]) ∧ Below W.heap.size W w' := getText_calls A c l W (Kd.C_below hr hB) hc hb
theorem getBinB (l : List Int) (hb : bok l) (A : Option Addr) (c : Nat) (w W : World) (hr : Kd.C (Kd.int .u8) w A l.length l) (hc : l.length ≤ c) (hB : Below w.heap.size w W) : Calls Tryd.prog 53 #[.slice A l.length c] W fun e w' => e = .returned (.tuple #[.string (getBin l).1, .int .i64 (getBin l).2.1, .int .i64 (getBin l).2.2]) ∧ Below W.heap.size W w' :=
  (getBin_calls A c l W (Kd.C_below hr hB) hc (fun h2 => ⟨bok_rd hb 0 (by omega) (by omega), bok_rd hb 1 (by omega) (by omega)⟩)).mono fun e w' ⟨h1, h2⟩ => ⟨h1, h2.below⟩
theorem varB (l : List Int) (hb : bok l) (A : Option Addr) (c : Nat) (w W : World) (hr : Kd.C (Kd.int .u8) w A l.length l) (hc : l.length ≤ c) (hB : Below w.heap.size w W) : Calls Tryd.prog 32 #[.slice A l.length c] W fun e w' => e = .returned (.tuple #[.int .i64 (Dv.varGet l).1, .int .i64 (Dv.varGet l).2.1, .int .i64 (Dv.varGet l).2.2]) ∧ Below W.heap.size W w' :=
  dovecoteref1_Get.calls 20 A c l _ _ _ W (Kd.C_below hr hB) hc (rget3 hb rfl)
set_option maxRecDepth 100000 in
set_option maxHeartbeats 4000000 in
theorem ref3_var (A : Option Addr) (c : Nat) (l : List Int) (w : World) (hr : Kd.C (Kd.int .u8) w A l.length l) (hc : l.length ≤ c) (hb : bok l) (id sz : Int) (hv : Dv.varGet l = (id, sz, 0)) (hk : kindOf id = 5) (he : (Dv.varGet (l.drop sz.toNat)).2.2 = 0) :
    Calls Tryd.prog 33 #[.slice A l.length c] w fun e w' => e = .returned (.tuple #[.agg #[.int .i64 id, .int .i64 (Dv.varGet (l.drop sz.toNat)).1, .string ⟨#[]⟩, .string ⟨#[]⟩], .int .i64 (sz + (Dv.varGet (l.drop sz.toNat)).2.1)]) ∧ Below w.heap.size w w' := by
  have hg := varGet_good l hb
  have hbr := bok_drop hb sz.toNat
  rw [hv] at hg
  dsimp only at hg
  have hm := hr.2.1
  obtain ⟨A2, hcut, hr2, hc2⟩ : ∃ A', (∀ W : World, (Instr.slice 35 (.slice A l.length c) (some (.int .i64 sz)) none none).run Tryd.prog W = .ok (.slice A' (l.drop sz.toNat).length (c - sz.toNat)) W) ∧ Kd.C (Kd.int .u8) w A' (l.drop sz.toNat).length (l.drop sz.toNat) ∧ (l.drop sz.toNat).length ≤ c - sz.toNat := by
    obtain ⟨i0, hi, _, hsz, _⟩ := info_parts qinfo5
    obtain ⟨A', h1, h2, h3⟩ := print_drop_of (P := Tryd.prog) (Value.int .u8) 0 35 5 .i64 Tryd.underlying35 hi hsz A c l sz (by omega) (by omega) hc
    exact ⟨A', h1, Kd.C_of_reads (h1 := fun _ => rfl) (h2 _ (Kd.reads_of_C hr)), h3⟩
  have CC := Lib.hid (dovecoteref1_Get.calls 20 A c l id sz 0 (w.alloc (.cells #[.int .i64 0, .int .i64 0, .string ⟨#[]⟩, .string ⟨#[]⟩] 24)) (Kd.C_below hr (below_alloc (Below.refl _ _) _)) hc (rget3 hb hv))
  have CK := Lib.hid (fun w => dovecoteref3_kind.calls 10 id 5 w (by rw [← hk]; exact kind_f id))
  have HR2 := Lib.hid hr2
  have HC2 := Lib.hid hc2
  have HBR := Lib.hid hbr
  obtain ⟨hsz0, hsz4⟩ : 0 ≤ sz ∧ sz ≤ 4 := by omega
  have hr63 := hr2.2.1
  have hgd := varGet_good _ hbr
  have hle := varGet_le _ hbr
  clear hr hb hv hk hr2 hc2 hbr hg
  generalize l.drop sz.toNat = r at *
  generalize c - sz.toNat = c2 at *
  have CX := Lib.hid (fun W (hB : Below w.heap.size w W) => varB r HBR.out A2 c2 w W HR2.out HC2.out hB)
  clear HR2 HC2 HBR
  generalize Dv.varGet r = gr at *
  obtain ⟨s, z, e⟩ := gr
  dsimp only at *
  subst he
  obtain ⟨hz0, hz1⟩ : 0 ≤ z ∧ z ≤ 70000 := by first | omega | (rcases hgd with h | h <;> omega)
  clear hgd hle
  go_enter Tryd.func33, Tryd.ntmps33
  go_wp2_with fail
  refine CC.out.mono ?_
  rintro e w2 ⟨rfl, hb2⟩
  have hT := Two.start id hb2
  have HT := Lib.hid hT
  clear hb2 hT
  go_wp2_with fail
  refine (CK.out _).mono ?_
  rintro e w3 ⟨rfl, hd⟩
  have hT3 := HT.out.after hd.below
  clear hd HT
  generalize w2.heap.size = b at *
  go_wp2_with fail
  refine (CX.out _ hT3.below).mono ?_
  rintro e w4 ⟨rfl, hb4⟩
  have hT4 := hT3.after hb4
  clear hT3 hb4
  obtain ⟨⟨x0, x1, x2, x3⟩, f0, f1, f2, f3⟩ := hT4.row.facts
  obtain ⟨⟨y0, y1, y2, y3⟩, g0, g1, g2, g3⟩ := hT4.out.facts
  obtain ⟨n1, n2⟩ := hT4.nes
  have HT4 := Lib.hid hT4
  clear hT4
  go_wp2
  refine bodyPost_ret (v := .tuple #[.agg #[.int .i64 id, .int .i64 s, .string ⟨#[]⟩, .string ⟨#[]⟩], .int .i64 (sz + z)]) (by simp [results, Tryd.results33, go_sem, x0, x1, x2, x3, y0, y1, y2, y3]) rfl ⟨rfl, ?_⟩
  exact (HT4.out.set1 _).ends _ _ _ _
set_option maxRecDepth 100000 in
set_option maxHeartbeats 4000000 in
theorem ref3_vare (A : Option Addr) (c : Nat) (l : List Int) (w : World) (hr : Kd.C (Kd.int .u8) w A l.length l) (hc : l.length ≤ c) (hb : bok l) (id sz : Int) (hv : Dv.varGet l = (id, sz, 0)) (hk : kindOf id = 5) (he : (Dv.varGet (l.drop sz.toNat)).2.2 ≠ 0) :
    Calls Tryd.prog 33 #[.slice A l.length c] w fun e w' => e = .returned (.tuple #[.agg #[.int .i64 id, .int .i64 (Dv.varGet (l.drop sz.toNat)).1, .string ⟨#[]⟩, .string ⟨#[]⟩], .int .i64 0]) ∧ Below w.heap.size w w' := by
  have hg := varGet_good l hb
  have hbr := bok_drop hb sz.toNat
  rw [hv] at hg
  dsimp only at hg
  have hm := hr.2.1
  obtain ⟨A2, hcut, hr2, hc2⟩ : ∃ A', (∀ W : World, (Instr.slice 35 (.slice A l.length c) (some (.int .i64 sz)) none none).run Tryd.prog W = .ok (.slice A' (l.drop sz.toNat).length (c - sz.toNat)) W) ∧ Kd.C (Kd.int .u8) w A' (l.drop sz.toNat).length (l.drop sz.toNat) ∧ (l.drop sz.toNat).length ≤ c - sz.toNat := by
    obtain ⟨i0, hi, _, hsz, _⟩ := info_parts qinfo5
    obtain ⟨A', h1, h2, h3⟩ := print_drop_of (P := Tryd.prog) (Value.int .u8) 0 35 5 .i64 Tryd.underlying35 hi hsz A c l sz (by omega) (by omega) hc
    exact ⟨A', h1, Kd.C_of_reads (h1 := fun _ => rfl) (h2 _ (Kd.reads_of_C hr)), h3⟩
  have CC := Lib.hid (dovecoteref1_Get.calls 20 A c l id sz 0 (w.alloc (.cells #[.int .i64 0, .int .i64 0, .string ⟨#[]⟩, .string ⟨#[]⟩] 24)) (Kd.C_below hr (below_alloc (Below.refl _ _) _)) hc (rget3 hb hv))
  have CK := Lib.hid (fun w => dovecoteref3_kind.calls 10 id 5 w (by rw [← hk]; exact kind_f id))
  have HR2 := Lib.hid hr2
  have HC2 := Lib.hid hc2
  have HBR := Lib.hid hbr
  obtain ⟨hsz0, hsz4⟩ : 0 ≤ sz ∧ sz ≤ 4 := by omega
  have hr63 := hr2.2.1
  have hgd := varGet_good _ hbr
  have hle := varGet_le _ hbr
  clear hr hb hv hk hr2 hc2 hbr hg
  generalize l.drop sz.toNat = r at *
  generalize c - sz.toNat = c2 at *
  have CX := Lib.hid (fun W (hB : Below w.heap.size w W) => varB r HBR.out A2 c2 w W HR2.out HC2.out hB)
  clear HR2 HC2 HBR
  generalize Dv.varGet r = gr at *
  obtain ⟨s, z, e⟩ := gr
  dsimp only at *
  have he13 : e = 1 ∨ e = 3 := by rcases hgd with h | h <;> omega
  clear hgd he hle
  go_enter Tryd.func33, Tryd.ntmps33
  go_wp2_with fail
  refine CC.out.mono ?_
  rintro e w2 ⟨rfl, hb2⟩
  have hT := Two.start id hb2
  have HT := Lib.hid hT
  clear hb2 hT
  go_wp2_with fail
  refine (CK.out _).mono ?_
  rintro e w3 ⟨rfl, hd⟩
  have hT3 := HT.out.after hd.below
  clear hd HT
  generalize w2.heap.size = b at *
  go_wp2_with fail
  refine (CX.out _ hT3.below).mono ?_
  rintro e w4 ⟨rfl, hb4⟩
  have hT4 := hT3.after hb4
  clear hT3 hb4
  obtain ⟨⟨x0, x1, x2, x3⟩, f0, f1, f2, f3⟩ := hT4.row.facts
  obtain ⟨⟨y0, y1, y2, y3⟩, g0, g1, g2, g3⟩ := hT4.out.facts
  obtain ⟨n1, n2⟩ := hT4.nes
  have HT4 := Lib.hid hT4
  clear hT4
  rcases he13 with rfl | rfl
  all_goals
    go_wp2
    refine bodyPost_ret (v := .tuple #[.agg #[.int .i64 id, .int .i64 s, .string ⟨#[]⟩, .string ⟨#[]⟩], .int .i64 0]) (by simp [results, Tryd.results33, go_sem, x0, x1, x2, x3, y0, y1, y2, y3]) rfl ⟨rfl, ?_⟩
    exact (HT4.out.set1 _).ends _ _ _ _
set_option maxRecDepth 100000 in
set_option maxHeartbeats 4000000 in
theorem ref3_text (A : Option Addr) (c : Nat) (l : List Int) (w : World) (hr : Kd.C (Kd.int .u8) w A l.length l) (hc : l.length ≤ c) (hb : bok l) (id sz : Int) (hv : Dv.varGet l = (id, sz, 0)) (hk : kindOf id = 6) (he : (getText (l.drop sz.toNat)).2.2 = 0) :
    Calls Tryd.prog 33 #[.slice A l.length c] w fun e w' => e = .returned (.tuple #[.agg #[.int .i64 id, .int .i64 0, .string (getText (l.drop sz.toNat)).1, .string ⟨#[]⟩], .int .i64 (sz + (getText (l.drop sz.toNat)).2.1)]) ∧ Below w.heap.size w w' := by
  have hg := varGet_good l hb
  have hbr := bok_drop hb sz.toNat
  rw [hv] at hg
  dsimp only at hg
  have hm := hr.2.1
  obtain ⟨A2, hcut, hr2, hc2⟩ : ∃ A', (∀ W : World, (Instr.slice 35 (.slice A l.length c) (some (.int .i64 sz)) none none).run Tryd.prog W = .ok (.slice A' (l.drop sz.toNat).length (c - sz.toNat)) W) ∧ Kd.C (Kd.int .u8) w A' (l.drop sz.toNat).length (l.drop sz.toNat) ∧ (l.drop sz.toNat).length ≤ c - sz.toNat := by
    obtain ⟨i0, hi, _, hsz, _⟩ := info_parts qinfo5
    obtain ⟨A', h1, h2, h3⟩ := print_drop_of (P := Tryd.prog) (Value.int .u8) 0 35 5 .i64 Tryd.underlying35 hi hsz A c l sz (by omega) (by omega) hc
    exact ⟨A', h1, Kd.C_of_reads (h1 := fun _ => rfl) (h2 _ (Kd.reads_of_C hr)), h3⟩
  have CC := Lib.hid (dovecoteref1_Get.calls 20 A c l id sz 0 (w.alloc (.cells #[.int .i64 0, .int .i64 0, .string ⟨#[]⟩, .string ⟨#[]⟩] 24)) (Kd.C_below hr (below_alloc (Below.refl _ _) _)) hc (rget3 hb hv))
  have CK := Lib.hid (fun w => dovecoteref3_kind.calls 10 id 6 w (by rw [← hk]; exact kind_f id))
  have HR2 := Lib.hid hr2
  have HC2 := Lib.hid hc2
  have HBR := Lib.hid hbr
  obtain ⟨hsz0, hsz4⟩ : 0 ≤ sz ∧ sz ≤ 4 := by omega
  have hr63 := hr2.2.1
  have hgd := getText_good _ hbr
  have hle := getText_le _ hbr
  clear hr hb hv hk hr2 hc2 hbr hg
  generalize l.drop sz.toNat = r at *
  generalize c - sz.toNat = c2 at *
  have CX := Lib.hid (fun W (hB : Below w.heap.size w W) => getTextB r HBR.out A2 c2 w W HR2.out HC2.out hB)
  clear HR2 HC2 HBR
  generalize getText r = gr at *
  obtain ⟨s, z, e⟩ := gr
  dsimp only at *
  subst he
  obtain ⟨hz0, hz1⟩ : 0 ≤ z ∧ z ≤ 70000 := by first | omega | (rcases hgd with h | h <;> omega)
  clear hgd hle
  go_enter Tryd.func33, Tryd.ntmps33
  go_wp2_with fail
  refine CC.out.mono ?_
  rintro e w2 ⟨rfl, hb2⟩
  have hT := Two.start id hb2
  have HT := Lib.hid hT
  clear hb2 hT
  go_wp2_with fail
  refine (CK.out _).mono ?_
  rintro e w3 ⟨rfl, hd⟩
  have hT3 := HT.out.after hd.below
  clear hd HT
  generalize w2.heap.size = b at *
  go_wp2_with fail
  refine (CX.out _ hT3.below).mono ?_
  rintro e w4 ⟨rfl, hb4⟩
  have hT4 := hT3.after hb4
  clear hT3 hb4
  obtain ⟨⟨x0, x1, x2, x3⟩, f0, f1, f2, f3⟩ := hT4.row.facts
  obtain ⟨⟨y0, y1, y2, y3⟩, g0, g1, g2, g3⟩ := hT4.out.facts
  obtain ⟨n1, n2⟩ := hT4.nes
  have HT4 := Lib.hid hT4
  clear hT4
  go_wp2
  refine bodyPost_ret (v := .tuple #[.agg #[.int .i64 id, .int .i64 0, .string s, .string ⟨#[]⟩], .int .i64 (sz + z)]) (by simp [results, Tryd.results33, go_sem, x0, x1, x2, x3, y0, y1, y2, y3]) rfl ⟨rfl, ?_⟩
  exact (HT4.out.set2 _).ends _ _ _ _
set_option maxRecDepth 100000 in
set_option maxHeartbeats 4000000 in
theorem ref3_texte (A : Option Addr) (c : Nat) (l : List Int) (w : World) (hr : Kd.C (Kd.int .u8) w A l.length l) (hc : l.length ≤ c) (hb : bok l) (id sz : Int) (hv : Dv.varGet l = (id, sz, 0)) (hk : kindOf id = 6) (he : (getText (l.drop sz.toNat)).2.2 ≠ 0) :
    Calls Tryd.prog 33 #[.slice A l.length c] w fun e w' => e = .returned (.tuple #[.agg #[.int .i64 id, .int .i64 0, .string (getText (l.drop sz.toNat)).1, .string ⟨#[]⟩], .int .i64 0]) ∧ Below w.heap.size w w' := by
  have hg := varGet_good l hb
  have hbr := bok_drop hb sz.toNat
  rw [hv] at hg
  dsimp only at hg
  have hm := hr.2.1
  obtain ⟨A2, hcut, hr2, hc2⟩ : ∃ A', (∀ W : World, (Instr.slice 35 (.slice A l.length c) (some (.int .i64 sz)) none none).run Tryd.prog W = .ok (.slice A' (l.drop sz.toNat).length (c - sz.toNat)) W) ∧ Kd.C (Kd.int .u8) w A' (l.drop sz.toNat).length (l.drop sz.toNat) ∧ (l.drop sz.toNat).length ≤ c - sz.toNat := by
    obtain ⟨i0, hi, _, hsz, _⟩ := info_parts qinfo5
    obtain ⟨A', h1, h2, h3⟩ := print_drop_of (P := Tryd.prog) (Value.int .u8) 0 35 5 .i64 Tryd.underlying35 hi hsz A c l sz (by omega) (by omega) hc
    exact ⟨A', h1, Kd.C_of_reads (h1 := fun _ => rfl) (h2 _ (Kd.reads_of_C hr)), h3⟩
  have CC := Lib.hid (dovecoteref1_Get.calls 20 A c l id sz 0 (w.alloc (.cells #[.int .i64 0, .int .i64 0, .string ⟨#[]⟩, .string ⟨#[]⟩] 24)) (Kd.C_below hr (below_alloc (Below.refl _ _) _)) hc (rget3 hb hv))
  have CK := Lib.hid (fun w => dovecoteref3_kind.calls 10 id 6 w (by rw [← hk]; exact kind_f id))
  have HR2 := Lib.hid hr2
  have HC2 := Lib.hid hc2
  have HBR := Lib.hid hbr
  obtain ⟨hsz0, hsz4⟩ : 0 ≤ sz ∧ sz ≤ 4 := by omega
  have hr63 := hr2.2.1
  have hgd := getText_good _ hbr
  have hle := getText_le _ hbr
  clear hr hb hv hk hr2 hc2 hbr hg
  generalize l.drop sz.toNat = r at *
  generalize c - sz.toNat = c2 at *
  have CX := Lib.hid (fun W (hB : Below w.heap.size w W) => getTextB r HBR.out A2 c2 w W HR2.out HC2.out hB)
  clear HR2 HC2 HBR
  generalize getText r = gr at *
  obtain ⟨s, z, e⟩ := gr
  dsimp only at *
  have he13 : e = 1 ∨ e = 3 := by rcases hgd with h | h <;> omega
  clear hgd he hle
  go_enter Tryd.func33, Tryd.ntmps33
  go_wp2_with fail
  refine CC.out.mono ?_
  rintro e w2 ⟨rfl, hb2⟩
  have hT := Two.start id hb2
  have HT := Lib.hid hT
  clear hb2 hT
  go_wp2_with fail
  refine (CK.out _).mono ?_
  rintro e w3 ⟨rfl, hd⟩
  have hT3 := HT.out.after hd.below
  clear hd HT
  generalize w2.heap.size = b at *
  go_wp2_with fail
  refine (CX.out _ hT3.below).mono ?_
  rintro e w4 ⟨rfl, hb4⟩
  have hT4 := hT3.after hb4
  clear hT3 hb4
  obtain ⟨⟨x0, x1, x2, x3⟩, f0, f1, f2, f3⟩ := hT4.row.facts
  obtain ⟨⟨y0, y1, y2, y3⟩, g0, g1, g2, g3⟩ := hT4.out.facts
  obtain ⟨n1, n2⟩ := hT4.nes
  have HT4 := Lib.hid hT4
  clear hT4
  rcases he13 with rfl | rfl
  all_goals
    go_wp2
    refine bodyPost_ret (v := .tuple #[.agg #[.int .i64 id, .int .i64 0, .string s, .string ⟨#[]⟩], .int .i64 0]) (by simp [results, Tryd.results33, go_sem, x0, x1, x2, x3, y0, y1, y2, y3]) rfl ⟨rfl, ?_⟩
    exact (HT4.out.set2 _).ends _ _ _ _
set_option maxRecDepth 100000 in
set_option maxHeartbeats 4000000 in
theorem ref3_bin (A : Option Addr) (c : Nat) (l : List Int) (w : World) (hr : Kd.C (Kd.int .u8) w A l.length l) (hc : l.length ≤ c) (hb : bok l) (id sz : Int) (hv : Dv.varGet l = (id, sz, 0)) (hk : kindOf id = 7) (he : (getBin (l.drop sz.toNat)).2.2 = 0) :
    Calls Tryd.prog 33 #[.slice A l.length c] w fun e w' => e = .returned (.tuple #[.agg #[.int .i64 id, .int .i64 0, .string (getBin (l.drop sz.toNat)).1, .string ⟨#[]⟩], .int .i64 (sz + (getBin (l.drop sz.toNat)).2.1)]) ∧ Below w.heap.size w w' := by
  have hg := varGet_good l hb
  have hbr := bok_drop hb sz.toNat
  rw [hv] at hg
  dsimp only at hg
  have hm := hr.2.1
  obtain ⟨A2, hcut, hr2, hc2⟩ : ∃ A', (∀ W : World, (Instr.slice 35 (.slice A l.length c) (some (.int .i64 sz)) none none).run Tryd.prog W = .ok (.slice A' (l.drop sz.toNat).length (c - sz.toNat)) W) ∧ Kd.C (Kd.int .u8) w A' (l.drop sz.toNat).length (l.drop sz.toNat) ∧ (l.drop sz.toNat).length ≤ c - sz.toNat := by
    obtain ⟨i0, hi, _, hsz, _⟩ := info_parts qinfo5
    obtain ⟨A', h1, h2, h3⟩ := print_drop_of (P := Tryd.prog) (Value.int .u8) 0 35 5 .i64 Tryd.underlying35 hi hsz A c l sz (by omega) (by omega) hc
    exact ⟨A', h1, Kd.C_of_reads (h1 := fun _ => rfl) (h2 _ (Kd.reads_of_C hr)), h3⟩
  have CC := Lib.hid (dovecoteref1_Get.calls 20 A c l id sz 0 (w.alloc (.cells #[.int .i64 0, .int .i64 0, .string ⟨#[]⟩, .string ⟨#[]⟩] 24)) (Kd.C_below hr (below_alloc (Below.refl _ _) _)) hc (rget3 hb hv))
  have CK := Lib.hid (fun w => dovecoteref3_kind.calls 10 id 7 w (by rw [← hk]; exact kind_f id))
  have HR2 := Lib.hid hr2
  have HC2 := Lib.hid hc2
  have HBR := Lib.hid hbr
  obtain ⟨hsz0, hsz4⟩ : 0 ≤ sz ∧ sz ≤ 4 := by omega
  have hr63 := hr2.2.1
  have hgd := getBin_good _ hbr
  have hle := getBin_le _ hbr
  clear hr hb hv hk hr2 hc2 hbr hg
  generalize l.drop sz.toNat = r at *
  generalize c - sz.toNat = c2 at *
  have CX := Lib.hid (fun W (hB : Below w.heap.size w W) => getBinB r HBR.out A2 c2 w W HR2.out HC2.out hB)
  clear HR2 HC2 HBR
  generalize getBin r = gr at *
  obtain ⟨s, z, e⟩ := gr
  dsimp only at *
  subst he
  obtain ⟨hz0, hz1⟩ : 0 ≤ z ∧ z ≤ 70000 := by first | omega | (rcases hgd with h | h <;> omega)
  clear hgd hle
  go_enter Tryd.func33, Tryd.ntmps33
  go_wp2_with fail
  refine CC.out.mono ?_
  rintro e w2 ⟨rfl, hb2⟩
  have hT := Two.start id hb2
  have HT := Lib.hid hT
  clear hb2 hT
  go_wp2_with fail
  refine (CK.out _).mono ?_
  rintro e w3 ⟨rfl, hd⟩
  have hT3 := HT.out.after hd.below
  clear hd HT
  generalize w2.heap.size = b at *
  go_wp2_with fail
  refine (CX.out _ hT3.below).mono ?_
  rintro e w4 ⟨rfl, hb4⟩
  have hT4 := hT3.after hb4
  clear hT3 hb4
  obtain ⟨⟨x0, x1, x2, x3⟩, f0, f1, f2, f3⟩ := hT4.row.facts
  obtain ⟨⟨y0, y1, y2, y3⟩, g0, g1, g2, g3⟩ := hT4.out.facts
  obtain ⟨n1, n2⟩ := hT4.nes
  have HT4 := Lib.hid hT4
  clear hT4
  go_wp2
  refine bodyPost_ret (v := .tuple #[.agg #[.int .i64 id, .int .i64 0, .string s, .string ⟨#[]⟩], .int .i64 (sz + z)]) (by simp [results, Tryd.results33, go_sem, x0, x1, x2, x3, y0, y1, y2, y3]) rfl ⟨rfl, ?_⟩
  exact (HT4.out.set2 _).ends _ _ _ _
set_option maxRecDepth 100000 in
set_option maxHeartbeats 4000000 in
theorem ref3_bine (A : Option Addr) (c : Nat) (l : List Int) (w : World) (hr : Kd.C (Kd.int .u8) w A l.length l) (hc : l.length ≤ c) (hb : bok l) (id sz : Int) (hv : Dv.varGet l = (id, sz, 0)) (hk : kindOf id = 7) (he : (getBin (l.drop sz.toNat)).2.2 ≠ 0) :
    Calls Tryd.prog 33 #[.slice A l.length c] w fun e w' => e = .returned (.tuple #[.agg #[.int .i64 id, .int .i64 0, .string (getBin (l.drop sz.toNat)).1, .string ⟨#[]⟩], .int .i64 0]) ∧ Below w.heap.size w w' := by
  have hg := varGet_good l hb
  have hbr := bok_drop hb sz.toNat
  rw [hv] at hg
  dsimp only at hg
  have hm := hr.2.1
  obtain ⟨A2, hcut, hr2, hc2⟩ : ∃ A', (∀ W : World, (Instr.slice 35 (.slice A l.length c) (some (.int .i64 sz)) none none).run Tryd.prog W = .ok (.slice A' (l.drop sz.toNat).length (c - sz.toNat)) W) ∧ Kd.C (Kd.int .u8) w A' (l.drop sz.toNat).length (l.drop sz.toNat) ∧ (l.drop sz.toNat).length ≤ c - sz.toNat := by
    obtain ⟨i0, hi, _, hsz, _⟩ := info_parts qinfo5
    obtain ⟨A', h1, h2, h3⟩ := print_drop_of (P := Tryd.prog) (Value.int .u8) 0 35 5 .i64 Tryd.underlying35 hi hsz A c l sz (by omega) (by omega) hc
    exact ⟨A', h1, Kd.C_of_reads (h1 := fun _ => rfl) (h2 _ (Kd.reads_of_C hr)), h3⟩
  have CC := Lib.hid (dovecoteref1_Get.calls 20 A c l id sz 0 (w.alloc (.cells #[.int .i64 0, .int .i64 0, .string ⟨#[]⟩, .string ⟨#[]⟩] 24)) (Kd.C_below hr (below_alloc (Below.refl _ _) _)) hc (rget3 hb hv))
  have CK := Lib.hid (fun w => dovecoteref3_kind.calls 10 id 7 w (by rw [← hk]; exact kind_f id))
  have HR2 := Lib.hid hr2
  have HC2 := Lib.hid hc2
  have HBR := Lib.hid hbr
  obtain ⟨hsz0, hsz4⟩ : 0 ≤ sz ∧ sz ≤ 4 := by omega
  have hr63 := hr2.2.1
  have hgd := getBin_good _ hbr
  have hle := getBin_le _ hbr
  clear hr hb hv hk hr2 hc2 hbr hg
  generalize l.drop sz.toNat = r at *
  generalize c - sz.toNat = c2 at *
  have CX := Lib.hid (fun W (hB : Below w.heap.size w W) => getBinB r HBR.out A2 c2 w W HR2.out HC2.out hB)
  clear HR2 HC2 HBR
  generalize getBin r = gr at *
  obtain ⟨s, z, e⟩ := gr
  dsimp only at *
  have he13 : e = 1 ∨ e = 3 := by rcases hgd with h | h <;> omega
  clear hgd he hle
  go_enter Tryd.func33, Tryd.ntmps33
  go_wp2_with fail
  refine CC.out.mono ?_
  rintro e w2 ⟨rfl, hb2⟩
  have hT := Two.start id hb2
  have HT := Lib.hid hT
  clear hb2 hT
  go_wp2_with fail
  refine (CK.out _).mono ?_
  rintro e w3 ⟨rfl, hd⟩
  have hT3 := HT.out.after hd.below
  clear hd HT
  generalize w2.heap.size = b at *
  go_wp2_with fail
  refine (CX.out _ hT3.below).mono ?_
  rintro e w4 ⟨rfl, hb4⟩
  have hT4 := hT3.after hb4
  clear hT3 hb4
  obtain ⟨⟨x0, x1, x2, x3⟩, f0, f1, f2, f3⟩ := hT4.row.facts
  obtain ⟨⟨y0, y1, y2, y3⟩, g0, g1, g2, g3⟩ := hT4.out.facts
  obtain ⟨n1, n2⟩ := hT4.nes
  have HT4 := Lib.hid hT4
  clear hT4
  rcases he13 with rfl | rfl
  all_goals
    go_wp2
    refine bodyPost_ret (v := .tuple #[.agg #[.int .i64 id, .int .i64 0, .string s, .string ⟨#[]⟩], .int .i64 0]) (by simp [results, Tryd.results33, go_sem, x0, x1, x2, x3, y0, y1, y2, y3]) rfl ⟨rfl, ?_⟩
    exact (HT4.out.set2 _).ends _ _ _ _
set_option maxRecDepth 100000 in
set_option maxHeartbeats 4000000 in
theorem ref3_pair1 (A : Option Addr) (c : Nat) (l : List Int) (w : World) (hr : Kd.C (Kd.int .u8) w A l.length l) (hc : l.length ≤ c) (hb : bok l) (id sz : Int) (hv : Dv.varGet l = (id, sz, 0)) (hk : kindOf id = 8) (he : (getText (l.drop sz.toNat)).2.2 ≠ 0) :
    Calls Tryd.prog 33 #[.slice A l.length c] w fun e w' => e = .returned (.tuple #[.agg #[.int .i64 id, .int .i64 0, .string (getText (l.drop sz.toNat)).1, .string ⟨#[]⟩], .int .i64 0]) ∧ Below w.heap.size w w' := by
  have hg := varGet_good l hb
  have hbr := bok_drop hb sz.toNat
  rw [hv] at hg
  dsimp only at hg
  have hm := hr.2.1
  obtain ⟨A2, hcut, hr2, hc2⟩ : ∃ A', (∀ W : World, (Instr.slice 35 (.slice A l.length c) (some (.int .i64 sz)) none none).run Tryd.prog W = .ok (.slice A' (l.drop sz.toNat).length (c - sz.toNat)) W) ∧ Kd.C (Kd.int .u8) w A' (l.drop sz.toNat).length (l.drop sz.toNat) ∧ (l.drop sz.toNat).length ≤ c - sz.toNat := by
    obtain ⟨i0, hi, _, hsz, _⟩ := info_parts qinfo5
    obtain ⟨A', h1, h2, h3⟩ := print_drop_of (P := Tryd.prog) (Value.int .u8) 0 35 5 .i64 Tryd.underlying35 hi hsz A c l sz (by omega) (by omega) hc
    exact ⟨A', h1, Kd.C_of_reads (h1 := fun _ => rfl) (h2 _ (Kd.reads_of_C hr)), h3⟩
  have CC := Lib.hid (dovecoteref1_Get.calls 20 A c l id sz 0 (w.alloc (.cells #[.int .i64 0, .int .i64 0, .string ⟨#[]⟩, .string ⟨#[]⟩] 24)) (Kd.C_below hr (below_alloc (Below.refl _ _) _)) hc (rget3 hb hv))
  have CK := Lib.hid (fun w => dovecoteref3_kind.calls 10 id 8 w (by rw [← hk]; exact kind_f id))
  have HR2 := Lib.hid hr2
  have HC2 := Lib.hid hc2
  have HBR := Lib.hid hbr
  obtain ⟨hsz0, hsz4⟩ : 0 ≤ sz ∧ sz ≤ 4 := by omega
  have hr63 := hr2.2.1
  have hgd := getText_good _ hbr
  clear hr hb hv hk hr2 hc2 hbr hg
  generalize l.drop sz.toNat = r at *
  generalize c - sz.toNat = c2 at *
  have CX := Lib.hid (fun W (hB : Below w.heap.size w W) => getTextB r HBR.out A2 c2 w W HR2.out HC2.out hB)
  clear HR2 HC2 HBR
  generalize getText r = gr at *
  obtain ⟨s, z, e⟩ := gr
  dsimp only at *
  have he13 : e = 1 ∨ e = 3 := by rcases hgd with h | h <;> omega
  clear hgd he
  go_enter Tryd.func33, Tryd.ntmps33
  go_wp2_with fail
  refine CC.out.mono ?_
  rintro e w2 ⟨rfl, hb2⟩
  have hT := Two.start id hb2
  have HT := Lib.hid hT
  clear hb2 hT
  go_wp2_with fail
  refine (CK.out _).mono ?_
  rintro e w3 ⟨rfl, hd⟩
  have hT3 := HT.out.after hd.below
  clear hd HT
  generalize w2.heap.size = b at *
  go_wp2_with fail
  refine (CX.out _ hT3.below).mono ?_
  rintro e w4 ⟨rfl, hb4⟩
  have hT4 := hT3.after hb4
  clear hT3 hb4
  obtain ⟨⟨x0, x1, x2, x3⟩, f0, f1, f2, f3⟩ := hT4.row.facts
  obtain ⟨⟨y0, y1, y2, y3⟩, g0, g1, g2, g3⟩ := hT4.out.facts
  obtain ⟨n1, n2⟩ := hT4.nes
  have HT4 := Lib.hid hT4
  clear hT4
  rcases he13 with rfl | rfl
  all_goals
    go_wp2
    refine bodyPost_ret (v := .tuple #[.agg #[.int .i64 id, .int .i64 0, .string s, .string ⟨#[]⟩], .int .i64 0]) (by simp [results, Tryd.results33, go_sem, x0, x1, x2, x3, y0, y1, y2, y3]) rfl ⟨rfl, ?_⟩
    exact (HT4.out.set2 _).ends _ _ _ _
set_option maxRecDepth 100000 in
set_option maxHeartbeats 4000000 in
theorem ref3_pair (A : Option Addr) (c : Nat) (l : List Int) (w : World) (hr : Kd.C (Kd.int .u8) w A l.length l) (hc : l.length ≤ c) (hb : bok l) (id sz : Int) (hv : Dv.varGet l = (id, sz, 0)) (hk : kindOf id = 8) (he : (getText (l.drop sz.toNat)).2.2 = 0) (he2 : (getText ((l.drop sz.toNat).drop (getText (l.drop sz.toNat)).2.1.toNat)).2.2 = 0) :
    Calls Tryd.prog 33 #[.slice A l.length c] w fun e w' => e = .returned (.tuple #[.agg #[.int .i64 id, .int .i64 0, .string (getText (l.drop sz.toNat)).1, .string (getText ((l.drop sz.toNat).drop (getText (l.drop sz.toNat)).2.1.toNat)).1], .int .i64 (sz + ((getText (l.drop sz.toNat)).2.1 + (getText ((l.drop sz.toNat).drop (getText (l.drop sz.toNat)).2.1.toNat)).2.1))]) ∧ Below w.heap.size w w' := by
  have hg := varGet_good l hb
  have hbr := bok_drop hb sz.toNat
  rw [hv] at hg
  dsimp only at hg
  have hm := hr.2.1
  obtain ⟨A2, hcut, hr2, hc2⟩ : ∃ A', (∀ W : World, (Instr.slice 35 (.slice A l.length c) (some (.int .i64 sz)) none none).run Tryd.prog W = .ok (.slice A' (l.drop sz.toNat).length (c - sz.toNat)) W) ∧ Kd.C (Kd.int .u8) w A' (l.drop sz.toNat).length (l.drop sz.toNat) ∧ (l.drop sz.toNat).length ≤ c - sz.toNat := by
    obtain ⟨i0, hi, _, hsz, _⟩ := info_parts qinfo5
    obtain ⟨A', h1, h2, h3⟩ := print_drop_of (P := Tryd.prog) (Value.int .u8) 0 35 5 .i64 Tryd.underlying35 hi hsz A c l sz (by omega) (by omega) hc
    exact ⟨A', h1, Kd.C_of_reads (h1 := fun _ => rfl) (h2 _ (Kd.reads_of_C hr)), h3⟩
  have CC := Lib.hid (dovecoteref1_Get.calls 20 A c l id sz 0 (w.alloc (.cells #[.int .i64 0, .int .i64 0, .string ⟨#[]⟩, .string ⟨#[]⟩] 24)) (Kd.C_below hr (below_alloc (Below.refl _ _) _)) hc (rget3 hb hv))
  have CK := Lib.hid (fun w => dovecoteref3_kind.calls 10 id 8 w (by rw [← hk]; exact kind_f id))
  have HR2 := Lib.hid hr2
  have HC2 := Lib.hid hc2
  have HBR := Lib.hid hbr
  obtain ⟨hsz0, hsz4⟩ : 0 ≤ sz ∧ sz ≤ 4 := by omega
  have hr63 := hr2.2.1
  have hrl : (l.drop sz.toNat).length = l.length - sz.toNat := List.length_drop
  have hql : ((l.drop sz.toNat).drop (getText (l.drop sz.toNat)).2.1.toNat).length = (l.drop sz.toNat).length - (getText (l.drop sz.toNat)).2.1.toNat := List.length_drop
  have hgd := getText_good _ hbr
  have hgd2 := getText_good _ (bok_drop hbr (getText (l.drop sz.toNat)).2.1.toNat)
  have hle := getText_le _ hbr
  have hle2 := getText_le _ (bok_drop hbr (getText (l.drop sz.toNat)).2.1.toNat)
  obtain ⟨A3, hcut3, hr3, hc3⟩ : ∃ A', (∀ W : World, (Instr.slice 35 (.slice A2 (l.drop sz.toNat).length (c - sz.toNat)) (some (.int .i64 (getText (l.drop sz.toNat)).2.1)) none none).run Tryd.prog W = .ok (.slice A' ((l.drop sz.toNat).drop (getText (l.drop sz.toNat)).2.1.toNat).length (c - sz.toNat - (getText (l.drop sz.toNat)).2.1.toNat)) W) ∧ Kd.C (Kd.int .u8) w A' ((l.drop sz.toNat).drop (getText (l.drop sz.toNat)).2.1.toNat).length ((l.drop sz.toNat).drop (getText (l.drop sz.toNat)).2.1.toNat) ∧ ((l.drop sz.toNat).drop (getText (l.drop sz.toNat)).2.1.toNat).length ≤ c - sz.toNat - (getText (l.drop sz.toNat)).2.1.toNat := by
    obtain ⟨i0, hi, _, hsz, _⟩ := info_parts qinfo5
    obtain ⟨A', h1, h2, h3⟩ := print_drop_of (P := Tryd.prog) (Value.int .u8) 0 35 5 .i64 Tryd.underlying35 hi hsz A2 (c - sz.toNat) (l.drop sz.toNat) (getText (l.drop sz.toNat)).2.1 (by omega) (by omega) hc2
    exact ⟨A', h1, Kd.C_of_reads (h1 := fun _ => rfl) (h2 _ (Kd.reads_of_C hr2)), h3⟩
  have CY := Lib.hid (fun W (hB : Below w.heap.size w W) => getTextB _ (bok_drop hbr (getText (l.drop sz.toNat)).2.1.toNat) A3 _ w W hr3 hc3 hB)
  have hq63 := hr3.2.1
  clear hr3 hc3 hrl hql
  clear hr hb hv hk hr2 hc2 hbr hg
  generalize l.drop sz.toNat = r at *
  generalize c - sz.toNat = c2 at *
  have CX := Lib.hid (fun W (hB : Below w.heap.size w W) => getTextB r HBR.out A2 c2 w W HR2.out HC2.out hB)
  clear HR2 HC2 HBR
  generalize getText r = gr at *
  obtain ⟨s, z, e⟩ := gr
  dsimp only at *
  subst he
  generalize r.drop z.toNat = q at *
  generalize c2 - z.toNat = c3 at *
  generalize getText q = gq at *
  obtain ⟨s2, z2, e2⟩ := gq
  dsimp only at *
  obtain ⟨hz0, hz1⟩ : 0 ≤ z ∧ z ≤ 70000 := by first | omega | (rcases hgd with h | h <;> omega)
  subst he2
  obtain ⟨hy0, hy1⟩ : 0 ≤ z2 ∧ z2 ≤ 70000 := by first | omega | (rcases hgd2 with h | h <;> omega)
  clear hgd hgd2 hle hle2
  go_enter Tryd.func33, Tryd.ntmps33
  go_wp2_with fail
  refine CC.out.mono ?_
  rintro e w2 ⟨rfl, hb2⟩
  have hT := Two.start id hb2
  have HT := Lib.hid hT
  clear hb2 hT
  go_wp2_with fail
  refine (CK.out _).mono ?_
  rintro e w3 ⟨rfl, hd⟩
  have hT3 := HT.out.after hd.below
  clear hd HT
  generalize w2.heap.size = b at *
  go_wp2_with fail
  refine (CX.out _ hT3.below).mono ?_
  rintro e w4 ⟨rfl, hb4⟩
  have hT4 := hT3.after hb4
  clear hT3 hb4
  obtain ⟨⟨x0, x1, x2, x3⟩, f0, f1, f2, f3⟩ := hT4.row.facts
  obtain ⟨⟨y0, y1, y2, y3⟩, g0, g1, g2, g3⟩ := hT4.out.facts
  obtain ⟨n1, n2⟩ := hT4.nes
  have HT4 := Lib.hid hT4
  clear hT4
  go_wp2_with fail
  refine (CY.out _ (HT4.out.set2 s).below).mono ?_
  rintro e w5 ⟨rfl, hb5⟩
  have hT5 := (HT4.out.set2 s).after hb5
  clear HT4 hb5 x0 x1 x2 x3 y0 y1 y2 y3 f0 f1 f2 f3 g0 g1 g2 g3 n1 n2
  obtain ⟨⟨x0, x1, x2, x3⟩, f0, f1, f2, f3⟩ := hT5.row.facts
  obtain ⟨⟨y0, y1, y2, y3⟩, g0, g1, g2, g3⟩ := hT5.out.facts
  obtain ⟨n1, n2⟩ := hT5.nes
  have HT5 := Lib.hid hT5
  clear hT5
  go_wp2
  refine bodyPost_ret (v := .tuple #[.agg #[.int .i64 id, .int .i64 0, .string s, .string s2], .int .i64 (sz + (z + z2))]) (by simp [results, Tryd.results33, go_sem, x0, x1, x2, x3, y0, y1, y2, y3]) rfl ⟨rfl, ?_⟩
  exact (HT5.out.set3 _).ends _ _ _ _
set_option maxRecDepth 100000 in
set_option maxHeartbeats 4000000 in
theorem ref3_pair2 (A : Option Addr) (c : Nat) (l : List Int) (w : World) (hr : Kd.C (Kd.int .u8) w A l.length l) (hc : l.length ≤ c) (hb : bok l) (id sz : Int) (hv : Dv.varGet l = (id, sz, 0)) (hk : kindOf id = 8) (he : (getText (l.drop sz.toNat)).2.2 = 0) (he2 : (getText ((l.drop sz.toNat).drop (getText (l.drop sz.toNat)).2.1.toNat)).2.2 ≠ 0) :
    Calls Tryd.prog 33 #[.slice A l.length c] w fun e w' => e = .returned (.tuple #[.agg #[.int .i64 id, .int .i64 0, .string (getText (l.drop sz.toNat)).1, .string (getText ((l.drop sz.toNat).drop (getText (l.drop sz.toNat)).2.1.toNat)).1], .int .i64 0]) ∧ Below w.heap.size w w' := by
  have hg := varGet_good l hb
  have hbr := bok_drop hb sz.toNat
  rw [hv] at hg
  dsimp only at hg
  have hm := hr.2.1
  obtain ⟨A2, hcut, hr2, hc2⟩ : ∃ A', (∀ W : World, (Instr.slice 35 (.slice A l.length c) (some (.int .i64 sz)) none none).run Tryd.prog W = .ok (.slice A' (l.drop sz.toNat).length (c - sz.toNat)) W) ∧ Kd.C (Kd.int .u8) w A' (l.drop sz.toNat).length (l.drop sz.toNat) ∧ (l.drop sz.toNat).length ≤ c - sz.toNat := by
    obtain ⟨i0, hi, _, hsz, _⟩ := info_parts qinfo5
    obtain ⟨A', h1, h2, h3⟩ := print_drop_of (P := Tryd.prog) (Value.int .u8) 0 35 5 .i64 Tryd.underlying35 hi hsz A c l sz (by omega) (by omega) hc
    exact ⟨A', h1, Kd.C_of_reads (h1 := fun _ => rfl) (h2 _ (Kd.reads_of_C hr)), h3⟩
  have CC := Lib.hid (dovecoteref1_Get.calls 20 A c l id sz 0 (w.alloc (.cells #[.int .i64 0, .int .i64 0, .string ⟨#[]⟩, .string ⟨#[]⟩] 24)) (Kd.C_below hr (below_alloc (Below.refl _ _) _)) hc (rget3 hb hv))
  have CK := Lib.hid (fun w => dovecoteref3_kind.calls 10 id 8 w (by rw [← hk]; exact kind_f id))
  have HR2 := Lib.hid hr2
  have HC2 := Lib.hid hc2
  have HBR := Lib.hid hbr
  obtain ⟨hsz0, hsz4⟩ : 0 ≤ sz ∧ sz ≤ 4 := by omega
  have hr63 := hr2.2.1
  have hrl : (l.drop sz.toNat).length = l.length - sz.toNat := List.length_drop
  have hql : ((l.drop sz.toNat).drop (getText (l.drop sz.toNat)).2.1.toNat).length = (l.drop sz.toNat).length - (getText (l.drop sz.toNat)).2.1.toNat := List.length_drop
  have hgd := getText_good _ hbr
  have hgd2 := getText_good _ (bok_drop hbr (getText (l.drop sz.toNat)).2.1.toNat)
  have hle := getText_le _ hbr
  have hle2 := getText_le _ (bok_drop hbr (getText (l.drop sz.toNat)).2.1.toNat)
  obtain ⟨A3, hcut3, hr3, hc3⟩ : ∃ A', (∀ W : World, (Instr.slice 35 (.slice A2 (l.drop sz.toNat).length (c - sz.toNat)) (some (.int .i64 (getText (l.drop sz.toNat)).2.1)) none none).run Tryd.prog W = .ok (.slice A' ((l.drop sz.toNat).drop (getText (l.drop sz.toNat)).2.1.toNat).length (c - sz.toNat - (getText (l.drop sz.toNat)).2.1.toNat)) W) ∧ Kd.C (Kd.int .u8) w A' ((l.drop sz.toNat).drop (getText (l.drop sz.toNat)).2.1.toNat).length ((l.drop sz.toNat).drop (getText (l.drop sz.toNat)).2.1.toNat) ∧ ((l.drop sz.toNat).drop (getText (l.drop sz.toNat)).2.1.toNat).length ≤ c - sz.toNat - (getText (l.drop sz.toNat)).2.1.toNat := by
    obtain ⟨i0, hi, _, hsz, _⟩ := info_parts qinfo5
    obtain ⟨A', h1, h2, h3⟩ := print_drop_of (P := Tryd.prog) (Value.int .u8) 0 35 5 .i64 Tryd.underlying35 hi hsz A2 (c - sz.toNat) (l.drop sz.toNat) (getText (l.drop sz.toNat)).2.1 (by omega) (by omega) hc2
    exact ⟨A', h1, Kd.C_of_reads (h1 := fun _ => rfl) (h2 _ (Kd.reads_of_C hr2)), h3⟩
  have CY := Lib.hid (fun W (hB : Below w.heap.size w W) => getTextB _ (bok_drop hbr (getText (l.drop sz.toNat)).2.1.toNat) A3 _ w W hr3 hc3 hB)
  have hq63 := hr3.2.1
  clear hr3 hc3 hrl hql
  clear hr hb hv hk hr2 hc2 hbr hg
  generalize l.drop sz.toNat = r at *
  generalize c - sz.toNat = c2 at *
  have CX := Lib.hid (fun W (hB : Below w.heap.size w W) => getTextB r HBR.out A2 c2 w W HR2.out HC2.out hB)
  clear HR2 HC2 HBR
  generalize getText r = gr at *
  obtain ⟨s, z, e⟩ := gr
  dsimp only at *
  subst he
  generalize r.drop z.toNat = q at *
  generalize c2 - z.toNat = c3 at *
  generalize getText q = gq at *
  obtain ⟨s2, z2, e2⟩ := gq
  dsimp only at *
  obtain ⟨hz0, hz1⟩ : 0 ≤ z ∧ z ≤ 70000 := by first | omega | (rcases hgd with h | h <;> omega)
  have he13 : e2 = 1 ∨ e2 = 3 := by rcases hgd2 with h | h <;> omega
  obtain ⟨hy0, hy1⟩ : 0 ≤ z2 ∧ z2 ≤ 70000 := by first | omega | (rcases hgd2 with h | h <;> omega)
  clear hgd hgd2 he2 hle hle2
  go_enter Tryd.func33, Tryd.ntmps33
  go_wp2_with fail
  refine CC.out.mono ?_
  rintro e w2 ⟨rfl, hb2⟩
  have hT := Two.start id hb2
  have HT := Lib.hid hT
  clear hb2 hT
  go_wp2_with fail
  refine (CK.out _).mono ?_
  rintro e w3 ⟨rfl, hd⟩
  have hT3 := HT.out.after hd.below
  clear hd HT
  generalize w2.heap.size = b at *
  go_wp2_with fail
  refine (CX.out _ hT3.below).mono ?_
  rintro e w4 ⟨rfl, hb4⟩
  have hT4 := hT3.after hb4
  clear hT3 hb4
  obtain ⟨⟨x0, x1, x2, x3⟩, f0, f1, f2, f3⟩ := hT4.row.facts
  obtain ⟨⟨y0, y1, y2, y3⟩, g0, g1, g2, g3⟩ := hT4.out.facts
  obtain ⟨n1, n2⟩ := hT4.nes
  have HT4 := Lib.hid hT4
  clear hT4
  go_wp2_with fail
  refine (CY.out _ (HT4.out.set2 s).below).mono ?_
  rintro e w5 ⟨rfl, hb5⟩
  have hT5 := (HT4.out.set2 s).after hb5
  clear HT4 hb5 x0 x1 x2 x3 y0 y1 y2 y3 f0 f1 f2 f3 g0 g1 g2 g3 n1 n2
  obtain ⟨⟨x0, x1, x2, x3⟩, f0, f1, f2, f3⟩ := hT5.row.facts
  obtain ⟨⟨y0, y1, y2, y3⟩, g0, g1, g2, g3⟩ := hT5.out.facts
  obtain ⟨n1, n2⟩ := hT5.nes
  have HT5 := Lib.hid hT5
  clear hT5
  rcases he13 with rfl | rfl
  all_goals
    go_wp2
    refine bodyPost_ret (v := .tuple #[.agg #[.int .i64 id, .int .i64 0, .string s, .string s2], .int .i64 0]) (by simp [results, Tryd.results33, go_sem, x0, x1, x2, x3, y0, y1, y2, y3]) rfl ⟨rfl, ?_⟩
    exact (HT5.out.set3 _).ends _ _ _ _
end Go.Proofs.YtondmmoabmhpfaaDoor.Q

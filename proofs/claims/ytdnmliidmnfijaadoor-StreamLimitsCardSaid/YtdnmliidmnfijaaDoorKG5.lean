import Derived.Test.YtdnmliidmnfijaaDoorKG2
import Derived.Test.YtdnmliidmnfijaaDoorKQ4
import Derived.Outline
import Derived.Deep.DeepMust
set_option linter.unusedVariables false
set_option linter.unusedSimpArgs false
namespace Go.Proofs.YtdnmliidmnfijaaDoor.Q
open Go.RowKit Go.Proofs.YtdnmliidmnfijaaDoorW.PrintWords Go.Proofs.YtdnmliidmnfijaaDoorW.PrintLast Go.Proofs.YtdnmliidmnfijaaDoorW.PrintMore
theorem ErrV_step {w W : World} {g t : Nat} {cs : Array Value} (hp : w.heap[g]? = some (.cells cs t (0, 0))) (ht : t ≠ 63) (hg : w.grownBy W (some g)) : ∀ (d : Nat) {v : Value} {n : Int}, Dv.ErrV w d v n → Dv.ErrV W d v n
  | 0, _, _, h => h
  | d + 1, _, _, ⟨b, L, u, e, hb, hu⟩ => by
    refine ⟨b, L, u, e, ?_, ErrV_step hp ht hg d hu⟩
    rw [← hb]
    refine hg.block b (Array.getElem?_eq_some_iff.1 hb).1 (fun he => ?_)
    injection he with he
    subst he
    rw [hp] at hb
    injection hb with hb
    injection hb with _ h2
    exact ht h2
theorem Err_step {w W : World} {g t : Nat} {cs : Array Value} {v : Value} {n : Int} (hp : w.heap[g]? = some (.cells cs t (0, 0))) (ht : t ≠ 63) (hg : w.grownBy W (some g)) (h : Dv.Err w v n) : Dv.Err W v n := by
  rcases h with h | ⟨h1, h2, d, hd⟩
  · exact .inl h
  · exact .inr ⟨h1, h2, d, ErrV_step hp ht hg d hd⟩
theorem After_far {w0 w W : World} {g b : Nat} {l : List Int} {n : Int} (h : After w0 w g l n W) (hb : w.heap.size ≤ b) (hgb : g < w.heap.size) {cs : Array Value} (bx : W.heap[b]? = some (.cells cs 112 (0, 0))) (i : Nat) (u : Value) : After w0 w g l n (W.setCell ⟨b, i, none⟩ u) := by
  obtain ⟨A, c, v, hp, he, hg⟩ := h
  have hne : g ≠ b := by omega
  refine ⟨A, c, v, ⟨?_, hp.rd, hp.cap, hp.below.setCell (by have := hp.old; show w0.heap.size ≤ b; omega) _, hp.old⟩, Err_step bx (by decide) (set_grown _ _ _ _) he, ?_⟩
  · rw [Below.heap_setCell W ⟨b, i, none⟩ u g hne]; exact hp.hp
  · refine ⟨hg.os, hg.tape, hg.output, by simpa [World.setCell] using hg.size, fun k hk hn => ?_⟩
    rw [Below.heap_setCell W ⟨b, i, none⟩ u k (show k ≠ b by omega)]
    exact hg.block k hk hn
theorem After_from {w0 w w1 W : World} {g : Nat} {l : List Int} {n : Int} (h : After w0 w1 g l n W) (hg : w.grownBy w1 (some g)) : After w0 w g l n W := by
  obtain ⟨A, c, v, hp, he, hg'⟩ := h
  exact ⟨A, c, v, hp, he, grown_trans hg hg'⟩
theorem After_drewN {w0 w W : World} {g : Nat} {l : List Int} {n : Int} (h : After w0 w g l n W) (k : Nat) : After w0 w g l n (W.drewN k) := by
  obtain ⟨A, c, v, hp, he, hg⟩ := h
  exact ⟨A, c, v, hp.drewN k, he.below (Drawn0.below ⟨⟨k, rfl⟩⟩), grown_trans hg (grown_below (Drawn0.below ⟨⟨k, rfl⟩⟩) _)⟩
def Row (W : World) (b : Nat) (i j : Int) (s t : ByteArray) : Prop := W.heap[b]? = some (.cells #[.int .i64 i, .int .i64 j, .string s, .string t] 112 (0, 0))
theorem Row.facts {W : World} {b : Nat} {i j : Int} {s t : ByteArray} (h : Row W b i j s t) : (W.cell? ⟨b, 0, none⟩ = some (.int .i64 i) ∧ W.cell? ⟨b, 1, none⟩ = some (.int .i64 j) ∧ W.cell? ⟨b, 2, none⟩ = some (.string s) ∧ W.cell? ⟨b, 3, none⟩ = some (.string t)) ∧ W.frozen? ⟨b, 0, none⟩ = false ∧ W.frozen? ⟨b, 1, none⟩ = false ∧ W.frozen? ⟨b, 2, none⟩ = false ∧ W.frozen? ⟨b, 3, none⟩ = false :=
  ⟨⟨(cell_of_row _ _ 0 _ _ _ h).trans rfl, (cell_of_row _ _ 1 _ _ _ h).trans rfl, (cell_of_row _ _ 2 _ _ _ h).trans rfl, (cell_of_row _ _ 3 _ _ _ h).trans rfl⟩, frozen_of_row _ _ _ _ _ h, frozen_of_row _ _ _ _ _ h, frozen_of_row _ _ _ _ _ h, frozen_of_row _ _ _ _ _ h⟩
theorem Row.set0 {W : World} {b : Nat} {i j : Int} {s t : ByteArray} (h : Row W b i j s t) (u : Int) : Row (W.setCell ⟨b, 0, none⟩ (.int .i64 u)) b u j s t := by unfold Row at *; simp [World.setCell, Array.getElem?_modify, h]
theorem Row.set1 {W : World} {b : Nat} {i j : Int} {s t : ByteArray} (h : Row W b i j s t) (u : Int) : Row (W.setCell ⟨b, 1, none⟩ (.int .i64 u)) b i u s t := by unfold Row at *; simp [World.setCell, Array.getElem?_modify, h]
theorem Row.set2 {W : World} {b : Nat} {i j : Int} {s t : ByteArray} (h : Row W b i j s t) (u : ByteArray) : Row (W.setCell ⟨b, 2, none⟩ (.string u)) b i j u t := by unfold Row at *; simp [World.setCell, Array.getElem?_modify, h]
theorem Row.set3 {W : World} {b : Nat} {i j : Int} {s t : ByteArray} (h : Row W b i j s t) (u : ByteArray) : Row (W.setCell ⟨b, 3, none⟩ (.string u)) b i j s u := by unfold Row at *; simp [World.setCell, Array.getElem?_modify, h]
theorem Row.drewN {W : World} {b : Nat} {i j : Int} {s t : ByteArray} (h : Row W b i j s t) (k : Nat) : Row (W.drewN k) b i j s t := h
theorem step_row {w0 w W W' : World} {g b : Nat} {l : List Int} {n : Int} {i j : Int} {s t : ByteArray} (hA : After w0 W g l n W') (hW : w.grownBy W (some g)) (hR : Row W b i j s t) (hne : b ≠ g) : After w0 w g l n W' ∧ Row W' b i j s t := by
  refine ⟨After_from hA hW, ?_⟩
  obtain ⟨A, c, v, hp, he, hg⟩ := hA
  exact (hg.block b (Array.getElem?_eq_some_iff.1 hR).1 (fun e => hne (by injection e))).trans hR
theorem After_set {w0 w W : World} {g b : Nat} {l : List Int} {n : Int} {i j : Int} {s t : ByteArray} (h : After w0 w g l n W) (hb : w.heap.size ≤ b) (hgb : g < w.heap.size) (hR : Row W b i j s t) (k : Nat) (u : Value) : After w0 w g l n (W.setCell ⟨b, k, none⟩ u) := After_far h hb hgb hR k u
theorem number_okA (w0 w : World) (g : Nat) (A : Option Addr) (c : Nat) (l : List Int) (k : Nat) (h : Pl w0 w g A c l .nilIface) (hb : bok l) (hk : k ≤ l.length) (h4 : k ≤ 4) :
    Calls Tryd.prog 56 #[.pointer (some ⟨g, 0, none⟩), .int .i64 k] w fun e w' => e = .returned (.int .i64 (be (l.take k))) ∧ After w0 w g (l.drop k) 0 w' :=
  (number_ok w0 w g A c l k h hb hk h4).mono fun e w' ⟨h1, ⟨A', c', h2⟩, h3⟩ => ⟨h1, A', c', _, h2, .inl ⟨rfl, rfl⟩, h3⟩
theorem number_shortA (w0 w : World) (g : Nat) (A : Option Addr) (c : Nat) (l : List Int) (k : Nat) (h : Pl w0 w g A c l .nilIface) (hk : l.length < k) (h4 : k ≤ 4) :
    Calls Tryd.prog 56 #[.pointer (some ⟨g, 0, none⟩), .int .i64 k] w fun e w' => e = .returned (.int .i64 0) ∧ After w0 w g l 1 w' :=
  (number_short w0 w g A c l k h hk h4).mono fun e w' ⟨h1, h2, h3⟩ => ⟨h1, A, c, _, h2, Dv.Err.no _ 1 (by decide) (by decide), h3⟩
theorem After.nil {w0 w W : World} {g : Nat} {l : List Int} (h : After w0 w g l 0 W) : ∃ A c, Pl w0 W g A c l .nilIface ∧ w.grownBy W (some g) := by
  obtain ⟨A, c, v, hp, he, hg⟩ := h
  obtain rfl := Err_nil he
  exact ⟨A, c, hp, hg⟩
theorem After_out {w0 w W : World} {g b : Nat} {l : List Int} {n : Int} {i j : Int} {s t : ByteArray} (h : After w0 w g l n W) (hb : w.heap.size ≤ b) (hgb : g < w.heap.size) (hR : Row W b i j s t) :
    After w0 w g l n ((((W.setCell ⟨b, 0, none⟩ (.int .i64 i)).setCell ⟨b, 1, none⟩ (.int .i64 j)).setCell ⟨b, 2, none⟩ (.string s)).setCell ⟨b, 3, none⟩ (.string t)) :=
  After_set (After_set (After_set (After_set h hb hgb hR 0 _) hb hgb (hR.set0 i) 1 _) hb hgb ((hR.set0 i).set1 j) 2 _) hb hgb (((hR.set0 i).set1 j).set2 s) 3 _
theorem getText_cap (l : List Int) (hb : bok l) : 0 ≤ (getText l).2.1 ∧ (getText l).2.1 ≤ l.length := by
  have := getText_good l hb; omega
theorem getBin_cap (l : List Int) (hb : bok l) : 0 ≤ (getBin l).2.1 ∧ (getBin l).2.1 ≤ l.length := by
  have := getBin_good l hb; omega
theorem GTab_pl {w0 w W : World} {g : Nat} {A : Option Addr} {c : Nat} {l : List Int} {v : Value} (h : Dv.GTab w0) (hp : Pl w0 W g A c l v) (hg : w.grownBy W (some g)) (hgw : g < w.heap.size) : Dv.GTab W := Dv.GTab.below h hp.below
set_option maxRecDepth 100000 in
set_option maxHeartbeats 4000000 in
theorem prop_none (w0 w : World) (g : Nat) (A : Option Addr) (c : Nat) (l : List Int) (h : Pl w0 w g A c l .nilIface) (hb : bok l) (hT : Dv.GTab w0) (id sz er : Int) (hv : Dv.varGet l = (id, sz, er)) (hk : kindOf id = 0) :
    Calls Tryd.prog 51 #[.pointer (some ⟨g, 0, none⟩)] w fun e w' => e = .returned (.agg #[.int .i64 id, .int .i64 0, .string ⟨#[]⟩, .string ⟨#[]⟩]) ∧ After w0 w g (l.drop sz.toNat) 1 w' := by
  have hgw : g < w.heap.size := (Array.getElem?_eq_some_iff.1 h.hp).1
  have C1 := place_varied w0 (w.alloc (.cells #[.int .i64 0, .int .i64 0, .string ⟨#[]⟩, .string ⟨#[]⟩] 112)) g A c l (h.after (below_alloc (Below.refl _ _) _)) hb
  rw [hv] at C1
  dsimp only at C1
  have CS := Lib.hid (fun w => prop_shape.calls 10 id 0 (lowOf id) w (by rw [show (0 : Int) = ik (kindOf id) by rw [hk]; rfl]; exact shape_f id))
  have hbr := bok_drop hb sz.toNat
  have HBR := Lib.hid hbr
  have HG := Lib.hid hgw
  have CC := Lib.hid C1
  have HT := Lib.hid hT
  clear h hb hv hk hbr C1 hgw hT
  generalize l.drop sz.toNat = r at *
  generalize lowOf id = low at *
  go_enter Tryd.func51, Tryd.ntmps51
  go_wp2_with fail
  refine CC.out.mono ?_
  rintro e w2 ⟨rfl, hA⟩
  obtain ⟨hA2, hR2⟩ := step_row hA (World.grownBy_alloc w _ (some g)) (show Row _ w.heap.size 0 0 ⟨#[]⟩ ⟨#[]⟩ from heap_alloc_new w _) (by have := HG.out; omega)
  obtain ⟨⟨x0, x1, x2, x3⟩, f0, f1, f2, f3⟩ := hR2.facts
  have HA2 := Lib.hid hA2
  have HR2 := Lib.hid hR2
  clear hA hA2 hR2
  go_wp2_with fail
  refine (CS.out _).mono ?_
  rintro e w3 ⟨rfl, ⟨nd, rfl⟩⟩
  have hA3 := After_drewN (After_set HA2.out (Nat.le_refl _) HG.out HR2.out 0 (.int .i64 id)) nd
  have hR3 := (HR2.out.set0 id).drewN nd
  clear HA2 HR2 x0 x1 x2 x3 f0 f1 f2 f3
  obtain ⟨A3, c3, v3, hp3, he3, hg3⟩ := hA3
  obtain ⟨⟨x0, x1, x2, x3⟩, f0, f1, f2, f3⟩ := hR3.facts
  have p1 := hp3.c1
  have pf := hp3.fr 1 (by omega)
  have hne := Lib.hid (show g ≠ w.heap.size by have := HG.out; omega)
  have hA4 : After w0 w g r 1 (((w2.setCell ⟨w.heap.size, 0, none⟩ (.int .i64 id)).drewN nd).setCell ⟨g, 1, none⟩ (.iface 50 (.int .i64 1))) := ⟨A3, c3, _, hp3.set_e _, Dv.Err.no _ 1 (by decide) (by decide), grown_trans hg3 (set_grown _ _ _ _)⟩
  have hR4 : Row (((w2.setCell ⟨w.heap.size, 0, none⟩ (.int .i64 id)).drewN nd).setCell ⟨g, 1, none⟩ (.iface 50 (.int .i64 1))) w.heap.size id 0 ⟨#[]⟩ ⟨#[]⟩ := (Below.heap_setCell _ ⟨g, 1, none⟩ _ w.heap.size (Ne.symm hne.out)).trans hR3
  have HA4 := Lib.hid hA4
  have HR4 := Lib.hid hR4
  have y := hR4.facts
  obtain ⟨⟨y0, y1, y2, y3⟩, e0, e1, e2, e3⟩ := y
  clear hA4 hR4 hp3 he3 hg3 hR3 x0 x1 x2 x3 f0 f1 f2 f3
  go_wp2
  refine bodyPost_ret (v := .agg #[.int .i64 id, .int .i64 0, .string ⟨#[]⟩, .string ⟨#[]⟩]) (by simp [results, Tryd.results51, go_sem, y0, y1, y2, y3]) rfl ⟨rfl, ?_⟩
  exact After_out HA4.out (Nat.le_refl _) HG.out HR4.out
set_option maxRecDepth 100000 in
set_option maxHeartbeats 4000000 in
theorem prop_num1 (w0 w : World) (g : Nat) (A : Option Addr) (c : Nat) (l : List Int) (h : Pl w0 w g A c l .nilIface) (hb : bok l) (hT : Dv.GTab w0) (id sz : Int) (hv : Dv.varGet l = (id, sz, 0)) (hk : kindOf id = 1) (hl : 1 ≤ (l.drop sz.toNat).length) :
    Calls Tryd.prog 51 #[.pointer (some ⟨g, 0, none⟩)] w fun e w' => e = .returned (.agg #[.int .i64 id, .int .i64 (be ((l.drop sz.toNat).take 1)), .string ⟨#[]⟩, .string ⟨#[]⟩]) ∧ After w0 w g ((l.drop sz.toNat).drop 1) 0 w' := by
  have hgw : g < w.heap.size := (Array.getElem?_eq_some_iff.1 h.hp).1
  have C1 := place_varied w0 (w.alloc (.cells #[.int .i64 0, .int .i64 0, .string ⟨#[]⟩, .string ⟨#[]⟩] 112)) g A c l (h.after (below_alloc (Below.refl _ _) _)) hb
  rw [hv] at C1
  dsimp only at C1
  have CS := Lib.hid (fun w => prop_shape.calls 10 id 1 (lowOf id) w (by rw [show (1 : Int) = ik (kindOf id) by rw [hk]; rfl]; exact shape_f id))
  have hbr := bok_drop hb sz.toNat
  have HBR := Lib.hid hbr
  have HG := Lib.hid hgw
  have CC := Lib.hid C1
  have HT := Lib.hid hT
  have HL := Lib.hid hl
  clear hl
  clear h hb hv hk hbr C1 hgw hT
  generalize l.drop sz.toNat = r at *
  generalize lowOf id = low at *
  go_enter Tryd.func51, Tryd.ntmps51
  go_wp2_with fail
  refine CC.out.mono ?_
  rintro e w2 ⟨rfl, hA⟩
  obtain ⟨hA2, hR2⟩ := step_row hA (World.grownBy_alloc w _ (some g)) (show Row _ w.heap.size 0 0 ⟨#[]⟩ ⟨#[]⟩ from heap_alloc_new w _) (by have := HG.out; omega)
  obtain ⟨⟨x0, x1, x2, x3⟩, f0, f1, f2, f3⟩ := hR2.facts
  have HA2 := Lib.hid hA2
  have HR2 := Lib.hid hR2
  clear hA hA2 hR2
  go_wp2_with fail
  refine (CS.out _).mono ?_
  rintro e w3 ⟨rfl, ⟨nd, rfl⟩⟩
  have hA3 := After_drewN (After_set HA2.out (Nat.le_refl _) HG.out HR2.out 0 (.int .i64 id)) nd
  have hR3 := (HR2.out.set0 id).drewN nd
  clear HA2 HR2 x0 x1 x2 x3 f0 f1 f2 f3
  obtain ⟨A3, c3, hp3, hg3⟩ := hA3.nil
  have HP3 := Lib.hid hp3
  have HG3 := Lib.hid hg3
  have HR3 := Lib.hid hR3
  clear hA3 hp3 hg3 hR3
  go_wp2_with fail
  refine (number_okA w0 _ g A3 c3 r 1 HP3.out HBR.out HL.out (by decide)).mono ?_
  rintro e w4 ⟨rfl, hA⟩
  obtain ⟨hA4, hR4⟩ := step_row hA HG3.out HR3.out (by have := HG.out; omega)
  clear hA
  obtain ⟨⟨x0, x1, x2, x3⟩, f0, f1, f2, f3⟩ := hR4.facts
  have HA4 := Lib.hid hA4
  have HR4 := Lib.hid hR4
  clear hA4 hR4
  go_wp2
  refine bodyPost_ret (v := .agg #[.int .i64 id, .int .i64 (be (r.take 1)), .string ⟨#[]⟩, .string ⟨#[]⟩]) (by simp [results, Tryd.results51, go_sem, x0, x1, x2, x3]) rfl ⟨rfl, ?_⟩
  exact After_out (After_set HA4.out (Nat.le_refl _) HG.out HR4.out 1 _) (Nat.le_refl _) HG.out (HR4.out.set1 _)
set_option maxRecDepth 100000 in
set_option maxHeartbeats 4000000 in
theorem prop_num1s (w0 w : World) (g : Nat) (A : Option Addr) (c : Nat) (l : List Int) (h : Pl w0 w g A c l .nilIface) (hb : bok l) (hT : Dv.GTab w0) (id sz : Int) (hv : Dv.varGet l = (id, sz, 0)) (hk : kindOf id = 1) (hl : (l.drop sz.toNat).length < 1) :
    Calls Tryd.prog 51 #[.pointer (some ⟨g, 0, none⟩)] w fun e w' => e = .returned (.agg #[.int .i64 id, .int .i64 0, .string ⟨#[]⟩, .string ⟨#[]⟩]) ∧ After w0 w g (l.drop sz.toNat) 1 w' := by
  have hgw : g < w.heap.size := (Array.getElem?_eq_some_iff.1 h.hp).1
  have C1 := place_varied w0 (w.alloc (.cells #[.int .i64 0, .int .i64 0, .string ⟨#[]⟩, .string ⟨#[]⟩] 112)) g A c l (h.after (below_alloc (Below.refl _ _) _)) hb
  rw [hv] at C1
  dsimp only at C1
  have CS := Lib.hid (fun w => prop_shape.calls 10 id 1 (lowOf id) w (by rw [show (1 : Int) = ik (kindOf id) by rw [hk]; rfl]; exact shape_f id))
  have hbr := bok_drop hb sz.toNat
  have HBR := Lib.hid hbr
  have HG := Lib.hid hgw
  have CC := Lib.hid C1
  have HT := Lib.hid hT
  have HL := Lib.hid hl
  clear hl
  clear h hb hv hk hbr C1 hgw hT
  generalize l.drop sz.toNat = r at *
  generalize lowOf id = low at *
  go_enter Tryd.func51, Tryd.ntmps51
  go_wp2_with fail
  refine CC.out.mono ?_
  rintro e w2 ⟨rfl, hA⟩
  obtain ⟨hA2, hR2⟩ := step_row hA (World.grownBy_alloc w _ (some g)) (show Row _ w.heap.size 0 0 ⟨#[]⟩ ⟨#[]⟩ from heap_alloc_new w _) (by have := HG.out; omega)
  obtain ⟨⟨x0, x1, x2, x3⟩, f0, f1, f2, f3⟩ := hR2.facts
  have HA2 := Lib.hid hA2
  have HR2 := Lib.hid hR2
  clear hA hA2 hR2
  go_wp2_with fail
  refine (CS.out _).mono ?_
  rintro e w3 ⟨rfl, ⟨nd, rfl⟩⟩
  have hA3 := After_drewN (After_set HA2.out (Nat.le_refl _) HG.out HR2.out 0 (.int .i64 id)) nd
  have hR3 := (HR2.out.set0 id).drewN nd
  clear HA2 HR2 x0 x1 x2 x3 f0 f1 f2 f3
  obtain ⟨A3, c3, hp3, hg3⟩ := hA3.nil
  have HP3 := Lib.hid hp3
  have HG3 := Lib.hid hg3
  have HR3 := Lib.hid hR3
  clear hA3 hp3 hg3 hR3
  go_wp2_with fail
  refine (number_shortA w0 _ g A3 c3 r 1 HP3.out HL.out (by decide)).mono ?_
  rintro e w4 ⟨rfl, hA⟩
  obtain ⟨hA4, hR4⟩ := step_row hA HG3.out HR3.out (by have := HG.out; omega)
  clear hA
  obtain ⟨⟨x0, x1, x2, x3⟩, f0, f1, f2, f3⟩ := hR4.facts
  have HA4 := Lib.hid hA4
  have HR4 := Lib.hid hR4
  clear hA4 hR4
  go_wp2
  refine bodyPost_ret (v := .agg #[.int .i64 id, .int .i64 0, .string ⟨#[]⟩, .string ⟨#[]⟩]) (by simp [results, Tryd.results51, go_sem, x0, x1, x2, x3]) rfl ⟨rfl, ?_⟩
  exact After_out (After_set HA4.out (Nat.le_refl _) HG.out HR4.out 1 _) (Nat.le_refl _) HG.out (HR4.out.set1 _)
set_option maxRecDepth 100000 in
set_option maxHeartbeats 4000000 in
theorem prop_num2 (w0 w : World) (g : Nat) (A : Option Addr) (c : Nat) (l : List Int) (h : Pl w0 w g A c l .nilIface) (hb : bok l) (hT : Dv.GTab w0) (id sz : Int) (hv : Dv.varGet l = (id, sz, 0)) (hk : kindOf id = 2) (hl : 2 ≤ (l.drop sz.toNat).length) :
    Calls Tryd.prog 51 #[.pointer (some ⟨g, 0, none⟩)] w fun e w' => e = .returned (.agg #[.int .i64 id, .int .i64 (be ((l.drop sz.toNat).take 2)), .string ⟨#[]⟩, .string ⟨#[]⟩]) ∧ After w0 w g ((l.drop sz.toNat).drop 2) 0 w' := by
  have hgw : g < w.heap.size := (Array.getElem?_eq_some_iff.1 h.hp).1
  have C1 := place_varied w0 (w.alloc (.cells #[.int .i64 0, .int .i64 0, .string ⟨#[]⟩, .string ⟨#[]⟩] 112)) g A c l (h.after (below_alloc (Below.refl _ _) _)) hb
  rw [hv] at C1
  dsimp only at C1
  have CS := Lib.hid (fun w => prop_shape.calls 10 id 2 (lowOf id) w (by rw [show (2 : Int) = ik (kindOf id) by rw [hk]; rfl]; exact shape_f id))
  have hbr := bok_drop hb sz.toNat
  have HBR := Lib.hid hbr
  have HG := Lib.hid hgw
  have CC := Lib.hid C1
  have HT := Lib.hid hT
  have HL := Lib.hid hl
  clear hl
  clear h hb hv hk hbr C1 hgw hT
  generalize l.drop sz.toNat = r at *
  generalize lowOf id = low at *
  go_enter Tryd.func51, Tryd.ntmps51
  go_wp2_with fail
  refine CC.out.mono ?_
  rintro e w2 ⟨rfl, hA⟩
  obtain ⟨hA2, hR2⟩ := step_row hA (World.grownBy_alloc w _ (some g)) (show Row _ w.heap.size 0 0 ⟨#[]⟩ ⟨#[]⟩ from heap_alloc_new w _) (by have := HG.out; omega)
  obtain ⟨⟨x0, x1, x2, x3⟩, f0, f1, f2, f3⟩ := hR2.facts
  have HA2 := Lib.hid hA2
  have HR2 := Lib.hid hR2
  clear hA hA2 hR2
  go_wp2_with fail
  refine (CS.out _).mono ?_
  rintro e w3 ⟨rfl, ⟨nd, rfl⟩⟩
  have hA3 := After_drewN (After_set HA2.out (Nat.le_refl _) HG.out HR2.out 0 (.int .i64 id)) nd
  have hR3 := (HR2.out.set0 id).drewN nd
  clear HA2 HR2 x0 x1 x2 x3 f0 f1 f2 f3
  obtain ⟨A3, c3, hp3, hg3⟩ := hA3.nil
  have HP3 := Lib.hid hp3
  have HG3 := Lib.hid hg3
  have HR3 := Lib.hid hR3
  clear hA3 hp3 hg3 hR3
  go_wp2_with fail
  refine (number_okA w0 _ g A3 c3 r 2 HP3.out HBR.out HL.out (by decide)).mono ?_
  rintro e w4 ⟨rfl, hA⟩
  obtain ⟨hA4, hR4⟩ := step_row hA HG3.out HR3.out (by have := HG.out; omega)
  clear hA
  obtain ⟨⟨x0, x1, x2, x3⟩, f0, f1, f2, f3⟩ := hR4.facts
  have HA4 := Lib.hid hA4
  have HR4 := Lib.hid hR4
  clear hA4 hR4
  go_wp2
  refine bodyPost_ret (v := .agg #[.int .i64 id, .int .i64 (be (r.take 2)), .string ⟨#[]⟩, .string ⟨#[]⟩]) (by simp [results, Tryd.results51, go_sem, x0, x1, x2, x3]) rfl ⟨rfl, ?_⟩
  exact After_out (After_set HA4.out (Nat.le_refl _) HG.out HR4.out 1 _) (Nat.le_refl _) HG.out (HR4.out.set1 _)
set_option maxRecDepth 100000 in
set_option maxHeartbeats 4000000 in
theorem prop_num2s (w0 w : World) (g : Nat) (A : Option Addr) (c : Nat) (l : List Int) (h : Pl w0 w g A c l .nilIface) (hb : bok l) (hT : Dv.GTab w0) (id sz : Int) (hv : Dv.varGet l = (id, sz, 0)) (hk : kindOf id = 2) (hl : (l.drop sz.toNat).length < 2) :
    Calls Tryd.prog 51 #[.pointer (some ⟨g, 0, none⟩)] w fun e w' => e = .returned (.agg #[.int .i64 id, .int .i64 0, .string ⟨#[]⟩, .string ⟨#[]⟩]) ∧ After w0 w g (l.drop sz.toNat) 1 w' := by
  have hgw : g < w.heap.size := (Array.getElem?_eq_some_iff.1 h.hp).1
  have C1 := place_varied w0 (w.alloc (.cells #[.int .i64 0, .int .i64 0, .string ⟨#[]⟩, .string ⟨#[]⟩] 112)) g A c l (h.after (below_alloc (Below.refl _ _) _)) hb
  rw [hv] at C1
  dsimp only at C1
  have CS := Lib.hid (fun w => prop_shape.calls 10 id 2 (lowOf id) w (by rw [show (2 : Int) = ik (kindOf id) by rw [hk]; rfl]; exact shape_f id))
  have hbr := bok_drop hb sz.toNat
  have HBR := Lib.hid hbr
  have HG := Lib.hid hgw
  have CC := Lib.hid C1
  have HT := Lib.hid hT
  have HL := Lib.hid hl
  clear hl
  clear h hb hv hk hbr C1 hgw hT
  generalize l.drop sz.toNat = r at *
  generalize lowOf id = low at *
  go_enter Tryd.func51, Tryd.ntmps51
  go_wp2_with fail
  refine CC.out.mono ?_
  rintro e w2 ⟨rfl, hA⟩
  obtain ⟨hA2, hR2⟩ := step_row hA (World.grownBy_alloc w _ (some g)) (show Row _ w.heap.size 0 0 ⟨#[]⟩ ⟨#[]⟩ from heap_alloc_new w _) (by have := HG.out; omega)
  obtain ⟨⟨x0, x1, x2, x3⟩, f0, f1, f2, f3⟩ := hR2.facts
  have HA2 := Lib.hid hA2
  have HR2 := Lib.hid hR2
  clear hA hA2 hR2
  go_wp2_with fail
  refine (CS.out _).mono ?_
  rintro e w3 ⟨rfl, ⟨nd, rfl⟩⟩
  have hA3 := After_drewN (After_set HA2.out (Nat.le_refl _) HG.out HR2.out 0 (.int .i64 id)) nd
  have hR3 := (HR2.out.set0 id).drewN nd
  clear HA2 HR2 x0 x1 x2 x3 f0 f1 f2 f3
  obtain ⟨A3, c3, hp3, hg3⟩ := hA3.nil
  have HP3 := Lib.hid hp3
  have HG3 := Lib.hid hg3
  have HR3 := Lib.hid hR3
  clear hA3 hp3 hg3 hR3
  go_wp2_with fail
  refine (number_shortA w0 _ g A3 c3 r 2 HP3.out HL.out (by decide)).mono ?_
  rintro e w4 ⟨rfl, hA⟩
  obtain ⟨hA4, hR4⟩ := step_row hA HG3.out HR3.out (by have := HG.out; omega)
  clear hA
  obtain ⟨⟨x0, x1, x2, x3⟩, f0, f1, f2, f3⟩ := hR4.facts
  have HA4 := Lib.hid hA4
  have HR4 := Lib.hid hR4
  clear hA4 hR4
  go_wp2
  refine bodyPost_ret (v := .agg #[.int .i64 id, .int .i64 0, .string ⟨#[]⟩, .string ⟨#[]⟩]) (by simp [results, Tryd.results51, go_sem, x0, x1, x2, x3]) rfl ⟨rfl, ?_⟩
  exact After_out (After_set HA4.out (Nat.le_refl _) HG.out HR4.out 1 _) (Nat.le_refl _) HG.out (HR4.out.set1 _)
set_option maxRecDepth 100000 in
set_option maxHeartbeats 4000000 in
theorem prop_num4 (w0 w : World) (g : Nat) (A : Option Addr) (c : Nat) (l : List Int) (h : Pl w0 w g A c l .nilIface) (hb : bok l) (hT : Dv.GTab w0) (id sz : Int) (hv : Dv.varGet l = (id, sz, 0)) (hk : kindOf id = 4) (hl : 4 ≤ (l.drop sz.toNat).length) :
    Calls Tryd.prog 51 #[.pointer (some ⟨g, 0, none⟩)] w fun e w' => e = .returned (.agg #[.int .i64 id, .int .i64 (be ((l.drop sz.toNat).take 4)), .string ⟨#[]⟩, .string ⟨#[]⟩]) ∧ After w0 w g ((l.drop sz.toNat).drop 4) 0 w' := by
  have hgw : g < w.heap.size := (Array.getElem?_eq_some_iff.1 h.hp).1
  have C1 := place_varied w0 (w.alloc (.cells #[.int .i64 0, .int .i64 0, .string ⟨#[]⟩, .string ⟨#[]⟩] 112)) g A c l (h.after (below_alloc (Below.refl _ _) _)) hb
  rw [hv] at C1
  dsimp only at C1
  have CS := Lib.hid (fun w => prop_shape.calls 10 id 3 (lowOf id) w (by rw [show (3 : Int) = ik (kindOf id) by rw [hk]; rfl]; exact shape_f id))
  have hbr := bok_drop hb sz.toNat
  have HBR := Lib.hid hbr
  have HG := Lib.hid hgw
  have CC := Lib.hid C1
  have HT := Lib.hid hT
  have HL := Lib.hid hl
  clear hl
  clear h hb hv hk hbr C1 hgw hT
  generalize l.drop sz.toNat = r at *
  generalize lowOf id = low at *
  go_enter Tryd.func51, Tryd.ntmps51
  go_wp2_with fail
  refine CC.out.mono ?_
  rintro e w2 ⟨rfl, hA⟩
  obtain ⟨hA2, hR2⟩ := step_row hA (World.grownBy_alloc w _ (some g)) (show Row _ w.heap.size 0 0 ⟨#[]⟩ ⟨#[]⟩ from heap_alloc_new w _) (by have := HG.out; omega)
  obtain ⟨⟨x0, x1, x2, x3⟩, f0, f1, f2, f3⟩ := hR2.facts
  have HA2 := Lib.hid hA2
  have HR2 := Lib.hid hR2
  clear hA hA2 hR2
  go_wp2_with fail
  refine (CS.out _).mono ?_
  rintro e w3 ⟨rfl, ⟨nd, rfl⟩⟩
  have hA3 := After_drewN (After_set HA2.out (Nat.le_refl _) HG.out HR2.out 0 (.int .i64 id)) nd
  have hR3 := (HR2.out.set0 id).drewN nd
  clear HA2 HR2 x0 x1 x2 x3 f0 f1 f2 f3
  obtain ⟨A3, c3, hp3, hg3⟩ := hA3.nil
  have HP3 := Lib.hid hp3
  have HG3 := Lib.hid hg3
  have HR3 := Lib.hid hR3
  clear hA3 hp3 hg3 hR3
  go_wp2_with fail
  refine (number_okA w0 _ g A3 c3 r 4 HP3.out HBR.out HL.out (by decide)).mono ?_
  rintro e w4 ⟨rfl, hA⟩
  obtain ⟨hA4, hR4⟩ := step_row hA HG3.out HR3.out (by have := HG.out; omega)
  clear hA
  obtain ⟨⟨x0, x1, x2, x3⟩, f0, f1, f2, f3⟩ := hR4.facts
  have HA4 := Lib.hid hA4
  have HR4 := Lib.hid hR4
  clear hA4 hR4
  go_wp2
  refine bodyPost_ret (v := .agg #[.int .i64 id, .int .i64 (be (r.take 4)), .string ⟨#[]⟩, .string ⟨#[]⟩]) (by simp [results, Tryd.results51, go_sem, x0, x1, x2, x3]) rfl ⟨rfl, ?_⟩
  exact After_out (After_set HA4.out (Nat.le_refl _) HG.out HR4.out 1 _) (Nat.le_refl _) HG.out (HR4.out.set1 _)
set_option maxRecDepth 100000 in
set_option maxHeartbeats 4000000 in
theorem prop_num4s (w0 w : World) (g : Nat) (A : Option Addr) (c : Nat) (l : List Int) (h : Pl w0 w g A c l .nilIface) (hb : bok l) (hT : Dv.GTab w0) (id sz : Int) (hv : Dv.varGet l = (id, sz, 0)) (hk : kindOf id = 4) (hl : (l.drop sz.toNat).length < 4) :
    Calls Tryd.prog 51 #[.pointer (some ⟨g, 0, none⟩)] w fun e w' => e = .returned (.agg #[.int .i64 id, .int .i64 0, .string ⟨#[]⟩, .string ⟨#[]⟩]) ∧ After w0 w g (l.drop sz.toNat) 1 w' := by
  have hgw : g < w.heap.size := (Array.getElem?_eq_some_iff.1 h.hp).1
  have C1 := place_varied w0 (w.alloc (.cells #[.int .i64 0, .int .i64 0, .string ⟨#[]⟩, .string ⟨#[]⟩] 112)) g A c l (h.after (below_alloc (Below.refl _ _) _)) hb
  rw [hv] at C1
  dsimp only at C1
  have CS := Lib.hid (fun w => prop_shape.calls 10 id 3 (lowOf id) w (by rw [show (3 : Int) = ik (kindOf id) by rw [hk]; rfl]; exact shape_f id))
  have hbr := bok_drop hb sz.toNat
  have HBR := Lib.hid hbr
  have HG := Lib.hid hgw
  have CC := Lib.hid C1
  have HT := Lib.hid hT
  have HL := Lib.hid hl
  clear hl
  clear h hb hv hk hbr C1 hgw hT
  generalize l.drop sz.toNat = r at *
  generalize lowOf id = low at *
  go_enter Tryd.func51, Tryd.ntmps51
  go_wp2_with fail
  refine CC.out.mono ?_
  rintro e w2 ⟨rfl, hA⟩
  obtain ⟨hA2, hR2⟩ := step_row hA (World.grownBy_alloc w _ (some g)) (show Row _ w.heap.size 0 0 ⟨#[]⟩ ⟨#[]⟩ from heap_alloc_new w _) (by have := HG.out; omega)
  obtain ⟨⟨x0, x1, x2, x3⟩, f0, f1, f2, f3⟩ := hR2.facts
  have HA2 := Lib.hid hA2
  have HR2 := Lib.hid hR2
  clear hA hA2 hR2
  go_wp2_with fail
  refine (CS.out _).mono ?_
  rintro e w3 ⟨rfl, ⟨nd, rfl⟩⟩
  have hA3 := After_drewN (After_set HA2.out (Nat.le_refl _) HG.out HR2.out 0 (.int .i64 id)) nd
  have hR3 := (HR2.out.set0 id).drewN nd
  clear HA2 HR2 x0 x1 x2 x3 f0 f1 f2 f3
  obtain ⟨A3, c3, hp3, hg3⟩ := hA3.nil
  have HP3 := Lib.hid hp3
  have HG3 := Lib.hid hg3
  have HR3 := Lib.hid hR3
  clear hA3 hp3 hg3 hR3
  go_wp2_with fail
  refine (number_shortA w0 _ g A3 c3 r 4 HP3.out HL.out (by decide)).mono ?_
  rintro e w4 ⟨rfl, hA⟩
  obtain ⟨hA4, hR4⟩ := step_row hA HG3.out HR3.out (by have := HG.out; omega)
  clear hA
  obtain ⟨⟨x0, x1, x2, x3⟩, f0, f1, f2, f3⟩ := hR4.facts
  have HA4 := Lib.hid hA4
  have HR4 := Lib.hid hR4
  clear hA4 hR4
  go_wp2
  refine bodyPost_ret (v := .agg #[.int .i64 id, .int .i64 0, .string ⟨#[]⟩, .string ⟨#[]⟩]) (by simp [results, Tryd.results51, go_sem, x0, x1, x2, x3]) rfl ⟨rfl, ?_⟩
  exact After_out (After_set HA4.out (Nat.le_refl _) HG.out HR4.out 1 _) (Nat.le_refl _) HG.out (HR4.out.set1 _)
set_option maxRecDepth 100000 in
set_option maxHeartbeats 4000000 in
theorem prop_var (w0 w : World) (g : Nat) (A : Option Addr) (c : Nat) (l : List Int) (h : Pl w0 w g A c l .nilIface) (hb : bok l) (hT : Dv.GTab w0) (id sz : Int) (hv : Dv.varGet l = (id, sz, 0)) (hk : kindOf id = 5) :
    Calls Tryd.prog 51 #[.pointer (some ⟨g, 0, none⟩)] w fun e w' => e = .returned (.agg #[.int .i64 id, .int .i64 (Dv.varGet (l.drop sz.toNat)).1, .string ⟨#[]⟩, .string ⟨#[]⟩]) ∧ After w0 w g ((l.drop sz.toNat).drop (Dv.varGet (l.drop sz.toNat)).2.1.toNat) (Dv.varGet (l.drop sz.toNat)).2.2 w' := by
  have hgw : g < w.heap.size := (Array.getElem?_eq_some_iff.1 h.hp).1
  have C1 := place_varied w0 (w.alloc (.cells #[.int .i64 0, .int .i64 0, .string ⟨#[]⟩, .string ⟨#[]⟩] 112)) g A c l (h.after (below_alloc (Below.refl _ _) _)) hb
  rw [hv] at C1
  dsimp only at C1
  have CS := Lib.hid (fun w => prop_shape.calls 10 id 4 (lowOf id) w (by rw [show (4 : Int) = ik (kindOf id) by rw [hk]; rfl]; exact shape_f id))
  have hbr := bok_drop hb sz.toNat
  have HBR := Lib.hid hbr
  have HG := Lib.hid hgw
  have CC := Lib.hid C1
  have HT := Lib.hid hT
  clear h hb hv hk hbr C1 hgw hT
  generalize l.drop sz.toNat = r at *
  generalize lowOf id = low at *
  go_enter Tryd.func51, Tryd.ntmps51
  go_wp2_with fail
  refine CC.out.mono ?_
  rintro e w2 ⟨rfl, hA⟩
  obtain ⟨hA2, hR2⟩ := step_row hA (World.grownBy_alloc w _ (some g)) (show Row _ w.heap.size 0 0 ⟨#[]⟩ ⟨#[]⟩ from heap_alloc_new w _) (by have := HG.out; omega)
  obtain ⟨⟨x0, x1, x2, x3⟩, f0, f1, f2, f3⟩ := hR2.facts
  have HA2 := Lib.hid hA2
  have HR2 := Lib.hid hR2
  clear hA hA2 hR2
  go_wp2_with fail
  refine (CS.out _).mono ?_
  rintro e w3 ⟨rfl, ⟨nd, rfl⟩⟩
  have hA3 := After_drewN (After_set HA2.out (Nat.le_refl _) HG.out HR2.out 0 (.int .i64 id)) nd
  have hR3 := (HR2.out.set0 id).drewN nd
  clear HA2 HR2 x0 x1 x2 x3 f0 f1 f2 f3
  obtain ⟨A3, c3, hp3, hg3⟩ := hA3.nil
  have HP3 := Lib.hid hp3
  have HG3 := Lib.hid hg3
  have HR3 := Lib.hid hR3
  clear hA3 hp3 hg3 hR3
  go_wp2_with fail
  refine (place_varied w0 _ g A3 c3 r HP3.out HBR.out).mono ?_
  rintro e w4 ⟨rfl, hA⟩
  obtain ⟨hA4, hR4⟩ := step_row hA HG3.out HR3.out (by have := HG.out; omega)
  clear hA
  obtain ⟨⟨x0, x1, x2, x3⟩, f0, f1, f2, f3⟩ := hR4.facts
  have HA4 := Lib.hid hA4
  have HR4 := Lib.hid hR4
  clear hA4 hR4
  go_wp2
  refine bodyPost_ret (v := .agg #[.int .i64 id, .int .i64 (Dv.varGet r).1, .string ⟨#[]⟩, .string ⟨#[]⟩]) (by simp [results, Tryd.results51, go_sem, x0, x1, x2, x3]) rfl ⟨rfl, ?_⟩
  exact After_out (After_set HA4.out (Nat.le_refl _) HG.out HR4.out 1 _) (Nat.le_refl _) HG.out (HR4.out.set1 _)
set_option maxRecDepth 100000 in
set_option maxHeartbeats 4000000 in
theorem prop_text (w0 w : World) (g : Nat) (A : Option Addr) (c : Nat) (l : List Int) (h : Pl w0 w g A c l .nilIface) (hb : bok l) (hT : Dv.GTab w0) (id sz : Int) (hv : Dv.varGet l = (id, sz, 0)) (hk : kindOf id = 6) :
    Calls Tryd.prog 51 #[.pointer (some ⟨g, 0, none⟩)] w fun e w' => e = .returned (.agg #[.int .i64 id, .int .i64 0, .string (getText (l.drop sz.toNat)).1, .string ⟨#[]⟩]) ∧ After w0 w g ((l.drop sz.toNat).drop (getText (l.drop sz.toNat)).2.1.toNat) (getText (l.drop sz.toNat)).2.2 w' := by
  have hgw : g < w.heap.size := (Array.getElem?_eq_some_iff.1 h.hp).1
  have C1 := place_varied w0 (w.alloc (.cells #[.int .i64 0, .int .i64 0, .string ⟨#[]⟩, .string ⟨#[]⟩] 112)) g A c l (h.after (below_alloc (Below.refl _ _) _)) hb
  rw [hv] at C1
  dsimp only at C1
  have CS := Lib.hid (fun w => prop_shape.calls 10 id 5 (lowOf id) w (by rw [show (5 : Int) = ik (kindOf id) by rw [hk]; rfl]; exact shape_f id))
  have hbr := bok_drop hb sz.toNat
  have HBR := Lib.hid hbr
  have HG := Lib.hid hgw
  have CC := Lib.hid C1
  have HT := Lib.hid hT
  clear h hb hv hk hbr C1 hgw hT
  generalize l.drop sz.toNat = r at *
  generalize lowOf id = low at *
  go_enter Tryd.func51, Tryd.ntmps51
  go_wp2_with fail
  refine CC.out.mono ?_
  rintro e w2 ⟨rfl, hA⟩
  obtain ⟨hA2, hR2⟩ := step_row hA (World.grownBy_alloc w _ (some g)) (show Row _ w.heap.size 0 0 ⟨#[]⟩ ⟨#[]⟩ from heap_alloc_new w _) (by have := HG.out; omega)
  obtain ⟨⟨x0, x1, x2, x3⟩, f0, f1, f2, f3⟩ := hR2.facts
  have HA2 := Lib.hid hA2
  have HR2 := Lib.hid hR2
  clear hA hA2 hR2
  go_wp2_with fail
  refine (CS.out _).mono ?_
  rintro e w3 ⟨rfl, ⟨nd, rfl⟩⟩
  have hA3 := After_drewN (After_set HA2.out (Nat.le_refl _) HG.out HR2.out 0 (.int .i64 id)) nd
  have hR3 := (HR2.out.set0 id).drewN nd
  clear HA2 HR2 x0 x1 x2 x3 f0 f1 f2 f3
  obtain ⟨A3, c3, hp3, hg3⟩ := hA3.nil
  have HP3 := Lib.hid hp3
  have HG3 := Lib.hid hg3
  have HR3 := Lib.hid hR3
  clear hA3 hp3 hg3 hR3
  go_wp2_with fail
  refine (place_strT (getText r) w0 _ g A3 c3 r HP3.out (getText_cap r HBR.out).1 (getText_cap r HBR.out).2 (text_Get _ _ _ _ (Kd.C_below (HP3.out).rd (HP3.out).below) (HP3.out).cap HBR.out (GTab_pl HT.out (HP3.out) (HG3.out) HG.out))).mono ?_
  rintro e w4 ⟨rfl, hA⟩
  obtain ⟨hA4, hR4⟩ := step_row hA HG3.out HR3.out (by have := HG.out; omega)
  clear hA
  obtain ⟨⟨x0, x1, x2, x3⟩, f0, f1, f2, f3⟩ := hR4.facts
  have HA4 := Lib.hid hA4
  have HR4 := Lib.hid hR4
  clear hA4 hR4
  go_wp2
  refine bodyPost_ret (v := .agg #[.int .i64 id, .int .i64 0, .string (getText r).1, .string ⟨#[]⟩]) (by simp [results, Tryd.results51, go_sem, x0, x1, x2, x3]) rfl ⟨rfl, ?_⟩
  exact After_out (After_set HA4.out (Nat.le_refl _) HG.out HR4.out 2 _) (Nat.le_refl _) HG.out (HR4.out.set2 _)
set_option maxRecDepth 100000 in
set_option maxHeartbeats 4000000 in
theorem prop_bin (w0 w : World) (g : Nat) (A : Option Addr) (c : Nat) (l : List Int) (h : Pl w0 w g A c l .nilIface) (hb : bok l) (hT : Dv.GTab w0) (id sz : Int) (hv : Dv.varGet l = (id, sz, 0)) (hk : kindOf id = 7) :
    Calls Tryd.prog 51 #[.pointer (some ⟨g, 0, none⟩)] w fun e w' => e = .returned (.agg #[.int .i64 id, .int .i64 0, .string (getBin (l.drop sz.toNat)).1, .string ⟨#[]⟩]) ∧ After w0 w g ((l.drop sz.toNat).drop (getBin (l.drop sz.toNat)).2.1.toNat) (getBin (l.drop sz.toNat)).2.2 w' := by
  have hgw : g < w.heap.size := (Array.getElem?_eq_some_iff.1 h.hp).1
  have C1 := place_varied w0 (w.alloc (.cells #[.int .i64 0, .int .i64 0, .string ⟨#[]⟩, .string ⟨#[]⟩] 112)) g A c l (h.after (below_alloc (Below.refl _ _) _)) hb
  rw [hv] at C1
  dsimp only at C1
  have CS := Lib.hid (fun w => prop_shape.calls 10 id 6 (lowOf id) w (by rw [show (6 : Int) = ik (kindOf id) by rw [hk]; rfl]; exact shape_f id))
  have hbr := bok_drop hb sz.toNat
  have HBR := Lib.hid hbr
  have HG := Lib.hid hgw
  have CC := Lib.hid C1
  have HT := Lib.hid hT
  clear h hb hv hk hbr C1 hgw hT
  generalize l.drop sz.toNat = r at *
  generalize lowOf id = low at *
  go_enter Tryd.func51, Tryd.ntmps51
  go_wp2_with fail
  refine CC.out.mono ?_
  rintro e w2 ⟨rfl, hA⟩
  obtain ⟨hA2, hR2⟩ := step_row hA (World.grownBy_alloc w _ (some g)) (show Row _ w.heap.size 0 0 ⟨#[]⟩ ⟨#[]⟩ from heap_alloc_new w _) (by have := HG.out; omega)
  obtain ⟨⟨x0, x1, x2, x3⟩, f0, f1, f2, f3⟩ := hR2.facts
  have HA2 := Lib.hid hA2
  have HR2 := Lib.hid hR2
  clear hA hA2 hR2
  go_wp2_with fail
  refine (CS.out _).mono ?_
  rintro e w3 ⟨rfl, ⟨nd, rfl⟩⟩
  have hA3 := After_drewN (After_set HA2.out (Nat.le_refl _) HG.out HR2.out 0 (.int .i64 id)) nd
  have hR3 := (HR2.out.set0 id).drewN nd
  clear HA2 HR2 x0 x1 x2 x3 f0 f1 f2 f3
  obtain ⟨A3, c3, hp3, hg3⟩ := hA3.nil
  have HP3 := Lib.hid hp3
  have HG3 := Lib.hid hg3
  have HR3 := Lib.hid hR3
  clear hA3 hp3 hg3 hR3
  go_wp2_with fail
  refine (place_strB (getBin r) w0 _ g A3 c3 r HP3.out (getBin_cap r HBR.out).1 (getBin_cap r HBR.out).2 (text_GetBin _ _ _ _ (Kd.C_below (HP3.out).rd (HP3.out).below) (HP3.out).cap HBR.out)).mono ?_
  rintro e w4 ⟨rfl, hA⟩
  obtain ⟨hA4, hR4⟩ := step_row hA HG3.out HR3.out (by have := HG.out; omega)
  clear hA
  obtain ⟨⟨x0, x1, x2, x3⟩, f0, f1, f2, f3⟩ := hR4.facts
  have HA4 := Lib.hid hA4
  have HR4 := Lib.hid hR4
  clear hA4 hR4
  go_wp2
  refine bodyPost_ret (v := .agg #[.int .i64 id, .int .i64 0, .string (getBin r).1, .string ⟨#[]⟩]) (by simp [results, Tryd.results51, go_sem, x0, x1, x2, x3]) rfl ⟨rfl, ?_⟩
  exact After_out (After_set HA4.out (Nat.le_refl _) HG.out HR4.out 2 _) (Nat.le_refl _) HG.out (HR4.out.set2 _)
set_option maxRecDepth 100000 in
set_option maxHeartbeats 4000000 in
theorem prop_pair (w0 w : World) (g : Nat) (A : Option Addr) (c : Nat) (l : List Int) (h : Pl w0 w g A c l .nilIface) (hb : bok l) (hT : Dv.GTab w0) (id sz : Int) (hv : Dv.varGet l = (id, sz, 0)) (hk : kindOf id = 8) (he : (getText (l.drop sz.toNat)).2.2 = 0) :
    Calls Tryd.prog 51 #[.pointer (some ⟨g, 0, none⟩)] w fun e w' => e = .returned (.agg #[.int .i64 id, .int .i64 0, .string (getText (l.drop sz.toNat)).1, .string (getText ((l.drop sz.toNat).drop (getText (l.drop sz.toNat)).2.1.toNat)).1]) ∧ After w0 w g (((l.drop sz.toNat).drop (getText (l.drop sz.toNat)).2.1.toNat).drop (getText ((l.drop sz.toNat).drop (getText (l.drop sz.toNat)).2.1.toNat)).2.1.toNat) (getText ((l.drop sz.toNat).drop (getText (l.drop sz.toNat)).2.1.toNat)).2.2 w' := by
  have hgw : g < w.heap.size := (Array.getElem?_eq_some_iff.1 h.hp).1
  have C1 := place_varied w0 (w.alloc (.cells #[.int .i64 0, .int .i64 0, .string ⟨#[]⟩, .string ⟨#[]⟩] 112)) g A c l (h.after (below_alloc (Below.refl _ _) _)) hb
  rw [hv] at C1
  dsimp only at C1
  have CS := Lib.hid (fun w => prop_shape.calls 10 id 7 (lowOf id) w (by rw [show (7 : Int) = ik (kindOf id) by rw [hk]; rfl]; exact shape_f id))
  have hbr := bok_drop hb sz.toNat
  have HBR := Lib.hid hbr
  have HG := Lib.hid hgw
  have CC := Lib.hid C1
  have HT := Lib.hid hT
  have HE0 := Lib.hid he
  have HBR2 := Lib.hid (bok_drop hbr (getText (l.drop sz.toNat)).2.1.toNat)
  clear he
  clear h hb hv hk hbr C1 hgw hT
  generalize l.drop sz.toNat = r at *
  generalize lowOf id = low at *
  go_enter Tryd.func51, Tryd.ntmps51
  go_wp2_with fail
  refine CC.out.mono ?_
  rintro e w2 ⟨rfl, hA⟩
  obtain ⟨hA2, hR2⟩ := step_row hA (World.grownBy_alloc w _ (some g)) (show Row _ w.heap.size 0 0 ⟨#[]⟩ ⟨#[]⟩ from heap_alloc_new w _) (by have := HG.out; omega)
  obtain ⟨⟨x0, x1, x2, x3⟩, f0, f1, f2, f3⟩ := hR2.facts
  have HA2 := Lib.hid hA2
  have HR2 := Lib.hid hR2
  clear hA hA2 hR2
  go_wp2_with fail
  refine (CS.out _).mono ?_
  rintro e w3 ⟨rfl, ⟨nd, rfl⟩⟩
  have hA3 := After_drewN (After_set HA2.out (Nat.le_refl _) HG.out HR2.out 0 (.int .i64 id)) nd
  have hR3 := (HR2.out.set0 id).drewN nd
  clear HA2 HR2 x0 x1 x2 x3 f0 f1 f2 f3
  obtain ⟨A3, c3, hp3, hg3⟩ := hA3.nil
  have HP3 := Lib.hid hp3
  have HG3 := Lib.hid hg3
  have HR3 := Lib.hid hR3
  clear hA3 hp3 hg3 hR3
  go_wp2_with fail
  refine (place_strT (getText r) w0 _ g A3 c3 r HP3.out (getText_cap r HBR.out).1 (getText_cap r HBR.out).2 (text_Get _ _ _ _ (Kd.C_below (HP3.out).rd (HP3.out).below) (HP3.out).cap HBR.out (GTab_pl HT.out (HP3.out) (HG3.out) HG.out))).mono ?_
  rintro e w4 ⟨rfl, hA⟩
  obtain ⟨hA4, hR4⟩ := step_row hA HG3.out HR3.out (by have := HG.out; omega)
  clear hA
  obtain ⟨⟨x0, x1, x2, x3⟩, f0, f1, f2, f3⟩ := hR4.facts
  have HA4 := Lib.hid hA4
  have HR4 := Lib.hid hR4
  clear hA4 hR4
  have hA4' := After_set HA4.out (Nat.le_refl _) HG.out HR4.out 2 (.string ((getText r).1))
  have hR4' := HR4.out.set2 ((getText r).1)
  clear HA4 HR4
  obtain ⟨A4', c4', hp4', hg4'⟩ := (HE0.out ▸ hA4').nil
  have HP4' := Lib.hid hp4'
  have HG4' := Lib.hid hg4'
  have HR4' := Lib.hid hR4'
  clear hA4' hp4' hg4' hR4'
  go_wp2_with fail
  refine (place_strT (getText (r.drop (getText r).2.1.toNat)) w0 _ g A4' c4' (r.drop (getText r).2.1.toNat) HP4'.out (getText_cap (r.drop (getText r).2.1.toNat) HBR2.out).1 (getText_cap (r.drop (getText r).2.1.toNat) HBR2.out).2 (text_Get _ _ _ _ (Kd.C_below (HP4'.out).rd (HP4'.out).below) (HP4'.out).cap HBR2.out (GTab_pl HT.out (HP4'.out) (HG4'.out) HG.out))).mono ?_
  rintro e w5 ⟨rfl, hA⟩
  obtain ⟨hA5, hR5⟩ := step_row hA HG4'.out HR4'.out (by have := HG.out; omega)
  clear hA
  obtain ⟨⟨x0, x1, x2, x3⟩, f0, f1, f2, f3⟩ := hR5.facts
  have HA5 := Lib.hid hA5
  have HR5 := Lib.hid hR5
  clear hA5 hR5
  go_wp2
  refine bodyPost_ret (v := .agg #[.int .i64 id, .int .i64 0, .string (getText r).1, .string (getText (r.drop (getText r).2.1.toNat)).1]) (by simp [results, Tryd.results51, go_sem, x0, x1, x2, x3]) rfl ⟨rfl, ?_⟩
  exact After_out (After_set HA5.out (Nat.le_refl _) HG.out HR5.out 3 _) (Nat.le_refl _) HG.out (HR5.out.set3 _)
set_option maxRecDepth 100000 in
set_option maxHeartbeats 4000000 in
theorem prop_pairs (w0 w : World) (g : Nat) (A : Option Addr) (c : Nat) (l : List Int) (h : Pl w0 w g A c l .nilIface) (hb : bok l) (hT : Dv.GTab w0) (id sz : Int) (hv : Dv.varGet l = (id, sz, 0)) (hk : kindOf id = 8) (he : (getText (l.drop sz.toNat)).2.2 ≠ 0) :
    Calls Tryd.prog 51 #[.pointer (some ⟨g, 0, none⟩)] w fun e w' => e = .returned (.agg #[.int .i64 id, .int .i64 0, .string (getText (l.drop sz.toNat)).1, .string ⟨#[]⟩]) ∧ After w0 w g ((l.drop sz.toNat).drop (getText (l.drop sz.toNat)).2.1.toNat) (getText (l.drop sz.toNat)).2.2 w' := by
  have hgw : g < w.heap.size := (Array.getElem?_eq_some_iff.1 h.hp).1
  have C1 := place_varied w0 (w.alloc (.cells #[.int .i64 0, .int .i64 0, .string ⟨#[]⟩, .string ⟨#[]⟩] 112)) g A c l (h.after (below_alloc (Below.refl _ _) _)) hb
  rw [hv] at C1
  dsimp only at C1
  have CS := Lib.hid (fun w => prop_shape.calls 10 id 7 (lowOf id) w (by rw [show (7 : Int) = ik (kindOf id) by rw [hk]; rfl]; exact shape_f id))
  have hbr := bok_drop hb sz.toNat
  have HBR := Lib.hid hbr
  have HG := Lib.hid hgw
  have CC := Lib.hid C1
  have HT := Lib.hid hT
  have HN := Lib.hid he
  clear he
  clear h hb hv hk hbr C1 hgw hT
  generalize l.drop sz.toNat = r at *
  generalize lowOf id = low at *
  go_enter Tryd.func51, Tryd.ntmps51
  go_wp2_with fail
  refine CC.out.mono ?_
  rintro e w2 ⟨rfl, hA⟩
  obtain ⟨hA2, hR2⟩ := step_row hA (World.grownBy_alloc w _ (some g)) (show Row _ w.heap.size 0 0 ⟨#[]⟩ ⟨#[]⟩ from heap_alloc_new w _) (by have := HG.out; omega)
  obtain ⟨⟨x0, x1, x2, x3⟩, f0, f1, f2, f3⟩ := hR2.facts
  have HA2 := Lib.hid hA2
  have HR2 := Lib.hid hR2
  clear hA hA2 hR2
  go_wp2_with fail
  refine (CS.out _).mono ?_
  rintro e w3 ⟨rfl, ⟨nd, rfl⟩⟩
  have hA3 := After_drewN (After_set HA2.out (Nat.le_refl _) HG.out HR2.out 0 (.int .i64 id)) nd
  have hR3 := (HR2.out.set0 id).drewN nd
  clear HA2 HR2 x0 x1 x2 x3 f0 f1 f2 f3
  obtain ⟨A3, c3, hp3, hg3⟩ := hA3.nil
  have HP3 := Lib.hid hp3
  have HG3 := Lib.hid hg3
  have HR3 := Lib.hid hR3
  clear hA3 hp3 hg3 hR3
  go_wp2_with fail
  refine (place_strT (getText r) w0 _ g A3 c3 r HP3.out (getText_cap r HBR.out).1 (getText_cap r HBR.out).2 (text_Get _ _ _ _ (Kd.C_below (HP3.out).rd (HP3.out).below) (HP3.out).cap HBR.out (GTab_pl HT.out (HP3.out) (HG3.out) HG.out))).mono ?_
  rintro e w4 ⟨rfl, hA⟩
  obtain ⟨hA4, hR4⟩ := step_row hA HG3.out HR3.out (by have := HG.out; omega)
  clear hA
  obtain ⟨⟨x0, x1, x2, x3⟩, f0, f1, f2, f3⟩ := hR4.facts
  have HA4 := Lib.hid hA4
  have HR4 := Lib.hid hR4
  clear hA4 hR4
  have hA4' := After_set HA4.out (Nat.le_refl _) HG.out HR4.out 2 (.string ((getText r).1))
  have hR4' := HR4.out.set2 ((getText r).1)
  clear HA4 HR4
  obtain ⟨A4', c4', v4', hp4', he4', hg4'⟩ := hA4'
  obtain ⟨t4', y4', rfl⟩ := Err_iface he4' HN.out
  have HP4' := Lib.hid hp4'
  have HE4' := Lib.hid he4'
  have HG4' := Lib.hid hg4'
  have HR4' := Lib.hid hR4'
  clear hp4' hg4' hR4' he4'
  go_wp2_with fail
  refine (place_str_err _ w0 _ g A4' c4' _ _ _ HP4'.out).mono ?_
  rintro e w5 ⟨rfl, rfl⟩
  have hA5 : After w0 w g (r.drop (getText r).2.1.toNat) (getText r).2.2 _ := ⟨A4', c4', _, HP4'.out, HE4'.out, HG4'.out⟩
  have hR5 := HR4'.out
  obtain ⟨⟨x0, x1, x2, x3⟩, f0, f1, f2, f3⟩ := hR5.facts
  have HA5 := Lib.hid hA5
  have HR5 := Lib.hid hR5
  clear hA5 hR5
  go_wp2
  refine bodyPost_ret (v := .agg #[.int .i64 id, .int .i64 0, .string (getText r).1, .string ⟨#[]⟩]) (by simp [results, Tryd.results51, go_sem, x0, x1, x2, x3]) rfl ⟨rfl, ?_⟩
  exact After_out (After_set HA5.out (Nat.le_refl _) HG.out HR5.out 3 _) (Nat.le_refl _) HG.out (HR5.out.set3 _)
end Go.Proofs.YtdnmliidmnfijaaDoor.Q

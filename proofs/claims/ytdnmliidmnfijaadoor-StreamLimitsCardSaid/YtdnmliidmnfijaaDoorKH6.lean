import Derived.Test.YtdnmliidmnfijaaDoorKH5
set_option linter.unusedVariables false
set_option linter.unusedSimpArgs false
namespace Go.Proofs.YtdnmliidmnfijaaDoor.Q
open Go.RowKit Go.Proofs.YtdnmliidmnfijaaDoorW.PrintWords Go.Proofs.YtdnmliidmnfijaaDoorW.PrintLast Go.Proofs.YtdnmliidmnfijaaDoorW.PrintMore
def PRow (W : World) (q : Nat) (cs : Array Value) : Prop := W.heap[q]? = some (.cells cs 40 (0, 0))
theorem PRow.c {W : World} {q : Nat} {cs : Array Value} (h : PRow W q cs) (i : Nat) : W.cell? ⟨q, i, none⟩ = cs[i]? := cell_of_row _ _ i _ _ _ h
theorem PRow.f {W : World} {q : Nat} {cs : Array Value} (h : PRow W q cs) (i : Nat) : W.frozen? ⟨q, i, none⟩ = false := frozen_of_row W q i cs _ h
theorem PRow.set {W : World} {q : Nat} {cs : Array Value} (h : PRow W q cs) (i : Nat) (u : Value) : PRow (W.setCell ⟨q, i, none⟩ u) q (cs.setIfInBounds i u) := heap_setCell_same W q i cs _ u h
theorem PRow.lt {W : World} {q : Nat} {cs : Array Value} (h : PRow W q cs) : q < W.heap.size := (Array.getElem?_eq_some_iff.1 h).1
theorem PRow.kept {W W2 : World} {q g : Nat} {cs : Array Value} (h : PRow W q cs) (hk : Kept W W2 (· = g)) (hne : q ≠ g) : PRow W2 q cs := blk_kept h hk hne
theorem PRow.ne {w0 W : World} {q g : Nat} {s : RS} {cs : Array Value} (h : PRow W q cs) (hr : Rdr w0 W g s) : q ≠ g := by
  obtain ⟨cs', h'⟩ := hr.row
  rintro rfl
  unfold PRow at h
  rw [h] at h'
  injection h' with h'
  injection h' with _ h2
  exact absurd h2 (by decide)
theorem PRow.far {W : World} {q g : Nat} {cs : Array Value} (h : PRow W q cs) (hne : q ≠ g) (i : Nat) (u : Value) : PRow (W.setCell ⟨g, i, none⟩ u) q cs := (heap_setCell_other W ⟨g, i, none⟩ q u hne).trans h
theorem Rdr.farP {w0 W : World} {g q : Nat} {s : RS} {cs : Array Value} (h : Rdr w0 W g s) (hp : PRow W q cs) (ho : w0.heap.size ≤ q) (i : Nat) (u : Value) : Rdr w0 (W.setCell ⟨q, i, none⟩ u) g s :=
  h.far (p := ⟨q, i, none⟩) hp (by decide) (by decide) ho u
theorem R_setP {W : World} {base : Nat} {ok : Nat → Prop} {v : Value} {xs : List S112} {q t : Nat} {cs : Array Value} (h : Kd.R k112 112 W base ok v xs) (hp : W.heap[q]? = some (.cells cs t (0, 0))) (ht : t ≠ 112) (i : Nat) (u : Value) : Kd.R k112 112 (W.setCell ⟨q, i, none⟩ u) base ok v xs :=
  Kd.R_set h hp (fun e he => by
    have : e = 112 := by simpa [k112, Kd.iso, Kd.pair, Kd.int, Kd.string, Kd.scalar] using he
    rw [this]; exact fun e => ht e.symm) i u
def bodyPub (p : Pk) (s : RS) : Pk × RS :=
  let a := rStr getText s
  let b := rProps 3 a.2
  ({ p with topic := a.1, props := b.1, payload := strOfNums b.2.l }, ⟨[], b.2.e⟩)
set_option maxRecDepth 100000 in
set_option maxHeartbeats 4000000 in
theorem body_pub (w0 w : World) (g q : Nat) (s : RS) (p : Pk) (hk3 : p.kind = 3) (hq0 : p.qos = 0) (h : Rdr w0 w g s) (hp : PRow w q (pkN p)) (ho : w0.heap.size ≤ q) (hs : s.ok) (hT : Dv.GTab w0) (hlen : s.l.length ≤ 1000000000) :
    Calls Tryd.prog 23 #[.pointer (some ⟨g, 0, none⟩), .pointer (some ⟨q, 0, none⟩)] w fun e w' => ∃ x, e = .returned (.tuple #[]) ∧ Rdr w0 w' g (bodyPub p s).2 ∧ PRow w' q (pkC (bodyPub p s).1 x nilS nilS nilS nilS nilS nilS) ∧ Kd.R k112 112 w' w.heap.size (fun _ => True) x (bodyPub p s).1.props ∧ Kept w w' (fun k => k = g ∨ k = q) := by
  have c0 : w.cell? ⟨q, 0, none⟩ = some (.int .i64 3) := by rw [hp.c 0]; simp [pkN, pkC, hk3]
  have f4 := hp.f 4
  have C1 := Lib.hid (reader_text w0 w g s h hs hT)
  have hne := hp.ne h
  have HP := Lib.hid hp
  have hs1 := rText_ok hs
  have hl1 := rStr_len getText s
  obtain ⟨B, hB⟩ : ∃ B, bodyPub p s = B := ⟨_, rfl⟩
  rw [hB]
  unfold bodyPub at hB
  generalize rStr getText s = a at *
  obtain ⟨tp, s1⟩ := a
  dsimp only at *
  have C2 := Lib.hid (fun W (H : Rdr w0 W g s1) => reader_props w0 W g s1 3 H hs1 hT (by omega))
  have hs2 := rProps_ok hs1 3
  generalize rProps 3 s1 = b at *
  obtain ⟨ps, s2⟩ := b
  dsimp only at *
  have HB := Lib.hid hB
  have HS2 := Lib.hid hs2
  clear h hp hs hs1 hs2 hlen hl1 hT hB
  go_enter Tryd.func23, Tryd.ntmps23
  go_wp2_with fail
  refine C1.out.mono ?_
  rintro e w1 ⟨rfl, hr1, hk1⟩
  have P1 := HP.out.kept hk1 hne
  have HP1 := Lib.hid (P1.set 4 (.string tp))
  have HR1 := Lib.hid (hr1.farP P1 ho 4 (.string tp))
  have HK1 := Lib.hid ((hk1.mono (S' := fun k => k = g ∨ k = q) (fun _ h => .inl h)).setCell (p := ⟨q, 4, none⟩) (.inl (.inr rfl)) (.string tp))
  have c0' : w1.cell? ⟨q, 0, none⟩ = some (.int .i64 3) := by rw [P1.c 0]; simp [pkN, pkC, hk3]
  have c2' : w1.cell? ⟨q, 2, none⟩ = some (.int .i64 0) := by rw [P1.c 2]; simp [pkN, pkC, hq0]
  have c4' : w1.cell? ⟨q, 4, none⟩ = some (.string p.topic) := by rw [P1.c 4]; simp [pkN, pkC]
  have f4' := P1.f 4
  clear hr1 hk1 C1 c0 f4
  go_wp2_with fail
  refine (C2.out _ HR1.out).mono ?_
  rintro e w2 ⟨x, rfl, hx, hr2, hk2⟩
  obtain ⟨Ax, cx, hux⟩ := Kd.R_slice hx
  subst hux
  have P2 := HP1.out.kept hk2 hne
  have HX := Lib.hid hx
  have HP2 := Lib.hid P2
  have HKS := Lib.hid HK1.out.1
  have HK2 := Lib.hid (HK1.out.then_ hk2 (fun k h => .inl (.inl h)))
  have f7 := P2.f 7
  have f6 := P2.f 6
  have HR2 := Lib.hid hr2
  obtain ⟨A2, c2, v2, hp2, he2⟩ := hr2
  have k0 := hp2.c0
  have kf0 := hp2.fr 0
  have hm63 := hp2.rd.2.1
  have HP2R := Lib.hid hp2
  have hne' : g ≠ q := fun e => hne e.symm
  have c7 : w2.cell? ⟨q, 7, none⟩ = some nilS := by rw [P2.c 7]; simp [pkN, pkC]
  have c6 : w2.cell? ⟨q, 6, none⟩ = some (.string p.payload) := by rw [P2.c 6]; simp [pkN, pkC]
  have hp3 := hp2.far (p := ⟨q, 7, none⟩) hne' ho (.slice Ax ps.length cx)
  have hcv := Kd.C_string (P := Tryd.prog) (A := A2) (c := c2) Tryd.underlying25 Tryd.underlying5 Tryd.underlying9 (Kd.C_below hp3.rd hp3.below)
  have HP3R := Lib.hid hp3
  have HE2 := Lib.hid he2
  clear hx hk2 hp2 he2 hp3 P1 P2 C2 HP1 HR1 HK1 c0' c2' c4' f4'
  go_wp2_with fail
  have hp4 := ((HP3R.out.far (p := ⟨q, 6, none⟩) hne' ho (.string (strOfNums s2.l))).set_b (A' := none) (l' := []) (c' := 0) (Kd.C_nil (Kd.int .u8) w0) (Nat.le_refl _))
  have P3 := (HP2.out.set 7 (.slice Ax ps.length cx)).set 6 (.string (strOfNums s2.l))
  have P4 := P3.far hne 0 (.slice none 0 0)
  have he4 := Err_kept (Err_kept (Err_kept HE2.out (kept_set _ q 7 (.slice Ax ps.length cx)) (row_ne HP2.out (by decide))) (kept_set _ q 6 (.string (strOfNums s2.l))) (row_ne (HP2.out.set 7 _) (by decide))) (kept_set _ g 0 (.slice none 0 0)) (row_ne (HP3R.out.far (p := ⟨q, 6, none⟩) hne' ho (.string (strOfNums s2.l))).hp (by decide))
  have r4 : Rdr w0 _ g ⟨[], s2.e⟩ := ⟨none, 0, v2, hp4, he4⟩
  have hx4 := R_setP (R_setP (R_setP HX.out HP2.out (by decide) 7 (.slice Ax ps.length cx)) (HP2.out.set 7 _) (by decide) 6 (.string (strOfNums s2.l))) (HP3R.out.far (p := ⟨q, 6, none⟩) hne' ho (.string (strOfNums s2.l))).hp (by decide) 0 (.slice none 0 0)
  have hk4 := ((HK2.out.setCell (p := ⟨q, 7, none⟩) (.inl (.inr rfl)) (.slice Ax ps.length cx)).setCell (p := ⟨q, 6, none⟩) (.inl (.inr rfl)) (.string (strOfNums s2.l))).setCell (p := ⟨g, 0, none⟩) (.inl (.inl rfl)) (.slice none 0 0)
  have hsz : w.heap.size ≤ (w1.setCell ⟨q, 4, none⟩ (.string tp)).heap.size := HKS.out
  have HX4 := Lib.hid hx4
  have HP4 := Lib.hid P4
  have HK4 := Lib.hid hk4
  have HG4 := Lib.hid hp4
  refine (reader_must w0 _ g ⟨[], s2.e⟩ true r4).mono ?_
  rintro e w5 ⟨rfl, hr5, hk5⟩
  have hm5 : (RS.must ⟨[], s2.e⟩ true) = ⟨[], s2.e⟩ := by unfold RS.must; rw [if_neg (by simp)]
  rw [hm5] at hr5
  have HR5 := Lib.hid hr5
  have HK5 := Lib.hid hk5
  have HSZ := Lib.hid hsz
  clear hr5 hk5 hm5 hsz hx4 P4 P3 hk4 hp4 he4 r4 c7 c6 hcv k0 kf0 f7 f6
  go_wp2
  go_end0
  refine ⟨.slice Ax ps.length cx, rfl, by rw [← HB.out]; exact HR5.out, ?_, ?_, HK4.out.then_ HK5.out (fun k h => .inl (.inl h))⟩
  · have := HP4.out.kept HK5.out hne
    rw [← HB.out]
    simpa [pkN, pkC] using this
  · rw [← HB.out]
    exact Kd.R_mono (Kd.R_kept (Kd.R_lower (Kd.R_types HX4.out HG4.out.hp (by simp [k112, Kd.iso, Kd.pair, Kd.int, Kd.string, Kd.scalar])) HSZ.out) HK5.out (fun k hk => hk.2)) (fun _ _ => trivial)
set_option maxRecDepth 100000 in
set_option maxHeartbeats 4000000 in
theorem body_ping (w0 w : World) (g q : Nat) (s : RS) (p : Pk) (hk3 : p.kind = 12) (h : Rdr w0 w g s) (hp : PRow w q (pkN p)) :
    Calls Tryd.prog 23 #[.pointer (some ⟨g, 0, none⟩), .pointer (some ⟨q, 0, none⟩)] w fun e w' => e = .returned (.tuple #[]) ∧ Rdr w0 w' g (s.must (decide (s.l.length = 0))) ∧ PRow w' q (pkN p) ∧ Kept w w' (· = g) := by
  have c0 : w.cell? ⟨q, 0, none⟩ = some (.int .i64 12) := by rw [hp.c 0]; simp [pkN, pkC, hk3]
  have hne := hp.ne h
  have HP := Lib.hid hp
  have M := fun b => Lib.hid (reader_must w0 w g s b h)
  obtain ⟨A2, c2, v2, hp2, he2⟩ := h
  have k0 := hp2.c0
  have hm63 := hp2.rd.2.1
  obtain ⟨B, hB⟩ : ∃ B, decide (s.l.length = 0) = B := ⟨_, rfl⟩
  have hBi : decide ((s.l.length : Int) = 0) = B := by rw [← hB]; exact decide_eq_decide.2 (by omega)
  have hBb : ((s.l.length : Int) == 0) = B := by rw [← hBi]; rfl
  rw [hB]
  clear hp hp2 he2
  go_enter Tryd.func23, Tryd.ntmps23
  go_wp2_with fail
  refine (M B).out.mono ?_
  rintro e w5 ⟨rfl, hr5, hk5⟩
  have HR5 := Lib.hid hr5
  have HK5 := Lib.hid hk5
  clear hr5 hk5 c0
  go_wp2
  go_end0
  exact ⟨rfl, HR5.out, HP.out.kept HK5.out hne, HK5.out⟩
end Go.Proofs.YtdnmliidmnfijaaDoor.Q

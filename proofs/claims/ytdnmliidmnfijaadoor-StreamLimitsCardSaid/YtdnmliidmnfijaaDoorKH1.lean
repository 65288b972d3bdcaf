import Derived.Test.YtdnmliidmnfijaaDoorKH0
import Derived.Test.YtdnmliidmnfijaaDoorKG6
import Derived.Outline
import Derived.Deep.DeepMust
set_option linter.unusedVariables false
set_option linter.unusedSimpArgs false
namespace Go.Proofs.YtdnmliidmnfijaaDoor.Q
open Go.RowKit Go.Proofs.YtdnmliidmnfijaaDoorW.PrintWords Go.Proofs.YtdnmliidmnfijaaDoorW.PrintLast Go.Proofs.YtdnmliidmnfijaaDoorW.PrintMore
theorem ErrV_kept {w W : World} {S : Nat → Prop} (hk : Kept w W S) (hS : ∀ k, S k → ∀ cs, w.heap[k]? ≠ some (.cells cs 63 (0, 0))) : ∀ (d : Nat) {v : Value} {n : Int}, Dv.ErrV w d v n → Dv.ErrV W d v n
  | 0, _, _, h => h
  | d + 1, _, _, ⟨b, L, u, e, hb, hu⟩ => ⟨b, L, u, e, (hk.2 b (Array.getElem?_eq_some_iff.1 hb).1 (fun hs => hS b hs _ hb)).trans hb, ErrV_kept hk hS d hu⟩
theorem Err_kept {w W : World} {S : Nat → Prop} {v : Value} {n : Int} (h : Dv.Err w v n) (hk : Kept w W S) (hS : ∀ k, S k → ∀ cs, w.heap[k]? ≠ some (.cells cs 63 (0, 0))) : Dv.Err W v n := by
  rcases h with h | ⟨h1, h2, d, hd⟩
  · exact .inl h
  · exact .inr ⟨h1, h2, d, ErrV_kept hk hS d hd⟩
theorem row_ne {w : World} {g t : Nat} {cs : Array Value} (h : w.heap[g]? = some (.cells cs t (0, 0))) (ht : t ≠ 63) : ∀ k, k = g → ∀ cs', w.heap[k]? ≠ some (.cells cs' 63 (0, 0)) := by
  rintro k rfl cs' h'
  rw [h] at h'
  injection h' with h'
  injection h' with _ h2
  exact ht h2
structure RP (w0 W : World) (g : Nat) (A : Option Addr) (c : Nat) (l : List Int) (v : Value) : Prop where
  hp : W.heap[g]? = some (.cells #[.slice A l.length c, v] 72 (0, 0))
  rd : Kd.C (Kd.int .u8) w0 A l.length l
  cap : l.length ≤ c
  below : Below w0.heap.size w0 W
  old : w0.heap.size ≤ g
section
variable {w0 W W1 : World} {g : Nat} {A A' : Option Addr} {c c' : Nat} {l l' : List Int} {v : Value}
theorem RP.c0 (h : RP w0 W g A c l v) : W.cell? ⟨g, 0, none⟩ = some (.slice A l.length c) := (cell_of_row _ _ 0 _ _ _ h.hp).trans rfl
theorem RP.c1 (h : RP w0 W g A c l v) : W.cell? ⟨g, 1, none⟩ = some v := (cell_of_row _ _ 1 _ _ _ h.hp).trans rfl
theorem RP.fr (h : RP w0 W g A c l v) (i : Nat) : W.frozen? ⟨g, i, none⟩ = false := by
  have := h.hp; simp [World.frozen?, this]
theorem RP.lt (h : RP w0 W g A c l v) : g < W.heap.size := (Array.getElem?_eq_some_iff.1 h.hp).1
theorem RP.set_e (h : RP w0 W g A c l v) (u : Value) : RP w0 (W.setCell ⟨g, 1, none⟩ u) g A c l u :=
  ⟨set_f1 h.hp u, h.rd, h.cap, h.below.setCell h.old _, h.old⟩
theorem RP.set_b (h : RP w0 W g A c l v) (hr : Kd.C (Kd.int .u8) w0 A' l'.length l') (hc : l'.length ≤ c') : RP w0 (W.setCell ⟨g, 0, none⟩ (.slice A' l'.length c')) g A' c' l' v :=
  ⟨set_f0 h.hp _, hr, hc, h.below.setCell h.old _, h.old⟩
theorem RP.drewN (h : RP w0 W g A c l v) (n : Nat) : RP w0 (W.drewN n) g A c l v :=
  ⟨h.hp, h.rd, h.cap, h.below.then_ (Drawn0.below ⟨⟨n, rfl⟩⟩), h.old⟩
theorem RP.after (h : RP w0 W g A c l v) (hb : Below W.heap.size W W1) : RP w0 W1 g A c l v :=
  ⟨(hb.block g h.lt).trans h.hp, h.rd, h.cap, h.below.then_ hb, h.old⟩
theorem RP.far (h : RP w0 W g A c l v) {p : Addr} (hne : g ≠ p.block) (ho : w0.heap.size ≤ p.block) (u : Value) : RP w0 (W.setCell p u) g A c l v :=
  ⟨(Below.heap_setCell W p u g hne).trans h.hp, h.rd, h.cap, h.below.setCell ho _, h.old⟩
end
def Rdr (w0 W : World) (g : Nat) (s : RS) : Prop := ∃ A c v, RP w0 W g A c s.l v ∧ Dv.Err W v s.e
theorem Rdr.row {w0 W : World} {g : Nat} {s : RS} (h : Rdr w0 W g s) : ∃ cs, W.heap[g]? = some (.cells cs 72 (0, 0)) := by
  obtain ⟨A, c, v, hp, _⟩ := h
  exact ⟨_, hp.hp⟩
theorem Rdr.lt {w0 W : World} {g : Nat} {s : RS} (h : Rdr w0 W g s) : g < W.heap.size := by
  obtain ⟨A, c, v, hp, _⟩ := h
  exact hp.lt
theorem Rdr.old {w0 W : World} {g : Nat} {s : RS} (h : Rdr w0 W g s) : w0.heap.size ≤ g := by
  obtain ⟨A, c, v, hp, _⟩ := h
  exact hp.old
theorem Rdr.below {w0 W : World} {g : Nat} {s : RS} (h : Rdr w0 W g s) : Below w0.heap.size w0 W := by
  obtain ⟨A, c, v, hp, _⟩ := h
  exact hp.below
theorem Rdr.after {w0 W W1 : World} {g : Nat} {s : RS} (h : Rdr w0 W g s) (hb : Below W.heap.size W W1) : Rdr w0 W1 g s := by
  obtain ⟨A, c, v, hp, he⟩ := h
  exact ⟨A, c, v, hp.after hb, Err_kept he (Kept.of_below hb (fun _ => False)) (fun _ hk => hk.elim)⟩
theorem Rdr.far {w0 W : World} {g t : Nat} {s : RS} {cs : Array Value} {p : Addr} (h : Rdr w0 W g s) (hb : W.heap[p.block]? = some (.cells cs t (0, 0))) (h1 : t ≠ 63) (h2 : t ≠ 72) (ho : w0.heap.size ≤ p.block) (u : Value) : Rdr w0 (W.setCell p u) g s := by
  obtain ⟨A, c, v, hp, he⟩ := h
  refine ⟨A, c, v, hp.far (fun e => ?_) ho u, Err_kept he ⟨by simp [World.setCell], fun i _ hn => Below.heap_setCell W p u i hn⟩ (row_ne hb h1)⟩
  have := hp.hp
  rw [e, hb] at this
  injection this with this
  injection this with _ h3
  exact h2 h3
theorem Err_pos {w : World} {v : Value} {n : Int} (h : Dv.Err w v n) (hn : n ≠ 0) : ∃ t x, v = .iface t x := Err_iface h hn
theorem kept_set (W : World) (g i : Nat) (u : Value) : Kept W (W.setCell ⟨g, i, none⟩ u) (· = g) :=
  ⟨by simp [World.setCell], fun k _ hne => Below.heap_setCell W _ _ k hne⟩
theorem reader_must (w0 w : World) (g : Nat) (s : RS) (b : Bool) (h : Rdr w0 w g s) :
    Calls Tryd.prog 36 #[.pointer (some ⟨g, 0, none⟩), .bool b] w fun e w' => e = .returned (.tuple #[]) ∧ Rdr w0 w' g (s.must b) ∧ Kept w w' (· = g) := by
  obtain ⟨A, c, v, hp, he⟩ := h
  have c1 := hp.c1
  have f1 := hp.fr 1
  by_cases h0 : s.e = 0
  · rw [h0] at he
    obtain rfl := Err_nil he
    have HP := Lib.hid hp
    have HE := Lib.hid he
    clear hp he
    cases b with
    | true =>
      have hm : s.must true = s := by unfold RS.must; rw [if_neg (by simp)]
      rw [hm]
      have H0 := Lib.hid h0
      clear hm h0
      go_enter Tryd.func36, Tryd.ntmps36
      go_wp2
      go_end0
      exact ⟨rfl, ⟨A, c, .nilIface, HP.out, by rw [H0.out]; exact HE.out⟩, Kept.refl _ _⟩
    | false =>
      have hm : s.must false = ⟨s.l, 1⟩ := by unfold RS.must; rw [if_pos ⟨h0, rfl⟩]
      rw [hm]
      clear hm h0
      go_enter Tryd.func36, Tryd.ntmps36
      go_wp2
      go_end0
      exact ⟨rfl, ⟨A, c, _, HP.out.set_e _, Dv.Err.no _ 1 (by decide) (by decide)⟩, kept_set _ _ _ _⟩
  · have hm : s.must b = s := by unfold RS.must; rw [if_neg (fun h => h0 h.1)]
    rw [hm]
    obtain ⟨t, x, rfl⟩ := Err_pos he h0
    have HP := Lib.hid hp
    have HE := Lib.hid he
    clear hp he h0 hm
    go_enter Tryd.func36, Tryd.ntmps36
    go_wp2
    go_end0
    exact ⟨rfl, ⟨A, c, _, HP.out, HE.out⟩, Kept.refl _ _⟩
end Go.Proofs.YtdnmliidmnfijaaDoor.Q

import Derived.Test.YtdnmliidmnfijaaDoorKH7
set_option linter.unusedVariables false
set_option linter.unusedSimpArgs false
namespace Go.Proofs.YtdnmliidmnfijaaDoor.Q
open Go.RowKit Go.Proofs.YtdnmliidmnfijaaDoorW.PrintWords Go.Proofs.YtdnmliidmnfijaaDoorW.PrintLast Go.Proofs.YtdnmliidmnfijaaDoorW.PrintMore
def kPk : Kd Pk := Kd.iso (Kd.pair (Kd.int .i64) (Kd.pair (Kd.bool) (Kd.pair (Kd.int .i64) (Kd.pair (Kd.bool) (Kd.pair (Kd.string) (Kd.pair (Kd.int .i64) (Kd.pair (Kd.string) (Kd.pair (Kd.slice 112 k112) (Kd.pair (Kd.string) (Kd.pair (Kd.bool) (Kd.pair (Kd.int .i64) (Kd.pair (Kd.slice 115 k115) (Kd.pair (Kd.slice 9 Kd.string) (Kd.pair (Kd.slice 9 Kd.string) (Kd.pair (Kd.int .i64) (Kd.pair (Kd.bool) (Kd.pair (Kd.slice 117 k117) (Kd.pair (Kd.slice 9 Kd.string) (Kd.slice 3 (Kd.int .i64)))))))))))))))))))) (fun x : Pk => (x.kind, x.dup, x.qos, x.retain, x.topic, x.id, x.payload, x.props, x.client, x.clean, x.keep, x.wills, x.user, x.pass, x.code, x.session, x.subs, x.filters, x.codes))
theorem kPk_mkM {w : World} {base : Nat} {ok : Nat → Prop} (x : Pk) {a b c d e f g : Value} (ha : Kd.R k112 112 w base ok a x.props) (hb : Kd.R k115 115 w base ok b x.wills) (hc : Kd.R Kd.string 9 w base ok c x.user) (hd : Kd.R Kd.string 9 w base ok d x.pass) (he : Kd.R k117 117 w base ok e x.subs) (hf : Kd.R Kd.string 9 w base ok f x.filters) (hg : Kd.R (Kd.int .i64) 3 w base ok g x.codes) :
    kPk.M w base ok x (pkC x a b c d e f g).toList :=
  ⟨[.int .i64 x.kind], [.bool x.dup, .int .i64 x.qos, .bool x.retain, .string x.topic, .int .i64 x.id, .string x.payload, a, .string x.client, .bool x.clean, .int .i64 x.keep, b, c, d, .int .i64 x.code, .bool x.session, e, f, g], rfl, rfl, ⟨[.bool x.dup], [.int .i64 x.qos, .bool x.retain, .string x.topic, .int .i64 x.id, .string x.payload, a, .string x.client, .bool x.clean, .int .i64 x.keep, b, c, d, .int .i64 x.code, .bool x.session, e, f, g], rfl, rfl, ⟨[.int .i64 x.qos], [.bool x.retain, .string x.topic, .int .i64 x.id, .string x.payload, a, .string x.client, .bool x.clean, .int .i64 x.keep, b, c, d, .int .i64 x.code, .bool x.session, e, f, g], rfl, rfl, ⟨[.bool x.retain], [.string x.topic, .int .i64 x.id, .string x.payload, a, .string x.client, .bool x.clean, .int .i64 x.keep, b, c, d, .int .i64 x.code, .bool x.session, e, f, g], rfl, rfl, ⟨[.string x.topic], [.int .i64 x.id, .string x.payload, a, .string x.client, .bool x.clean, .int .i64 x.keep, b, c, d, .int .i64 x.code, .bool x.session, e, f, g], rfl, rfl, ⟨[.int .i64 x.id], [.string x.payload, a, .string x.client, .bool x.clean, .int .i64 x.keep, b, c, d, .int .i64 x.code, .bool x.session, e, f, g], rfl, rfl, ⟨[.string x.payload], [a, .string x.client, .bool x.clean, .int .i64 x.keep, b, c, d, .int .i64 x.code, .bool x.session, e, f, g], rfl, rfl, ⟨[a], [.string x.client, .bool x.clean, .int .i64 x.keep, b, c, d, .int .i64 x.code, .bool x.session, e, f, g], rfl, ⟨a, rfl, ha⟩, ⟨[.string x.client], [.bool x.clean, .int .i64 x.keep, b, c, d, .int .i64 x.code, .bool x.session, e, f, g], rfl, rfl, ⟨[.bool x.clean], [.int .i64 x.keep, b, c, d, .int .i64 x.code, .bool x.session, e, f, g], rfl, rfl, ⟨[.int .i64 x.keep], [b, c, d, .int .i64 x.code, .bool x.session, e, f, g], rfl, rfl, ⟨[b], [c, d, .int .i64 x.code, .bool x.session, e, f, g], rfl, ⟨b, rfl, hb⟩, ⟨[c], [d, .int .i64 x.code, .bool x.session, e, f, g], rfl, ⟨c, rfl, hc⟩, ⟨[d], [.int .i64 x.code, .bool x.session, e, f, g], rfl, ⟨d, rfl, hd⟩, ⟨[.int .i64 x.code], [.bool x.session, e, f, g], rfl, rfl, ⟨[.bool x.session], [e, f, g], rfl, rfl, ⟨[e], [f, g], rfl, ⟨e, rfl, he⟩, ⟨[f], [g], rfl, ⟨f, rfl, hf⟩, ⟨g, rfl, hg⟩⟩⟩⟩⟩⟩⟩⟩⟩⟩⟩⟩⟩⟩⟩⟩⟩⟩⟩
theorem kPk_openM {w : World} {base : Nat} {ok : Nat → Prop} {x : Pk} {cs : List Value} (h : kPk.M w base ok x cs) : ∃ a b c d e f g, cs = [.int .i64 x.kind, .bool x.dup, .int .i64 x.qos, .bool x.retain, .string x.topic, .int .i64 x.id, .string x.payload, a, .string x.client, .bool x.clean, .int .i64 x.keep, b, c, d, .int .i64 x.code, .bool x.session, e, f, g] ∧ Kd.R k112 112 w base ok a x.props ∧ Kd.R k115 115 w base ok b x.wills ∧ Kd.R Kd.string 9 w base ok c x.user ∧ Kd.R Kd.string 9 w base ok d x.pass ∧ Kd.R k117 117 w base ok e x.subs ∧ Kd.R Kd.string 9 w base ok f x.filters ∧ Kd.R (Kd.int .i64) 3 w base ok g x.codes := by
  obtain ⟨_, _, rfl, rfl, ⟨_, _, rfl, rfl, ⟨_, _, rfl, rfl, ⟨_, _, rfl, rfl, ⟨_, _, rfl, rfl, ⟨_, _, rfl, rfl, ⟨_, _, rfl, rfl, ⟨_, _, rfl, ⟨a, rfl, ha⟩, ⟨_, _, rfl, rfl, ⟨_, _, rfl, rfl, ⟨_, _, rfl, rfl, ⟨_, _, rfl, ⟨b, rfl, hb⟩, ⟨_, _, rfl, ⟨c, rfl, hc⟩, ⟨_, _, rfl, ⟨d, rfl, hd⟩, ⟨_, _, rfl, rfl, ⟨_, _, rfl, rfl, ⟨_, _, rfl, ⟨e, rfl, he⟩, ⟨_, _, rfl, ⟨f, rfl, hf⟩, ⟨g, rfl, hg⟩⟩⟩⟩⟩⟩⟩⟩⟩⟩⟩⟩⟩⟩⟩⟩⟩⟩⟩ := h
  exact ⟨a, b, c, d, e, f, g, rfl, ha, hb, hc, hd, he, hf, hg⟩
theorem kPk_E : ∀ t, t ∈ kPk.E → t ≠ 40 ∧ t ≠ 45 ∧ t ≠ 5 ∧ t ≠ 63 := by decide
theorem kPk_size {W : World} {base : Nat} {ok : Nat → Prop} {p : Pk} {cs : Array Value} (h : kPk.M W base ok p cs.toList) : cs.size = 19 ∧ cs.all (·.oneCell') = true := by
  have hK := kPk.K_of_M h
  refine ⟨(kPk.K_len hK).trans rfl, ?_⟩
  rw [Array.all_eq_true_iff_forall_mem]
  exact fun x hx => kPk.K_one hK x (by simpa using hx)
theorem kPk_types {W W' : World} {base : Nat} {ok : Nat → Prop} {p : Pk} {cs : List Value} (h : kPk.M W base ok p cs) (hk : ∀ k, k < W.heap.size → W'.heap[k]? = W.heap[k]? ∨ ∃ cs t, W.heap[k]? = some (.cells cs t (0, 0)) ∧ t ∉ kPk.E) : kPk.M W' base ok p cs := by
  refine kPk.M_mono (fun _ hk => hk.1) (Kd.M_step (kPk.M_bound h) (fun k hb hlt => ?_))
  rcases hk k hlt with h1 | ⟨cs', t, h1, h2⟩
  · exact h1
  · obtain ⟨_, _, _, q, hq, cells, hc⟩ := hb
    rw [h1] at hc
    injection hc with hc
    injection hc with _ h3
    rw [h3] at h2
    exact absurd hq h2
structure SP (W : World) (g : Nat) (lim : Int) (A : Option Addr) (c : Nat) (b : List Int) (v : Value) : Prop where
  hp : W.heap[g]? = some (.cells #[.int .i64 lim, .slice A b.length c, v] 45 (0, 0))
  rd : ∀ W', Kept W W' (· = g) → Kd.C (Kd.int .u8) W' A b.length b
  cap : b.length ≤ c
section
variable {W W1 : World} {g : Nat} {lim : Int} {A A' : Option Addr} {c c' : Nat} {b b' : List Int} {v : Value}
theorem SP.c0 (h : SP W g lim A c b v) : W.cell? ⟨g, 0, none⟩ = some (.int .i64 lim) := (cell_of_row _ _ 0 _ _ _ h.hp).trans rfl
theorem SP.c1 (h : SP W g lim A c b v) : W.cell? ⟨g, 1, none⟩ = some (.slice A b.length c) := (cell_of_row _ _ 1 _ _ _ h.hp).trans rfl
theorem SP.c2 (h : SP W g lim A c b v) : W.cell? ⟨g, 2, none⟩ = some v := (cell_of_row _ _ 2 _ _ _ h.hp).trans rfl
theorem SP.fr (h : SP W g lim A c b v) (i : Nat) : W.frozen? ⟨g, i, none⟩ = false := frozen_of_row W g i _ _ h.hp
theorem SP.lt (h : SP W g lim A c b v) : g < W.heap.size := (Array.getElem?_eq_some_iff.1 h.hp).1
theorem SP.C (h : SP W g lim A c b v) : Kd.C (Kd.int .u8) W A b.length b := h.rd W (Kept.refl _ _)
theorem SP.kept (h : SP W g lim A c b v) (hk : Kept W W1 (fun _ => False)) : SP W1 g lim A c b v :=
  ⟨blk_kept h.hp hk (fun h => h), fun W' h' => h.rd W' ((hk.mono (fun _ h => h.elim)).then_ h' (fun _ h => .inl h)), h.cap⟩
theorem SP.after (h : SP W g lim A c b v) (hb : Below W.heap.size W W1) : SP W1 g lim A c b v := h.kept (Kept.of_below hb _)
theorem SP.set_b (h : SP W g lim A c b v) (hr : ∀ W', Kept W W' (· = g) → Kd.C (Kd.int .u8) W' A' b'.length b') (hc : b'.length ≤ c') : SP (W.setCell ⟨g, 1, none⟩ (.slice A' b'.length c')) g lim A' c' b' v :=
  ⟨(heap_setCell_same W g 1 _ _ _ h.hp).trans rfl, fun W' h' => hr W' ((kept_set W g 1 _).then_ h' (fun _ h => .inl h)), hc⟩
theorem SP.set_e (h : SP W g lim A c b v) (u : Value) : SP (W.setCell ⟨g, 2, none⟩ u) g lim A c b u :=
  ⟨(heap_setCell_same W g 2 _ _ _ h.hp).trans rfl, fun W' h' => h.rd W' ((kept_set W g 2 _).then_ h' (fun _ h => .inl h)), h.cap⟩
end
theorem Kept.of_row {w W : World} {g : Nat} (h : w.grownBy W (some g)) : Kept w W (· = g) := ⟨h.size, fun i hi hn => h.block i hi (fun e => hn (by injection e))⟩
set_option maxRecDepth 100000 in
set_option maxHeartbeats 4000000 in
/-- s.next where there is no packet: e is its error -/
theorem next_bad (w : World) (g : Nat) (lim : Int) (A : Option Addr) (c : Nat) (b : List Int) (v : Value) (h : SP w g lim A c b v) (hb : bok b) (e : Int) (he : e = if (pkSize b).2 = 0 ∧ lim < (pkSize b).1 then 2 else (pkSize b).2) (he0 : e ≠ 0) :
    Calls Tryd.prog 10 #[.pointer (some ⟨g, 0, none⟩)] w fun x w' => ∃ u, x = .returned (.tuple #[.agg (pkN pkZ), u]) ∧ Dv.Err w' u e ∧ Below w.heap.size w w' := by
  have k1 := fun o => (h.after (below_alloc (Below.refl _ _) o)).c1
  have hm63 := h.C.2.1
  have H := Lib.hid h
  have SZ := Lib.hid (fun W (H : Below w.heap.size w W) => packet_Size A c b W (Kd.C_below h.C H) h.cap hb)
  obtain ⟨S, hS⟩ : ∃ S, pkSize b = S := ⟨_, rfl⟩
  rw [hS] at SZ he
  obtain ⟨n, er⟩ := S
  dsimp only at SZ he
  clear h hS
  by_cases h0 : er = 0
  · subst h0
    have hlt : lim < n := by
      apply Classical.byContradiction
      intro hh
      rw [if_neg (fun h => hh h.2)] at he
      exact he0 he
    rw [if_pos ⟨rfl, hlt⟩] at he
    subst he
    have t1 : decide (lim < n) = true := decide_eq_true hlt
    clear hlt he0
    go_enter Tryd.func10, Tryd.ntmps10
    go_wp2_with fail
    refine (SZ.out _ (below_alloc (Below.refl _ _) _)).mono ?_
    rintro e w1 ⟨v1, rfl, he, hb1⟩
    obtain rfl := Err_nil he
    have HB1 := Lib.hid ((below_alloc (Below.refl w.heap.size w) _).then_ hb1)
    have HP1 := Lib.hid ((hb1.block w.heap.size (Array.getElem?_eq_some_iff.1 (heap_alloc_new w _)).1).trans (heap_alloc_new w _))
    have j0 := (H.out.after HB1.out).c0
    clear he hb1 SZ k1
    go_wp2_with (refine wpList_store_row rfl 40 _ _ rfl w.heap.size _ rfl rfl 40 _ HP1.out (by kernel_rfl) rfl (by simp [pkN, pkC, Value.oneCell']) ?_)
    (try simp only [Exit.inBlock, Exit.then])
    refine bodyPost_ret (res_ct rfl _ _ w.heap.size 40 (pkN pkZ) (0, 0) _ rfl (setRow_heap w1 w.heap.size _ (pkN pkZ) _ _ HP1.out) Tryd.underlying40 rfl (by kernel_rfl)) rfl ?_
    exact ⟨_, rfl, Dv.Err.no _ 2 (by decide) (by decide), below_setRow HB1.out (Nat.le_refl _) (pkN pkZ)⟩
  · rw [if_neg (fun h => h0 h.1)] at he
    subst he
    have H0 := Lib.hid h0
    clear h0 he0
    go_enter Tryd.func10, Tryd.ntmps10
    go_wp2_with fail
    refine (SZ.out _ (below_alloc (Below.refl _ _) _)).mono ?_
    rintro e w1 ⟨v1, rfl, he, hb1⟩
    obtain ⟨t, x, rfl⟩ := Err_iface he H0.out
    have HE := Lib.hid he
    have HB1 := Lib.hid ((below_alloc (Below.refl w.heap.size w) _).then_ hb1)
    have HP1 := Lib.hid ((hb1.block w.heap.size (Array.getElem?_eq_some_iff.1 (heap_alloc_new w _)).1).trans (heap_alloc_new w _))
    clear he hb1 SZ k1
    go_wp2_with (refine wpList_store_row rfl 40 _ _ rfl w.heap.size _ rfl rfl 40 _ HP1.out (by kernel_rfl) rfl (by simp [pkN, pkC, Value.oneCell']) ?_)
    (try simp only [Exit.inBlock, Exit.then])
    refine bodyPost_ret (res_ct rfl _ _ w.heap.size 40 (pkN pkZ) (0, 0) _ rfl (setRow_heap w1 w.heap.size _ (pkN pkZ) _ _ HP1.out) Tryd.underlying40 rfl (by kernel_rfl)) rfl ?_
    refine ⟨_, rfl, Err_kept HE.out (S := fun k => k = w.heap.size) ⟨by rw [size_setRow]; exact Nat.le_refl _, fun i _ hn => by simp only [World.setRow, Array.getElem?_modify]; rw [if_neg (fun e => hn e.symm)]⟩ (row_ne HP1.out (by decide)), below_setRow HB1.out (Nat.le_refl _) (pkN pkZ)⟩
end Go.Proofs.YtdnmliidmnfijaaDoor.Q

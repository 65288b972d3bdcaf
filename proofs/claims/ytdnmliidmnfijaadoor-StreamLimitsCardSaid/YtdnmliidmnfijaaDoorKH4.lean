import Derived.Test.YtdnmliidmnfijaaDoorKH3
import Derived.BigQuiet
import Derived.Laws.ResultCell
import Derived.Deep.WholeRow
set_option linter.unusedVariables false
set_option linter.unusedSimpArgs false
namespace Go.Proofs.YtdnmliidmnfijaaDoor.Q
open Go.RowKit Go.Proofs.YtdnmliidmnfijaaDoorW.PrintWords Go.Proofs.YtdnmliidmnfijaaDoorW.PrintLast Go.Proofs.YtdnmliidmnfijaaDoorW.PrintMore
structure Pk where
  kind : Int
  dup : Bool
  qos : Int
  retain : Bool
  topic : ByteArray
  id : Int
  payload : ByteArray
  props : List S112
  client : ByteArray
  clean : Bool
  keep : Int
  wills : List S115
  user : List ByteArray
  pass : List ByteArray
  code : Int
  session : Bool
  subs : List S117
  filters : List ByteArray
  codes : List Int
def pkZ : Pk := ⟨0, false, 0, false, ⟨#[]⟩, 0, ⟨#[]⟩, [], ⟨#[]⟩, false, 0, [], [], [], 0, false, [], [], []⟩
def pkC (p : Pk) (a b c d e f g : Value) : Array Value := #[.int .i64 p.kind, .bool p.dup, .int .i64 p.qos, .bool p.retain, .string p.topic, .int .i64 p.id, .string p.payload, a, .string p.client, .bool p.clean, .int .i64 p.keep, b, c, d, .int .i64 p.code, .bool p.session, e, f, g]
abbrev nilS : Value := .slice none 0 0
def pkN (p : Pk) : Array Value := pkC p nilS nilS nilS nilS nilS nilS nilS
theorem res_ct {P : Program} {fn : Func} {p u : Tmp} {ty : TypeId} (h : fn.results = #[.cell p ty, .tmp u]) (tmps : Array Value) (w : World) (g : Nat) (t : TypeId) (cs : Array Value) (fr : Nat × Nat) (d : TypeDesc)
    (hp : tmps.getD p undef = .pointer (some ⟨g, 0, none⟩)) (hg : w.heap[g]? = some (.cells cs t fr))
    (hu : P.underlying ty = some d) (hd : (match d with | .struct _ | .array _ _ => true | _ => false) = true) (hi : (P.info? ty).map (·.size) = some cs.size) :
    (results fn tmps).run P w = .ok (.tuple #[.agg cs, tmps.getD u undef]) w := by
  have hp' : tmps[p]?.getD undef = .pointer (some ⟨g, 0, none⟩) := by simpa using hp
  rw [results_cell_tmp h, hp]
  simp [asAddr, run_loadVar_row w g t ty cs fr d hg hu hd hi]
theorem infoPk : (Tryd.prog.info? 40).map (fun i => (i.zero, i.size, i.bytes)) = some (some (.agg (pkN pkZ)), 19, 288) := by kernel_rfl
def pkHead (c : Int) : Pk × Int :=
  let k := c / 16
  let n := c % 16
  if k = 0 then (pkZ, 1)
  else if k = 3 then
    ({ pkZ with kind := 3, dup := decide (n / 8 = 1), qos := n / 2 % 4, retain := decide (n % 2 = 1) }, if n / 2 % 4 = 3 ∨ n / 8 = 1 ∧ n / 2 % 4 = 0 then 1 else 0)
  else ({ pkZ with kind := k }, if n = (if k = 6 ∨ k = 8 ∨ k = 10 then 2 else 0) then 0 else 1)
theorem hd_and : ∀ x : Fin 256, Go.bits .and .u8 (x.val : Int) 15 = (x.val : Int) % 16 := by decide +kernel
theorem hd_and8 : ∀ x : Fin 16, (Go.bits .and .i64 (x.val : Int) 8 != 0) = decide ((x.val : Int) / 8 = 1) := by decide +kernel
theorem hd_and3 : ∀ x : Fin 16, Go.bits .and .i64 ((x.val : Int) / 2) 3 = (x.val : Int) / 2 % 4 := by decide +kernel
theorem hd_and1 : ∀ x : Fin 16, (Go.bits .and .i64 (x.val : Int) 1 != 0) = decide ((x.val : Int) % 2 = 1) := by decide +kernel
set_option maxRecDepth 100000 in
set_option maxHeartbeats 4000000 in
theorem packet_head3 (c : Int) (w : World) (h0 : 0 ≤ c) (h1 : c ≤ 255) (ha : Go.bits .and .u8 c 15 = c % 16) (w1 : IntKind.i64.wrap (c / 16) = c / 16) (w2 : IntKind.i64.wrap (c % 16) = c % 16) (n0 : 0 ≤ c % 16) (n1 : c % 16 < 16) (n : Int) (hn : c % 16 = n) (hk : c / 16 = 3) :
    Calls Tryd.prog 21 #[.int .u8 c] w fun e w' => ∃ v, e = .returned (.tuple #[.agg (pkN (pkHead c).1), v]) ∧ Dv.Err w' v (pkHead c).2 ∧ Below w.heap.size w w' := by
  have hp : pkHead c = ({ pkZ with kind := 3, dup := decide (n / 8 = 1), qos := n / 2 % 4, retain := decide (n % 2 = 1) }, if n / 2 % 4 = 3 ∨ n / 8 = 1 ∧ n / 2 % 4 = 0 then 1 else 0) := by
    unfold pkHead; dsimp only; rw [hk, hn, if_neg (by decide), if_pos rfl]
  rw [hp]
  rw [hn] at ha w2 n0 n1
  rw [hk] at w1
  have hB := hd_and8 ⟨n.toNat, by omega⟩
  have hQ := hd_and3 ⟨n.toNat, by omega⟩
  have hR := hd_and1 ⟨n.toNat, by omega⟩
  simp only [Int.toNat_of_nonneg n0] at hB hQ hR
  obtain ⟨B, hB'⟩ : ∃ B, decide (n / 8 = 1) = B := ⟨_, rfl⟩
  obtain ⟨R, hR'⟩ : ∃ R, decide (n % 2 = 1) = R := ⟨_, rfl⟩
  obtain ⟨q, hQ'⟩ : ∃ q, n / 2 % 4 = q := ⟨_, rfl⟩
  have hq0 : 0 ≤ q := by omega
  have hq3 : q ≤ 3 := by omega
  have hBi : n / 8 = 1 ↔ B = true := by rw [← hB']; simp
  rw [hB', hR', hQ']
  rw [hB'] at hB
  rw [hR'] at hR
  rw [hQ'] at hQ
  simp only [hBi]
  obtain ⟨E, hE⟩ : ∃ E : Int, (if q = 3 ∨ B = true ∧ q = 0 then 1 else 0) = E := ⟨_, rfl⟩
  rw [hE]
  have HEE := Lib.hid hE
  clear hp hn hB' hR' hQ' hBi n0 n1 hE
  have X := Lib.hid hq0
  clear hq0 hq3
  go_enter Tryd.func21, Tryd.ntmps21
  go_upto_region 11 with (first | (refine wpList_load_row rfl 40 _ rfl w.heap.size rfl 40 _ (0, 0) _ (heap_alloc_new w _) Tryd.underlying40 rfl (by kernel_rfl) ?_) | (refine wpList_store_row rfl 40 _ _ rfl w.heap.size _ rfl rfl 40 _ (heap_alloc_new w _) (by kernel_rfl) rfl (by simp [Value.oneCell']) ?_; rw [World.setRow_alloc_new]))
  by_cases hq : q = 3
  · have e1 : decide (q = 3) = true := decide_eq_true hq
    have e2 : (q == 3) = true := by simp [hq]
    have HF := Lib.hid hq
    clear hq
    go_wp2_with (first | (refine wpList_load_row rfl 40 _ rfl w.heap.size rfl 40 _ (0, 0) _ (heap_alloc_new w _) Tryd.underlying40 rfl (by kernel_rfl) ?_) | (refine wpList_store_row rfl 40 _ _ rfl w.heap.size _ rfl rfl 40 _ (heap_alloc_new w _) (by kernel_rfl) rfl (by simp [Value.oneCell']) ?_; rw [World.setRow_alloc_new]))
    (try simp only [Exit.inBlock, Exit.then])
    refine bodyPost_ret (res_ct rfl _ _ w.heap.size 40 _ (0, 0) _ rfl (heap_alloc_new w _) Tryd.underlying40 rfl (by kernel_rfl)) rfl ?_
    exact ⟨_, rfl, by rw [← HEE.out, if_pos (by simp [HF.out])]; exact Dv.Err.no _ 1 (by decide) (by decide), below_alloc (Below.refl _ _) _⟩
  · have e1 : decide (q = 3) = false := decide_eq_false hq
    have e2 : (q == 3) = false := by simp [hq]
    cases B with
    | false =>
      have HF := Lib.hid (show q ≠ 3 from hq)
      clear hq
      go_wp2_with (first | (refine wpList_load_row rfl 40 _ rfl w.heap.size rfl 40 _ (0, 0) _ (heap_alloc_new w _) Tryd.underlying40 rfl (by kernel_rfl) ?_) | (refine wpList_store_row rfl 40 _ _ rfl w.heap.size _ rfl rfl 40 _ (heap_alloc_new w _) (by kernel_rfl) rfl (by simp [Value.oneCell']) ?_; rw [World.setRow_alloc_new]))
      (try simp only [Exit.inBlock, Exit.then])
      refine bodyPost_ret (res_ct rfl _ _ w.heap.size 40 _ (0, 0) _ rfl (heap_alloc_new w _) Tryd.underlying40 rfl (by kernel_rfl)) rfl ?_
      exact ⟨_, rfl, by rw [← HEE.out, if_neg (by simp [HF.out])]; exact .inl ⟨rfl, rfl⟩, below_alloc (Below.refl _ _) _⟩
    | true =>
      by_cases hz : q = 0
      · have e3 : decide (q = 0) = true := decide_eq_true hz
        have e4 : (q == 0) = true := by simp [hz]
        have HF := Lib.hid hz
        clear hq hz
        go_wp2_with (first | (refine wpList_load_row rfl 40 _ rfl w.heap.size rfl 40 _ (0, 0) _ (heap_alloc_new w _) Tryd.underlying40 rfl (by kernel_rfl) ?_) | (refine wpList_store_row rfl 40 _ _ rfl w.heap.size _ rfl rfl 40 _ (heap_alloc_new w _) (by kernel_rfl) rfl (by simp [Value.oneCell']) ?_; rw [World.setRow_alloc_new]))
        (try simp only [Exit.inBlock, Exit.then])
        refine bodyPost_ret (res_ct rfl _ _ w.heap.size 40 _ (0, 0) _ rfl (heap_alloc_new w _) Tryd.underlying40 rfl (by kernel_rfl)) rfl ?_
        exact ⟨_, rfl, by rw [← HEE.out, if_pos (by simp [HF.out])]; exact Dv.Err.no _ 1 (by decide) (by decide), below_alloc (Below.refl _ _) _⟩
      · have e3 : decide (q = 0) = false := decide_eq_false hz
        have e4 : (q == 0) = false := by simp [hz]
        have HF := Lib.hid (And.intro hq hz)
        clear hq hz
        go_wp2_with (first | (refine wpList_load_row rfl 40 _ rfl w.heap.size rfl 40 _ (0, 0) _ (heap_alloc_new w _) Tryd.underlying40 rfl (by kernel_rfl) ?_) | (refine wpList_store_row rfl 40 _ _ rfl w.heap.size _ rfl rfl 40 _ (heap_alloc_new w _) (by kernel_rfl) rfl (by simp [Value.oneCell']) ?_; rw [World.setRow_alloc_new]))
        (try simp only [Exit.inBlock, Exit.then])
        refine bodyPost_ret (res_ct rfl _ _ w.heap.size 40 _ (0, 0) _ rfl (heap_alloc_new w _) Tryd.underlying40 rfl (by kernel_rfl)) rfl ?_
        exact ⟨_, rfl, by rw [← HEE.out, if_neg (by simp [HF.out.1, HF.out.2])]; exact .inl ⟨rfl, rfl⟩, below_alloc (Below.refl _ _) _⟩
set_option maxRecDepth 100000 in
set_option maxHeartbeats 4000000 in
theorem packet_head (c : Int) (w : World) (h0 : 0 ≤ c) (h1 : c ≤ 255) :
    Calls Tryd.prog 21 #[.int .u8 c] w fun e w' => ∃ v, e = .returned (.tuple #[.agg (pkN (pkHead c).1), v]) ∧ Dv.Err w' v (pkHead c).2 ∧ Below w.heap.size w w' := by
  have ha : Go.bits .and .u8 c 15 = c % 16 := by have := hd_and ⟨c.toNat, by omega⟩; simpa [Int.toNat_of_nonneg h0] using this
  have w1 : IntKind.i64.wrap (c / 16) = c / 16 := by rw [IntKind.wrap_i64]; omega
  have w2 : IntKind.i64.wrap (c % 16) = c % 16 := by rw [IntKind.wrap_i64]; omega
  have n0 : 0 ≤ c % 16 := by omega
  have n1 : c % 16 < 16 := by omega
  obtain ⟨n, hn⟩ : ∃ n, c % 16 = n := ⟨_, rfl⟩
  obtain ⟨k, hk⟩ : ∃ k, c / 16 = k := ⟨_, rfl⟩
  have hk15 : k ≤ 15 := by omega
  have hk00 : 0 ≤ k := by omega
  rcases (by omega : k = 3 ∨ k = 0 ∨ (k = 6 ∨ k = 8 ∨ k = 10) ∨ (k = 1 ∨ k = 2 ∨ k = 4 ∨ k = 5 ∨ k = 7 ∨ k = 9 ∨ k = 11 ∨ k = 12 ∨ k = 13 ∨ k = 14 ∨ k = 15)) with h | h | h | h
  · exact packet_head3 c w h0 h1 ha w1 w2 n0 n1 n hn (by omega)
  · have hp : pkHead c = (pkZ, 1) := by unfold pkHead; dsimp only; rw [if_pos (by omega)]
    rw [hp]
    rw [h] at hk
    rw [hk] at w1
    rw [hn] at ha w2
    clear hp hn n0 n1 h hk15 hk00
    · skip
      go_enter Tryd.func21, Tryd.ntmps21
      go_wp2_with (first | (refine wpList_load_row rfl 40 _ rfl w.heap.size rfl 40 _ (0, 0) _ (heap_alloc_new w _) Tryd.underlying40 rfl (by kernel_rfl) ?_) | (refine wpList_store_row rfl 40 _ _ rfl w.heap.size _ rfl rfl 40 _ (heap_alloc_new w _) (by kernel_rfl) rfl (by simp [Value.oneCell']) ?_; rw [World.setRow_alloc_new]))
      (try simp only [Exit.inBlock, Exit.then])
      refine bodyPost_ret (res_ct rfl _ _ w.heap.size 40 _ (0, 0) _ rfl (heap_alloc_new w _) Tryd.underlying40 rfl (by kernel_rfl)) rfl ?_
      exact ⟨_, rfl, Dv.Err.no _ 1 (by decide) (by decide), below_alloc (Below.refl _ _) _⟩
  · by_cases h2 : n = 2
    · have hp : pkHead c = ({ pkZ with kind := k }, 0) := by unfold pkHead; dsimp only; rw [hk, hn, if_neg (by omega), if_neg (by omega), if_pos h, if_pos h2]
      rw [hp]
      rw [hn, h2] at ha w2
      clear hp hn n0 n1 hk15 hk00 h2
      rcases h with rfl | rfl | rfl
      all_goals
        rw [hk] at w1
        go_enter Tryd.func21, Tryd.ntmps21
        go_wp2_with (first | (refine wpList_load_row rfl 40 _ rfl w.heap.size rfl 40 _ (0, 0) _ (heap_alloc_new w _) Tryd.underlying40 rfl (by kernel_rfl) ?_) | (refine wpList_store_row rfl 40 _ _ rfl w.heap.size _ rfl rfl 40 _ (heap_alloc_new w _) (by kernel_rfl) rfl (by simp [Value.oneCell']) ?_; rw [World.setRow_alloc_new]))
        (try simp only [Exit.inBlock, Exit.then])
        refine bodyPost_ret (res_ct rfl _ _ w.heap.size 40 _ (0, 0) _ rfl (heap_alloc_new w _) Tryd.underlying40 rfl (by kernel_rfl)) rfl ?_
        exact ⟨_, rfl, .inl ⟨rfl, rfl⟩, below_alloc (Below.refl _ _) _⟩
    · have hp : pkHead c = ({ pkZ with kind := k }, 1) := by unfold pkHead; dsimp only; rw [hk, hn, if_neg (by omega), if_neg (by omega), if_pos h, if_neg h2]
      rw [hp]
      rw [hn] at ha w2
      have w3 : IntKind.i64.wrap (n - 2) = n - 2 := by rw [IntKind.wrap_i64]; omega
      have t1 : (n - 2 != 0) = true := by simp; omega
      have t2 : decide (n - 2 = 0) = false := decide_eq_false (by omega)
      clear hp hn n0 n1 hk15 hk00 h2
      rcases h with rfl | rfl | rfl
      all_goals
        rw [hk] at w1
        go_enter Tryd.func21, Tryd.ntmps21
        go_wp2_with (first | (refine wpList_load_row rfl 40 _ rfl w.heap.size rfl 40 _ (0, 0) _ (heap_alloc_new w _) Tryd.underlying40 rfl (by kernel_rfl) ?_) | (refine wpList_store_row rfl 40 _ _ rfl w.heap.size _ rfl rfl 40 _ (heap_alloc_new w _) (by kernel_rfl) rfl (by simp [Value.oneCell']) ?_; rw [World.setRow_alloc_new]))
        (try simp only [Exit.inBlock, Exit.then])
        refine bodyPost_ret (res_ct rfl _ _ w.heap.size 40 _ (0, 0) _ rfl (heap_alloc_new w _) Tryd.underlying40 rfl (by kernel_rfl)) rfl ?_
        exact ⟨_, rfl, Dv.Err.no _ 1 (by decide) (by decide), below_alloc (Below.refl _ _) _⟩
  · by_cases h2 : n = 0
    · have hp : pkHead c = ({ pkZ with kind := k }, 0) := by unfold pkHead; dsimp only; rw [hk, hn, if_neg (by omega), if_neg (by omega), if_neg (by omega : ¬ (k = 6 ∨ k = 8 ∨ k = 10)), if_pos h2]
      rw [hp]
      rw [hn, h2] at ha w2
      clear hp hn n0 n1 hk15 hk00 h2
      rcases h with rfl | rfl | rfl | rfl | rfl | rfl | rfl | rfl | rfl | rfl | rfl
      all_goals
        rw [hk] at w1
        go_enter Tryd.func21, Tryd.ntmps21
        go_wp2_with (first | (refine wpList_load_row rfl 40 _ rfl w.heap.size rfl 40 _ (0, 0) _ (heap_alloc_new w _) Tryd.underlying40 rfl (by kernel_rfl) ?_) | (refine wpList_store_row rfl 40 _ _ rfl w.heap.size _ rfl rfl 40 _ (heap_alloc_new w _) (by kernel_rfl) rfl (by simp [Value.oneCell']) ?_; rw [World.setRow_alloc_new]))
        (try simp only [Exit.inBlock, Exit.then])
        refine bodyPost_ret (res_ct rfl _ _ w.heap.size 40 _ (0, 0) _ rfl (heap_alloc_new w _) Tryd.underlying40 rfl (by kernel_rfl)) rfl ?_
        exact ⟨_, rfl, .inl ⟨rfl, rfl⟩, below_alloc (Below.refl _ _) _⟩
    · have hp : pkHead c = ({ pkZ with kind := k }, 1) := by unfold pkHead; dsimp only; rw [hk, hn, if_neg (by omega), if_neg (by omega), if_neg (by omega : ¬ (k = 6 ∨ k = 8 ∨ k = 10)), if_neg h2]
      rw [hp]
      rw [hn] at ha w2
      have t1 : (n != 0) = true := by simp; omega
      have t2 : decide (n = 0) = false := decide_eq_false (by omega)
      clear hp hn n0 n1 hk15 hk00 h2
      rcases h with rfl | rfl | rfl | rfl | rfl | rfl | rfl | rfl | rfl | rfl | rfl
      all_goals
        rw [hk] at w1
        go_enter Tryd.func21, Tryd.ntmps21
        go_wp2_with (first | (refine wpList_load_row rfl 40 _ rfl w.heap.size rfl 40 _ (0, 0) _ (heap_alloc_new w _) Tryd.underlying40 rfl (by kernel_rfl) ?_) | (refine wpList_store_row rfl 40 _ _ rfl w.heap.size _ rfl rfl 40 _ (heap_alloc_new w _) (by kernel_rfl) rfl (by simp [Value.oneCell']) ?_; rw [World.setRow_alloc_new]))
        (try simp only [Exit.inBlock, Exit.then])
        refine bodyPost_ret (res_ct rfl _ _ w.heap.size 40 _ (0, 0) _ rfl (heap_alloc_new w _) Tryd.underlying40 rfl (by kernel_rfl)) rfl ?_
        exact ⟨_, rfl, Dv.Err.no _ 1 (by decide) (by decide), below_alloc (Below.refl _ _) _⟩
end Go.Proofs.YtdnmliidmnfijaaDoor.Q

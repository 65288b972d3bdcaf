import Derived.Test.YtdnmliidmnfijaaDoorKH12
set_option linter.unusedVariables false
set_option linter.unusedSimpArgs false
namespace Go.Proofs.YtdnmliidmnfijaaDoor.Q
open Go.RowKit Go.Proofs.YtdnmliidmnfijaaDoorW.PrintWords Go.Proofs.YtdnmliidmnfijaaDoorW.PrintLast Go.Proofs.YtdnmliidmnfijaaDoorW.PrintMore
def pk48 : Pk := (pkHead 48).1
def pk192 : Pk := (pkHead 192).1
def pubB (k : Nat) : List Int := [48, ((k + 4 : Nat) : Int), 0, 1, 97, 0] ++ List.replicate k 0
def pubS (k : Nat) : RS := ⟨((pubB k).take (k + 6)).drop 2, 0⟩
theorem pub_all : ∀ k : Fin 54, pkSize (pubB k.val) = (((k.val + 6 : Nat) : Int), 0) ∧ (Dv.varGet ((pubB k.val).drop 1)).2.1 = 1 ∧ (pubB k.val).length = k.val + 6 ∧ (bodyPub pk48 (pubS k.val)).2.e = 0 ∧ (bodyPub pk48 (pubS k.val)).1.payload.size = k.val ∧ bok (pubB k.val) := by decide +kernel
set_option maxRecDepth 100000 in
theorem dec_pub (A : Option Addr) (c : Nat) (k : Nat) (hk : k ≤ 53) (w : World) (hr : Kd.C (Kd.int .u8) w A (pubB k).length (pubB k)) (hc : (pubB k).length ≤ c) (hT : Dv.GTab w) :
    Calls Tryd.prog 16 #[.slice A (pubB k).length c] w fun e w' => ∃ cs, e = .returned (.tuple #[.agg cs, .int .i64 ((k + 6 : Nat) : Int), .nilIface]) ∧ kPk.M w' w.heap.size (fun _ => True) (bodyPub pk48 (pubS k)).1 cs.toList ∧ Below w.heap.size w w' := by
  obtain ⟨h1, h2, h3, h4, h5, h6⟩ := pub_all ⟨k, by omega⟩
  dsimp only at h1 h2 h3 h4 h5 h6
  refine packet_Decode_ok A c (pubB k) w hr hc h6 ((k + 6 : Nat) : Int) h1 (by omega) (pubS k) (bodyPub pk48 (pubS k)).2 pk48 rfl (by rw [h2]; rfl) h4 (fun W cs => kPk.M W w.heap.size (fun _ => True) (bodyPub pk48 (pubS k)).1 cs.toList) ?_
  intro W g q hR hP ho
  have hok : (pubS k).ok := ⟨bok_drop (bok_take h6 _) _, Int.le_refl 0⟩
  refine (body_pub w W g q (pubS k) pk48 rfl rfl hR hP ho hok hT (by unfold pubS; simp only [List.length_drop, List.length_take]; omega)).mono ?_
  rintro e w' ⟨x, rfl, hr', hp', hx, hk'⟩
  have hM : kPk.M w' w.heap.size (fun _ => True) (bodyPub pk48 (pubS k)).1 (pkC (bodyPub pk48 (pubS k)).1 x nilS nilS nilS nilS nilS nilS).toList :=
    kPk_mkM _ (Kd.R_lower hx hR.below.size) (Kd.R_nil _ _ _ _ _) (Kd.R_nil _ _ _ _ _) (Kd.R_nil _ _ _ _ _) (Kd.R_nil _ _ _ _ _) (Kd.R_nil _ _ _ _ _) (Kd.R_nil _ _ _ _ _)
  exact ⟨_, rfl, hr', hp', (kPk_size hM).1, (kPk_size hM).2, hM, hk'⟩
theorem ping_all : pkSize [192, 0] = (2, 0) ∧ (Dv.varGet ([192, 0] : List Int).tail).2.1 = 1 ∧ pkSize [192] = (1, 3) := by decide +kernel
set_option maxRecDepth 100000 in
theorem dec_ping (A : Option Addr) (c : Nat) (w : World) (hr : Kd.C (Kd.int .u8) w A ([192, 0] : List Int).length [192, 0]) (hc : ([192, 0] : List Int).length ≤ c) :
    Calls Tryd.prog 16 #[.slice A ([192, 0] : List Int).length c] w fun e w' => ∃ cs, e = .returned (.tuple #[.agg cs, .int .i64 2, .nilIface]) ∧ kPk.M w' w.heap.size (fun _ => True) pk192 cs.toList ∧ Below w.heap.size w w' := by
  refine packet_Decode_ok A c [192, 0] w hr hc (by decide) 2 ping_all.1 (by decide) ⟨[], 0⟩ ⟨[], 0⟩ pk192 rfl (by rw [show (Dv.varGet (([192, 0] : List Int).drop 1)).2.1 = 1 from ping_all.2.1]; rfl) rfl (fun W cs => kPk.M W w.heap.size (fun _ => True) pk192 cs.toList) ?_
  intro W g q hR hP ho
  refine (body_ping w W g q ⟨[], 0⟩ pk192 rfl hR hP).mono ?_
  rintro e w' ⟨rfl, hr', hp', hk'⟩
  have hM : kPk.M w' w.heap.size (fun _ => True) pk192 (pkN pk192).toList :=
    kPk_mkM pk192 (Kd.R_nil _ _ _ _ _) (Kd.R_nil _ _ _ _ _) (Kd.R_nil _ _ _ _ _) (Kd.R_nil _ _ _ _ _) (Kd.R_nil _ _ _ _ _) (Kd.R_nil _ _ _ _ _) (Kd.R_nil _ _ _ _ _)
  exact ⟨_, rfl, hr', hp', rfl, (kPk_size hM).2, hM, hk'.mono (fun _ h => .inl h)⟩
set_option maxRecDepth 100000 in
set_option maxHeartbeats 4000000 in
theorem stream_New (lim : Int) (w : World) (h0 : 2 ≤ lim) (h1 : lim ≤ 65536) : Calls Tryd.prog 4 #[.int .i64 lim] w fun e w' => e = .returned (.pointer (some ⟨w.heap.size, 0, none⟩)) ∧ SP w' w.heap.size lim none 0 [] .nilIface ∧ Below w.heap.size w w' := by
  have H0 := Lib.hid h0
  have t1 : decide (lim < 2) = false := decide_eq_false (by omega)
  have t2 : decide (2 < lim) = true ∨ lim = 2 := by by_cases h : lim = 2; exact .inr h; exact .inl (decide_eq_true (by omega))
  have e1 : max lim 2 = lim := by omega
  have e2 : min lim 65536 = lim := by omega
  go_enter Tryd.func4, Tryd.ntmps4
  go_wp2
  go_ret
  exact ⟨rfl, ⟨heap_alloc_new _ _, fun W' _ => Kd.C_nil _ _, Nat.le_refl _⟩, below_alloc (Below.refl _ _) _⟩
set_option maxRecDepth 100000 in
set_option maxHeartbeats 4000000 in
theorem stream_Held (w : World) (g : Nat) (lim : Int) (A : Option Addr) (c : Nat) (b : List Int) (v : Value) (h : SP w g lim A c b v) :
    Calls Tryd.prog 7 #[.pointer (some ⟨g, 0, none⟩)] w fun e w' => e = .returned (.int .i64 b.length) ∧ w' = w := by
  have k1 := h.c1
  have hm := h.C.2.1
  clear h
  go_enter Tryd.func7, Tryd.ntmps7
  go_wp2
  go_ret
  exact ⟨rfl, rfl⟩
end Go.Proofs.YtdnmliidmnfijaaDoor.Q

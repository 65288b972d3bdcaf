import Derived.Test.YtondmmoabmhpfaaDoorPDvS1
namespace Go.Proofs.YtondmmoabmhpfaaDoor.Q
open Go.RowKit Go.Proofs.YtondmmoabmhpfaaDoorW.PrintWords Go.Proofs.YtondmmoabmhpfaaDoorW.PrintLast Go.Proofs.YtondmmoabmhpfaaDoorW.PrintMore
def byteOk (x : Int) : Prop := 0 ≤ x ∧ x ≤ 255
instance (x : Int) : Decidable (byteOk x) := by unfold byteOk; infer_instance
def getBin (l : List Int) : ByteArray × Int × Int :=
  if l.length < 2 then (⟨#[]⟩, 0, 3) else if (l.length : Int) < 2 + (rd l 0 * 256 + rd l 1) then (⟨#[]⟩, 0, 3) else (strOfNums ((l.take (2 + (rd l 0 * 256 + rd l 1)).toNat).drop 2), 2 + (rd l 0 * 256 + rd l 1), 0)
theorem i64_or256 {x y : Int} (hx₀ : 0 ≤ x) (hx : x < 4294967296) (h₀ : 0 ≤ y) (h₁ : y < 256) : Go.bits .or .i64 (x * 256) y = x * 256 + y :=
  bits_join .i64 63 (by decide) R.wraps_i64 8 (x * 256) y (by omega) (by omega) (by omega) h₀ (by omega) (by omega)
set_option maxRecDepth 100000 in
set_option maxHeartbeats 2000000 in
theorem getBin_calls (A : Option Addr) (c : Nat) (l : List Int) (w : World) (hr : Kd.C (Kd.int .u8) w A l.length l) (hc : l.length ≤ c) (hb : 2 ≤ l.length → byteOk (rd l 0) ∧ byteOk (rd l 1)) :
    Calls Tryd.prog 53 #[.slice A l.length c] w fun e w' => e = .returned (.tuple #[.string (getBin l).1, .int .i64 (getBin l).2.1, .int .i64 (getBin l).2.2]) ∧ Drawn0 w w' := by
  have hm := hr.2.1
  by_cases h2 : l.length < 2
  · have e : getBin l = (⟨#[]⟩, 0, 3) := by unfold getBin; rw [if_pos h2]
    rw [e]
    have h2' : decide (l.length < 2) = true := decide_eq_true h2
    have h2'' : decide ((l.length : Int) < 2) = true := decide_eq_true (by omega)
    clear h2 hr hb
    go_enter Tryd.func53, Tryd.ntmps53
    go_wp2
    repeat (go_quiet (fail); try go_wp2)
    go_ret3
    exact ⟨rfl, Drawn0.refl _⟩
  · obtain ⟨⟨b1, b2⟩, b3, b4⟩ := hb (by omega)
    obtain ⟨ad, e0, hc0⟩ := Kd.at_int hr 0 (by omega) (by omega)
    obtain ⟨ad', e1, hc1⟩ := Kd.at_int hr 1 (by omega) (by omega)
    cases e0
    cases e1
    rw [show (0 : Int).toNat = 0 from rfl, Addr.add_zero'] at hc0
    rw [show (1 : Int).toNat = 1 from rfl] at hc1
    have hc1' : w.cell? { block := ad.block, off := ad.off + 1 } = some (.int .u8 (rd l 1)) := by simpa [Addr.add] using hc1
    have hor := i64_or256 (x := rd l 0) (y := rd l 1) b1 (by omega) b3 (by omega)
    have h2' : decide (l.length < 2) = false := decide_eq_false h2
    have h2'' : decide ((l.length : Int) < 2) = false := decide_eq_false (by omega)
    have q0 : (0 < l.length) = True := eq_true (by omega)
    have q1 : (1 < l.length) = True := eq_true (by omega)
    by_cases h3 : (l.length : Int) < 2 + (rd l 0 * 256 + rd l 1)
    · have e : getBin l = (⟨#[]⟩, 0, 3) := by unfold getBin; rw [if_neg h2, if_pos h3]
      rw [e]
      clear e hr
      generalize rd l 0 = x at *
      generalize rd l 1 = y at *
      have q1i : ((1 : Int) < (l.length : Int)) = True := eq_true (by omega)
      clear h2
      have w1 : IntKind.i64.wrap x = x := by rw [IntKind.wrap_i64]; omega
      have w2 : IntKind.i64.wrap (x * 256) = x * 256 := by rw [IntKind.wrap_i64]; omega
      have w3 : IntKind.i64.wrap y = y := by rw [IntKind.wrap_i64]; omega
      have w4 : IntKind.i64.wrap (2 + (x * 256 + y)) = 2 + (x * 256 + y) := by rw [IntKind.wrap_i64]; omega
      have t1 : decide ((l.length : Int) < 2 + (x * 256 + y)) = true := decide_eq_true h3
      go_enter Tryd.func53, Tryd.ntmps53
      go_wp2
      go_quiet (fail)
      go_wp2
      go_ret3
      exact ⟨rfl, by repeat (first | exact Drawn0.refl _ | apply Drawn0.step)⟩
    · have e : getBin l = (strOfNums ((l.take (2 + (rd l 0 * 256 + rd l 1)).toNat).drop 2), 2 + (rd l 0 * 256 + rd l 1), 0) := by unfold getBin; rw [if_neg h2, if_neg h3]
      rw [e]
      clear e
      dsimp only
      obtain ⟨R, hR⟩ : ∃ R, R = strOfNums ((l.take (2 + (rd l 0 * 256 + rd l 1)).toNat).drop 2) := ⟨_, rfl⟩
      rw [← hR]
      have HRR := Aside0.mk hR
      clear hR
      have HR := Aside0.mk hr
      clear hr
      have q1i : ((1 : Int) < (l.length : Int)) = True := eq_true (by omega)
      clear h2
      generalize rd l 0 = x at *
      generalize rd l 1 = y at *
      have w1 : IntKind.i64.wrap x = x := by rw [IntKind.wrap_i64]; omega
      have w2 : IntKind.i64.wrap (x * 256) = x * 256 := by rw [IntKind.wrap_i64]; omega
      have w3 : IntKind.i64.wrap y = y := by rw [IntKind.wrap_i64]; omega
      have w4 : IntKind.i64.wrap (2 + (x * 256 + y)) = 2 + (x * 256 + y) := by rw [IntKind.wrap_i64]; omega
      have t1 : decide ((l.length : Int) < 2 + (x * 256 + y)) = false := decide_eq_false h3
      go_enter Tryd.func53, Tryd.ntmps53
      go_wp2
      go_quiet (fail)
      clear hor w1 w2 w3
      obtain ⟨i08, hi08, _, hsz8, _⟩ := info_parts qinfo5
      obtain ⟨A8, hcut8, hA8, hC8⟩ := print_mid_of (P := Tryd.prog) (Value.int .u8) 0 35 5 .i64 .i64 Tryd.underlying35 hi08 hsz8 (some ad) c l 2 (2 + (x * 256 + y)) (by omega) (by omega) (by omega) hc
      have HR117 := Aside0.mk (Kd.C_of_reads (h1 := fun _ => rfl) (hA8 _ (Kd.reads_of_C HR.out)))
      clear hA8 hC8 hi08 hsz8
      have hcv9 := fun n => Kd.C_string (P := Tryd.prog) (w := w.drewN n) (A := A8) (c := (c - 2)) Tryd.underlying35 Tryd.underlying5 Tryd.underlying9 HR117.out
      simp only [Int.reduceToNat] at hcut8 hcv9
      simp only [← HRR.out] at hcv9
      have hlen : ((l.take (2 + (x * 256 + y)).toNat).drop 2).length = (2 + (x * 256 + y)).toNat - 2 := by rw [List.length_drop, List.length_take]; omega
      simp only [hlen] at hcut8 hcv9
      clear hlen HR117 HRR
      go_wp2
      go_ret3
      exact ⟨rfl, by repeat (first | exact Drawn0.refl _ | apply Drawn0.step)⟩

def bok (l : List Int) : Prop := ∀ x ∈ l, byteOk x
instance (l : List Int) : Decidable (bok l) := by unfold bok; infer_instance
theorem bok_rd {l : List Int} (h : bok l) (i : Int) (h0 : 0 ≤ i) (h1 : i < l.length) : byteOk (rd l i) := by
  unfold rd
  rw [List.getD_eq_getElem?_getD, List.getElem?_eq_getElem (by omega)]
  exact h _ (List.getElem_mem _)
def dovecoteref1_GetBin.f (l : List Int) : Option (ByteArray × Int × Int) := if bok l then some (getBin l) else none
theorem dovecoteref1_GetBin.calls (A0 : Option Addr) (c0 : Nat) (l0 : List Int) (r1 : ByteArray) (r2 : Int) (r3 : Int) (w : World) (hr0 : Kd.C (Kd.int .u8) w A0 l0.length l0) (hc0 : l0.length ≤ c0) (h : dovecoteref1_GetBin.f l0 = some (r1, r2, r3)) :
    Calls Tryd.prog 53 #[.slice A0 l0.length c0] w fun e w' => e = .returned (.tuple #[.string r1, .int .i64 r2, .int .i64 r3]) ∧ Drawn0 w w' := by
  unfold dovecoteref1_GetBin.f at h
  split at h
  · rename_i hb
    injection h with h
    have := getBin_calls A0 c0 l0 w hr0 hc0 (fun h2 => ⟨bok_rd hb 0 (by omega) (by omega), bok_rd hb 1 (by omega) (by omega)⟩)
    rw [h] at this
    exact this
  · cases h
def getText (l : List Int) : ByteArray × Int × Int := if (getBin l).2.2 = 0 then (if Dv.utf (getBin l).1.data.toList then getBin l else (⟨#[]⟩, 0, 1)) else getBin l

theorem strOfNums_size (l : List Int) : (strOfNums l).size = l.length := by simp [strOfNums, ByteArray.size]
theorem getBin_size (l : List Int) (h : bok l) : (getBin l).1.size ≤ 65535 := by
  unfold getBin
  split
  · simp [ByteArray.size]
  · rename_i h2
    have h0 := bok_rd h 0 (by omega) (by omega)
    have h1 := bok_rd h 1 (by omega) (by omega)
    unfold byteOk at h0 h1
    split
    · simp [ByteArray.size]
    · simp only [strOfNums_size, List.length_drop, List.length_take]; omega
def dovecoteref1_GetText.f (l : List Int) : Option (ByteArray × Int × Int) := if bok l then some (getText l) else none
theorem belowD {w W : World} (h : Drawn0 w W) : Below w.heap.size w W := h.below
set_option maxRecDepth 100000 in
set_option maxHeartbeats 2000000 in
theorem getText_calls (A : Option Addr) (c : Nat) (l : List Int) (w : World) (hr : Kd.C (Kd.int .u8) w A l.length l) (hc : l.length ≤ c) (hb : bok l) :
    Calls Tryd.prog 52 #[.slice A l.length c] w fun e w' => e = .returned (.tuple #[.string (getText l).1, .int .i64 (getText l).2.1, .int .i64 (getText l).2.2]) ∧ Below w.heap.size w w' := by
  have C1 := getBin_calls A c l w hr hc (fun h2 => ⟨bok_rd hb 0 (by omega) (by omega), bok_rd hb 1 (by omega) (by omega)⟩)
  have hz := getBin_size l hb
  unfold getText
  generalize getBin l = g at *
  obtain ⟨s, n, e⟩ := g
  dsimp only at *
  have CC := Lib.hid C1
  clear C1 hr
  by_cases he : e = 0
  · subst he
    have kb := fun W => print_bytes (P := Tryd.prog) 9 35 5 Tryd.underlying9 Tryd.underlying35 Tryd.underlying5 s W
    have hC : ∀ W, Calls Tryd.prog 61 #[.slice (some ⟨W.heap.size, 0, none⟩) s.size (grownCap W s.size 0 5)] (Lib.bytesWorld W 5 s) fun e w' => e = .returned (.bool (Dv.utf s.data.toList)) ∧ Below (Lib.bytesWorld W 5 s).heap.size (Lib.bytesWorld W 5 s) w' := by
      intro W
      have h := R.dovecoteref1_Utf.calls (s.data.toList.length + 7) (fun _ => True) (some ⟨W.heap.size, 0, none⟩) (grownCap W s.size 0 5) (bytesOf s) (Dv.utf s.data.toList) (Lib.bytesWorld W 5 s) (by rw [bytesOf_length]; exact V_bytes W s (by omega)) (R.Utf_f s.data.toList)
      rwa [bytesOf_length] at h
    generalize Dv.utf s.data.toList = u at *
    have HC := Lib.hid hC
    clear hC
    have HS := Aside0.mk hz
    clear hz
    cases u with
    | false =>
      go_enter Tryd.func52, Tryd.ntmps52
      go_wp2_with (first | (go_at_call 53; refine CC.out.mono ?_; rintro e w1 ⟨rfl, hd⟩; have HD := Lib.hid hd; clear hd) | (go_at_call 61; refine (HC.out _).mono ?_; rintro e w2 ⟨rfl, hb2⟩; have HB2 := Lib.hid hb2; clear hb2))
      go_ret3
      exact ⟨rfl, (belowD HD.out).then_ ((bytes_below (Below.refl _ _) (Nat.le_refl _) 5 s).then_ HB2.out)⟩
    | true =>
      go_enter Tryd.func52, Tryd.ntmps52
      go_wp2_with (first | (go_at_call 53; refine CC.out.mono ?_; rintro e w1 ⟨rfl, hd⟩; have HD := Lib.hid hd; clear hd) | (go_at_call 61; refine (HC.out _).mono ?_; rintro e w2 ⟨rfl, hb2⟩; have HB2 := Lib.hid hb2; clear hb2))
      go_ret3
      exact ⟨rfl, (belowD HD.out).then_ ((bytes_below (Below.refl _ _) (Nat.le_refl _) 5 s).then_ HB2.out)⟩
  · rw [if_neg he]
    have he' : (e == 0) = false := by simpa using he
    clear he
    go_enter Tryd.func52, Tryd.ntmps52
    go_wp2_with (first | (go_at_call 53; refine CC.out.mono ?_; rintro e w1 ⟨rfl, hd⟩; have HD := Lib.hid hd; clear hd))
    go_ret3
    exact ⟨rfl, belowD HD.out⟩
theorem dovecoteref1_GetText.calls (A0 : Option Addr) (c0 : Nat) (l0 : List Int) (r1 : ByteArray) (r2 : Int) (r3 : Int) (w : World) (hr0 : Kd.C (Kd.int .u8) w A0 l0.length l0) (hc0 : l0.length ≤ c0) (h : dovecoteref1_GetText.f l0 = some (r1, r2, r3)) :
    Calls Tryd.prog 52 #[.slice A0 l0.length c0] w fun e w' => e = .returned (.tuple #[.string r1, .int .i64 r2, .int .i64 r3]) ∧ Below w.heap.size w w' := by
  unfold dovecoteref1_GetText.f at h
  split at h
  · rename_i hb
    injection h with h
    have := getText_calls A0 c0 l0 w hr0 hc0 hb
    rw [h] at this
    exact this
  · cases h
end Go.Proofs.YtondmmoabmhpfaaDoor.Q

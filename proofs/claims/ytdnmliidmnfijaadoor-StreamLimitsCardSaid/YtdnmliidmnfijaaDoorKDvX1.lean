import Derived.Test.YtdnmliidmnfijaaDoorKDvE
import Derived.Test.YtdnmliidmnfijaaDoorKR
import Derived.Test.YtdnmliidmnfijaaDoorKDvShelf
namespace Dv
open Go Go.RowKit Go.Proofs Go.Extern.Stop Go.Stop Go.Extern
def chk (s : ByteArray) : Int := if utf s.data.toList then (if s.size ≤ 65535 then 0 else 2) else 1
theorem indexByte_zero : ∀ l : List UInt8, 0 ≤ Lib.indexByte l 0 ↔ (0 : UInt8) ∈ l
  | [] => by simp [Lib.indexByte]
  | b :: l => by
    have ih := indexByte_zero l
    have hge : ∀ l : List UInt8, -1 ≤ Lib.indexByte l 0 := by
      intro l
      induction l with
      | nil => simp [Lib.indexByte]
      | cons b l ih => simp only [Lib.indexByte]; repeat' split
                       all_goals (first | omega | (simp at *; omega))
    have := hge l
    simp only [Lib.indexByte]
    by_cases hb : b = 0
    · subst hb; simp
    · have hb' : (b == 0) = false := by simp [hb]
      rw [hb']
      simp only [List.mem_cons, Bool.false_eq_true, if_false]
      by_cases h1 : Lib.indexByte l 0 = -1
      · rw [if_pos (by simp [h1])]
        constructor
        · intro h; omega
        · rintro (h | h)
          · exact absurd h.symm hb
          · have := ih.2 h; omega
      · rw [if_neg (by simpa using h1)]
        constructor
        · intro h; exact .inr (ih.1 (by omega))
        · rintro (h | h)
          · exact absurd h.symm hb
          · have := ih.2 h; omega
def GTab (w : World) : Prop := Lib.Utf8Tabs 1 2 w
theorem GTab.below {w W : World} (h : GTab w) (hb : Below w.heap.size w W) : GTab W := Utf8Tabs_below h hb
theorem valid (s : ByteArray) (w : World) (hs : s.size ≤ 140737488351232) (hT : GTab w) :
    Calls Tryd.prog 59 #[.string s] w fun e w' => e = .returned (.bool (Lib.validD s.data.toList)) ∧ Below w.heap.size w w' := Tryd.utf8_ValidString s w (by omega) hT
set_option maxHeartbeats 1000000 in
theorem text_ask (s : ByteArray) (w : World) (hs : s.size ≤ 140737488351232) (hT : GTab w) : Calls Tryd.prog 53 #[.string s] w fun e w' => ∃ v, e = .returned v ∧ Err w' v (chk s) ∧ Below w.heap.size w w' := by
  have cV := valid s w hs hT
  have hu := utf_valid s.data.toList
  have hz := indexByte_zero s.data.toList
  obtain ⟨r, hr⟩ : ∃ r, chk s = r := ⟨_, rfl⟩
  rw [hr]
  unfold chk at hr
  rw [hu] at hr
  have cI : ∀ w, Calls Tryd.prog 60 #[.string s, .int .u8 0] w _ := fun w => Tryd.strings_IndexByte s 0 w
  have e0 : (0 : Int).toNat.toUInt8 = (0 : UInt8) := rfl
  rw [e0] at cI
  generalize Lib.validD s.data.toList = V at *
  generalize Lib.indexByte s.data.toList 0 = I at *
  have HR := Lib.hid hr
  have HZ := Lib.hid hz
  clear hr hu hz e0
  have CI := Lib.hid cI
  have CV := Lib.hid cV
  clear cI cV
  cases V with
  | false =>
    have hr1 : r = 1 := by have := HR.out; simpa using this.symm
    have HR1 := Lib.hid hr1
    clear hr1
    go_enter Tryd.func53, Tryd.ntmps53
    go_wp2_with (go_at_call 59; refine CV.out.mono ?_; rintro e w1 ⟨rfl, hb⟩)
    go_ret
    exact ⟨_, rfl, (by rw [HR1.out]; exact Err.no _ 1 (by omega) (by omega)), hb⟩
  | true =>
    by_cases hI : 0 ≤ I
    · have hr1 : r = 1 := by have := HR.out; have h0 := HZ.out.1 hI; simp [h0] at this; exact this.symm
      have HR1 := Lib.hid hr1
      clear hr1
      go_enter Tryd.func53, Tryd.ntmps53
      go_wp2_with (first | (go_at_call 59; refine CV.out.mono ?_; rintro e w1 ⟨rfl, hb⟩) | (go_at_call 60; refine (CI.out _).mono ?_; rintro e w2 ⟨rfl, rfl⟩))
      go_ret
      exact ⟨_, rfl, (by rw [HR1.out]; exact Err.no _ 1 (by omega) (by omega)), hb⟩
    · have h0 : (0 : UInt8) ∉ s.data.toList := fun h => hI (HZ.out.2 h)
      have HR1 := Lib.hid (show (if s.size ≤ 65535 then (0 : Int) else 2) = r by have := HR.out; simpa [h0] using this)
      clear h0
      by_cases hl : s.size ≤ 65535
      · go_enter Tryd.func53, Tryd.ntmps53
        go_wp2_with (first | (go_at_call 59; refine CV.out.mono ?_; rintro e w1 ⟨rfl, hb⟩) | (go_at_call 60; refine (CI.out _).mono ?_; rintro e w2 ⟨rfl, rfl⟩))
        go_ret
        have := HR1.out
        rw [if_pos hl] at this
        exact ⟨_, rfl, .inl ⟨rfl, this.symm⟩, hb⟩
      · go_enter Tryd.func53, Tryd.ntmps53
        go_wp2_with (first | (go_at_call 59; refine CV.out.mono ?_; rintro e w1 ⟨rfl, hb⟩) | (go_at_call 60; refine (CI.out _).mono ?_; rintro e w2 ⟨rfl, rfl⟩))
        go_ret
        have := HR1.out
        rw [if_neg hl] at this
        exact ⟨_, rfl, (by rw [← this]; exact Err.no _ 2 (by omega) (by omega)), hb⟩
theorem text_Check (s : ByteArray) (w : World) (hs : s.size ≤ 140737488351232) (hT : GTab w) : Calls Tryd.prog 49 #[.string s] w fun e w' => ∃ v, e = .returned v ∧ Err w' v (chk s) ∧ Below w.heap.size w w' := by
  have C := Lib.hid (text_ask s w hs hT)
  generalize chk s = r at *
  clear hT
  go_enter Tryd.func49, Tryd.ntmps49
  go_wp2_with (first | (go_at_call 53; refine C.out.mono ?_; rintro e w1 ⟨v, rfl, he, hb⟩) | (go_at_call 12; refine (fail_At _ _ _ _ he).mono ?_; rintro e w2 ⟨v2, rfl, he2, hb2⟩))
  go_ret
  exact ⟨_, rfl, he2, hb.then_ hb2⟩
end Dv

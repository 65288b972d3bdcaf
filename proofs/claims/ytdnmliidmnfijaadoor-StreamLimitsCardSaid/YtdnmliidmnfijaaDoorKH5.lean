import Derived.Test.YtdnmliidmnfijaaDoorKH4
set_option linter.unusedVariables false
set_option linter.unusedSimpArgs false
namespace Go.Proofs.YtdnmliidmnfijaaDoor.Q
open Go.RowKit Go.Proofs.YtdnmliidmnfijaaDoorW.PrintWords Go.Proofs.YtdnmliidmnfijaaDoorW.PrintLast Go.Proofs.YtdnmliidmnfijaaDoorW.PrintMore
def pkSize (b : List Int) : Int × Int :=
  if b.length = 0 then (0, 3)
  else if (pkHead (rd b 0)).2 ≠ 0 then (0, 1)
  else (1 + (Dv.varGet (b.drop 1)).2.1 + (Dv.varGet (b.drop 1)).1, if (Dv.varGet (b.drop 1)).2.2 = 0 ∧ 1 + (Dv.varGet (b.drop 1)).2.1 + (Dv.varGet (b.drop 1)).1 > 65536 then 2 else (Dv.varGet (b.drop 1)).2.2)
theorem pkHead_err (c : Int) : (pkHead c).2 = 0 ∨ (pkHead c).2 = 1 := by
  unfold pkHead
  dsimp only
  repeat' split
  all_goals first | (left; rfl) | (right; rfl)
set_option maxRecDepth 100000 in
set_option maxHeartbeats 4000000 in
theorem packet_Size (A : Option Addr) (c : Nat) (b : List Int) (w : World) (hr : Kd.C (Kd.int .u8) w A b.length b) (hc : b.length ≤ c) (hb : bok b) :
    Calls Tryd.prog 15 #[.slice A b.length c] w fun e w' => ∃ v, e = .returned (.tuple #[.int .i64 (pkSize b).1, v]) ∧ Dv.Err w' v (pkSize b).2 ∧ Below w.heap.size w w' := by
  have hm := hr.2.1
  by_cases hl : b.length = 0
  · have e : pkSize b = (0, 3) := by unfold pkSize; rw [if_pos hl]
    rw [e]
    have d1 : decide (b.length = 0) = true := decide_eq_true hl
    have d2 : decide ((b.length : Int) = 0) = true := decide_eq_true (by omega)
    have d3 : ((b.length : Int) == 0) = true := beq_iff_eq.2 (by omega)
    have HL := Lib.hid hl
    clear e hl hr hb
    go_enter Tryd.func15, Tryd.ntmps15
    go_wp2_with (go_at_call 12; refine (Dv.fail_At _ _ _ _ (Dv.Err.no _ 3 (by decide) (by decide))).mono ?_; rintro e w5 ⟨v5, rfl, he5, hb5⟩; have HE5 := Lib.hid he5; have HB5 := Lib.hid hb5; clear he5 hb5)
    go_ret2
    exact ⟨_, rfl, HE5.out, HB5.out⟩
  · obtain ⟨b0, b1⟩ := bok_rd hb 0 (by omega) (by omega)
    have d1 : decide (b.length = 0) = false := decide_eq_false hl
    have d2 : decide ((b.length : Int) = 0) = false := decide_eq_false (by omega)
    have d3 : ((b.length : Int) == 0) = false := beq_eq_false_iff_ne.2 (by omega)
    have q0 : (0 < b.length) = True := eq_true (by omega)
    have q0i : ((0 : Int) < (b.length : Int)) = True := eq_true (by omega)
    obtain ⟨ad, ea, hc0⟩ := Kd.at_int hr 0 (by omega) (by omega)
    cases ea
    rw [show (0 : Int).toNat = 0 from rfl, Addr.add_zero'] at hc0
    obtain ⟨A2, hcut, hr2, hc2⟩ := cutN (some ad) c b w hc hr 1 (by omega) (by omega)
    rw [show (1 : Int).toNat = 1 from rfl] at hcut hr2 hc2
    have hb2 := bok_drop hb 1
    have H := Lib.hid (packet_head (rd b 0) w b0 b1)
    have HE01 := Lib.hid (pkHead_err (rd b 0))
    have hq2l : (b.drop 1).length ≤ b.length := by simp
    obtain ⟨q2, hq2⟩ : ∃ q2, b.drop 1 = q2 := ⟨_, rfl⟩
    rw [hq2] at hcut hr2 hc2 hb2 hq2l
    have V := Lib.hid (fun W (H : Below w.heap.size w W) => varint_Get A2 (c - 1) q2 W (Kd.C_below hr2 H) hc2 hb2)
    have hg := varGet_good q2 hb2
    by_cases hh : (pkHead (rd b 0)).2 = 0
    · obtain ⟨S, hS⟩ : ∃ S, pkSize b = S := ⟨_, rfl⟩
      have hS' := hS
      unfold pkSize at hS'
      rw [if_neg hl, if_neg (by simpa using hh), hq2] at hS'
      rw [hS]
      rw [hh] at H
      clear hS hh HE01 hr hb hr2 hc2 hq2 hb2
      generalize Dv.varGet q2 = vg at *
      obtain ⟨n, sz, er⟩ := vg
      dsimp only at *
      have hsn : 0 ≤ sz ∧ sz ≤ 4 ∧ 0 ≤ n ∧ n ≤ 268435455 := by omega
      have s1 : IntKind.i64.wrap (1 + sz) = 1 + sz := by rw [IntKind.wrap_i64]; omega
      have s2 : IntKind.i64.wrap (1 + sz + n) = 1 + sz + n := by rw [IntKind.wrap_i64]; omega
      obtain ⟨x, hx⟩ : ∃ x, rd b 0 = x := ⟨_, rfl⟩
      rw [hx] at H hc0
      generalize (pkHead x).1 = p at *
      have HG := Lib.hid hg
      by_cases h0 : er = 0
      · subst h0
        by_cases h3 : 1 + sz + n > 65536
        · rw [if_pos ⟨rfl, h3⟩] at hS'
          subst hS'
          have t1 : decide (65536 < 1 + sz + n) = true := decide_eq_true h3
          clear h3 hg hx b0 b1
          go_enter Tryd.func15, Tryd.ntmps15
          go_wp2_with fail
          refine H.out.mono ?_
          rintro e w1 ⟨v, rfl, he, hb1⟩
          obtain rfl := Err_nil he
          have HB := Lib.hid hb1
          have HBA := Lib.hid (fun o => below_alloc hb1 o)
          clear he hb1 H
          go_upto_region 4 with (first | (refine wpList_store_row rfl 40 _ _ rfl w1.heap.size _ rfl rfl 40 _ (heap_alloc_new w1 _) (by kernel_rfl) rfl (by simp [pkN, pkC, Value.oneCell']) ?_; rw [World.setRow_alloc_new]))
          go_wp2_with fail
          refine (V.out _ (HBA.out _)).mono ?_
          rintro e w2 ⟨v, rfl, he, hb2⟩
          have HE := Lib.hid he
          have HB2 := Lib.hid hb2
          obtain rfl := Err_nil he
          clear he hb2
          go_wp2_with (go_at_call 12; refine (Dv.fail_At _ _ _ _ (Dv.Err.no _ 2 (by decide) (by decide))).mono ?_; rintro e w5 ⟨v5, rfl, he5, hb5⟩; have HE5 := Lib.hid he5; have HB5 := Lib.hid hb5; clear he5 hb5)
          go_ret2
          exact ⟨_, rfl, HE5.out, ((HBA.out _).then_ HB2.out).then_ HB5.out⟩
        · rw [if_neg (fun h => h3 h.2)] at hS'
          subst hS'
          have t1 : decide (65536 < 1 + sz + n) = false := decide_eq_false h3
          clear h3 hg hx b0 b1
          go_enter Tryd.func15, Tryd.ntmps15
          go_wp2_with fail
          refine H.out.mono ?_
          rintro e w1 ⟨v, rfl, he, hb1⟩
          obtain rfl := Err_nil he
          have HB := Lib.hid hb1
          have HBA := Lib.hid (fun o => below_alloc hb1 o)
          clear he hb1 H
          go_upto_region 4 with (first | (refine wpList_store_row rfl 40 _ _ rfl w1.heap.size _ rfl rfl 40 _ (heap_alloc_new w1 _) (by kernel_rfl) rfl (by simp [pkN, pkC, Value.oneCell']) ?_; rw [World.setRow_alloc_new]))
          go_wp2_with fail
          refine (V.out _ (HBA.out _)).mono ?_
          rintro e w2 ⟨v, rfl, he, hb2⟩
          have HE := Lib.hid he
          have HB2 := Lib.hid hb2
          obtain rfl := Err_nil he
          clear he hb2
          go_wp2_with (go_at_call 12; refine (Dv.fail_At _ _ _ _ (.inl ⟨rfl, rfl⟩)).mono ?_; rintro e w5 ⟨v5, rfl, he5, hb5⟩; have HE5 := Lib.hid he5; have HB5 := Lib.hid hb5; clear he5 hb5)
          go_ret2
          exact ⟨_, rfl, HE5.out, ((HBA.out _).then_ HB2.out).then_ HB5.out⟩
      · rw [if_neg (fun h => h0 h.1)] at hS'
        subst hS'
        have HN := Lib.hid h0
        clear hg hx b0 b1 h0
        go_enter Tryd.func15, Tryd.ntmps15
        go_wp2_with fail
        refine H.out.mono ?_
        rintro e w1 ⟨v, rfl, he, hb1⟩
        obtain rfl := Err_nil he
        have HB := Lib.hid hb1
        have HBA := Lib.hid (fun o => below_alloc hb1 o)
        clear he hb1 H
        go_upto_region 4 with (first | (refine wpList_store_row rfl 40 _ _ rfl w1.heap.size _ rfl rfl 40 _ (heap_alloc_new w1 _) (by kernel_rfl) rfl (by simp [pkN, pkC, Value.oneCell']) ?_; rw [World.setRow_alloc_new]))
        go_wp2_with fail
        refine (V.out _ (HBA.out _)).mono ?_
        rintro e w2 ⟨v, rfl, he, hb2⟩
        have HE := Lib.hid he
        have HB2 := Lib.hid hb2
        obtain ⟨t, y, rfl⟩ := Err_iface he HN.out
        clear he hb2
        go_wp2_with (go_at_call 12; refine (Dv.fail_At _ _ _ _ (HE.out)).mono ?_; rintro e w5 ⟨v5, rfl, he5, hb5⟩; have HE5 := Lib.hid he5; have HB5 := Lib.hid hb5; clear he5 hb5)
        go_ret2
        exact ⟨_, rfl, HE5.out, ((HBA.out _).then_ HB2.out).then_ HB5.out⟩
    · have e : pkSize b = (0, 1) := by unfold pkSize; rw [if_neg hl, if_pos hh]
      rw [e]
      have h1 := HE01.out.resolve_left hh
      rw [h1] at H
      obtain ⟨x, hx⟩ : ∃ x, rd b 0 = x := ⟨_, rfl⟩
      rw [hx] at H hc0
      generalize (pkHead x).1 = p at *
      clear e hh HE01 hr hb hr2 hc2 hl hg V hcut h1 b0 b1 hx hq2 hb2
      go_enter Tryd.func15, Tryd.ntmps15
      go_wp2_with fail
      refine H.out.mono ?_
      rintro e w1 ⟨v, rfl, he, hb1⟩
      have HE := Lib.hid he
      have HB := Lib.hid hb1
      obtain ⟨t, y, rfl⟩ := Err_iface he (by decide)
      have HA := Lib.hid (Kept.of_below (below_alloc (Below.refl w1.heap.size w1) (.cells (pkN p) 40)) (fun _ => False))
      clear he hb1 H
      go_wp2_with (first | (first | (refine wpList_store_row rfl 40 _ _ rfl w1.heap.size _ rfl rfl 40 _ (heap_alloc_new w1 _) (by kernel_rfl) rfl (by simp [pkN, pkC, Value.oneCell']) ?_; rw [World.setRow_alloc_new])) | (go_at_call 12; refine (Dv.fail_At _ _ _ _ (Err_kept HE.out HA.out (fun _ hk => hk.elim))).mono ?_; rintro e w5 ⟨v5, rfl, he5, hb5⟩; have HE5 := Lib.hid he5; have HB5 := Lib.hid hb5; clear he5 hb5))
      go_ret2
      exact ⟨_, rfl, HE5.out, (below_alloc HB.out _).then_ HB5.out⟩
end Go.Proofs.YtdnmliidmnfijaaDoor.Q

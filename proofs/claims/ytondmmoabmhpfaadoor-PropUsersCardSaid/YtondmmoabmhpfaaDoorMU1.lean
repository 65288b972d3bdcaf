import Derived.Test.YtondmmoabmhpfaaDoorMB1
import Derived.Test.YtondmmoabmhpfaaDoorMG6
import Derived.Test.YtondmmoabmhpfaaDoorMV2
import Derived.Test.YtondmmoabmhpfaaDoorMQ7
import Derived.Outline
import Derived.Deep.DeepMust
set_option linter.unusedVariables false
set_option linter.unusedSimpArgs false
namespace Go.Proofs.YtondmmoabmhpfaaDoor.Q
open Go.RowKit Go.Proofs.YtondmmoabmhpfaaDoorW.PrintWords Go.Proofs.YtondmmoabmhpfaaDoorW.PrintLast Go.Proofs.YtondmmoabmhpfaaDoorW.PrintMore
def ub (j : Nat) : ByteArray := ⟨#[UInt8.ofNat (97 + j % 26)]⟩
def usr (j : Nat) : S24 := ⟨38, 0, ub j, ⟨#[118]⟩⟩
def users (i : Nat) : List S24 := (List.range i).map usr
theorem users_len (i : Nat) : (users i).length = i := by simp [users]
theorem users_succ (i : Nat) : users (i + 1) = users i ++ [usr i] := by simp [users, List.range_succ]
theorem users_get (i j : Nat) (h : j < i) : (users i).getD j z24 = usr j := by
  simp [users, List.getD_eq_getElem?_getD, h]
theorem may_usr (j : Nat) : mayP (usr j) = true := by
  have h : ∀ x : Fin 26, mayP (⟨38, 0, ⟨#[UInt8.ofNat (97 + x.val)]⟩, ⟨#[118]⟩⟩ : S24) = true := by decide +kernel
  exact h ⟨j % 26, Nat.mod_lt _ (by decide)⟩
theorem users_sz (i : Nat) : ∀ p ∈ users i, p.f2.size ≤ 140737488351232 ∧ p.f3.size ≤ 140737488351232 := by
  intro p hp
  obtain ⟨j, _, rfl⟩ := List.mem_map.1 hp
  exact ⟨by show (1 : Nat) ≤ _; decide, by show (1 : Nat) ≤ _; decide⟩
theorem users_chk (i : Nat) : chk3 (users i) 15 = if i > 32 then 2 else 0 := by
  unfold chk3
  rw [if_neg, users_len]
  rintro ⟨j, hj, hb⟩
  rw [users_len] at hj
  unfold badAt at hb
  rw [users_get i j hj, may_usr] at hb
  have h1 : stands (usr j).f0 15 = true := by show stands 38 15 = true; decide
  have h2 : again (usr j).f0 15 = true := by show again 38 15 = true; decide
  rw [h1, h2] at hb
  simp at hb
theorem enc_usr (k : Nat) : Utf8.encode (97 + (k : Int) % 26) = ub k := by
  have h : ∀ x : Fin 26, Utf8.encode (97 + ((x.val : Nat) : Int)) = ⟨#[UInt8.ofNat (97 + x.val)]⟩ := by decide +kernel
  have := h ⟨k % 26, Nat.mod_lt _ (by decide)⟩
  unfold ub
  rw [← this]
  congr 1
theorem usr_M (w : World) (base : Nat) (ok : Nat → Prop) (k : Nat) : k24.M w base ok (usr k) [.int .i64 38, .int .i64 0, .string (ub k), .string ⟨#[118]⟩] := k24_mkM w base ok (usr k)
set_option maxRecDepth 100000 in
set_option maxHeartbeats 8000000 in
theorem PropUsers_walk (A : Option Addr) (c : Nat) (l : List Ask) (w : World) (hr : Kd.C kAsk w A l.length l) (hG : Dv.GErr w) (hT : Dv.GTab w) :
    Calls Tryd.prog 7 #[.slice A l.length c] w fun e w' => e = .returned (.bool true) ∧ Below w.heap.size w w' := by
  have hm63 := hr.2.1
  have HT := Lib.hid hT
  have HG := Lib.hid hG
  clear hr hT hG
  go_enter Tryd.func7, Tryd.ntmps7
  go_wp2_with fail
  go_loopw [3, 4] (fun x i wr => ∃ k : Nat, k ≤ 33 ∧ i = .int .i64 k ∧ Kd.R k24 24 wr w.heap.size (fun _ => True) x (users k) ∧ Below w.heap.size w wr) (fun _ i _ => 33 - (intOf i).toNat)
  case atStart => exact ⟨0, by decide, rfl, Kd.R_nil _ _ _ _ _, Below.refl _ _⟩
  case round =>
    obtain ⟨k, hk, rfl, hO, hB⟩ := hrel
    obtain ⟨Ax, cx, hx⟩ := Kd.R_slice hO
    subst hx
    obtain ⟨_, hcx, hrx⟩ := Kd.R_reads' hO
    have hl63 := hrx.2.1
    have HB := Lib.hid hB
    have HO := Lib.hid hO
    have HCX := Lib.hid hcx
    have HRX := Lib.hid hrx
    have hchk := users_chk k
    have hul := users_len k
    have HUL := Lib.hid hul
    clear hB hO hcx hrx hul
    by_cases hlt : k < 33
    · rw [if_neg (by omega)] at hchk
      have d1 : decide ((k : Int) ≤ 32) = true := decide_eq_true (by omega)
      have HCK := Lib.hid hchk
      have HG3 := Lib.hid (show get3 (bytes3 (users k)) 15 = (users k, ((bytes3 (users k)).length : Int), 0) by
        have := get3_put (users k) 15 15 [] hchk
        rw [List.append_nil, hchk] at this
        exact this)
      clear hchk
      go_wp2_with fail
      refine (propPut_ok Ax cx (users k) 15 _ HRX.out (users_sz k) (Dv.GTab.below HT.out HB.out) HCK.out).mono ?_
      rintro e wa ⟨v, rfl, hob, hba⟩
      obtain ⟨Ab, cb, hvb⟩ := Kd.R_slice hob
      subst hvb
      obtain ⟨_, hcb, hrb⟩ := Kd.R_reads' hob
      have hb63 := hrb.2.1
      have hB := HB.out.then_ hba
      have hO := Kd.R_below HO.out hba
      have hrx := Kd.C_below HRX.out hba
      clear HB HO HRX hba hob
      have HB := Lib.hid hB
      have HO := Lib.hid hO
      have HRX := Lib.hid hrx
      have HCB := Lib.hid hcb
      have HRB := Lib.hid hrb
      clear hB hO hrx hcb hrb
      have HBS := Lib.hid (bytes3_small HCK.out)
      have HBO := Lib.hid (bok_bytes3 HCK.out)
      generalize bytes3 (users k) = bs at *
      go_wp2_with fail
      refine (propGet Ab cb bs 15 _ HRB.out HCB.out HBO.out (Dv.GTab.below HT.out HB.out) HBS.out).mono ?_
      rw [HG3.out]
      dsimp only
      rintro e wb ⟨x, v, rfl, hoy, hev, hbb⟩
      obtain rfl := Err_nil hev
      obtain ⟨Ay, cy, hy⟩ := Kd.R_slice hoy
      subst hy
      obtain ⟨_, hcy, hry⟩ := Kd.R_reads' hoy
      have hB := HB.out.then_ hbb
      have hO := Kd.R_below HO.out hbb
      have hrx := Kd.C_below HRX.out hbb
      clear HB HO HRX HRB hbb hoy hev HCB
      have HB := Lib.hid hB
      have HO := Lib.hid hO
      have HRX := Lib.hid hrx
      have HCY := Lib.hid hcy
      have HRY := Lib.hid hry
      clear hB hO hrx hcy hry
      go_wp2_with fail
      refine (num3 .nilIface 0 _ (Dv.GErr.below HG.out HB.out) (.inl ⟨rfl, rfl⟩)).mono ?_
      rintro e wc ⟨rfl, hbc⟩
      have hB := HB.out.then_ hbc
      have hO := Kd.R_below HO.out hbc
      have hrx := Kd.C_below HRX.out hbc
      have hry := Kd.C_below HRY.out hbc
      clear HB HO HRX HRY hbc
      have HB := Lib.hid hB
      have HO := Lib.hid hO
      have HRX := Lib.hid hrx
      have HRY := Lib.hid hry
      clear hB hO hrx hry
      go_wp2_with fail
      refine (num3 .nilIface 0 _ (Dv.GErr.below HG.out HB.out) (.inl ⟨rfl, rfl⟩)).mono ?_
      rintro e wd ⟨rfl, hbd⟩
      have hB := HB.out.then_ hbd
      have hO := Kd.R_below HO.out hbd
      have hrx := Kd.C_below HRX.out hbd
      have hry := Kd.C_below HRY.out hbd
      clear HB HO HRX HRY hbd
      have HB := Lib.hid hB
      have HO := Lib.hid hO
      have HRX := Lib.hid hrx
      have HRY := Lib.hid hry
      clear hB hO hrx hry
      go_wp2_with fail
      refine (dovecoteref0_EqProps.calls _ Ay cy (users k) Ax cx (users k) true _ HRY.out HCY.out HRX.out HCX.out (EqProps_f _ (by have := HUL.out; omega))).mono ?_
      rintro e we ⟨rfl, hbe⟩
      replace hbe := hbe.below
      have hB := HB.out.then_ hbe
      have hO := Kd.R_below HO.out hbe
      clear HB HO HRX HRY hbe
      have HB := Lib.hid hB
      have HO := Lib.hid hO
      clear hB hO
      have i0 : (0 : Int) ≤ (k : Int) := by omega
      have i1 : (k : Int) ≤ 32 := by omega
      have henc := enc_usr k
      go_wp2_with (first | ((with_reducible refine gate_builtin (b := .append) (xs := #[.tmp 47, .tmp 54]) rfl ?_); at_builtin; go_must (refine Kd.R_append k24 (w0 := w) w.heap.size rfl (.tmp 47) (.tmp 54) 29 24 (.agg #[(.int .i64 0), (.int .i64 0), (.string ⟨#[]⟩), (.string ⟨#[]⟩)]) 48 rfl Tryd.underlying29 info24 rfl (by decide) (by omega) (.slice Ax (users k).length cx) (users k) (usr k) [.int .i64 38, .int .i64 0, .string (ub k), .string ⟨#[118]⟩] (fun _ => True) (fun _ => False) rfl rfl (usr_M _ _ _ k) (fun _ hk => hk.elim) (fun _ _ => trivial) HO.out HB.out HB.out.size (by have := HUL.out; omega) ?_); intro v5 w5 ho5 hb5 hg5 hat5; have HO5 := Lib.hid ho5; have HB5 := Lib.hid hb5; clear ho5 hb5 hg5 hat5))
      go_roundw
      case rel => exact ⟨k + 1, by omega, by go_num, by rw [users_succ]; exact HO5.out, HB5.out⟩
      case measure => simp [intOf]; omega
    · obtain rfl : k = 33 := by omega
      rw [if_pos (by decide)] at hchk
      have d1 : decide (((33 : Nat) : Int) ≤ 32) = false := by decide
      have C := Lib.hid (Put_bad Ax cx (users 33) 15 wr HRX.out (users_sz 33) (Dv.GTab.below HT.out HB.out) (by rw [hchk]; decide))
      rw [hchk] at C
      clear hchk
      go_wp2_with fail
      refine C.out.mono ?_
      rintro e wa ⟨v, rfl, hev, hba⟩
      have hB := HB.out.then_ hba
      clear HB hba
      have HB := Lib.hid hB
      have HE := Lib.hid hev
      clear hB hev
      go_wp2_with fail
      refine (num3 _ 2 _ (Dv.GErr.below HG.out HB.out) HE.out).mono ?_
      rintro e wb ⟨rfl, hbb⟩
      have hB := HB.out.then_ hbb
      clear HB HE hbb
      have HB := Lib.hid hB
      clear hB
      go_wp2_with fail
      refine (wakes3 _ (Dv.GErr.below HG.out HB.out) (Dv.GTab.below HT.out HB.out)).mono ?_
      rintro e we ⟨rfl, hbe⟩
      have HBe := Lib.hid (HB.out.then_ hbe)
      clear hbe
      go_wp2
      go_ret
      exact ⟨rfl, HBe.out⟩
end Go.Proofs.YtondmmoabmhpfaaDoor.Q

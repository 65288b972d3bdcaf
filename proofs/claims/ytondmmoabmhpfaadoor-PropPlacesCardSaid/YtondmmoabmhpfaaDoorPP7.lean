import Derived.Test.YtondmmoabmhpfaaDoorPP6
import Derived.Deep.DeepMust
import Derived.Outline
set_option linter.unusedVariables false
set_option linter.unusedSimpArgs false
namespace Go.Proofs.YtondmmoabmhpfaaDoor.Q
open Go.RowKit Go.Proofs.YtondmmoabmhpfaaDoorW.PrintWords Go.Proofs.YtondmmoabmhpfaaDoorW.PrintLast Go.Proofs.YtondmmoabmhpfaaDoorW.PrintMore
def tailP (k num : Int) (s t : ByteArray) : List Int :=
  if k = 1 then [num] else if k = 2 then [num / 256, num % 256] else if k = 4 then [num / 16777216, num / 65536 % 256, num / 256 % 256, num % 256] else if k = 5 then Dv.varPut num else if k = 8 then bin s ++ bin t else bin s
def putP (id num : Int) (s t : ByteArray) : List Int := Dv.varPut id ++ tailP (kindOf id) num s t
theorem varPut_len (n : Int) : 1 ≤ (Dv.varPut n).length ∧ (Dv.varPut n).length ≤ 4 := by
  unfold Dv.varPut; repeat' split
  all_goals simp
theorem bin_len (s : ByteArray) : (bin s).length = s.size + 2 := by
  unfold bin; rw [List.length_append, bytesOf_length]; simp; omega
theorem low_nonneg (id : Int) : 0 ≤ lowOf id := by unfold lowOf; split <;> omega
theorem may_num {id num : Int} {s t : ByteArray} (h : may id num s t = true) : lowOf id ≤ num ∧ num ≤ maxOf (kindOf id) := by
  unfold may at h
  simp only [Bool.and_eq_true, decide_eq_true_eq] at h
  exact h.1.1.2
theorem may_str {id num : Int} {s t : ByteArray} (h : may id num s t = true) (hk : kindOf id = 6 ∨ kindOf id = 8) : Dv.chk s = 0 := by
  unfold may at h
  simp only [Bool.and_eq_true, decide_eq_true_eq] at h
  have := h.1.2
  rw [if_pos hk] at this
  simpa using this
theorem may_bin7 {id num : Int} {s t : ByteArray} (h : may id num s t = true) (hk : kindOf id = 7) : s.size ≤ 65535 := by
  unfold may at h
  simp only [Bool.and_eq_true, decide_eq_true_eq] at h
  have := h.1.2
  rw [if_neg (by omega), if_pos hk] at this
  simpa using this
theorem may_val {id num : Int} {s t : ByteArray} (h : may id num s t = true) (hk : kindOf id = 8) : Dv.chk t = 0 := by
  unfold may at h
  simp only [Bool.and_eq_true, decide_eq_true_eq] at h
  have := h.2
  rw [if_pos hk] at this
  simpa using this
theorem C_none (W : World) : Kd.C (Kd.int .u8) W none 0 [] := ⟨rfl, by omega, fun h => absurd h (by omega)⟩
theorem buf_apart {W W1 : World} {base : Nat} {v : Value} {xs : List Int} {row : Option Nat} (h : Kd.R (Kd.int .u8) 5 W base (fun _ => True) v xs) (hg : W.grownBy W1 row) (hne : ∀ k, v.ownBlock = some k → row = some k → False) : Kd.R (Kd.int .u8) 5 W1 base (fun _ => True) v xs :=
  Kd.R_of_own (own_other (Kd.own_of_R h) hg (by
    cases hv : v.ownBlock with
    | none => exact .inl rfl
    | some k => exact .inr fun e => hne k hv e.symm)) (fun _ _ => trivial)
set_option maxRecDepth 100000 in
set_option maxHeartbeats 8000000 in
theorem lay1 (w0 w : World) (v : Value) (l : List Int) (id num : Int) (s t : ByteArray) (hk : kindOf id = 1) (hp : may id num s t = true) (HO : Kd.R (Kd.int .u8) 5 w w0.heap.size (fun _ => True) v l) (HB : Below w0.heap.size w0 w) (hl : l.length ≤ 1000000000) (hT : Dv.GTab w0) :
    Calls Tryd.prog 27 #[v, .agg #[.int .i64 id, .int .i64 num, .string s, .string t]] w fun e w' => ∃ v', e = .returned v' ∧ Kd.R (Kd.int .u8) 5 w' w0.heap.size (fun _ => True) v' (l ++ putP id num s t) ∧ Below w0.heap.size w0 w' := by
  obtain ⟨A0, c0, rfl⟩ := Kd.R_slice HO
  have hid : 0 ≤ id ∧ id ≤ 42 := may_small hp
  have C2 := Lib.hid (fun w => prop_shape.calls 10 id (ik 1) (lowOf id) w (by rw [shape_f, hk]))
  rw [show ik 1 = 1 from rfl] at C2
  have hfin := Lib.hid (show putP id num s t = Dv.varPut id ++ tailP 1 num s t by unfold putP; rw [hk])
  have hnum := may_num hp
  rw [hk] at hnum
  have hn0 : 0 ≤ num := by have := hnum.1; have := low_nonneg id; omega
  have hn1 : num ≤ 1 := hnum.2
  clear hnum
  have HO0 := Lib.hid HO
  have HB0 := Lib.hid HB
  have HL := Lib.hid hl
  have HT := Lib.hid hT
  have HLV := Lib.hid (varPut_len id)
  clear HO HB hl hT hk hp
  generalize lowOf id = low at *
  go_enter Tryd.func27, Tryd.ntmps27
  go_wp2_with fail
  have HOx := Lib.hid (Kd.R_below HO0.out (below_alloc (Below.refl _ _) (.cells #[.int .i64 id, .int .i64 num, .string s, .string t] 24)))
  have HBx := Lib.hid (HB0.out.alloc HB0.out.size (.cells #[.int .i64 id, .int .i64 num, .string s, .string t] 24))
  have BKx := Aside0.mk (heap_alloc_new w (.cells #[.int .i64 id, .int .i64 num, .string s, .string t] 24))
  refine (varint_Put id _ hid.1 (by omega)).mono ?_
  rintro e wa ⟨va, rfl, hoa, hba⟩
  have BKa := Aside0.mk ((hba.block w.heap.size (Array.getElem?_eq_some_iff.1 BKx.out).1).trans BKx.out)
  have HOa := Lib.hid (Kd.R_below HOx.out hba)
  have HBa := Lib.hid (below_then HBx.out HBx.out.size hba)
  obtain ⟨Aa, ca, hva⟩ := Kd.R_slice hoa
  subst hva
  have HRa := Lib.hid hoa
  have HQa := Lib.hid hba
  clear hoa hba
  have x0_a : wa.cell? ⟨w.heap.size, 0, none⟩ = some (.int .i64 id) := (cell_of_row _ _ 0 _ _ _ BKa.out).trans rfl
  have x1_a : wa.cell? ⟨w.heap.size, 1, none⟩ = some (.int .i64 num) := (cell_of_row _ _ 1 _ _ _ BKa.out).trans rfl
  have x2_a : wa.cell? ⟨w.heap.size, 2, none⟩ = some (.string s) := (cell_of_row _ _ 2 _ _ _ BKa.out).trans rfl
  have x3_a : wa.cell? ⟨w.heap.size, 3, none⟩ = some (.string t) := (cell_of_row _ _ 3 _ _ _ BKa.out).trans rfl
  go_wp2_with (first | ((with_reducible refine gate_builtin (b := .append) (xs := #[.tmp 18, .tmp 19]) rfl ?_); at_builtin; go_must (refine Kd.R_append_row (Value.int .u8) 0 (h1 := fun _ => rfl) (w0 := w0) w0.heap.size rfl (.tmp 18) (.tmp 19) 35 5 (.int .u8 0) 1 rfl Tryd.underlying35 qinfo5 rfl (by omega) (.slice A0 l.length c0) l _ _ _ _ (fun _ => True) rfl rfl (fun _ _ => trivial) HOa.out (Kd.R_reads' HRa.out).2.2 HBa.out HBa.out.size (by have := HL.out; have := HLV.out; (try simp only [List.length_append, List.length_cons, List.length_nil, bin_len]); omega) ?_); intro vb wb hob hbb hgb hatb; have BKb := Aside0.mk (blk_grown (g := w.heap.size) (o := (.cells #[.int .i64 id, .int .i64 num, .string s, .string t] 24 (0, 0))) (BKa.out) hgb (Kd.R_ne HOa.out (BKa.out) (by decide))); have HOb := Lib.hid hob; have HBb := Lib.hid hbb; clear hob hbb hgb hatb; have x0_b : wb.cell? ⟨w.heap.size, 0, none⟩ = some (.int .i64 id) := (cell_of_row _ _ 0 _ _ _ BKb.out).trans rfl; have x1_b : wb.cell? ⟨w.heap.size, 1, none⟩ = some (.int .i64 num) := (cell_of_row _ _ 1 _ _ _ BKb.out).trans rfl; have x2_b : wb.cell? ⟨w.heap.size, 2, none⟩ = some (.string s) := (cell_of_row _ _ 2 _ _ _ BKb.out).trans rfl; have x3_b : wb.cell? ⟨w.heap.size, 3, none⟩ = some (.string t) := (cell_of_row _ _ 3 _ _ _ BKb.out).trans rfl))
  clear x0_a x1_a x2_a x3_a
  clear x0_b x1_b x2_b x3_b
  refine (C2.out _).mono ?_
  rintro e wc ⟨rfl, ⟨⟨nc, rfl⟩⟩⟩
  have BKc := Aside0.mk (show (wb.drewN nc).heap[w.heap.size]? = _ from BKb.out)
  have HOc := Lib.hid (show Kd.R (Kd.int .u8) 5 (wb.drewN nc) w0.heap.size (fun _ => True) vb (l ++ Dv.varPut id) from Kd.R_drewN HOb.out nc)
  have HBc := Lib.hid (pw_below_drewN HBb.out nc)
  have x0_c : (wb.drewN nc).cell? ⟨w.heap.size, 0, none⟩ = some (.int .i64 id) := (cell_of_row _ _ 0 _ _ _ BKc.out).trans rfl
  have x1_c : (wb.drewN nc).cell? ⟨w.heap.size, 1, none⟩ = some (.int .i64 num) := (cell_of_row _ _ 1 _ _ _ BKc.out).trans rfl
  have x2_c : (wb.drewN nc).cell? ⟨w.heap.size, 2, none⟩ = some (.string s) := (cell_of_row _ _ 2 _ _ _ BKc.out).trans rfl
  have x3_c : (wb.drewN nc).cell? ⟨w.heap.size, 3, none⟩ = some (.string t) := (cell_of_row _ _ 3 _ _ _ BKc.out).trans rfl
  go_wp2_with (first | ((with_reducible refine gate_dst (N := 63) rfl ?_); go_must (refine Kd.R_lit (Kd.int .u8) (w0 := w0) w0.heap.size 5 ?hg (N := 63) ?hd (xs := [num]) (inner := [.int .u8 (num)]) (ok := fun _ => True) (okp := fun _ => True) ?hr ?hp (fun _ hk => hk) trivial HBc.out HBc.out.size (by simp) ?_); (case hd => rfl); (case hg => rfl); (case hr => first | (go_simp; done) | (go_simp; rfl)); (case hp => exact (Reps.one (show Kd.M (Kd.int .u8) _ _ _ (num) [.int .u8 (num)] from rfl) (Reps.none _ _))); intro vdl wdl hodl hbdl hgdl hndl; obtain ⟨Adl, cdl, hvdl⟩ := Kd.R_slice hodl; subst hvdl; have HXdl := Lib.hid (Kd.R_reads' hodl).2.2; have BKdl := Aside0.mk (blk_grown (g := w.heap.size) (o := (.cells #[.int .i64 id, .int .i64 num, .string s, .string t] 24 (0, 0))) BKc.out hgdl (by simp)); have HOdl := Lib.hid (Kd.R_grown HOc.out hgdl (fun _ _ => by simp)); have HBdl := Lib.hid hbdl; clear hodl hbdl hgdl hndl; have x0_dl : wdl.cell? ⟨w.heap.size, 0, none⟩ = some (.int .i64 id) := (cell_of_row _ _ 0 _ _ _ BKdl.out).trans rfl; have x1_dl : wdl.cell? ⟨w.heap.size, 1, none⟩ = some (.int .i64 num) := (cell_of_row _ _ 1 _ _ _ BKdl.out).trans rfl; have x2_dl : wdl.cell? ⟨w.heap.size, 2, none⟩ = some (.string s) := (cell_of_row _ _ 2 _ _ _ BKdl.out).trans rfl; have x3_dl : wdl.cell? ⟨w.heap.size, 3, none⟩ = some (.string t) := (cell_of_row _ _ 3 _ _ _ BKdl.out).trans rfl) | ((with_reducible refine gate_builtin (b := .append) (xs := #[.tmp 59, .tmp 63]) rfl ?_); at_builtin; go_must (refine Kd.R_append_row (Value.int .u8) 0 (h1 := fun _ => rfl) (w0 := w0) w0.heap.size rfl (.tmp 59) (.tmp 63) 35 5 (.int .u8 0) 1 rfl Tryd.underlying35 qinfo5 rfl (by omega) vb (l ++ Dv.varPut id) _ _ _ _ (fun _ => True) rfl rfl (fun _ _ => trivial) HOdl.out HXdl.out HBdl.out HBdl.out.size (by have := HL.out; have := HLV.out; (try simp only [List.length_append, List.length_cons, List.length_nil, bin_len]); omega) ?_); intro vd wd hod hbd hgd hatd; have BKd := Aside0.mk (blk_grown (g := w.heap.size) (o := (.cells #[.int .i64 id, .int .i64 num, .string s, .string t] 24 (0, 0))) (BKdl.out) hgd (Kd.R_ne HOdl.out (BKdl.out) (by decide))); have HOd := Lib.hid hod; have HBd := Lib.hid hbd; clear hod hbd hgd hatd; have x0_d : wd.cell? ⟨w.heap.size, 0, none⟩ = some (.int .i64 id) := (cell_of_row _ _ 0 _ _ _ BKd.out).trans rfl; have x1_d : wd.cell? ⟨w.heap.size, 1, none⟩ = some (.int .i64 num) := (cell_of_row _ _ 1 _ _ _ BKd.out).trans rfl; have x2_d : wd.cell? ⟨w.heap.size, 2, none⟩ = some (.string s) := (cell_of_row _ _ 2 _ _ _ BKd.out).trans rfl; have x3_d : wd.cell? ⟨w.heap.size, 3, none⟩ = some (.string t) := (cell_of_row _ _ 3 _ _ _ BKd.out).trans rfl) | ((with_reducible refine gate_builtin (b := .append) (xs := #[.tmp 86, .tmp 87]) rfl ?_); at_builtin; go_must (refine Kd.R_append_row (Value.int .u8) 0 (h1 := fun _ => rfl) (w0 := w0) w0.heap.size rfl (.tmp 86) (.tmp 87) 35 5 (.int .u8 0) 1 rfl Tryd.underlying35 qinfo5 rfl (by omega) vd ((l ++ Dv.varPut id) ++ [num]) _ _ _ _ (fun _ => True) rfl rfl (fun _ _ => trivial) HOd.out (C_none _) HBd.out HBd.out.size (by have := HL.out; have := HLV.out; (try simp only [List.length_append, List.length_cons, List.length_nil, bin_len]); omega) ?_); intro vz wz hoz hbz hgz hatz; have HOz := Lib.hid hoz; have HBz := Lib.hid hbz; clear hoz hbz hgz hatz))
  go_ret
  refine ⟨_, rfl, ?_, HBz.out⟩
  rw [hfin.out, ← (show (((l ++ Dv.varPut id) ++ [num]) ++ []) = l ++ (Dv.varPut id ++ tailP 1 num s t) by simp [tailP])]
  exact HOz.out
set_option maxRecDepth 100000 in
set_option maxHeartbeats 8000000 in
theorem lay2 (w0 w : World) (v : Value) (l : List Int) (id num : Int) (s t : ByteArray) (hk : kindOf id = 2) (hp : may id num s t = true) (HO : Kd.R (Kd.int .u8) 5 w w0.heap.size (fun _ => True) v l) (HB : Below w0.heap.size w0 w) (hl : l.length ≤ 1000000000) (hT : Dv.GTab w0) :
    Calls Tryd.prog 27 #[v, .agg #[.int .i64 id, .int .i64 num, .string s, .string t]] w fun e w' => ∃ v', e = .returned v' ∧ Kd.R (Kd.int .u8) 5 w' w0.heap.size (fun _ => True) v' (l ++ putP id num s t) ∧ Below w0.heap.size w0 w' := by
  obtain ⟨A0, c0, rfl⟩ := Kd.R_slice HO
  have hid : 0 ≤ id ∧ id ≤ 42 := may_small hp
  have C2 := Lib.hid (fun w => prop_shape.calls 10 id (ik 2) (lowOf id) w (by rw [shape_f, hk]))
  rw [show ik 2 = 2 from rfl] at C2
  have hfin := Lib.hid (show putP id num s t = Dv.varPut id ++ tailP 2 num s t by unfold putP; rw [hk])
  have hnum := may_num hp
  rw [hk] at hnum
  have hn0 : 0 ≤ num := by have := hnum.1; have := low_nonneg id; omega
  have hn1 : num ≤ 65535 := hnum.2
  clear hnum
  have HO0 := Lib.hid HO
  have HB0 := Lib.hid HB
  have HL := Lib.hid hl
  have HT := Lib.hid hT
  have HLV := Lib.hid (varPut_len id)
  clear HO HB hl hT hk hp
  generalize lowOf id = low at *
  go_enter Tryd.func27, Tryd.ntmps27
  go_wp2_with fail
  have HOx := Lib.hid (Kd.R_below HO0.out (below_alloc (Below.refl _ _) (.cells #[.int .i64 id, .int .i64 num, .string s, .string t] 24)))
  have HBx := Lib.hid (HB0.out.alloc HB0.out.size (.cells #[.int .i64 id, .int .i64 num, .string s, .string t] 24))
  have BKx := Aside0.mk (heap_alloc_new w (.cells #[.int .i64 id, .int .i64 num, .string s, .string t] 24))
  refine (varint_Put id _ hid.1 (by omega)).mono ?_
  rintro e wa ⟨va, rfl, hoa, hba⟩
  have BKa := Aside0.mk ((hba.block w.heap.size (Array.getElem?_eq_some_iff.1 BKx.out).1).trans BKx.out)
  have HOa := Lib.hid (Kd.R_below HOx.out hba)
  have HBa := Lib.hid (below_then HBx.out HBx.out.size hba)
  obtain ⟨Aa, ca, hva⟩ := Kd.R_slice hoa
  subst hva
  have HRa := Lib.hid hoa
  have HQa := Lib.hid hba
  clear hoa hba
  have x0_a : wa.cell? ⟨w.heap.size, 0, none⟩ = some (.int .i64 id) := (cell_of_row _ _ 0 _ _ _ BKa.out).trans rfl
  have x1_a : wa.cell? ⟨w.heap.size, 1, none⟩ = some (.int .i64 num) := (cell_of_row _ _ 1 _ _ _ BKa.out).trans rfl
  have x2_a : wa.cell? ⟨w.heap.size, 2, none⟩ = some (.string s) := (cell_of_row _ _ 2 _ _ _ BKa.out).trans rfl
  have x3_a : wa.cell? ⟨w.heap.size, 3, none⟩ = some (.string t) := (cell_of_row _ _ 3 _ _ _ BKa.out).trans rfl
  go_wp2_with (first | ((with_reducible refine gate_builtin (b := .append) (xs := #[.tmp 18, .tmp 19]) rfl ?_); at_builtin; go_must (refine Kd.R_append_row (Value.int .u8) 0 (h1 := fun _ => rfl) (w0 := w0) w0.heap.size rfl (.tmp 18) (.tmp 19) 35 5 (.int .u8 0) 1 rfl Tryd.underlying35 qinfo5 rfl (by omega) (.slice A0 l.length c0) l _ _ _ _ (fun _ => True) rfl rfl (fun _ _ => trivial) HOa.out (Kd.R_reads' HRa.out).2.2 HBa.out HBa.out.size (by have := HL.out; have := HLV.out; (try simp only [List.length_append, List.length_cons, List.length_nil, bin_len]); omega) ?_); intro vb wb hob hbb hgb hatb; have BKb := Aside0.mk (blk_grown (g := w.heap.size) (o := (.cells #[.int .i64 id, .int .i64 num, .string s, .string t] 24 (0, 0))) (BKa.out) hgb (Kd.R_ne HOa.out (BKa.out) (by decide))); have HOb := Lib.hid hob; have HBb := Lib.hid hbb; clear hob hbb hgb hatb; have x0_b : wb.cell? ⟨w.heap.size, 0, none⟩ = some (.int .i64 id) := (cell_of_row _ _ 0 _ _ _ BKb.out).trans rfl; have x1_b : wb.cell? ⟨w.heap.size, 1, none⟩ = some (.int .i64 num) := (cell_of_row _ _ 1 _ _ _ BKb.out).trans rfl; have x2_b : wb.cell? ⟨w.heap.size, 2, none⟩ = some (.string s) := (cell_of_row _ _ 2 _ _ _ BKb.out).trans rfl; have x3_b : wb.cell? ⟨w.heap.size, 3, none⟩ = some (.string t) := (cell_of_row _ _ 3 _ _ _ BKb.out).trans rfl))
  clear x0_a x1_a x2_a x3_a
  clear x0_b x1_b x2_b x3_b
  refine (C2.out _).mono ?_
  rintro e wc ⟨rfl, ⟨⟨nc, rfl⟩⟩⟩
  have BKc := Aside0.mk (show (wb.drewN nc).heap[w.heap.size]? = _ from BKb.out)
  have HOc := Lib.hid (show Kd.R (Kd.int .u8) 5 (wb.drewN nc) w0.heap.size (fun _ => True) vb (l ++ Dv.varPut id) from Kd.R_drewN HOb.out nc)
  have HBc := Lib.hid (pw_below_drewN HBb.out nc)
  have x0_c : (wb.drewN nc).cell? ⟨w.heap.size, 0, none⟩ = some (.int .i64 id) := (cell_of_row _ _ 0 _ _ _ BKc.out).trans rfl
  have x1_c : (wb.drewN nc).cell? ⟨w.heap.size, 1, none⟩ = some (.int .i64 num) := (cell_of_row _ _ 1 _ _ _ BKc.out).trans rfl
  have x2_c : (wb.drewN nc).cell? ⟨w.heap.size, 2, none⟩ = some (.string s) := (cell_of_row _ _ 2 _ _ _ BKc.out).trans rfl
  have x3_c : (wb.drewN nc).cell? ⟨w.heap.size, 3, none⟩ = some (.string t) := (cell_of_row _ _ 3 _ _ _ BKc.out).trans rfl
  go_wp2_with (first | ((with_reducible refine gate_dst (N := 57) rfl ?_); go_must (refine Kd.R_lit (Kd.int .u8) (w0 := w0) w0.heap.size 5 ?hg (N := 57) ?hd (xs := [num / 256]) (inner := [.int .u8 (num / 256)]) (ok := fun _ => True) (okp := fun _ => True) ?hr ?hp (fun _ hk => hk) trivial HBc.out HBc.out.size (by simp) ?_); (case hd => rfl); (case hg => rfl); (case hr => first | (go_simp; done) | (go_simp; rfl)); (case hp => exact (Reps.one (show Kd.M (Kd.int .u8) _ _ _ (num / 256) [.int .u8 (num / 256)] from rfl) (Reps.none _ _))); intro vdl wdl hodl hbdl hgdl hndl; obtain ⟨Adl, cdl, hvdl⟩ := Kd.R_slice hodl; subst hvdl; have HXdl := Lib.hid (Kd.R_reads' hodl).2.2; have BKdl := Aside0.mk (blk_grown (g := w.heap.size) (o := (.cells #[.int .i64 id, .int .i64 num, .string s, .string t] 24 (0, 0))) BKc.out hgdl (by simp)); have HOdl := Lib.hid (Kd.R_grown HOc.out hgdl (fun _ _ => by simp)); have HBdl := Lib.hid hbdl; clear hodl hbdl hgdl hndl; have x0_dl : wdl.cell? ⟨w.heap.size, 0, none⟩ = some (.int .i64 id) := (cell_of_row _ _ 0 _ _ _ BKdl.out).trans rfl; have x1_dl : wdl.cell? ⟨w.heap.size, 1, none⟩ = some (.int .i64 num) := (cell_of_row _ _ 1 _ _ _ BKdl.out).trans rfl; have x2_dl : wdl.cell? ⟨w.heap.size, 2, none⟩ = some (.string s) := (cell_of_row _ _ 2 _ _ _ BKdl.out).trans rfl; have x3_dl : wdl.cell? ⟨w.heap.size, 3, none⟩ = some (.string t) := (cell_of_row _ _ 3 _ _ _ BKdl.out).trans rfl) | ((with_reducible refine gate_builtin (b := .append) (xs := #[.tmp 52, .tmp 57]) rfl ?_); at_builtin; go_must (refine Kd.R_append_row (Value.int .u8) 0 (h1 := fun _ => rfl) (w0 := w0) w0.heap.size rfl (.tmp 52) (.tmp 57) 35 5 (.int .u8 0) 1 rfl Tryd.underlying35 qinfo5 rfl (by omega) vb (l ++ Dv.varPut id) _ _ _ _ (fun _ => True) rfl rfl (fun _ _ => trivial) HOdl.out HXdl.out HBdl.out HBdl.out.size (by have := HL.out; have := HLV.out; (try simp only [List.length_append, List.length_cons, List.length_nil, bin_len]); omega) ?_); intro vd wd hod hbd hgd hatd; have BKd := Aside0.mk (blk_grown (g := w.heap.size) (o := (.cells #[.int .i64 id, .int .i64 num, .string s, .string t] 24 (0, 0))) (BKdl.out) hgd (Kd.R_ne HOdl.out (BKdl.out) (by decide))); have HOd := Lib.hid hod; have HBd := Lib.hid hbd; clear hod hbd hgd hatd; have x0_d : wd.cell? ⟨w.heap.size, 0, none⟩ = some (.int .i64 id) := (cell_of_row _ _ 0 _ _ _ BKd.out).trans rfl; have x1_d : wd.cell? ⟨w.heap.size, 1, none⟩ = some (.int .i64 num) := (cell_of_row _ _ 1 _ _ _ BKd.out).trans rfl; have x2_d : wd.cell? ⟨w.heap.size, 2, none⟩ = some (.string s) := (cell_of_row _ _ 2 _ _ _ BKd.out).trans rfl; have x3_d : wd.cell? ⟨w.heap.size, 3, none⟩ = some (.string t) := (cell_of_row _ _ 3 _ _ _ BKd.out).trans rfl) | ((with_reducible refine gate_dst (N := 63) rfl ?_); go_must (refine Kd.R_lit (Kd.int .u8) (w0 := w0) w0.heap.size 5 ?hg (N := 63) ?hd (xs := [num % 256]) (inner := [.int .u8 (num % 256)]) (ok := fun _ => True) (okp := fun _ => True) ?hr ?hp (fun _ hk => hk) trivial HBd.out HBd.out.size (by simp) ?_); (case hd => rfl); (case hg => rfl); (case hr => first | (go_simp; done) | (go_simp; rfl)); (case hp => exact (Reps.one (show Kd.M (Kd.int .u8) _ _ _ (num % 256) [.int .u8 (num % 256)] from rfl) (Reps.none _ _))); intro vel wel hoel hbel hgel hnel; obtain ⟨Ael, cel, hvel⟩ := Kd.R_slice hoel; subst hvel; have HXel := Lib.hid (Kd.R_reads' hoel).2.2; have BKel := Aside0.mk (blk_grown (g := w.heap.size) (o := (.cells #[.int .i64 id, .int .i64 num, .string s, .string t] 24 (0, 0))) BKd.out hgel (by simp)); have HOel := Lib.hid (Kd.R_grown HOd.out hgel (fun _ _ => by simp)); have HBel := Lib.hid hbel; clear hoel hbel hgel hnel; have x0_el : wel.cell? ⟨w.heap.size, 0, none⟩ = some (.int .i64 id) := (cell_of_row _ _ 0 _ _ _ BKel.out).trans rfl; have x1_el : wel.cell? ⟨w.heap.size, 1, none⟩ = some (.int .i64 num) := (cell_of_row _ _ 1 _ _ _ BKel.out).trans rfl; have x2_el : wel.cell? ⟨w.heap.size, 2, none⟩ = some (.string s) := (cell_of_row _ _ 2 _ _ _ BKel.out).trans rfl; have x3_el : wel.cell? ⟨w.heap.size, 3, none⟩ = some (.string t) := (cell_of_row _ _ 3 _ _ _ BKel.out).trans rfl) | ((with_reducible refine gate_builtin (b := .append) (xs := #[.tmp 59, .tmp 63]) rfl ?_); at_builtin; go_must (refine Kd.R_append_row (Value.int .u8) 0 (h1 := fun _ => rfl) (w0 := w0) w0.heap.size rfl (.tmp 59) (.tmp 63) 35 5 (.int .u8 0) 1 rfl Tryd.underlying35 qinfo5 rfl (by omega) vd ((l ++ Dv.varPut id) ++ [num / 256]) _ _ _ _ (fun _ => True) rfl rfl (fun _ _ => trivial) HOel.out HXel.out HBel.out HBel.out.size (by have := HL.out; have := HLV.out; (try simp only [List.length_append, List.length_cons, List.length_nil, bin_len]); omega) ?_); intro ve we hoe hbe hge hate; have BKe := Aside0.mk (blk_grown (g := w.heap.size) (o := (.cells #[.int .i64 id, .int .i64 num, .string s, .string t] 24 (0, 0))) (BKel.out) hge (Kd.R_ne HOel.out (BKel.out) (by decide))); have HOe := Lib.hid hoe; have HBe := Lib.hid hbe; clear hoe hbe hge hate; have x0_e : we.cell? ⟨w.heap.size, 0, none⟩ = some (.int .i64 id) := (cell_of_row _ _ 0 _ _ _ BKe.out).trans rfl; have x1_e : we.cell? ⟨w.heap.size, 1, none⟩ = some (.int .i64 num) := (cell_of_row _ _ 1 _ _ _ BKe.out).trans rfl; have x2_e : we.cell? ⟨w.heap.size, 2, none⟩ = some (.string s) := (cell_of_row _ _ 2 _ _ _ BKe.out).trans rfl; have x3_e : we.cell? ⟨w.heap.size, 3, none⟩ = some (.string t) := (cell_of_row _ _ 3 _ _ _ BKe.out).trans rfl) | ((with_reducible refine gate_builtin (b := .append) (xs := #[.tmp 86, .tmp 87]) rfl ?_); at_builtin; go_must (refine Kd.R_append_row (Value.int .u8) 0 (h1 := fun _ => rfl) (w0 := w0) w0.heap.size rfl (.tmp 86) (.tmp 87) 35 5 (.int .u8 0) 1 rfl Tryd.underlying35 qinfo5 rfl (by omega) ve (((l ++ Dv.varPut id) ++ [num / 256]) ++ [num % 256]) _ _ _ _ (fun _ => True) rfl rfl (fun _ _ => trivial) HOe.out (C_none _) HBe.out HBe.out.size (by have := HL.out; have := HLV.out; (try simp only [List.length_append, List.length_cons, List.length_nil, bin_len]); omega) ?_); intro vz wz hoz hbz hgz hatz; have HOz := Lib.hid hoz; have HBz := Lib.hid hbz; clear hoz hbz hgz hatz))
  go_ret
  refine ⟨_, rfl, ?_, HBz.out⟩
  rw [hfin.out, ← (show ((((l ++ Dv.varPut id) ++ [num / 256]) ++ [num % 256]) ++ []) = l ++ (Dv.varPut id ++ tailP 2 num s t) by simp [tailP])]
  exact HOz.out
set_option maxRecDepth 100000 in
set_option maxHeartbeats 8000000 in
theorem lay4 (w0 w : World) (v : Value) (l : List Int) (id num : Int) (s t : ByteArray) (hk : kindOf id = 4) (hp : may id num s t = true) (HO : Kd.R (Kd.int .u8) 5 w w0.heap.size (fun _ => True) v l) (HB : Below w0.heap.size w0 w) (hl : l.length ≤ 1000000000) (hT : Dv.GTab w0) :
    Calls Tryd.prog 27 #[v, .agg #[.int .i64 id, .int .i64 num, .string s, .string t]] w fun e w' => ∃ v', e = .returned v' ∧ Kd.R (Kd.int .u8) 5 w' w0.heap.size (fun _ => True) v' (l ++ putP id num s t) ∧ Below w0.heap.size w0 w' := by
  obtain ⟨A0, c0, rfl⟩ := Kd.R_slice HO
  have hid : 0 ≤ id ∧ id ≤ 42 := may_small hp
  have C2 := Lib.hid (fun w => prop_shape.calls 10 id (ik 4) (lowOf id) w (by rw [shape_f, hk]))
  rw [show ik 4 = 3 from rfl] at C2
  have hfin := Lib.hid (show putP id num s t = Dv.varPut id ++ tailP 4 num s t by unfold putP; rw [hk])
  have hnum := may_num hp
  rw [hk] at hnum
  have hn0 : 0 ≤ num := by have := hnum.1; have := low_nonneg id; omega
  have hn1 : num ≤ 4294967295 := hnum.2
  clear hnum
  have HO0 := Lib.hid HO
  have HB0 := Lib.hid HB
  have HL := Lib.hid hl
  have HT := Lib.hid hT
  have HLV := Lib.hid (varPut_len id)
  clear HO HB hl hT hk hp
  generalize lowOf id = low at *
  go_enter Tryd.func27, Tryd.ntmps27
  go_wp2_with fail
  have HOx := Lib.hid (Kd.R_below HO0.out (below_alloc (Below.refl _ _) (.cells #[.int .i64 id, .int .i64 num, .string s, .string t] 24)))
  have HBx := Lib.hid (HB0.out.alloc HB0.out.size (.cells #[.int .i64 id, .int .i64 num, .string s, .string t] 24))
  have BKx := Aside0.mk (heap_alloc_new w (.cells #[.int .i64 id, .int .i64 num, .string s, .string t] 24))
  refine (varint_Put id _ hid.1 (by omega)).mono ?_
  rintro e wa ⟨va, rfl, hoa, hba⟩
  have BKa := Aside0.mk ((hba.block w.heap.size (Array.getElem?_eq_some_iff.1 BKx.out).1).trans BKx.out)
  have HOa := Lib.hid (Kd.R_below HOx.out hba)
  have HBa := Lib.hid (below_then HBx.out HBx.out.size hba)
  obtain ⟨Aa, ca, hva⟩ := Kd.R_slice hoa
  subst hva
  have HRa := Lib.hid hoa
  have HQa := Lib.hid hba
  clear hoa hba
  have x0_a : wa.cell? ⟨w.heap.size, 0, none⟩ = some (.int .i64 id) := (cell_of_row _ _ 0 _ _ _ BKa.out).trans rfl
  have x1_a : wa.cell? ⟨w.heap.size, 1, none⟩ = some (.int .i64 num) := (cell_of_row _ _ 1 _ _ _ BKa.out).trans rfl
  have x2_a : wa.cell? ⟨w.heap.size, 2, none⟩ = some (.string s) := (cell_of_row _ _ 2 _ _ _ BKa.out).trans rfl
  have x3_a : wa.cell? ⟨w.heap.size, 3, none⟩ = some (.string t) := (cell_of_row _ _ 3 _ _ _ BKa.out).trans rfl
  go_wp2_with (first | ((with_reducible refine gate_builtin (b := .append) (xs := #[.tmp 18, .tmp 19]) rfl ?_); at_builtin; go_must (refine Kd.R_append_row (Value.int .u8) 0 (h1 := fun _ => rfl) (w0 := w0) w0.heap.size rfl (.tmp 18) (.tmp 19) 35 5 (.int .u8 0) 1 rfl Tryd.underlying35 qinfo5 rfl (by omega) (.slice A0 l.length c0) l _ _ _ _ (fun _ => True) rfl rfl (fun _ _ => trivial) HOa.out (Kd.R_reads' HRa.out).2.2 HBa.out HBa.out.size (by have := HL.out; have := HLV.out; (try simp only [List.length_append, List.length_cons, List.length_nil, bin_len]); omega) ?_); intro vb wb hob hbb hgb hatb; have BKb := Aside0.mk (blk_grown (g := w.heap.size) (o := (.cells #[.int .i64 id, .int .i64 num, .string s, .string t] 24 (0, 0))) (BKa.out) hgb (Kd.R_ne HOa.out (BKa.out) (by decide))); have HOb := Lib.hid hob; have HBb := Lib.hid hbb; clear hob hbb hgb hatb; have x0_b : wb.cell? ⟨w.heap.size, 0, none⟩ = some (.int .i64 id) := (cell_of_row _ _ 0 _ _ _ BKb.out).trans rfl; have x1_b : wb.cell? ⟨w.heap.size, 1, none⟩ = some (.int .i64 num) := (cell_of_row _ _ 1 _ _ _ BKb.out).trans rfl; have x2_b : wb.cell? ⟨w.heap.size, 2, none⟩ = some (.string s) := (cell_of_row _ _ 2 _ _ _ BKb.out).trans rfl; have x3_b : wb.cell? ⟨w.heap.size, 3, none⟩ = some (.string t) := (cell_of_row _ _ 3 _ _ _ BKb.out).trans rfl))
  clear x0_a x1_a x2_a x3_a
  clear x0_b x1_b x2_b x3_b
  refine (C2.out _).mono ?_
  rintro e wc ⟨rfl, ⟨⟨nc, rfl⟩⟩⟩
  have BKc := Aside0.mk (show (wb.drewN nc).heap[w.heap.size]? = _ from BKb.out)
  have HOc := Lib.hid (show Kd.R (Kd.int .u8) 5 (wb.drewN nc) w0.heap.size (fun _ => True) vb (l ++ Dv.varPut id) from Kd.R_drewN HOb.out nc)
  have HBc := Lib.hid (pw_below_drewN HBb.out nc)
  have x0_c : (wb.drewN nc).cell? ⟨w.heap.size, 0, none⟩ = some (.int .i64 id) := (cell_of_row _ _ 0 _ _ _ BKc.out).trans rfl
  have x1_c : (wb.drewN nc).cell? ⟨w.heap.size, 1, none⟩ = some (.int .i64 num) := (cell_of_row _ _ 1 _ _ _ BKc.out).trans rfl
  have x2_c : (wb.drewN nc).cell? ⟨w.heap.size, 2, none⟩ = some (.string s) := (cell_of_row _ _ 2 _ _ _ BKc.out).trans rfl
  have x3_c : (wb.drewN nc).cell? ⟨w.heap.size, 3, none⟩ = some (.string t) := (cell_of_row _ _ 3 _ _ _ BKc.out).trans rfl
  go_wp2_with (first | ((with_reducible refine gate_dst (N := 50) rfl ?_); go_must (refine Kd.R_lit (Kd.int .u8) (w0 := w0) w0.heap.size 5 ?hg (N := 50) ?hd (xs := [num / 16777216, num / 65536 % 256]) (inner := [.int .u8 (num / 16777216), .int .u8 (num / 65536 % 256)]) (ok := fun _ => True) (okp := fun _ => True) ?hr ?hp (fun _ hk => hk) trivial HBc.out HBc.out.size (by simp) ?_); (case hd => rfl); (case hg => rfl); (case hr => first | (go_simp; done) | (go_simp; rfl)); (case hp => exact (Reps.one (show Kd.M (Kd.int .u8) _ _ _ (num / 16777216) [.int .u8 (num / 16777216)] from rfl) (Reps.one (show Kd.M (Kd.int .u8) _ _ _ (num / 65536 % 256) [.int .u8 (num / 65536 % 256)] from rfl) (Reps.none _ _)))); intro vdl wdl hodl hbdl hgdl hndl; obtain ⟨Adl, cdl, hvdl⟩ := Kd.R_slice hodl; subst hvdl; have HXdl := Lib.hid (Kd.R_reads' hodl).2.2; have BKdl := Aside0.mk (blk_grown (g := w.heap.size) (o := (.cells #[.int .i64 id, .int .i64 num, .string s, .string t] 24 (0, 0))) BKc.out hgdl (by simp)); have HOdl := Lib.hid (Kd.R_grown HOc.out hgdl (fun _ _ => by simp)); have HBdl := Lib.hid hbdl; clear hodl hbdl hgdl hndl; have x0_dl : wdl.cell? ⟨w.heap.size, 0, none⟩ = some (.int .i64 id) := (cell_of_row _ _ 0 _ _ _ BKdl.out).trans rfl; have x1_dl : wdl.cell? ⟨w.heap.size, 1, none⟩ = some (.int .i64 num) := (cell_of_row _ _ 1 _ _ _ BKdl.out).trans rfl; have x2_dl : wdl.cell? ⟨w.heap.size, 2, none⟩ = some (.string s) := (cell_of_row _ _ 2 _ _ _ BKdl.out).trans rfl; have x3_dl : wdl.cell? ⟨w.heap.size, 3, none⟩ = some (.string t) := (cell_of_row _ _ 3 _ _ _ BKdl.out).trans rfl) | ((with_reducible refine gate_builtin (b := .append) (xs := #[.tmp 41, .tmp 50]) rfl ?_); at_builtin; go_must (refine Kd.R_append_row (Value.int .u8) 0 (h1 := fun _ => rfl) (w0 := w0) w0.heap.size rfl (.tmp 41) (.tmp 50) 35 5 (.int .u8 0) 1 rfl Tryd.underlying35 qinfo5 rfl (by omega) vb (l ++ Dv.varPut id) _ _ _ _ (fun _ => True) rfl rfl (fun _ _ => trivial) HOdl.out HXdl.out HBdl.out HBdl.out.size (by have := HL.out; have := HLV.out; (try simp only [List.length_append, List.length_cons, List.length_nil, bin_len]); omega) ?_); intro vd wd hod hbd hgd hatd; have BKd := Aside0.mk (blk_grown (g := w.heap.size) (o := (.cells #[.int .i64 id, .int .i64 num, .string s, .string t] 24 (0, 0))) (BKdl.out) hgd (Kd.R_ne HOdl.out (BKdl.out) (by decide))); have HOd := Lib.hid hod; have HBd := Lib.hid hbd; clear hod hbd hgd hatd; have x0_d : wd.cell? ⟨w.heap.size, 0, none⟩ = some (.int .i64 id) := (cell_of_row _ _ 0 _ _ _ BKd.out).trans rfl; have x1_d : wd.cell? ⟨w.heap.size, 1, none⟩ = some (.int .i64 num) := (cell_of_row _ _ 1 _ _ _ BKd.out).trans rfl; have x2_d : wd.cell? ⟨w.heap.size, 2, none⟩ = some (.string s) := (cell_of_row _ _ 2 _ _ _ BKd.out).trans rfl; have x3_d : wd.cell? ⟨w.heap.size, 3, none⟩ = some (.string t) := (cell_of_row _ _ 3 _ _ _ BKd.out).trans rfl) | ((with_reducible refine gate_dst (N := 57) rfl ?_); go_must (refine Kd.R_lit (Kd.int .u8) (w0 := w0) w0.heap.size 5 ?hg (N := 57) ?hd (xs := [num / 256 % 256]) (inner := [.int .u8 (num / 256 % 256)]) (ok := fun _ => True) (okp := fun _ => True) ?hr ?hp (fun _ hk => hk) trivial HBd.out HBd.out.size (by simp) ?_); (case hd => rfl); (case hg => rfl); (case hr => first | (go_simp; done) | (go_simp; rfl)); (case hp => exact (Reps.one (show Kd.M (Kd.int .u8) _ _ _ (num / 256 % 256) [.int .u8 (num / 256 % 256)] from rfl) (Reps.none _ _))); intro vel wel hoel hbel hgel hnel; obtain ⟨Ael, cel, hvel⟩ := Kd.R_slice hoel; subst hvel; have HXel := Lib.hid (Kd.R_reads' hoel).2.2; have BKel := Aside0.mk (blk_grown (g := w.heap.size) (o := (.cells #[.int .i64 id, .int .i64 num, .string s, .string t] 24 (0, 0))) BKd.out hgel (by simp)); have HOel := Lib.hid (Kd.R_grown HOd.out hgel (fun _ _ => by simp)); have HBel := Lib.hid hbel; clear hoel hbel hgel hnel; have x0_el : wel.cell? ⟨w.heap.size, 0, none⟩ = some (.int .i64 id) := (cell_of_row _ _ 0 _ _ _ BKel.out).trans rfl; have x1_el : wel.cell? ⟨w.heap.size, 1, none⟩ = some (.int .i64 num) := (cell_of_row _ _ 1 _ _ _ BKel.out).trans rfl; have x2_el : wel.cell? ⟨w.heap.size, 2, none⟩ = some (.string s) := (cell_of_row _ _ 2 _ _ _ BKel.out).trans rfl; have x3_el : wel.cell? ⟨w.heap.size, 3, none⟩ = some (.string t) := (cell_of_row _ _ 3 _ _ _ BKel.out).trans rfl) | ((with_reducible refine gate_builtin (b := .append) (xs := #[.tmp 52, .tmp 57]) rfl ?_); at_builtin; go_must (refine Kd.R_append_row (Value.int .u8) 0 (h1 := fun _ => rfl) (w0 := w0) w0.heap.size rfl (.tmp 52) (.tmp 57) 35 5 (.int .u8 0) 1 rfl Tryd.underlying35 qinfo5 rfl (by omega) vd ((l ++ Dv.varPut id) ++ [num / 16777216, num / 65536 % 256]) _ _ _ _ (fun _ => True) rfl rfl (fun _ _ => trivial) HOel.out HXel.out HBel.out HBel.out.size (by have := HL.out; have := HLV.out; (try simp only [List.length_append, List.length_cons, List.length_nil, bin_len]); omega) ?_); intro ve we hoe hbe hge hate; have BKe := Aside0.mk (blk_grown (g := w.heap.size) (o := (.cells #[.int .i64 id, .int .i64 num, .string s, .string t] 24 (0, 0))) (BKel.out) hge (Kd.R_ne HOel.out (BKel.out) (by decide))); have HOe := Lib.hid hoe; have HBe := Lib.hid hbe; clear hoe hbe hge hate; have x0_e : we.cell? ⟨w.heap.size, 0, none⟩ = some (.int .i64 id) := (cell_of_row _ _ 0 _ _ _ BKe.out).trans rfl; have x1_e : we.cell? ⟨w.heap.size, 1, none⟩ = some (.int .i64 num) := (cell_of_row _ _ 1 _ _ _ BKe.out).trans rfl; have x2_e : we.cell? ⟨w.heap.size, 2, none⟩ = some (.string s) := (cell_of_row _ _ 2 _ _ _ BKe.out).trans rfl; have x3_e : we.cell? ⟨w.heap.size, 3, none⟩ = some (.string t) := (cell_of_row _ _ 3 _ _ _ BKe.out).trans rfl) | ((with_reducible refine gate_dst (N := 63) rfl ?_); go_must (refine Kd.R_lit (Kd.int .u8) (w0 := w0) w0.heap.size 5 ?hg (N := 63) ?hd (xs := [num % 256]) (inner := [.int .u8 (num % 256)]) (ok := fun _ => True) (okp := fun _ => True) ?hr ?hp (fun _ hk => hk) trivial HBe.out HBe.out.size (by simp) ?_); (case hd => rfl); (case hg => rfl); (case hr => first | (go_simp; done) | (go_simp; rfl)); (case hp => exact (Reps.one (show Kd.M (Kd.int .u8) _ _ _ (num % 256) [.int .u8 (num % 256)] from rfl) (Reps.none _ _))); intro vfl wfl hofl hbfl hgfl hnfl; obtain ⟨Afl, cfl, hvfl⟩ := Kd.R_slice hofl; subst hvfl; have HXfl := Lib.hid (Kd.R_reads' hofl).2.2; have BKfl := Aside0.mk (blk_grown (g := w.heap.size) (o := (.cells #[.int .i64 id, .int .i64 num, .string s, .string t] 24 (0, 0))) BKe.out hgfl (by simp)); have HOfl := Lib.hid (Kd.R_grown HOe.out hgfl (fun _ _ => by simp)); have HBfl := Lib.hid hbfl; clear hofl hbfl hgfl hnfl; have x0_fl : wfl.cell? ⟨w.heap.size, 0, none⟩ = some (.int .i64 id) := (cell_of_row _ _ 0 _ _ _ BKfl.out).trans rfl; have x1_fl : wfl.cell? ⟨w.heap.size, 1, none⟩ = some (.int .i64 num) := (cell_of_row _ _ 1 _ _ _ BKfl.out).trans rfl; have x2_fl : wfl.cell? ⟨w.heap.size, 2, none⟩ = some (.string s) := (cell_of_row _ _ 2 _ _ _ BKfl.out).trans rfl; have x3_fl : wfl.cell? ⟨w.heap.size, 3, none⟩ = some (.string t) := (cell_of_row _ _ 3 _ _ _ BKfl.out).trans rfl) | ((with_reducible refine gate_builtin (b := .append) (xs := #[.tmp 59, .tmp 63]) rfl ?_); at_builtin; go_must (refine Kd.R_append_row (Value.int .u8) 0 (h1 := fun _ => rfl) (w0 := w0) w0.heap.size rfl (.tmp 59) (.tmp 63) 35 5 (.int .u8 0) 1 rfl Tryd.underlying35 qinfo5 rfl (by omega) ve (((l ++ Dv.varPut id) ++ [num / 16777216, num / 65536 % 256]) ++ [num / 256 % 256]) _ _ _ _ (fun _ => True) rfl rfl (fun _ _ => trivial) HOfl.out HXfl.out HBfl.out HBfl.out.size (by have := HL.out; have := HLV.out; (try simp only [List.length_append, List.length_cons, List.length_nil, bin_len]); omega) ?_); intro vf wf hof hbf hgf hatf; have BKf := Aside0.mk (blk_grown (g := w.heap.size) (o := (.cells #[.int .i64 id, .int .i64 num, .string s, .string t] 24 (0, 0))) (BKfl.out) hgf (Kd.R_ne HOfl.out (BKfl.out) (by decide))); have HOf := Lib.hid hof; have HBf := Lib.hid hbf; clear hof hbf hgf hatf; have x0_f : wf.cell? ⟨w.heap.size, 0, none⟩ = some (.int .i64 id) := (cell_of_row _ _ 0 _ _ _ BKf.out).trans rfl; have x1_f : wf.cell? ⟨w.heap.size, 1, none⟩ = some (.int .i64 num) := (cell_of_row _ _ 1 _ _ _ BKf.out).trans rfl; have x2_f : wf.cell? ⟨w.heap.size, 2, none⟩ = some (.string s) := (cell_of_row _ _ 2 _ _ _ BKf.out).trans rfl; have x3_f : wf.cell? ⟨w.heap.size, 3, none⟩ = some (.string t) := (cell_of_row _ _ 3 _ _ _ BKf.out).trans rfl) | ((with_reducible refine gate_builtin (b := .append) (xs := #[.tmp 86, .tmp 87]) rfl ?_); at_builtin; go_must (refine Kd.R_append_row (Value.int .u8) 0 (h1 := fun _ => rfl) (w0 := w0) w0.heap.size rfl (.tmp 86) (.tmp 87) 35 5 (.int .u8 0) 1 rfl Tryd.underlying35 qinfo5 rfl (by omega) vf ((((l ++ Dv.varPut id) ++ [num / 16777216, num / 65536 % 256]) ++ [num / 256 % 256]) ++ [num % 256]) _ _ _ _ (fun _ => True) rfl rfl (fun _ _ => trivial) HOf.out (C_none _) HBf.out HBf.out.size (by have := HL.out; have := HLV.out; (try simp only [List.length_append, List.length_cons, List.length_nil, bin_len]); omega) ?_); intro vz wz hoz hbz hgz hatz; have HOz := Lib.hid hoz; have HBz := Lib.hid hbz; clear hoz hbz hgz hatz))
  go_ret
  refine ⟨_, rfl, ?_, HBz.out⟩
  rw [hfin.out, ← (show (((((l ++ Dv.varPut id) ++ [num / 16777216, num / 65536 % 256]) ++ [num / 256 % 256]) ++ [num % 256]) ++ []) = l ++ (Dv.varPut id ++ tailP 4 num s t) by simp [tailP])]
  exact HOz.out
set_option maxRecDepth 100000 in
set_option maxHeartbeats 8000000 in
theorem lay5 (w0 w : World) (v : Value) (l : List Int) (id num : Int) (s t : ByteArray) (hk : kindOf id = 5) (hp : may id num s t = true) (HO : Kd.R (Kd.int .u8) 5 w w0.heap.size (fun _ => True) v l) (HB : Below w0.heap.size w0 w) (hl : l.length ≤ 1000000000) (hT : Dv.GTab w0) :
    Calls Tryd.prog 27 #[v, .agg #[.int .i64 id, .int .i64 num, .string s, .string t]] w fun e w' => ∃ v', e = .returned v' ∧ Kd.R (Kd.int .u8) 5 w' w0.heap.size (fun _ => True) v' (l ++ putP id num s t) ∧ Below w0.heap.size w0 w' := by
  obtain ⟨A0, c0, rfl⟩ := Kd.R_slice HO
  have hid : 0 ≤ id ∧ id ≤ 42 := may_small hp
  have C2 := Lib.hid (fun w => prop_shape.calls 10 id (ik 5) (lowOf id) w (by rw [shape_f, hk]))
  rw [show ik 5 = 4 from rfl] at C2
  have hfin := Lib.hid (show putP id num s t = Dv.varPut id ++ tailP 5 num s t by unfold putP; rw [hk])
  have hnum := may_num hp
  rw [hk] at hnum
  have hn0 : 0 ≤ num := by have := hnum.1; have := low_nonneg id; omega
  have hn1 : num ≤ 268435455 := hnum.2
  clear hnum
  have HO0 := Lib.hid HO
  have HB0 := Lib.hid HB
  have HL := Lib.hid hl
  have HT := Lib.hid hT
  have HLV := Lib.hid (varPut_len id)
  have HLN := Lib.hid (varPut_len num)
  clear HO HB hl hT hk hp
  generalize lowOf id = low at *
  go_enter Tryd.func27, Tryd.ntmps27
  go_wp2_with fail
  have HOx := Lib.hid (Kd.R_below HO0.out (below_alloc (Below.refl _ _) (.cells #[.int .i64 id, .int .i64 num, .string s, .string t] 24)))
  have HBx := Lib.hid (HB0.out.alloc HB0.out.size (.cells #[.int .i64 id, .int .i64 num, .string s, .string t] 24))
  have BKx := Aside0.mk (heap_alloc_new w (.cells #[.int .i64 id, .int .i64 num, .string s, .string t] 24))
  refine (varint_Put id _ hid.1 (by omega)).mono ?_
  rintro e wa ⟨va, rfl, hoa, hba⟩
  have BKa := Aside0.mk ((hba.block w.heap.size (Array.getElem?_eq_some_iff.1 BKx.out).1).trans BKx.out)
  have HOa := Lib.hid (Kd.R_below HOx.out hba)
  have HBa := Lib.hid (below_then HBx.out HBx.out.size hba)
  obtain ⟨Aa, ca, hva⟩ := Kd.R_slice hoa
  subst hva
  have HRa := Lib.hid hoa
  have HQa := Lib.hid hba
  clear hoa hba
  have x0_a : wa.cell? ⟨w.heap.size, 0, none⟩ = some (.int .i64 id) := (cell_of_row _ _ 0 _ _ _ BKa.out).trans rfl
  have x1_a : wa.cell? ⟨w.heap.size, 1, none⟩ = some (.int .i64 num) := (cell_of_row _ _ 1 _ _ _ BKa.out).trans rfl
  have x2_a : wa.cell? ⟨w.heap.size, 2, none⟩ = some (.string s) := (cell_of_row _ _ 2 _ _ _ BKa.out).trans rfl
  have x3_a : wa.cell? ⟨w.heap.size, 3, none⟩ = some (.string t) := (cell_of_row _ _ 3 _ _ _ BKa.out).trans rfl
  go_wp2_with (first | ((with_reducible refine gate_builtin (b := .append) (xs := #[.tmp 18, .tmp 19]) rfl ?_); at_builtin; go_must (refine Kd.R_append_row (Value.int .u8) 0 (h1 := fun _ => rfl) (w0 := w0) w0.heap.size rfl (.tmp 18) (.tmp 19) 35 5 (.int .u8 0) 1 rfl Tryd.underlying35 qinfo5 rfl (by omega) (.slice A0 l.length c0) l _ _ _ _ (fun _ => True) rfl rfl (fun _ _ => trivial) HOa.out (Kd.R_reads' HRa.out).2.2 HBa.out HBa.out.size (by have := HL.out; have := HLV.out; have := HLN.out; (try simp only [List.length_append, List.length_cons, List.length_nil, bin_len]); omega) ?_); intro vb wb hob hbb hgb hatb; have BKb := Aside0.mk (blk_grown (g := w.heap.size) (o := (.cells #[.int .i64 id, .int .i64 num, .string s, .string t] 24 (0, 0))) (BKa.out) hgb (Kd.R_ne HOa.out (BKa.out) (by decide))); have HOb := Lib.hid hob; have HBb := Lib.hid hbb; clear hob hbb hgb hatb; have x0_b : wb.cell? ⟨w.heap.size, 0, none⟩ = some (.int .i64 id) := (cell_of_row _ _ 0 _ _ _ BKb.out).trans rfl; have x1_b : wb.cell? ⟨w.heap.size, 1, none⟩ = some (.int .i64 num) := (cell_of_row _ _ 1 _ _ _ BKb.out).trans rfl; have x2_b : wb.cell? ⟨w.heap.size, 2, none⟩ = some (.string s) := (cell_of_row _ _ 2 _ _ _ BKb.out).trans rfl; have x3_b : wb.cell? ⟨w.heap.size, 3, none⟩ = some (.string t) := (cell_of_row _ _ 3 _ _ _ BKb.out).trans rfl))
  clear x0_a x1_a x2_a x3_a
  clear x0_b x1_b x2_b x3_b
  refine (C2.out _).mono ?_
  rintro e wc ⟨rfl, ⟨⟨nc, rfl⟩⟩⟩
  have BKc := Aside0.mk (show (wb.drewN nc).heap[w.heap.size]? = _ from BKb.out)
  have HOc := Lib.hid (show Kd.R (Kd.int .u8) 5 (wb.drewN nc) w0.heap.size (fun _ => True) vb (l ++ Dv.varPut id) from Kd.R_drewN HOb.out nc)
  have HBc := Lib.hid (pw_below_drewN HBb.out nc)
  have x0_c : (wb.drewN nc).cell? ⟨w.heap.size, 0, none⟩ = some (.int .i64 id) := (cell_of_row _ _ 0 _ _ _ BKc.out).trans rfl
  have x1_c : (wb.drewN nc).cell? ⟨w.heap.size, 1, none⟩ = some (.int .i64 num) := (cell_of_row _ _ 1 _ _ _ BKc.out).trans rfl
  have x2_c : (wb.drewN nc).cell? ⟨w.heap.size, 2, none⟩ = some (.string s) := (cell_of_row _ _ 2 _ _ _ BKc.out).trans rfl
  have x3_c : (wb.drewN nc).cell? ⟨w.heap.size, 3, none⟩ = some (.string t) := (cell_of_row _ _ 3 _ _ _ BKc.out).trans rfl
  go_wp2_with fail
  refine (varint_Put num _ hn0 (by omega)).mono ?_
  rintro e wd ⟨vd, rfl, hod, hbd⟩
  have BKd := Aside0.mk ((hbd.block w.heap.size (Array.getElem?_eq_some_iff.1 BKc.out).1).trans BKc.out)
  have HOd := Lib.hid (Kd.R_below HOc.out hbd)
  have HBd := Lib.hid (below_then HBc.out HBc.out.size hbd)
  obtain ⟨Ad, cd, hvd⟩ := Kd.R_slice hod
  subst hvd
  have HRd := Lib.hid hod
  have HQd := Lib.hid hbd
  clear hod hbd
  have x0_d : wd.cell? ⟨w.heap.size, 0, none⟩ = some (.int .i64 id) := (cell_of_row _ _ 0 _ _ _ BKd.out).trans rfl
  have x1_d : wd.cell? ⟨w.heap.size, 1, none⟩ = some (.int .i64 num) := (cell_of_row _ _ 1 _ _ _ BKd.out).trans rfl
  have x2_d : wd.cell? ⟨w.heap.size, 2, none⟩ = some (.string s) := (cell_of_row _ _ 2 _ _ _ BKd.out).trans rfl
  have x3_d : wd.cell? ⟨w.heap.size, 3, none⟩ = some (.string t) := (cell_of_row _ _ 3 _ _ _ BKd.out).trans rfl
  go_wp2_with (first | ((with_reducible refine gate_builtin (b := .append) (xs := #[.tmp 86, .tmp 87]) rfl ?_); at_builtin; go_must (refine Kd.R_append_row (Value.int .u8) 0 (h1 := fun _ => rfl) (w0 := w0) w0.heap.size rfl (.tmp 86) (.tmp 87) 35 5 (.int .u8 0) 1 rfl Tryd.underlying35 qinfo5 rfl (by omega) vb (l ++ Dv.varPut id) _ _ _ _ (fun _ => True) rfl rfl (fun _ _ => trivial) HOd.out (Kd.R_reads' HRd.out).2.2 HBd.out HBd.out.size (by have := HL.out; have := HLV.out; have := HLN.out; (try simp only [List.length_append, List.length_cons, List.length_nil, bin_len]); omega) ?_); intro vz wz hoz hbz hgz hatz; have HOz := Lib.hid hoz; have HBz := Lib.hid hbz; clear hoz hbz hgz hatz))
  go_ret
  refine ⟨_, rfl, ?_, HBz.out⟩
  rw [hfin.out, ← (show ((l ++ Dv.varPut id) ++ Dv.varPut num) = l ++ (Dv.varPut id ++ tailP 5 num s t) by simp [tailP])]
  exact HOz.out
set_option maxRecDepth 100000 in
set_option maxHeartbeats 8000000 in
theorem lay6 (w0 w : World) (v : Value) (l : List Int) (id num : Int) (s t : ByteArray) (hk : kindOf id = 6) (hp : may id num s t = true) (HO : Kd.R (Kd.int .u8) 5 w w0.heap.size (fun _ => True) v l) (HB : Below w0.heap.size w0 w) (hl : l.length ≤ 1000000000) (hT : Dv.GTab w0) :
    Calls Tryd.prog 27 #[v, .agg #[.int .i64 id, .int .i64 num, .string s, .string t]] w fun e w' => ∃ v', e = .returned v' ∧ Kd.R (Kd.int .u8) 5 w' w0.heap.size (fun _ => True) v' (l ++ putP id num s t) ∧ Below w0.heap.size w0 w' := by
  obtain ⟨A0, c0, rfl⟩ := Kd.R_slice HO
  have hid : 0 ≤ id ∧ id ≤ 42 := may_small hp
  have C2 := Lib.hid (fun w => prop_shape.calls 10 id (ik 6) (lowOf id) w (by rw [shape_f, hk]))
  rw [show ik 6 = 5 from rfl] at C2
  have hfin := Lib.hid (show putP id num s t = Dv.varPut id ++ tailP 6 num s t by unfold putP; rw [hk])
  have HS := Lib.hid (may_str hp (by omega))
  have hsz := Lib.hid (chk_size HS.out)
  have HO0 := Lib.hid HO
  have HB0 := Lib.hid HB
  have HL := Lib.hid hl
  have HT := Lib.hid hT
  have HLV := Lib.hid (varPut_len id)
  clear HO HB hl hT hk hp
  generalize lowOf id = low at *
  go_enter Tryd.func27, Tryd.ntmps27
  go_wp2_with fail
  have HOx := Lib.hid (Kd.R_below HO0.out (below_alloc (Below.refl _ _) (.cells #[.int .i64 id, .int .i64 num, .string s, .string t] 24)))
  have HBx := Lib.hid (HB0.out.alloc HB0.out.size (.cells #[.int .i64 id, .int .i64 num, .string s, .string t] 24))
  have BKx := Aside0.mk (heap_alloc_new w (.cells #[.int .i64 id, .int .i64 num, .string s, .string t] 24))
  refine (varint_Put id _ hid.1 (by omega)).mono ?_
  rintro e wa ⟨va, rfl, hoa, hba⟩
  have BKa := Aside0.mk ((hba.block w.heap.size (Array.getElem?_eq_some_iff.1 BKx.out).1).trans BKx.out)
  have HOa := Lib.hid (Kd.R_below HOx.out hba)
  have HBa := Lib.hid (below_then HBx.out HBx.out.size hba)
  obtain ⟨Aa, ca, hva⟩ := Kd.R_slice hoa
  subst hva
  have HRa := Lib.hid hoa
  have HQa := Lib.hid hba
  clear hoa hba
  have x0_a : wa.cell? ⟨w.heap.size, 0, none⟩ = some (.int .i64 id) := (cell_of_row _ _ 0 _ _ _ BKa.out).trans rfl
  have x1_a : wa.cell? ⟨w.heap.size, 1, none⟩ = some (.int .i64 num) := (cell_of_row _ _ 1 _ _ _ BKa.out).trans rfl
  have x2_a : wa.cell? ⟨w.heap.size, 2, none⟩ = some (.string s) := (cell_of_row _ _ 2 _ _ _ BKa.out).trans rfl
  have x3_a : wa.cell? ⟨w.heap.size, 3, none⟩ = some (.string t) := (cell_of_row _ _ 3 _ _ _ BKa.out).trans rfl
  go_wp2_with (first | ((with_reducible refine gate_builtin (b := .append) (xs := #[.tmp 18, .tmp 19]) rfl ?_); at_builtin; go_must (refine Kd.R_append_row (Value.int .u8) 0 (h1 := fun _ => rfl) (w0 := w0) w0.heap.size rfl (.tmp 18) (.tmp 19) 35 5 (.int .u8 0) 1 rfl Tryd.underlying35 qinfo5 rfl (by omega) (.slice A0 l.length c0) l _ _ _ _ (fun _ => True) rfl rfl (fun _ _ => trivial) HOa.out (Kd.R_reads' HRa.out).2.2 HBa.out HBa.out.size (by have := HL.out; have := HLV.out; have := hsz.out; (try simp only [List.length_append, List.length_cons, List.length_nil, bin_len]); omega) ?_); intro vb wb hob hbb hgb hatb; have BKb := Aside0.mk (blk_grown (g := w.heap.size) (o := (.cells #[.int .i64 id, .int .i64 num, .string s, .string t] 24 (0, 0))) (BKa.out) hgb (Kd.R_ne HOa.out (BKa.out) (by decide))); have HOb := Lib.hid hob; have HBb := Lib.hid hbb; clear hob hbb hgb hatb; have x0_b : wb.cell? ⟨w.heap.size, 0, none⟩ = some (.int .i64 id) := (cell_of_row _ _ 0 _ _ _ BKb.out).trans rfl; have x1_b : wb.cell? ⟨w.heap.size, 1, none⟩ = some (.int .i64 num) := (cell_of_row _ _ 1 _ _ _ BKb.out).trans rfl; have x2_b : wb.cell? ⟨w.heap.size, 2, none⟩ = some (.string s) := (cell_of_row _ _ 2 _ _ _ BKb.out).trans rfl; have x3_b : wb.cell? ⟨w.heap.size, 3, none⟩ = some (.string t) := (cell_of_row _ _ 3 _ _ _ BKb.out).trans rfl))
  clear x0_a x1_a x2_a x3_a
  clear x0_b x1_b x2_b x3_b
  refine (C2.out _).mono ?_
  rintro e wc ⟨rfl, ⟨⟨nc, rfl⟩⟩⟩
  have BKc := Aside0.mk (show (wb.drewN nc).heap[w.heap.size]? = _ from BKb.out)
  have HOc := Lib.hid (show Kd.R (Kd.int .u8) 5 (wb.drewN nc) w0.heap.size (fun _ => True) vb (l ++ Dv.varPut id) from Kd.R_drewN HOb.out nc)
  have HBc := Lib.hid (pw_below_drewN HBb.out nc)
  have x0_c : (wb.drewN nc).cell? ⟨w.heap.size, 0, none⟩ = some (.int .i64 id) := (cell_of_row _ _ 0 _ _ _ BKc.out).trans rfl
  have x1_c : (wb.drewN nc).cell? ⟨w.heap.size, 1, none⟩ = some (.int .i64 num) := (cell_of_row _ _ 1 _ _ _ BKc.out).trans rfl
  have x2_c : (wb.drewN nc).cell? ⟨w.heap.size, 2, none⟩ = some (.string s) := (cell_of_row _ _ 2 _ _ _ BKc.out).trans rfl
  have x3_c : (wb.drewN nc).cell? ⟨w.heap.size, 3, none⟩ = some (.string t) := (cell_of_row _ _ 3 _ _ _ BKc.out).trans rfl
  go_wp2_with fail
  have LTb := own_lt (Kd.own_of_R HOc.out)
  refine (PutBin_ok s _ hsz.out).mono ?_
  rintro e we ⟨ve, rfl, hoe, hbe⟩
  have BKe := Aside0.mk ((hbe.block w.heap.size (Array.getElem?_eq_some_iff.1 BKc.out).1).trans BKc.out)
  have HOe := Lib.hid (Kd.R_below HOc.out hbe)
  have HBe := Lib.hid (below_then HBc.out HBc.out.size hbe)
  obtain ⟨Ae, ce, hve⟩ := Kd.R_slice hoe
  subst hve
  have HRe := Lib.hid hoe
  have HQe := Lib.hid hbe
  clear hoe hbe
  have x0_e : we.cell? ⟨w.heap.size, 0, none⟩ = some (.int .i64 id) := (cell_of_row _ _ 0 _ _ _ BKe.out).trans rfl
  have x1_e : we.cell? ⟨w.heap.size, 1, none⟩ = some (.int .i64 num) := (cell_of_row _ _ 1 _ _ _ BKe.out).trans rfl
  have x2_e : we.cell? ⟨w.heap.size, 2, none⟩ = some (.string s) := (cell_of_row _ _ 2 _ _ _ BKe.out).trans rfl
  have x3_e : we.cell? ⟨w.heap.size, 3, none⟩ = some (.string t) := (cell_of_row _ _ 3 _ _ _ BKe.out).trans rfl
  have GEe := own_base (Kd.own_of_R HRe.out)
  have HRl := Lib.hid (Kd.R_lower HRe.out (Nat.le_trans HBc.out.size (Nat.le_refl _)))
  go_wp2_with (first | ((with_reducible refine gate_builtin (b := .append) (xs := #[.tmp 83, .tmp 84]) rfl ?_); at_builtin; go_must (refine Kd.R_append_row (Value.int .u8) 0 (h1 := fun _ => rfl) (w0 := w0) w0.heap.size rfl (.tmp 83) (.tmp 84) 35 5 (.int .u8 0) 1 rfl Tryd.underlying35 qinfo5 rfl (by omega) (.slice Ae (bin s).length ce) (bin s) _ _ _ _ (fun _ => True) rfl rfl (fun _ _ => trivial) HRl.out (C_none _) HBe.out HBe.out.size (by have := HL.out; have := HLV.out; have := hsz.out; (try simp only [List.length_append, List.length_cons, List.length_nil, bin_len]); omega) ?_); intro vf wf hof hbf hgf hatf; simp only [List.append_nil] at hof; obtain ⟨Af, cf, hvf⟩ := Kd.R_slice hof; subst hvf; have hxf := (Kd.R_reads' hof).2.2; have HXf := Lib.hid hxf; clear hxf; have HOf := Lib.hid (buf_apart HOe.out hgf (fun k h1 h2 => by have := LTb k h1; have := GEe k h2; omega)); have HBf := Lib.hid hbf; clear hof hbf hgf hatf) | ((with_reducible refine gate_builtin (b := .append) (xs := #[.tmp 86, .tmp 87]) rfl ?_); at_builtin; go_must (refine Kd.R_append_row (Value.int .u8) 0 (h1 := fun _ => rfl) (w0 := w0) w0.heap.size rfl (.tmp 86) (.tmp 87) 35 5 (.int .u8 0) 1 rfl Tryd.underlying35 qinfo5 rfl (by omega) vb (l ++ Dv.varPut id) _ _ _ _ (fun _ => True) rfl rfl (fun _ _ => trivial) HOf.out HXf.out HBf.out HBf.out.size (by have := HL.out; have := HLV.out; have := hsz.out; (try simp only [List.length_append, List.length_cons, List.length_nil, bin_len]); omega) ?_); intro vz wz hoz hbz hgz hatz; have HOz := Lib.hid hoz; have HBz := Lib.hid hbz; clear hoz hbz hgz hatz))
  go_ret
  refine ⟨_, rfl, ?_, HBz.out⟩
  rw [hfin.out, ← (show ((l ++ Dv.varPut id) ++ bin s) = l ++ (Dv.varPut id ++ tailP 6 num s t) by simp [tailP])]
  exact HOz.out
set_option maxRecDepth 100000 in
set_option maxHeartbeats 8000000 in
theorem lay7 (w0 w : World) (v : Value) (l : List Int) (id num : Int) (s t : ByteArray) (hk : kindOf id = 7) (hp : may id num s t = true) (HO : Kd.R (Kd.int .u8) 5 w w0.heap.size (fun _ => True) v l) (HB : Below w0.heap.size w0 w) (hl : l.length ≤ 1000000000) (hT : Dv.GTab w0) :
    Calls Tryd.prog 27 #[v, .agg #[.int .i64 id, .int .i64 num, .string s, .string t]] w fun e w' => ∃ v', e = .returned v' ∧ Kd.R (Kd.int .u8) 5 w' w0.heap.size (fun _ => True) v' (l ++ putP id num s t) ∧ Below w0.heap.size w0 w' := by
  obtain ⟨A0, c0, rfl⟩ := Kd.R_slice HO
  have hid : 0 ≤ id ∧ id ≤ 42 := may_small hp
  have C2 := Lib.hid (fun w => prop_shape.calls 10 id (ik 7) (lowOf id) w (by rw [shape_f, hk]))
  rw [show ik 7 = 6 from rfl] at C2
  have hfin := Lib.hid (show putP id num s t = Dv.varPut id ++ tailP 7 num s t by unfold putP; rw [hk])
  have hsz := Lib.hid (may_bin7 hp hk)
  have HO0 := Lib.hid HO
  have HB0 := Lib.hid HB
  have HL := Lib.hid hl
  have HT := Lib.hid hT
  have HLV := Lib.hid (varPut_len id)
  clear HO HB hl hT hk hp
  generalize lowOf id = low at *
  go_enter Tryd.func27, Tryd.ntmps27
  go_wp2_with fail
  have HOx := Lib.hid (Kd.R_below HO0.out (below_alloc (Below.refl _ _) (.cells #[.int .i64 id, .int .i64 num, .string s, .string t] 24)))
  have HBx := Lib.hid (HB0.out.alloc HB0.out.size (.cells #[.int .i64 id, .int .i64 num, .string s, .string t] 24))
  have BKx := Aside0.mk (heap_alloc_new w (.cells #[.int .i64 id, .int .i64 num, .string s, .string t] 24))
  refine (varint_Put id _ hid.1 (by omega)).mono ?_
  rintro e wa ⟨va, rfl, hoa, hba⟩
  have BKa := Aside0.mk ((hba.block w.heap.size (Array.getElem?_eq_some_iff.1 BKx.out).1).trans BKx.out)
  have HOa := Lib.hid (Kd.R_below HOx.out hba)
  have HBa := Lib.hid (below_then HBx.out HBx.out.size hba)
  obtain ⟨Aa, ca, hva⟩ := Kd.R_slice hoa
  subst hva
  have HRa := Lib.hid hoa
  have HQa := Lib.hid hba
  clear hoa hba
  have x0_a : wa.cell? ⟨w.heap.size, 0, none⟩ = some (.int .i64 id) := (cell_of_row _ _ 0 _ _ _ BKa.out).trans rfl
  have x1_a : wa.cell? ⟨w.heap.size, 1, none⟩ = some (.int .i64 num) := (cell_of_row _ _ 1 _ _ _ BKa.out).trans rfl
  have x2_a : wa.cell? ⟨w.heap.size, 2, none⟩ = some (.string s) := (cell_of_row _ _ 2 _ _ _ BKa.out).trans rfl
  have x3_a : wa.cell? ⟨w.heap.size, 3, none⟩ = some (.string t) := (cell_of_row _ _ 3 _ _ _ BKa.out).trans rfl
  go_wp2_with (first | ((with_reducible refine gate_builtin (b := .append) (xs := #[.tmp 18, .tmp 19]) rfl ?_); at_builtin; go_must (refine Kd.R_append_row (Value.int .u8) 0 (h1 := fun _ => rfl) (w0 := w0) w0.heap.size rfl (.tmp 18) (.tmp 19) 35 5 (.int .u8 0) 1 rfl Tryd.underlying35 qinfo5 rfl (by omega) (.slice A0 l.length c0) l _ _ _ _ (fun _ => True) rfl rfl (fun _ _ => trivial) HOa.out (Kd.R_reads' HRa.out).2.2 HBa.out HBa.out.size (by have := HL.out; have := HLV.out; have := hsz.out; (try simp only [List.length_append, List.length_cons, List.length_nil, bin_len]); omega) ?_); intro vb wb hob hbb hgb hatb; have BKb := Aside0.mk (blk_grown (g := w.heap.size) (o := (.cells #[.int .i64 id, .int .i64 num, .string s, .string t] 24 (0, 0))) (BKa.out) hgb (Kd.R_ne HOa.out (BKa.out) (by decide))); have HOb := Lib.hid hob; have HBb := Lib.hid hbb; clear hob hbb hgb hatb; have x0_b : wb.cell? ⟨w.heap.size, 0, none⟩ = some (.int .i64 id) := (cell_of_row _ _ 0 _ _ _ BKb.out).trans rfl; have x1_b : wb.cell? ⟨w.heap.size, 1, none⟩ = some (.int .i64 num) := (cell_of_row _ _ 1 _ _ _ BKb.out).trans rfl; have x2_b : wb.cell? ⟨w.heap.size, 2, none⟩ = some (.string s) := (cell_of_row _ _ 2 _ _ _ BKb.out).trans rfl; have x3_b : wb.cell? ⟨w.heap.size, 3, none⟩ = some (.string t) := (cell_of_row _ _ 3 _ _ _ BKb.out).trans rfl))
  clear x0_a x1_a x2_a x3_a
  clear x0_b x1_b x2_b x3_b
  refine (C2.out _).mono ?_
  rintro e wc ⟨rfl, ⟨⟨nc, rfl⟩⟩⟩
  have BKc := Aside0.mk (show (wb.drewN nc).heap[w.heap.size]? = _ from BKb.out)
  have HOc := Lib.hid (show Kd.R (Kd.int .u8) 5 (wb.drewN nc) w0.heap.size (fun _ => True) vb (l ++ Dv.varPut id) from Kd.R_drewN HOb.out nc)
  have HBc := Lib.hid (pw_below_drewN HBb.out nc)
  have x0_c : (wb.drewN nc).cell? ⟨w.heap.size, 0, none⟩ = some (.int .i64 id) := (cell_of_row _ _ 0 _ _ _ BKc.out).trans rfl
  have x1_c : (wb.drewN nc).cell? ⟨w.heap.size, 1, none⟩ = some (.int .i64 num) := (cell_of_row _ _ 1 _ _ _ BKc.out).trans rfl
  have x2_c : (wb.drewN nc).cell? ⟨w.heap.size, 2, none⟩ = some (.string s) := (cell_of_row _ _ 2 _ _ _ BKc.out).trans rfl
  have x3_c : (wb.drewN nc).cell? ⟨w.heap.size, 3, none⟩ = some (.string t) := (cell_of_row _ _ 3 _ _ _ BKc.out).trans rfl
  go_wp2_with fail
  have LTb := own_lt (Kd.own_of_R HOc.out)
  refine (PutBin_ok s _ hsz.out).mono ?_
  rintro e we ⟨ve, rfl, hoe, hbe⟩
  have BKe := Aside0.mk ((hbe.block w.heap.size (Array.getElem?_eq_some_iff.1 BKc.out).1).trans BKc.out)
  have HOe := Lib.hid (Kd.R_below HOc.out hbe)
  have HBe := Lib.hid (below_then HBc.out HBc.out.size hbe)
  obtain ⟨Ae, ce, hve⟩ := Kd.R_slice hoe
  subst hve
  have HRe := Lib.hid hoe
  have HQe := Lib.hid hbe
  clear hoe hbe
  have x0_e : we.cell? ⟨w.heap.size, 0, none⟩ = some (.int .i64 id) := (cell_of_row _ _ 0 _ _ _ BKe.out).trans rfl
  have x1_e : we.cell? ⟨w.heap.size, 1, none⟩ = some (.int .i64 num) := (cell_of_row _ _ 1 _ _ _ BKe.out).trans rfl
  have x2_e : we.cell? ⟨w.heap.size, 2, none⟩ = some (.string s) := (cell_of_row _ _ 2 _ _ _ BKe.out).trans rfl
  have x3_e : we.cell? ⟨w.heap.size, 3, none⟩ = some (.string t) := (cell_of_row _ _ 3 _ _ _ BKe.out).trans rfl
  have GEe := own_base (Kd.own_of_R HRe.out)
  have HRl := Lib.hid (Kd.R_lower HRe.out (Nat.le_trans HBc.out.size (Nat.le_refl _)))
  go_wp2_with (first | ((with_reducible refine gate_builtin (b := .append) (xs := #[.tmp 83, .tmp 84]) rfl ?_); at_builtin; go_must (refine Kd.R_append_row (Value.int .u8) 0 (h1 := fun _ => rfl) (w0 := w0) w0.heap.size rfl (.tmp 83) (.tmp 84) 35 5 (.int .u8 0) 1 rfl Tryd.underlying35 qinfo5 rfl (by omega) (.slice Ae (bin s).length ce) (bin s) _ _ _ _ (fun _ => True) rfl rfl (fun _ _ => trivial) HRl.out (C_none _) HBe.out HBe.out.size (by have := HL.out; have := HLV.out; have := hsz.out; (try simp only [List.length_append, List.length_cons, List.length_nil, bin_len]); omega) ?_); intro vf wf hof hbf hgf hatf; simp only [List.append_nil] at hof; obtain ⟨Af, cf, hvf⟩ := Kd.R_slice hof; subst hvf; have hxf := (Kd.R_reads' hof).2.2; have HXf := Lib.hid hxf; clear hxf; have HOf := Lib.hid (buf_apart HOe.out hgf (fun k h1 h2 => by have := LTb k h1; have := GEe k h2; omega)); have HBf := Lib.hid hbf; clear hof hbf hgf hatf) | ((with_reducible refine gate_builtin (b := .append) (xs := #[.tmp 86, .tmp 87]) rfl ?_); at_builtin; go_must (refine Kd.R_append_row (Value.int .u8) 0 (h1 := fun _ => rfl) (w0 := w0) w0.heap.size rfl (.tmp 86) (.tmp 87) 35 5 (.int .u8 0) 1 rfl Tryd.underlying35 qinfo5 rfl (by omega) vb (l ++ Dv.varPut id) _ _ _ _ (fun _ => True) rfl rfl (fun _ _ => trivial) HOf.out HXf.out HBf.out HBf.out.size (by have := HL.out; have := HLV.out; have := hsz.out; (try simp only [List.length_append, List.length_cons, List.length_nil, bin_len]); omega) ?_); intro vz wz hoz hbz hgz hatz; have HOz := Lib.hid hoz; have HBz := Lib.hid hbz; clear hoz hbz hgz hatz))
  go_ret
  refine ⟨_, rfl, ?_, HBz.out⟩
  rw [hfin.out, ← (show ((l ++ Dv.varPut id) ++ bin s) = l ++ (Dv.varPut id ++ tailP 7 num s t) by simp [tailP])]
  exact HOz.out
set_option maxRecDepth 100000 in
set_option maxHeartbeats 8000000 in
theorem lay8 (w0 w : World) (v : Value) (l : List Int) (id num : Int) (s t : ByteArray) (hk : kindOf id = 8) (hp : may id num s t = true) (HO : Kd.R (Kd.int .u8) 5 w w0.heap.size (fun _ => True) v l) (HB : Below w0.heap.size w0 w) (hl : l.length ≤ 1000000000) (hT : Dv.GTab w0) :
    Calls Tryd.prog 27 #[v, .agg #[.int .i64 id, .int .i64 num, .string s, .string t]] w fun e w' => ∃ v', e = .returned v' ∧ Kd.R (Kd.int .u8) 5 w' w0.heap.size (fun _ => True) v' (l ++ putP id num s t) ∧ Below w0.heap.size w0 w' := by
  obtain ⟨A0, c0, rfl⟩ := Kd.R_slice HO
  have hid : 0 ≤ id ∧ id ≤ 42 := may_small hp
  have C2 := Lib.hid (fun w => prop_shape.calls 10 id (ik 8) (lowOf id) w (by rw [shape_f, hk]))
  rw [show ik 8 = 7 from rfl] at C2
  have hfin := Lib.hid (show putP id num s t = Dv.varPut id ++ tailP 8 num s t by unfold putP; rw [hk])
  have HS := Lib.hid (may_str hp (by omega))
  have hsz := Lib.hid (chk_size HS.out)
  have HV := Lib.hid (may_val hp hk)
  have hsz2 := Lib.hid (chk_size HV.out)
  have HO0 := Lib.hid HO
  have HB0 := Lib.hid HB
  have HL := Lib.hid hl
  have HT := Lib.hid hT
  have HLV := Lib.hid (varPut_len id)
  clear HO HB hl hT hk hp
  generalize lowOf id = low at *
  go_enter Tryd.func27, Tryd.ntmps27
  go_wp2_with fail
  have HOx := Lib.hid (Kd.R_below HO0.out (below_alloc (Below.refl _ _) (.cells #[.int .i64 id, .int .i64 num, .string s, .string t] 24)))
  have HBx := Lib.hid (HB0.out.alloc HB0.out.size (.cells #[.int .i64 id, .int .i64 num, .string s, .string t] 24))
  have BKx := Aside0.mk (heap_alloc_new w (.cells #[.int .i64 id, .int .i64 num, .string s, .string t] 24))
  refine (varint_Put id _ hid.1 (by omega)).mono ?_
  rintro e wa ⟨va, rfl, hoa, hba⟩
  have BKa := Aside0.mk ((hba.block w.heap.size (Array.getElem?_eq_some_iff.1 BKx.out).1).trans BKx.out)
  have HOa := Lib.hid (Kd.R_below HOx.out hba)
  have HBa := Lib.hid (below_then HBx.out HBx.out.size hba)
  obtain ⟨Aa, ca, hva⟩ := Kd.R_slice hoa
  subst hva
  have HRa := Lib.hid hoa
  have HQa := Lib.hid hba
  clear hoa hba
  have x0_a : wa.cell? ⟨w.heap.size, 0, none⟩ = some (.int .i64 id) := (cell_of_row _ _ 0 _ _ _ BKa.out).trans rfl
  have x1_a : wa.cell? ⟨w.heap.size, 1, none⟩ = some (.int .i64 num) := (cell_of_row _ _ 1 _ _ _ BKa.out).trans rfl
  have x2_a : wa.cell? ⟨w.heap.size, 2, none⟩ = some (.string s) := (cell_of_row _ _ 2 _ _ _ BKa.out).trans rfl
  have x3_a : wa.cell? ⟨w.heap.size, 3, none⟩ = some (.string t) := (cell_of_row _ _ 3 _ _ _ BKa.out).trans rfl
  go_wp2_with (first | ((with_reducible refine gate_builtin (b := .append) (xs := #[.tmp 18, .tmp 19]) rfl ?_); at_builtin; go_must (refine Kd.R_append_row (Value.int .u8) 0 (h1 := fun _ => rfl) (w0 := w0) w0.heap.size rfl (.tmp 18) (.tmp 19) 35 5 (.int .u8 0) 1 rfl Tryd.underlying35 qinfo5 rfl (by omega) (.slice A0 l.length c0) l _ _ _ _ (fun _ => True) rfl rfl (fun _ _ => trivial) HOa.out (Kd.R_reads' HRa.out).2.2 HBa.out HBa.out.size (by have := HL.out; have := HLV.out; have := hsz.out; have := hsz2.out; (try simp only [List.length_append, List.length_cons, List.length_nil, bin_len]); omega) ?_); intro vb wb hob hbb hgb hatb; have BKb := Aside0.mk (blk_grown (g := w.heap.size) (o := (.cells #[.int .i64 id, .int .i64 num, .string s, .string t] 24 (0, 0))) (BKa.out) hgb (Kd.R_ne HOa.out (BKa.out) (by decide))); have HOb := Lib.hid hob; have HBb := Lib.hid hbb; clear hob hbb hgb hatb; have x0_b : wb.cell? ⟨w.heap.size, 0, none⟩ = some (.int .i64 id) := (cell_of_row _ _ 0 _ _ _ BKb.out).trans rfl; have x1_b : wb.cell? ⟨w.heap.size, 1, none⟩ = some (.int .i64 num) := (cell_of_row _ _ 1 _ _ _ BKb.out).trans rfl; have x2_b : wb.cell? ⟨w.heap.size, 2, none⟩ = some (.string s) := (cell_of_row _ _ 2 _ _ _ BKb.out).trans rfl; have x3_b : wb.cell? ⟨w.heap.size, 3, none⟩ = some (.string t) := (cell_of_row _ _ 3 _ _ _ BKb.out).trans rfl))
  clear x0_a x1_a x2_a x3_a
  clear x0_b x1_b x2_b x3_b
  refine (C2.out _).mono ?_
  rintro e wc ⟨rfl, ⟨⟨nc, rfl⟩⟩⟩
  have BKc := Aside0.mk (show (wb.drewN nc).heap[w.heap.size]? = _ from BKb.out)
  have HOc := Lib.hid (show Kd.R (Kd.int .u8) 5 (wb.drewN nc) w0.heap.size (fun _ => True) vb (l ++ Dv.varPut id) from Kd.R_drewN HOb.out nc)
  have HBc := Lib.hid (pw_below_drewN HBb.out nc)
  have x0_c : (wb.drewN nc).cell? ⟨w.heap.size, 0, none⟩ = some (.int .i64 id) := (cell_of_row _ _ 0 _ _ _ BKc.out).trans rfl
  have x1_c : (wb.drewN nc).cell? ⟨w.heap.size, 1, none⟩ = some (.int .i64 num) := (cell_of_row _ _ 1 _ _ _ BKc.out).trans rfl
  have x2_c : (wb.drewN nc).cell? ⟨w.heap.size, 2, none⟩ = some (.string s) := (cell_of_row _ _ 2 _ _ _ BKc.out).trans rfl
  have x3_c : (wb.drewN nc).cell? ⟨w.heap.size, 3, none⟩ = some (.string t) := (cell_of_row _ _ 3 _ _ _ BKc.out).trans rfl
  go_wp2_with fail
  refine (Put_ok t _ HV.out (Dv.GTab.below HT.out HBc.out)).mono ?_
  rintro e wd ⟨vd, rfl, hod, hbd⟩
  have BKd := Aside0.mk ((hbd.block w.heap.size (Array.getElem?_eq_some_iff.1 BKc.out).1).trans BKc.out)
  have HOd := Lib.hid (Kd.R_below HOc.out hbd)
  have HBd := Lib.hid (below_then HBc.out HBc.out.size hbd)
  obtain ⟨Ad, cd, hvd⟩ := Kd.R_slice hod
  subst hvd
  have HRd := Lib.hid hod
  have HQd := Lib.hid hbd
  clear hod hbd
  have x0_d : wd.cell? ⟨w.heap.size, 0, none⟩ = some (.int .i64 id) := (cell_of_row _ _ 0 _ _ _ BKd.out).trans rfl
  have x1_d : wd.cell? ⟨w.heap.size, 1, none⟩ = some (.int .i64 num) := (cell_of_row _ _ 1 _ _ _ BKd.out).trans rfl
  have x2_d : wd.cell? ⟨w.heap.size, 2, none⟩ = some (.string s) := (cell_of_row _ _ 2 _ _ _ BKd.out).trans rfl
  have x3_d : wd.cell? ⟨w.heap.size, 3, none⟩ = some (.string t) := (cell_of_row _ _ 3 _ _ _ BKd.out).trans rfl
  go_wp2_with fail
  have LTb := own_lt (Kd.own_of_R HOd.out)
  refine (PutBin_ok s _ hsz.out).mono ?_
  rintro e we ⟨ve, rfl, hoe, hbe⟩
  have BKe := Aside0.mk ((hbe.block w.heap.size (Array.getElem?_eq_some_iff.1 BKd.out).1).trans BKd.out)
  have HOe := Lib.hid (Kd.R_below HOd.out hbe)
  have HBe := Lib.hid (below_then HBd.out HBd.out.size hbe)
  obtain ⟨Ae, ce, hve⟩ := Kd.R_slice hoe
  subst hve
  have HRe := Lib.hid hoe
  have HQe := Lib.hid hbe
  clear hoe hbe
  have x0_e : we.cell? ⟨w.heap.size, 0, none⟩ = some (.int .i64 id) := (cell_of_row _ _ 0 _ _ _ BKe.out).trans rfl
  have x1_e : we.cell? ⟨w.heap.size, 1, none⟩ = some (.int .i64 num) := (cell_of_row _ _ 1 _ _ _ BKe.out).trans rfl
  have x2_e : we.cell? ⟨w.heap.size, 2, none⟩ = some (.string s) := (cell_of_row _ _ 2 _ _ _ BKe.out).trans rfl
  have x3_e : we.cell? ⟨w.heap.size, 3, none⟩ = some (.string t) := (cell_of_row _ _ 3 _ _ _ BKe.out).trans rfl
  have HXd := Lib.hid (Kd.C_below (Kd.R_reads' HRd.out).2.2 HQe.out)
  have GEe := own_base (Kd.own_of_R HRe.out)
  have HRl := Lib.hid (Kd.R_lower HRe.out (Nat.le_trans HBd.out.size (Nat.le_refl _)))
  go_wp2_with (first | ((with_reducible refine gate_builtin (b := .append) (xs := #[.tmp 83, .tmp 84]) rfl ?_); at_builtin; go_must (refine Kd.R_append_row (Value.int .u8) 0 (h1 := fun _ => rfl) (w0 := w0) w0.heap.size rfl (.tmp 83) (.tmp 84) 35 5 (.int .u8 0) 1 rfl Tryd.underlying35 qinfo5 rfl (by omega) (.slice Ae (bin s).length ce) (bin s) _ _ _ _ (fun _ => True) rfl rfl (fun _ _ => trivial) HRl.out (HXd.out) HBe.out HBe.out.size (by have := HL.out; have := HLV.out; have := hsz.out; have := hsz2.out; (try simp only [List.length_append, List.length_cons, List.length_nil, bin_len]); omega) ?_); intro vf wf hof hbf hgf hatf; obtain ⟨Af, cf, hvf⟩ := Kd.R_slice hof; subst hvf; have hxf := (Kd.R_reads' hof).2.2; rw [List.length_append] at hxf; have HXf := Lib.hid hxf; clear hxf; have HOf := Lib.hid (buf_apart HOe.out hgf (fun k h1 h2 => by have := LTb k h1; have := GEe k h2; omega)); have HBf := Lib.hid hbf; clear hof hbf hgf hatf) | ((with_reducible refine gate_builtin (b := .append) (xs := #[.tmp 86, .tmp 87]) rfl ?_); at_builtin; go_must (refine Kd.R_append_row (Value.int .u8) 0 (h1 := fun _ => rfl) (w0 := w0) w0.heap.size rfl (.tmp 86) (.tmp 87) 35 5 (.int .u8 0) 1 rfl Tryd.underlying35 qinfo5 rfl (by omega) vb (l ++ Dv.varPut id) _ _ _ _ (fun _ => True) rfl rfl (fun _ _ => trivial) HOf.out HXf.out HBf.out HBf.out.size (by have := HL.out; have := HLV.out; have := hsz.out; have := hsz2.out; (try simp only [List.length_append, List.length_cons, List.length_nil, bin_len]); omega) ?_); intro vz wz hoz hbz hgz hatz; have HOz := Lib.hid hoz; have HBz := Lib.hid hbz; clear hoz hbz hgz hatz))
  go_ret
  refine ⟨_, rfl, ?_, HBz.out⟩
  rw [hfin.out, ← (show ((l ++ Dv.varPut id) ++ (bin s ++ bin t)) = l ++ (Dv.varPut id ++ tailP 8 num s t) by simp [tailP])]
  exact HOz.out
theorem prop_lay (w0 w : World) (v : Value) (l : List Int) (id num : Int) (s t : ByteArray) (hp : may id num s t = true) (HO : Kd.R (Kd.int .u8) 5 w w0.heap.size (fun _ => True) v l) (HB : Below w0.heap.size w0 w) (hl : l.length ≤ 1000000000) (hT : Dv.GTab w0) :
    Calls Tryd.prog 27 #[v, .agg #[.int .i64 id, .int .i64 num, .string s, .string t]] w fun e w' => ∃ v', e = .returned v' ∧ Kd.R (Kd.int .u8) 5 w' w0.heap.size (fun _ => True) v' (l ++ putP id num s t) ∧ Below w0.heap.size w0 w' := by
  rcases kinds_of id with h | h | h | h | h | h | h | h
  · exact lay1 w0 w v l id num s t h hp HO HB hl hT
  · exact lay2 w0 w v l id num s t h hp HO HB hl hT
  · exact lay4 w0 w v l id num s t h hp HO HB hl hT
  · exact lay5 w0 w v l id num s t h hp HO HB hl hT
  · exact lay6 w0 w v l id num s t h hp HO HB hl hT
  · exact lay7 w0 w v l id num s t h hp HO HB hl hT
  · exact lay8 w0 w v l id num s t h hp HO HB hl hT
  · exfalso; unfold may at hp; rw [h] at hp; simp at hp
end Go.Proofs.YtondmmoabmhpfaaDoor.Q

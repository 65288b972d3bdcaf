import Derived.Test.YtaenlmjllmcamaaDoorKDvE3
namespace Dv
open Go Go.RowKit Go.Proofs Go.Extern.Stop Go.Stop Go.Extern
def GErr (w : World) : Prop := w.cell? ⟨0, 0, none⟩ = some (.iface 133 (.agg #[.pointer (some ⟨4, 33, none⟩)]))
theorem GErr.below {w W : World} (h : GErr w) (hb : Below w.heap.size w W) : GErr W := (hb.cell (World.block_lt_of_cell? w _ h)).trans h
theorem grown_after_below {w a b : World} {row : Option Nat} (h : Below w.heap.size w a) (k : a.grownBy b row) : w.grownBy b row :=
  ⟨k.os.trans h.os, k.tape.trans h.tape, k.output.trans h.output, Nat.le_trans h.size k.size, fun i hi hn => (k.block i (Nat.lt_of_lt_of_le hi h.size) hn).trans (h.block i hi)⟩
set_option maxRecDepth 100000 in
set_option maxHeartbeats 4000000 in
theorem As_any (d : Nat) (v : Value) (n old : Int) (tb : Nat) (w : World) (hG : GErr w) (hv : ErrV w d v n) (ht : w.heap[tb]? = some (.cells #[.int .i64 old] 77 (0, 0))) :
    Calls Tryd.prog 56 #[v, .iface 103 (.pointer (some ⟨tb, 0, none⟩))] w fun e w' => e = .returned (.bool true) ∧ w.grownBy w' (some tb) ∧ w'.heap[tb]? = some (.cells #[.int .i64 n] 77 (0, 0)) := by
  have h252 := @run_callFunc_extern Tryd.prog 75 _ (fun args => ReflectliteValue.unpack (args.getD 0 (.tuple #[]))) Tryd.func75 (by kernel_rfl) (by kernel_rfl) (by kernel_rfl) (by kernel_rfl)
  have h253 := @run_callFunc_extern Tryd.prog 76 _ (ReflectliteValue.methodAny (ReflectliteValue.valueError "reflectlite.Value.Type" 0) (fun t _ _ _ => ReflectliteType.toType t)) Tryd.func76 (by kernel_rfl) (by kernel_rfl) (by kernel_rfl) (by kernel_rfl)
  have h254 := @run_callFunc_extern Tryd.prog 77 _ (ReflectliteValue.method (ReflectliteValue.valueError "reflectlite.Value.IsNil" 0) ReflectliteValue.isNil) Tryd.func77 (by kernel_rfl) (by kernel_rfl) (by kernel_rfl) (by kernel_rfl)
  have h420 := @run_callFunc_extern Tryd.prog 121 _ (ReflectliteType.abiMethod fun t => do pure (.int .u8 (← Rtype.kind t))) Tryd.func121 (by kernel_rfl) (by kernel_rfl) (by kernel_rfl) (by kernel_rfl)
  have h433 := @run_callFunc_extern Tryd.prog 133 _ (ReflectliteType.method ReflectliteType.elem) Tryd.func133 (by kernel_rfl) (by kernel_rfl) (by kernel_rfl) (by kernel_rfl)
  have h434 := @run_callFunc_extern Tryd.prog 134 _ (ReflectliteType.relation "Implements" ReflectliteType.implements_) Tryd.func134 (by kernel_rfl) (by kernel_rfl) (by kernel_rfl) (by kernel_rfl)
  have f6 := valueOf250
  have f7 := type250
  have mK := methodKind
  have mE := methodElem
  have mI := methodImplements
  have k250 := kind250
  have k144 := kind144
  have e250 := elem250
  have i144 := implements144
  have n8 := isNil250 ⟨w.heap.size, 0, none⟩ ⟨tb, 0, none⟩ ((w.alloc (.cells #[.pointer (some ⟨tb, 0, none⟩)] 103)).alloc (.cells #[.pointer (some ⟨4, 103, none⟩), .pointer (some ⟨w.heap.size, 0, none⟩), .int .u64 150] 124)) (by simp)
  have hlt : 0 < w.heap.size := World.block_lt_of_cell? w ⟨0, 0, none⟩ hG
  have hg2 : ((w.alloc (.cells #[.pointer (some ⟨tb, 0, none⟩)] 103)).alloc (.cells #[.pointer (some ⟨4, 103, none⟩), .pointer (some ⟨w.heap.size, 0, none⟩), .int .u64 150] 124)).cell? ⟨0, 0, none⟩ = some (.iface 133 (.agg #[.pointer (some ⟨4, 33, none⟩)])) := by
    rw [World.cell?_alloc_lt _ _ ⟨0, 0, none⟩ (by simp), World.cell?_alloc_lt _ _ ⟨0, 0, none⟩ hlt]; exact hG
  have htl : tb < w.heap.size := (Array.getElem?_eq_some_iff.1 ht).1
  have hb1 : Below w.heap.size w ((w.alloc (.cells #[.pointer (some ⟨tb, 0, none⟩)] 103)).alloc (.cells #[.pointer (some ⟨4, 103, none⟩), .pointer (some ⟨w.heap.size, 0, none⟩), .int .u64 150] 124)) := ((Below.refl _ _).alloc (Nat.le_refl _) _).alloc (by simp) _
  have C := as_any d v n old tb ⟨w.heap.size, 0, none⟩ ((w.alloc (.cells #[.pointer (some ⟨tb, 0, none⟩)] 103)).alloc (.cells #[.pointer (some ⟨4, 103, none⟩), .pointer (some ⟨w.heap.size, 0, none⟩), .int .u64 150] 124)) (ErrV.below hb1 d hv) (by simp) ((hb1.block tb htl).trans ht)
  have CC := Lib.hid C
  clear C
  obtain ⟨t, x, rfl⟩ := hv.form
  have HB := Lib.hid hb1
  clear hb1 ht hv hG
  go_enter Tryd.func56, Tryd.ntmps56
  go_wp2_with fail
  refine CC.out.mono ?_
  rintro e w' ⟨rfl, hg, hc⟩
  have HG := Lib.hid (grown_after_below HB.out hg)
  have HC := Lib.hid hc
  clear hg hc
  go_wp2
  go_ret
  exact ⟨rfl, HG.out, HC.out⟩

def Err (W : World) (v : Value) (n : Int) : Prop := (v = .nilIface ∧ n = 0) ∨ (1 ≤ n ∧ n ≤ 9 ∧ ∃ d, ErrV W d v n)
theorem Num_any (v : Value) (n : Int) (w : World) (hG : GErr w) (hv : Err w v n) :
    Calls Tryd.prog 38 #[v] w fun e w' => e = .returned (.int .i64 n) ∧ Below w.heap.size w w' := by
  rcases hv with ⟨rfl, rfl⟩ | ⟨h1, h2, d, hd⟩
  · go_enter Tryd.func38, Tryd.ntmps38
    go_wp2
    go_ret
    exact ⟨rfl, Below.refl _ _⟩
  · obtain ⟨t, x, rfl⟩ := hd.form
    have hb := (Below.refl w.heap.size w).alloc (Nat.le_refl _) (.cells #[.int .i64 0] 77)
    have C := As_any d (.iface t x) n 0 w.heap.size (w.alloc (.cells #[.int .i64 0] 77)) (GErr.below hG hb) (ErrV.below hb d hd) (heap_alloc_new w _)
    have CC := Lib.hid C
    have HB := Lib.hid hb
    clear C hd hG hb
    go_enter Tryd.func38, Tryd.ntmps38
    go_wp2_with fail
    refine CC.out.mono ?_
    rintro e w' ⟨rfl, hg, hc⟩
    have hcell : w'.cell? ⟨w.heap.size, 0, none⟩ = some (.int .i64 n) := (cell_of_row _ _ 0 _ _ _ hc).trans rfl
    have HG := Lib.hid hg
    clear hg hc
    go_wp2
    go_ret
    exact ⟨rfl, HB.out.grown HG.out (Nat.le_of_lt (by simp)) (by simp)⟩
end Dv

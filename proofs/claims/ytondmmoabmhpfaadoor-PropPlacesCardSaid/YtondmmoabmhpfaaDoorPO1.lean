import Derived.Test.YtondmmoabmhpfaaDoorPV2
import Derived.Test.YtondmmoabmhpfaaDoorPP6
import Derived.Deep.DeepMust
import Derived.Outline
import Derived.Test.YtondmmoabmhpfaaDoorPDvInv
set_option linter.unusedVariables false
set_option linter.unusedSimpArgs false
namespace Go.Proofs.YtondmmoabmhpfaaDoor.Q
open Go.RowKit Go.Proofs.YtondmmoabmhpfaaDoorW.PrintWords Go.Proofs.YtondmmoabmhpfaaDoorW.PrintLast Go.Proofs.YtondmmoabmhpfaaDoorW.PrintMore
theorem chkOne {G : Nat} {p : S24} (l : List S24) (pl : Int) (w : World) (hr : Kd.C k24 w (some ⟨G, 0, none⟩) 1 [p]) (hsz : ∀ p ∈ l, p.f2.size ≤ 140737488351232 ∧ p.f3.size ≤ 140737488351232) (hT : Dv.GTab w) (e : l = [p] := by rfl) :
    Calls Tryd.prog 9 #[.slice (some ⟨G, 0, none⟩) 1 1, .int .i64 pl] w fun e w' => ∃ v, e = .returned v ∧ Dv.Err w' v (chk3 l pl) ∧ Below w.heap.size w w' := by subst e; exact prop_Check (some ⟨G, 0, none⟩) 1 [p] pl w hr hsz hT
theorem chkTwo {G : Nat} {p q : S24} (l : List S24) (pl : Int) (w : World) (hr : Kd.C k24 w (some ⟨G, 0, none⟩) 2 [p, q]) (hsz : ∀ p ∈ l, p.f2.size ≤ 140737488351232 ∧ p.f3.size ≤ 140737488351232) (hT : Dv.GTab w) (e : l = [p, q] := by rfl) :
    Calls Tryd.prog 9 #[.slice (some ⟨G, 0, none⟩) 2 2, .int .i64 pl] w fun e w' => ∃ v, e = .returned v ∧ Dv.Err w' v (chk3 l pl) ∧ Below w.heap.size w w' := by subst e; exact prop_Check (some ⟨G, 0, none⟩) 2 [p, q] pl w hr hsz hT
theorem refOne {G : Nat} {p : S24} (l : List S24) (pl : Int) (w : World) (hr : Kd.C k24 w (some ⟨G, 0, none⟩) 1 [p]) (hsz : ∀ p ∈ l, p.f2.size ≤ 140737488351232 ∧ p.f3.size ≤ 140737488351232) (e : l = [p] := by rfl) :
    Calls Tryd.prog 10 #[.slice (some ⟨G, 0, none⟩) 1 1, .int .i64 pl] w fun e w' => e = .returned (.int .i64 (chk3 l pl)) ∧ Below w.heap.size w w' := by subst e; exact dovecoteref3_Check.calls _ (some ⟨G, 0, none⟩) 1 [p] pl _ w hr (Nat.le_refl _) (Check3_f [p] pl (by simp) hsz)
theorem refTwo {G : Nat} {p q : S24} (l : List S24) (pl : Int) (w : World) (hr : Kd.C k24 w (some ⟨G, 0, none⟩) 2 [p, q]) (hsz : ∀ p ∈ l, p.f2.size ≤ 140737488351232 ∧ p.f3.size ≤ 140737488351232) (e : l = [p, q] := by rfl) :
    Calls Tryd.prog 10 #[.slice (some ⟨G, 0, none⟩) 2 2, .int .i64 pl] w fun e w' => e = .returned (.int .i64 (chk3 l pl)) ∧ Below w.heap.size w w' := by subst e; exact dovecoteref3_Check.calls _ (some ⟨G, 0, none⟩) 2 [p, q] pl _ w hr (Nat.le_refl _) (Check3_f [p, q] pl (by simp) hsz)
theorem keepS {wr W : World} {g : Nat} {k n : Int} (y : wr.heap[g]? = some (.cells #[.int .i64 k, .int .i64 n, .string ⟨#[]⟩, .string ⟨#[]⟩] 24 (0, 0))) (hb : Below wr.heap.size wr W) : Below wr.heap.size wr W ∧ (W.cell? ⟨g, 0, none⟩ = some (.int .i64 k) ∧ W.cell? ⟨g, 1, none⟩ = some (.int .i64 n) ∧ W.cell? ⟨g, 2, none⟩ = some (.string ⟨#[]⟩) ∧ W.cell? ⟨g, 3, none⟩ = some (.string ⟨#[]⟩)) := by
  have h := (hb.block g (Array.getElem?_eq_some_iff.1 y).1).trans y
  exact ⟨hb, (cell_of_row _ _ 0 _ _ _ h).trans rfl, (cell_of_row _ _ 1 _ _ _ h).trans rfl, (cell_of_row _ _ 2 _ _ _ h).trans rfl, (cell_of_row _ _ 3 _ _ _ h).trans rfl⟩
theorem drew_refl (w : World) : Below w.heap.size w w.drew := Drawn0.below ⟨⟨1, rfl⟩⟩
theorem pl_sz {n : Nat} {k : Int} (l : List S24) (h : ∀ p ∈ l, p.f2 = ⟨#[]⟩ ∧ p.f3 = ⟨#[]⟩) (h2 : True) : ∀ p ∈ l, p.f2.size ≤ 140737488351232 ∧ p.f3.size ≤ 140737488351232 := fun p hp => by
  obtain ⟨a, b⟩ := h p hp
  rw [a, b]; exact ⟨by decide, by decide⟩
def PF (k n m r1 r2 : Int) : Nat → Value → World → Prop
  | 0, v, _ | 5, v, _ | 11, v, _ | 12, v, _ | 17, v, _ | 18, v, _ => v = .agg #[.int .i64 k, .int .i64 n, .string ⟨#[]⟩, .string ⟨#[]⟩]
  | 1, v, w | 6, v, w => ∃ G, v = .slice (some ⟨G, 0, none⟩) 1 1 ∧ w.heap[G]? = some (.cells #[.int .i64 k, .int .i64 n, .string ⟨#[]⟩, .string ⟨#[]⟩] 24 (0, 0))
  | 13, v, w | 19, v, w => ∃ G, v = .slice (some ⟨G, 0, none⟩) 2 2 ∧ w.heap[G]? = some (.cells #[.int .i64 k, .int .i64 n, .string ⟨#[]⟩, .string ⟨#[]⟩, .int .i64 k, .int .i64 n, .string ⟨#[]⟩, .string ⟨#[]⟩] 24 (0, 0))
  | 2, v, _ | 7, v, _ | 14, v, _ | 20, v, _ => v = .int .i64 m
  | 3, v, w => Dv.Err w v r1
  | 15, v, w => Dv.Err w v r2
  | 4, v, _ | 8, v, _ => v = .int .i64 r1
  | 16, v, _ | 21, v, _ => v = .int .i64 r2
  | 9, v, _ | 10, v, _ | 22, v, _ | 23, v, _ => v = .bool false
  | _, _, _ => True
theorem PF_mono {k n m r1 r2 : Int} {w W : World} (hb : Below w.heap.size w W) : ∀ j, j < 24 → ∀ v, PF k n m r1 r2 j v w → PF k n m r1 r2 j v W := by
  intro j hj v h
  have hrow : ∀ (G : Nat) (o : Obj), w.heap[G]? = some o → W.heap[G]? = some o := fun G o h => (hb.block G (Array.getElem?_eq_some_iff.1 h).1).trans h
  rcases (by omega : j = 0 ∨ j = 1 ∨ j = 2 ∨ j = 3 ∨ j = 4 ∨ j = 5 ∨ j = 6 ∨ j = 7 ∨ j = 8 ∨ j = 9 ∨ j = 10 ∨ j = 11 ∨ j = 12 ∨ j = 13 ∨ j = 14 ∨ j = 15 ∨ j = 16 ∨ j = 17 ∨ j = 18 ∨ j = 19 ∨ j = 20 ∨ j = 21 ∨ j = 22 ∨ j = 23) with rfl | rfl | rfl | rfl | rfl | rfl | rfl | rfl | rfl | rfl | rfl | rfl | rfl | rfl | rfl | rfl | rfl | rfl | rfl | rfl | rfl | rfl | rfl | rfl
  all_goals first
    | exact h
    | exact Dv.Err.below h hb
    | (obtain ⟨G, h1, h2⟩ := h; exact ⟨G, h1, hrow G _ h2⟩)
noncomputable def ops11 : Array Oper := #[{ dst := some 22, op := .load 24 (.tmp 5), type := 24, pos := "more.go:16", after := #[], guard := none }, { dst := some 23, op := .buildSlice 29 1 #[(0, .tmp 22)], type := 29, pos := "more.go:16", after := #[{ on := 0, ground := .data }], guard := none }, { dst := some 24, op := .move (.tmp 6), type := 3, pos := "more.go:16", after := #[], guard := none }, { dst := some 25, op := .call { callee := .value (.func 9), args := #[.tmp 23, .tmp 24], argTypes := #[29, 3] }, type := 27, pos := "more.go:16", after := #[{ on := 1, ground := .data }, { on := 2, ground := .data }], guard := none }, { dst := some 26, op := .call { callee := .value (.func 8), args := #[.tmp 25], argTypes := #[27] }, type := 3, pos := "more.go:16", after := #[{ on := 3, ground := .data }, { on := 3, ground := .chain }], guard := none }, { dst := some 27, op := .load 24 (.tmp 5), type := 24, pos := "more.go:16", after := #[], guard := none }, { dst := some 28, op := .buildSlice 29 1 #[(0, .tmp 27)], type := 29, pos := "more.go:16", after := #[{ on := 5, ground := .data }], guard := none }, { dst := some 29, op := .move (.tmp 6), type := 3, pos := "more.go:16", after := #[], guard := none }, { dst := some 30, op := .call { callee := .value (.func 10), args := #[.tmp 28, .tmp 29], argTypes := #[29, 3] }, type := 3, pos := "more.go:16", after := #[{ on := 6, ground := .data }, { on := 7, ground := .data }, { on := 4, ground := .chain }], guard := none }, { dst := some 31, op := .binOp .neq 3 (.tmp 26) (.tmp 30) 3, type := 4, pos := "more.go:16", after := #[{ on := 4, ground := .data }, { on := 8, ground := .data }], guard := none }, { dst := some 32, op := .move (.tmp 31), type := 4, pos := "more.go:16", after := #[{ on := 9, ground := .data }, { on := 8, ground := .chain }], guard := none }, { dst := some 33, op := .load 24 (.tmp 5), type := 24, pos := "more.go:16", after := #[{ on := 10, ground := .guard }], guard := some (10, false) }, { dst := some 34, op := .load 24 (.tmp 5), type := 24, pos := "more.go:16", after := #[{ on := 10, ground := .guard }], guard := some (10, false) }, { dst := some 35, op := .buildSlice 29 2 #[(0, .tmp 33), (1, .tmp 34)], type := 29, pos := "more.go:16", after := #[{ on := 11, ground := .data }, { on := 12, ground := .data }, { on := 10, ground := .guard }], guard := some (10, false) }, { dst := some 36, op := .move (.tmp 6), type := 3, pos := "more.go:16", after := #[{ on := 10, ground := .guard }], guard := some (10, false) }, { dst := some 37, op := .call { callee := .value (.func 9), args := #[.tmp 35, .tmp 36], argTypes := #[29, 3] }, type := 27, pos := "more.go:16", after := #[{ on := 13, ground := .data }, { on := 14, ground := .data }, { on := 10, ground := .chain }, { on := 10, ground := .guard }], guard := some (10, false) }, { dst := some 38, op := .call { callee := .value (.func 8), args := #[.tmp 37], argTypes := #[27] }, type := 3, pos := "more.go:16", after := #[{ on := 15, ground := .data }, { on := 15, ground := .chain }, { on := 10, ground := .guard }], guard := some (10, false) }, { dst := some 39, op := .load 24 (.tmp 5), type := 24, pos := "more.go:16", after := #[{ on := 10, ground := .guard }], guard := some (10, false) }, { dst := some 40, op := .load 24 (.tmp 5), type := 24, pos := "more.go:16", after := #[{ on := 10, ground := .guard }], guard := some (10, false) }, { dst := some 41, op := .buildSlice 29 2 #[(0, .tmp 39), (1, .tmp 40)], type := 29, pos := "more.go:16", after := #[{ on := 17, ground := .data }, { on := 18, ground := .data }, { on := 10, ground := .guard }], guard := some (10, false) }, { dst := some 42, op := .move (.tmp 6), type := 3, pos := "more.go:16", after := #[{ on := 10, ground := .guard }], guard := some (10, false) }, { dst := some 43, op := .call { callee := .value (.func 10), args := #[.tmp 41, .tmp 42], argTypes := #[29, 3] }, type := 3, pos := "more.go:16", after := #[{ on := 19, ground := .data }, { on := 20, ground := .data }, { on := 16, ground := .chain }, { on := 10, ground := .guard }], guard := some (10, false) }, { dst := some 44, op := .binOp .neq 3 (.tmp 38) (.tmp 43) 3, type := 4, pos := "more.go:16", after := #[{ on := 16, ground := .data }, { on := 21, ground := .data }, { on := 10, ground := .guard }], guard := some (10, false) }, { dst := some 45, op := .pick (.tmp 32) (.const (.bool true)) (.tmp 44), type := 4, pos := "more.go:16", after := #[{ on := 10, ground := .data }, { on := 22, ground := .data }], guard := none }]
def PInv (W0 : World) (g : Nat) (k n m r1 r2 : Int) (u0 u1 u2 u3 u4 u7 u8 u9 u10 u11 u12 u13 u14 u15 u16 u17 u18 u19 u20 u21 u46 u47 u48 u49 u50 u51 : Value) (listed : Array Bool) (a : Act) (w : World) : Prop :=
  24 ≤ listed.size ∧ ∃ X : Nat → Value, a = ⟨#[u0, u1, u2, u3, u4, .pointer (some ⟨g, 0, none⟩), .int .i64 m, u7, u8, u9, u10, u11, u12, u13, u14, u15, u16, u17, u18, u19, u20, u21, X 0, X 1, X 2, X 3, X 4, X 5, X 6, X 7, X 8, X 9, X 10, X 11, X 12, X 13, X 14, X 15, X 16, X 17, X 18, X 19, X 20, X 21, X 22, X 23, u46, u47, u48, u49, u50, u51], []⟩ ∧ Below W0.heap.size W0 w ∧ ∀ j, j < 24 → listed.getD j false = true → PF k n m r1 r2 j (X j) w
theorem set_getD {l : Array Bool} {i j : Nat} (h : (l.setIfInBounds i true).getD j false = true) (hne : j ≠ i) : l.getD j false = true := by
  rw [Array.getD_eq_getD_getElem?, Array.getElem?_setIfInBounds_ne (Ne.symm hne)] at h
  rw [Array.getD_eq_getD_getElem?]; exact h
theorem PInv.step {W0 : World} {g : Nat} {k n m r1 r2 : Int} {u0 u1 u2 u3 u4 u7 u8 u9 u10 u11 u12 u13 u14 u15 u16 u17 u18 u19 u20 u21 u46 u47 u48 u49 u50 u51 : Value} {listed : Array Bool} {w w' : World} {X : Nat → Value} {i : Nat} {v : Value} (hs : 24 ≤ listed.size) (hB : Below W0.heap.size W0 w) (hF : ∀ j, j < 24 → listed.getD j false = true → PF k n m r1 r2 j (X j) w) (hb : Below w.heap.size w w') (hv : PF k n m r1 r2 i v w') (a : Act)
    (ha : a = ⟨#[u0, u1, u2, u3, u4, .pointer (some ⟨g, 0, none⟩), .int .i64 m, u7, u8, u9, u10, u11, u12, u13, u14, u15, u16, u17, u18, u19, u20, u21, (fun j => if j = i then v else X j) 0, (fun j => if j = i then v else X j) 1, (fun j => if j = i then v else X j) 2, (fun j => if j = i then v else X j) 3, (fun j => if j = i then v else X j) 4, (fun j => if j = i then v else X j) 5, (fun j => if j = i then v else X j) 6, (fun j => if j = i then v else X j) 7, (fun j => if j = i then v else X j) 8, (fun j => if j = i then v else X j) 9, (fun j => if j = i then v else X j) 10, (fun j => if j = i then v else X j) 11, (fun j => if j = i then v else X j) 12, (fun j => if j = i then v else X j) 13, (fun j => if j = i then v else X j) 14, (fun j => if j = i then v else X j) 15, (fun j => if j = i then v else X j) 16, (fun j => if j = i then v else X j) 17, (fun j => if j = i then v else X j) 18, (fun j => if j = i then v else X j) 19, (fun j => if j = i then v else X j) 20, (fun j => if j = i then v else X j) 21, (fun j => if j = i then v else X j) 22, (fun j => if j = i then v else X j) 23, u46, u47, u48, u49, u50, u51], []⟩) : PInv W0 g k n m r1 r2 u0 u1 u2 u3 u4 u7 u8 u9 u10 u11 u12 u13 u14 u15 u16 u17 u18 u19 u20 u21 u46 u47 u48 u49 u50 u51 (listed.setIfInBounds i true) a w' := by
  refine ⟨by simpa using hs, fun j => if j = i then v else X j, ha, hB.then_ hb, fun j hj hl => ?_⟩
  by_cases e : j = i
  · subst e; simpa using hv
  · simp only [e, if_false]
    exact PF_mono hb j hj _ (hF j hj (set_getD hl e))
set_option maxRecDepth 100000 in
theorem pl_case0 (Q : Exit → Act → World → Prop) (W0 : World) (g : Nat) (k n m : Int) (u0 u1 u2 u3 u4 u7 u8 u9 u10 u11 u12 u13 u14 u15 u16 u17 u18 u19 u20 u21 u46 u47 u48 u49 u50 u51 : Value) (hrow : W0.heap[g]? = some (.cells #[.int .i64 k, .int .i64 n, .string ⟨#[]⟩, .string ⟨#[]⟩] 24 (0, 0))) (hG : Dv.GErr W0) (hT : Dv.GTab W0) (listed : Array Bool) (w : World) (X : Nat → Value) (hs : 24 ≤ listed.size) (hB : Below W0.heap.size W0 w) (hF : ∀ j, j < 24 → listed.getD j false = true → PF k n m (chk3 [(⟨k, n, ⟨#[]⟩, ⟨#[]⟩⟩ : S24)] m) (chk3 [(⟨k, n, ⟨#[]⟩, ⟨#[]⟩⟩ : S24), (⟨k, n, ⟨#[]⟩, ⟨#[]⟩⟩ : S24)] m) j (X j) w) :
    wpOp Tryd.prog ops11 Q 0 (fun a' w' => PInv W0 g k n m (chk3 [(⟨k, n, ⟨#[]⟩, ⟨#[]⟩⟩ : S24)] m) (chk3 [(⟨k, n, ⟨#[]⟩, ⟨#[]⟩⟩ : S24), (⟨k, n, ⟨#[]⟩, ⟨#[]⟩⟩ : S24)] m) u0 u1 u2 u3 u4 u7 u8 u9 u10 u11 u12 u13 u14 u15 u16 u17 u18 u19 u20 u21 u46 u47 u48 u49 u50 u51 (listed.setIfInBounds 0 true) a' w') ⟨#[u0, u1, u2, u3, u4, .pointer (some ⟨g, 0, none⟩), .int .i64 m, u7, u8, u9, u10, u11, u12, u13, u14, u15, u16, u17, u18, u19, u20, u21, X 0, X 1, X 2, X 3, X 4, X 5, X 6, X 7, X 8, X 9, X 10, X 11, X 12, X 13, X 14, X 15, X 16, X 17, X 18, X 19, X 20, X 21, X 22, X 23, u46, u47, u48, u49, u50, u51], []⟩ w := by
  have hW := keepS hrow hB
  obtain ⟨_, x0, x1, x2, x3⟩ := hW
  refine wpOp_step (o := { dst := some 22, op := .load 24 (.tmp 5), type := 24, pos := "more.go:16", after := #[], guard := none }) rfl (fun K hK => ?_)
  go_simp
  exact hK _ _ (PInv.step (i := 0) hs hB hF (Below.refl _ _) rfl _ rfl)
set_option maxRecDepth 100000 in
theorem pl_case1 (Q : Exit → Act → World → Prop) (W0 : World) (g : Nat) (k n m : Int) (u0 u1 u2 u3 u4 u7 u8 u9 u10 u11 u12 u13 u14 u15 u16 u17 u18 u19 u20 u21 u46 u47 u48 u49 u50 u51 : Value) (hrow : W0.heap[g]? = some (.cells #[.int .i64 k, .int .i64 n, .string ⟨#[]⟩, .string ⟨#[]⟩] 24 (0, 0))) (hG : Dv.GErr W0) (hT : Dv.GTab W0) (listed : Array Bool) (w : World) (X : Nat → Value) (hs : 24 ≤ listed.size) (hB : Below W0.heap.size W0 w) (hF : ∀ j, j < 24 → listed.getD j false = true → PF k n m (chk3 [(⟨k, n, ⟨#[]⟩, ⟨#[]⟩⟩ : S24)] m) (chk3 [(⟨k, n, ⟨#[]⟩, ⟨#[]⟩⟩ : S24), (⟨k, n, ⟨#[]⟩, ⟨#[]⟩⟩ : S24)] m) j (X j) w) (l0 : listed.getD 0 false = true) :
    wpOp Tryd.prog ops11 Q 1 (fun a' w' => PInv W0 g k n m (chk3 [(⟨k, n, ⟨#[]⟩, ⟨#[]⟩⟩ : S24)] m) (chk3 [(⟨k, n, ⟨#[]⟩, ⟨#[]⟩⟩ : S24), (⟨k, n, ⟨#[]⟩, ⟨#[]⟩⟩ : S24)] m) u0 u1 u2 u3 u4 u7 u8 u9 u10 u11 u12 u13 u14 u15 u16 u17 u18 u19 u20 u21 u46 u47 u48 u49 u50 u51 (listed.setIfInBounds 1 true) a' w') ⟨#[u0, u1, u2, u3, u4, .pointer (some ⟨g, 0, none⟩), .int .i64 m, u7, u8, u9, u10, u11, u12, u13, u14, u15, u16, u17, u18, u19, u20, u21, X 0, X 1, X 2, X 3, X 4, X 5, X 6, X 7, X 8, X 9, X 10, X 11, X 12, X 13, X 14, X 15, X 16, X 17, X 18, X 19, X 20, X 21, X 22, X 23, u46, u47, u48, u49, u50, u51], []⟩ w := by
  have e0 := hF 0 (by decide) l0
  simp only [PF] at e0
  refine wpOp_step (o := { dst := some 23, op := .buildSlice 29 1 #[(0, .tmp 22)], type := 29, pos := "more.go:16", after := #[{ on := 0, ground := .data }], guard := none }) rfl (fun K hK => ?_)
  try simp only [e0]
  go_simp
  exact hK _ _ (PInv.step (i := 1) hs hB hF (below_alloc (Below.refl _ _) _) ⟨_, rfl, heap_alloc_new _ _⟩ _ (by first | rfl | (simp [e0]; done)))
set_option maxRecDepth 100000 in
theorem pl_case2 (Q : Exit → Act → World → Prop) (W0 : World) (g : Nat) (k n m : Int) (u0 u1 u2 u3 u4 u7 u8 u9 u10 u11 u12 u13 u14 u15 u16 u17 u18 u19 u20 u21 u46 u47 u48 u49 u50 u51 : Value) (hrow : W0.heap[g]? = some (.cells #[.int .i64 k, .int .i64 n, .string ⟨#[]⟩, .string ⟨#[]⟩] 24 (0, 0))) (hG : Dv.GErr W0) (hT : Dv.GTab W0) (listed : Array Bool) (w : World) (X : Nat → Value) (hs : 24 ≤ listed.size) (hB : Below W0.heap.size W0 w) (hF : ∀ j, j < 24 → listed.getD j false = true → PF k n m (chk3 [(⟨k, n, ⟨#[]⟩, ⟨#[]⟩⟩ : S24)] m) (chk3 [(⟨k, n, ⟨#[]⟩, ⟨#[]⟩⟩ : S24), (⟨k, n, ⟨#[]⟩, ⟨#[]⟩⟩ : S24)] m) j (X j) w) :
    wpOp Tryd.prog ops11 Q 2 (fun a' w' => PInv W0 g k n m (chk3 [(⟨k, n, ⟨#[]⟩, ⟨#[]⟩⟩ : S24)] m) (chk3 [(⟨k, n, ⟨#[]⟩, ⟨#[]⟩⟩ : S24), (⟨k, n, ⟨#[]⟩, ⟨#[]⟩⟩ : S24)] m) u0 u1 u2 u3 u4 u7 u8 u9 u10 u11 u12 u13 u14 u15 u16 u17 u18 u19 u20 u21 u46 u47 u48 u49 u50 u51 (listed.setIfInBounds 2 true) a' w') ⟨#[u0, u1, u2, u3, u4, .pointer (some ⟨g, 0, none⟩), .int .i64 m, u7, u8, u9, u10, u11, u12, u13, u14, u15, u16, u17, u18, u19, u20, u21, X 0, X 1, X 2, X 3, X 4, X 5, X 6, X 7, X 8, X 9, X 10, X 11, X 12, X 13, X 14, X 15, X 16, X 17, X 18, X 19, X 20, X 21, X 22, X 23, u46, u47, u48, u49, u50, u51], []⟩ w := by
  refine wpOp_step (o := { dst := some 24, op := .move (.tmp 6), type := 3, pos := "more.go:16", after := #[], guard := none }) rfl (fun K hK => ?_)
  go_simp
  exact hK _ _ (PInv.step (i := 2) hs hB hF (Below.refl _ _) rfl _ rfl)
set_option maxRecDepth 100000 in
theorem pl_case3 (Q : Exit → Act → World → Prop) (W0 : World) (g : Nat) (k n m : Int) (u0 u1 u2 u3 u4 u7 u8 u9 u10 u11 u12 u13 u14 u15 u16 u17 u18 u19 u20 u21 u46 u47 u48 u49 u50 u51 : Value) (hrow : W0.heap[g]? = some (.cells #[.int .i64 k, .int .i64 n, .string ⟨#[]⟩, .string ⟨#[]⟩] 24 (0, 0))) (hG : Dv.GErr W0) (hT : Dv.GTab W0) (listed : Array Bool) (w : World) (X : Nat → Value) (hs : 24 ≤ listed.size) (hB : Below W0.heap.size W0 w) (hF : ∀ j, j < 24 → listed.getD j false = true → PF k n m (chk3 [(⟨k, n, ⟨#[]⟩, ⟨#[]⟩⟩ : S24)] m) (chk3 [(⟨k, n, ⟨#[]⟩, ⟨#[]⟩⟩ : S24), (⟨k, n, ⟨#[]⟩, ⟨#[]⟩⟩ : S24)] m) j (X j) w) (l1 : listed.getD 1 false = true) (l2 : listed.getD 2 false = true) :
    wpOp Tryd.prog ops11 Q 3 (fun a' w' => PInv W0 g k n m (chk3 [(⟨k, n, ⟨#[]⟩, ⟨#[]⟩⟩ : S24)] m) (chk3 [(⟨k, n, ⟨#[]⟩, ⟨#[]⟩⟩ : S24), (⟨k, n, ⟨#[]⟩, ⟨#[]⟩⟩ : S24)] m) u0 u1 u2 u3 u4 u7 u8 u9 u10 u11 u12 u13 u14 u15 u16 u17 u18 u19 u20 u21 u46 u47 u48 u49 u50 u51 (listed.setIfInBounds 3 true) a' w') ⟨#[u0, u1, u2, u3, u4, .pointer (some ⟨g, 0, none⟩), .int .i64 m, u7, u8, u9, u10, u11, u12, u13, u14, u15, u16, u17, u18, u19, u20, u21, X 0, X 1, X 2, X 3, X 4, X 5, X 6, X 7, X 8, X 9, X 10, X 11, X 12, X 13, X 14, X 15, X 16, X 17, X 18, X 19, X 20, X 21, X 22, X 23, u46, u47, u48, u49, u50, u51], []⟩ w := by
  obtain ⟨G1, e1, h1⟩ := hF 1 (by decide) l1
  have e2 := hF 2 (by decide) l2
  simp only [PF] at e2
  refine wpOp_step (o := { dst := some 25, op := .call { callee := .value (.func 9), args := #[.tmp 23, .tmp 24], argTypes := #[29, 3] }, type := 27, pos := "more.go:16", after := #[{ on := 1, ground := .data }, { on := 2, ground := .data }], guard := none }) rfl (fun K hK => ?_)
  try simp only [e1, e2]
  go_simp
  go_at_call 9
  refine (chkOne [(⟨k, n, ⟨#[]⟩, ⟨#[]⟩⟩ : S24)] m _ (C_prop1 (⟨k, n, ⟨#[]⟩, ⟨#[]⟩⟩ : S24) h1) (pl_sz (n := 0) (k := 0) _ (by simp) trivial) (hT.below hB)).mono ?_
  rintro e w1 ⟨v, rfl, he, hb⟩
  exact hK _ _ (PInv.step (i := 3) (v := v) hs hB hF hb he _ (by first | rfl | (simp [e1, e2]; done)))
set_option maxRecDepth 100000 in
theorem pl_case4 (Q : Exit → Act → World → Prop) (W0 : World) (g : Nat) (k n m : Int) (u0 u1 u2 u3 u4 u7 u8 u9 u10 u11 u12 u13 u14 u15 u16 u17 u18 u19 u20 u21 u46 u47 u48 u49 u50 u51 : Value) (hrow : W0.heap[g]? = some (.cells #[.int .i64 k, .int .i64 n, .string ⟨#[]⟩, .string ⟨#[]⟩] 24 (0, 0))) (hG : Dv.GErr W0) (hT : Dv.GTab W0) (listed : Array Bool) (w : World) (X : Nat → Value) (hs : 24 ≤ listed.size) (hB : Below W0.heap.size W0 w) (hF : ∀ j, j < 24 → listed.getD j false = true → PF k n m (chk3 [(⟨k, n, ⟨#[]⟩, ⟨#[]⟩⟩ : S24)] m) (chk3 [(⟨k, n, ⟨#[]⟩, ⟨#[]⟩⟩ : S24), (⟨k, n, ⟨#[]⟩, ⟨#[]⟩⟩ : S24)] m) j (X j) w) (l3 : listed.getD 3 false = true) :
    wpOp Tryd.prog ops11 Q 4 (fun a' w' => PInv W0 g k n m (chk3 [(⟨k, n, ⟨#[]⟩, ⟨#[]⟩⟩ : S24)] m) (chk3 [(⟨k, n, ⟨#[]⟩, ⟨#[]⟩⟩ : S24), (⟨k, n, ⟨#[]⟩, ⟨#[]⟩⟩ : S24)] m) u0 u1 u2 u3 u4 u7 u8 u9 u10 u11 u12 u13 u14 u15 u16 u17 u18 u19 u20 u21 u46 u47 u48 u49 u50 u51 (listed.setIfInBounds 4 true) a' w') ⟨#[u0, u1, u2, u3, u4, .pointer (some ⟨g, 0, none⟩), .int .i64 m, u7, u8, u9, u10, u11, u12, u13, u14, u15, u16, u17, u18, u19, u20, u21, X 0, X 1, X 2, X 3, X 4, X 5, X 6, X 7, X 8, X 9, X 10, X 11, X 12, X 13, X 14, X 15, X 16, X 17, X 18, X 19, X 20, X 21, X 22, X 23, u46, u47, u48, u49, u50, u51], []⟩ w := by
  have h3 := hF 3 (by decide) l3
  refine wpOp_step (o := { dst := some 26, op := .call { callee := .value (.func 8), args := #[.tmp 25], argTypes := #[27] }, type := 3, pos := "more.go:16", after := #[{ on := 3, ground := .data }, { on := 3, ground := .chain }], guard := none }) rfl (fun K hK => ?_)
  go_simp
  go_at_call 8
  refine (num3 _ _ _ (hG.below hB) h3).mono ?_
  rintro e w1 ⟨rfl, hb⟩
  exact hK _ _ (PInv.step (i := 4) hs hB hF hb rfl _ rfl)
set_option maxRecDepth 100000 in
theorem pl_case5 (Q : Exit → Act → World → Prop) (W0 : World) (g : Nat) (k n m : Int) (u0 u1 u2 u3 u4 u7 u8 u9 u10 u11 u12 u13 u14 u15 u16 u17 u18 u19 u20 u21 u46 u47 u48 u49 u50 u51 : Value) (hrow : W0.heap[g]? = some (.cells #[.int .i64 k, .int .i64 n, .string ⟨#[]⟩, .string ⟨#[]⟩] 24 (0, 0))) (hG : Dv.GErr W0) (hT : Dv.GTab W0) (listed : Array Bool) (w : World) (X : Nat → Value) (hs : 24 ≤ listed.size) (hB : Below W0.heap.size W0 w) (hF : ∀ j, j < 24 → listed.getD j false = true → PF k n m (chk3 [(⟨k, n, ⟨#[]⟩, ⟨#[]⟩⟩ : S24)] m) (chk3 [(⟨k, n, ⟨#[]⟩, ⟨#[]⟩⟩ : S24), (⟨k, n, ⟨#[]⟩, ⟨#[]⟩⟩ : S24)] m) j (X j) w) :
    wpOp Tryd.prog ops11 Q 5 (fun a' w' => PInv W0 g k n m (chk3 [(⟨k, n, ⟨#[]⟩, ⟨#[]⟩⟩ : S24)] m) (chk3 [(⟨k, n, ⟨#[]⟩, ⟨#[]⟩⟩ : S24), (⟨k, n, ⟨#[]⟩, ⟨#[]⟩⟩ : S24)] m) u0 u1 u2 u3 u4 u7 u8 u9 u10 u11 u12 u13 u14 u15 u16 u17 u18 u19 u20 u21 u46 u47 u48 u49 u50 u51 (listed.setIfInBounds 5 true) a' w') ⟨#[u0, u1, u2, u3, u4, .pointer (some ⟨g, 0, none⟩), .int .i64 m, u7, u8, u9, u10, u11, u12, u13, u14, u15, u16, u17, u18, u19, u20, u21, X 0, X 1, X 2, X 3, X 4, X 5, X 6, X 7, X 8, X 9, X 10, X 11, X 12, X 13, X 14, X 15, X 16, X 17, X 18, X 19, X 20, X 21, X 22, X 23, u46, u47, u48, u49, u50, u51], []⟩ w := by
  have hW := keepS hrow hB
  obtain ⟨_, x0, x1, x2, x3⟩ := hW
  refine wpOp_step (o := { dst := some 27, op := .load 24 (.tmp 5), type := 24, pos := "more.go:16", after := #[], guard := none }) rfl (fun K hK => ?_)
  go_simp
  exact hK _ _ (PInv.step (i := 5) hs hB hF (Below.refl _ _) rfl _ rfl)
set_option maxRecDepth 100000 in
theorem pl_case6 (Q : Exit → Act → World → Prop) (W0 : World) (g : Nat) (k n m : Int) (u0 u1 u2 u3 u4 u7 u8 u9 u10 u11 u12 u13 u14 u15 u16 u17 u18 u19 u20 u21 u46 u47 u48 u49 u50 u51 : Value) (hrow : W0.heap[g]? = some (.cells #[.int .i64 k, .int .i64 n, .string ⟨#[]⟩, .string ⟨#[]⟩] 24 (0, 0))) (hG : Dv.GErr W0) (hT : Dv.GTab W0) (listed : Array Bool) (w : World) (X : Nat → Value) (hs : 24 ≤ listed.size) (hB : Below W0.heap.size W0 w) (hF : ∀ j, j < 24 → listed.getD j false = true → PF k n m (chk3 [(⟨k, n, ⟨#[]⟩, ⟨#[]⟩⟩ : S24)] m) (chk3 [(⟨k, n, ⟨#[]⟩, ⟨#[]⟩⟩ : S24), (⟨k, n, ⟨#[]⟩, ⟨#[]⟩⟩ : S24)] m) j (X j) w) (l5 : listed.getD 5 false = true) :
    wpOp Tryd.prog ops11 Q 6 (fun a' w' => PInv W0 g k n m (chk3 [(⟨k, n, ⟨#[]⟩, ⟨#[]⟩⟩ : S24)] m) (chk3 [(⟨k, n, ⟨#[]⟩, ⟨#[]⟩⟩ : S24), (⟨k, n, ⟨#[]⟩, ⟨#[]⟩⟩ : S24)] m) u0 u1 u2 u3 u4 u7 u8 u9 u10 u11 u12 u13 u14 u15 u16 u17 u18 u19 u20 u21 u46 u47 u48 u49 u50 u51 (listed.setIfInBounds 6 true) a' w') ⟨#[u0, u1, u2, u3, u4, .pointer (some ⟨g, 0, none⟩), .int .i64 m, u7, u8, u9, u10, u11, u12, u13, u14, u15, u16, u17, u18, u19, u20, u21, X 0, X 1, X 2, X 3, X 4, X 5, X 6, X 7, X 8, X 9, X 10, X 11, X 12, X 13, X 14, X 15, X 16, X 17, X 18, X 19, X 20, X 21, X 22, X 23, u46, u47, u48, u49, u50, u51], []⟩ w := by
  have e5 := hF 5 (by decide) l5
  simp only [PF] at e5
  refine wpOp_step (o := { dst := some 28, op := .buildSlice 29 1 #[(0, .tmp 27)], type := 29, pos := "more.go:16", after := #[{ on := 5, ground := .data }], guard := none }) rfl (fun K hK => ?_)
  try simp only [e5]
  go_simp
  exact hK _ _ (PInv.step (i := 6) hs hB hF (below_alloc (Below.refl _ _) _) ⟨_, rfl, heap_alloc_new _ _⟩ _ (by first | rfl | (simp [e5]; done)))
set_option maxRecDepth 100000 in
theorem pl_case7 (Q : Exit → Act → World → Prop) (W0 : World) (g : Nat) (k n m : Int) (u0 u1 u2 u3 u4 u7 u8 u9 u10 u11 u12 u13 u14 u15 u16 u17 u18 u19 u20 u21 u46 u47 u48 u49 u50 u51 : Value) (hrow : W0.heap[g]? = some (.cells #[.int .i64 k, .int .i64 n, .string ⟨#[]⟩, .string ⟨#[]⟩] 24 (0, 0))) (hG : Dv.GErr W0) (hT : Dv.GTab W0) (listed : Array Bool) (w : World) (X : Nat → Value) (hs : 24 ≤ listed.size) (hB : Below W0.heap.size W0 w) (hF : ∀ j, j < 24 → listed.getD j false = true → PF k n m (chk3 [(⟨k, n, ⟨#[]⟩, ⟨#[]⟩⟩ : S24)] m) (chk3 [(⟨k, n, ⟨#[]⟩, ⟨#[]⟩⟩ : S24), (⟨k, n, ⟨#[]⟩, ⟨#[]⟩⟩ : S24)] m) j (X j) w) :
    wpOp Tryd.prog ops11 Q 7 (fun a' w' => PInv W0 g k n m (chk3 [(⟨k, n, ⟨#[]⟩, ⟨#[]⟩⟩ : S24)] m) (chk3 [(⟨k, n, ⟨#[]⟩, ⟨#[]⟩⟩ : S24), (⟨k, n, ⟨#[]⟩, ⟨#[]⟩⟩ : S24)] m) u0 u1 u2 u3 u4 u7 u8 u9 u10 u11 u12 u13 u14 u15 u16 u17 u18 u19 u20 u21 u46 u47 u48 u49 u50 u51 (listed.setIfInBounds 7 true) a' w') ⟨#[u0, u1, u2, u3, u4, .pointer (some ⟨g, 0, none⟩), .int .i64 m, u7, u8, u9, u10, u11, u12, u13, u14, u15, u16, u17, u18, u19, u20, u21, X 0, X 1, X 2, X 3, X 4, X 5, X 6, X 7, X 8, X 9, X 10, X 11, X 12, X 13, X 14, X 15, X 16, X 17, X 18, X 19, X 20, X 21, X 22, X 23, u46, u47, u48, u49, u50, u51], []⟩ w := by
  refine wpOp_step (o := { dst := some 29, op := .move (.tmp 6), type := 3, pos := "more.go:16", after := #[], guard := none }) rfl (fun K hK => ?_)
  go_simp
  exact hK _ _ (PInv.step (i := 7) hs hB hF (Below.refl _ _) rfl _ rfl)
set_option maxRecDepth 100000 in
theorem pl_case8 (Q : Exit → Act → World → Prop) (W0 : World) (g : Nat) (k n m : Int) (u0 u1 u2 u3 u4 u7 u8 u9 u10 u11 u12 u13 u14 u15 u16 u17 u18 u19 u20 u21 u46 u47 u48 u49 u50 u51 : Value) (hrow : W0.heap[g]? = some (.cells #[.int .i64 k, .int .i64 n, .string ⟨#[]⟩, .string ⟨#[]⟩] 24 (0, 0))) (hG : Dv.GErr W0) (hT : Dv.GTab W0) (listed : Array Bool) (w : World) (X : Nat → Value) (hs : 24 ≤ listed.size) (hB : Below W0.heap.size W0 w) (hF : ∀ j, j < 24 → listed.getD j false = true → PF k n m (chk3 [(⟨k, n, ⟨#[]⟩, ⟨#[]⟩⟩ : S24)] m) (chk3 [(⟨k, n, ⟨#[]⟩, ⟨#[]⟩⟩ : S24), (⟨k, n, ⟨#[]⟩, ⟨#[]⟩⟩ : S24)] m) j (X j) w) (l4 : listed.getD 4 false = true) (l6 : listed.getD 6 false = true) (l7 : listed.getD 7 false = true) :
    wpOp Tryd.prog ops11 Q 8 (fun a' w' => PInv W0 g k n m (chk3 [(⟨k, n, ⟨#[]⟩, ⟨#[]⟩⟩ : S24)] m) (chk3 [(⟨k, n, ⟨#[]⟩, ⟨#[]⟩⟩ : S24), (⟨k, n, ⟨#[]⟩, ⟨#[]⟩⟩ : S24)] m) u0 u1 u2 u3 u4 u7 u8 u9 u10 u11 u12 u13 u14 u15 u16 u17 u18 u19 u20 u21 u46 u47 u48 u49 u50 u51 (listed.setIfInBounds 8 true) a' w') ⟨#[u0, u1, u2, u3, u4, .pointer (some ⟨g, 0, none⟩), .int .i64 m, u7, u8, u9, u10, u11, u12, u13, u14, u15, u16, u17, u18, u19, u20, u21, X 0, X 1, X 2, X 3, X 4, X 5, X 6, X 7, X 8, X 9, X 10, X 11, X 12, X 13, X 14, X 15, X 16, X 17, X 18, X 19, X 20, X 21, X 22, X 23, u46, u47, u48, u49, u50, u51], []⟩ w := by
  have e4 := hF 4 (by decide) l4
  obtain ⟨G6, e6, h6⟩ := hF 6 (by decide) l6
  have e7 := hF 7 (by decide) l7
  simp only [PF] at e4
  simp only [PF] at e7
  refine wpOp_step (o := { dst := some 30, op := .call { callee := .value (.func 10), args := #[.tmp 28, .tmp 29], argTypes := #[29, 3] }, type := 3, pos := "more.go:16", after := #[{ on := 6, ground := .data }, { on := 7, ground := .data }, { on := 4, ground := .chain }], guard := none }) rfl (fun K hK => ?_)
  try simp only [e4, e6, e7]
  go_simp
  go_at_call 10
  refine (refOne [(⟨k, n, ⟨#[]⟩, ⟨#[]⟩⟩ : S24)] m _ (C_prop1 (⟨k, n, ⟨#[]⟩, ⟨#[]⟩⟩ : S24) h6) (pl_sz (n := 0) (k := 0) _ (by simp) trivial)).mono ?_
  rintro e w1 ⟨rfl, hb⟩
  exact hK _ _ (PInv.step (i := 8) hs hB hF hb rfl _ (by first | rfl | (simp [e4, e6, e7]; done)))
set_option maxRecDepth 100000 in
theorem pl_case9 (Q : Exit → Act → World → Prop) (W0 : World) (g : Nat) (k n m : Int) (u0 u1 u2 u3 u4 u7 u8 u9 u10 u11 u12 u13 u14 u15 u16 u17 u18 u19 u20 u21 u46 u47 u48 u49 u50 u51 : Value) (hrow : W0.heap[g]? = some (.cells #[.int .i64 k, .int .i64 n, .string ⟨#[]⟩, .string ⟨#[]⟩] 24 (0, 0))) (hG : Dv.GErr W0) (hT : Dv.GTab W0) (listed : Array Bool) (w : World) (X : Nat → Value) (hs : 24 ≤ listed.size) (hB : Below W0.heap.size W0 w) (hF : ∀ j, j < 24 → listed.getD j false = true → PF k n m (chk3 [(⟨k, n, ⟨#[]⟩, ⟨#[]⟩⟩ : S24)] m) (chk3 [(⟨k, n, ⟨#[]⟩, ⟨#[]⟩⟩ : S24), (⟨k, n, ⟨#[]⟩, ⟨#[]⟩⟩ : S24)] m) j (X j) w) (l4 : listed.getD 4 false = true) (l8 : listed.getD 8 false = true) :
    wpOp Tryd.prog ops11 Q 9 (fun a' w' => PInv W0 g k n m (chk3 [(⟨k, n, ⟨#[]⟩, ⟨#[]⟩⟩ : S24)] m) (chk3 [(⟨k, n, ⟨#[]⟩, ⟨#[]⟩⟩ : S24), (⟨k, n, ⟨#[]⟩, ⟨#[]⟩⟩ : S24)] m) u0 u1 u2 u3 u4 u7 u8 u9 u10 u11 u12 u13 u14 u15 u16 u17 u18 u19 u20 u21 u46 u47 u48 u49 u50 u51 (listed.setIfInBounds 9 true) a' w') ⟨#[u0, u1, u2, u3, u4, .pointer (some ⟨g, 0, none⟩), .int .i64 m, u7, u8, u9, u10, u11, u12, u13, u14, u15, u16, u17, u18, u19, u20, u21, X 0, X 1, X 2, X 3, X 4, X 5, X 6, X 7, X 8, X 9, X 10, X 11, X 12, X 13, X 14, X 15, X 16, X 17, X 18, X 19, X 20, X 21, X 22, X 23, u46, u47, u48, u49, u50, u51], []⟩ w := by
  have e4 := hF 4 (by decide) l4
  have e8 := hF 8 (by decide) l8
  simp only [PF] at e4
  simp only [PF] at e8
  refine wpOp_step (o := { dst := some 31, op := .binOp .neq 3 (.tmp 26) (.tmp 30) 3, type := 4, pos := "more.go:16", after := #[{ on := 4, ground := .data }, { on := 8, ground := .data }], guard := none }) rfl (fun K hK => ?_)
  try simp only [e4, e8]
  go_simp
  exact hK _ _ (PInv.step (i := 9) hs hB hF (Below.refl _ _) rfl _ (by first | rfl | (simp [e4, e8]; done)))
set_option maxRecDepth 100000 in
theorem pl_case10 (Q : Exit → Act → World → Prop) (W0 : World) (g : Nat) (k n m : Int) (u0 u1 u2 u3 u4 u7 u8 u9 u10 u11 u12 u13 u14 u15 u16 u17 u18 u19 u20 u21 u46 u47 u48 u49 u50 u51 : Value) (hrow : W0.heap[g]? = some (.cells #[.int .i64 k, .int .i64 n, .string ⟨#[]⟩, .string ⟨#[]⟩] 24 (0, 0))) (hG : Dv.GErr W0) (hT : Dv.GTab W0) (listed : Array Bool) (w : World) (X : Nat → Value) (hs : 24 ≤ listed.size) (hB : Below W0.heap.size W0 w) (hF : ∀ j, j < 24 → listed.getD j false = true → PF k n m (chk3 [(⟨k, n, ⟨#[]⟩, ⟨#[]⟩⟩ : S24)] m) (chk3 [(⟨k, n, ⟨#[]⟩, ⟨#[]⟩⟩ : S24), (⟨k, n, ⟨#[]⟩, ⟨#[]⟩⟩ : S24)] m) j (X j) w) (l8 : listed.getD 8 false = true) (l9 : listed.getD 9 false = true) :
    wpOp Tryd.prog ops11 Q 10 (fun a' w' => PInv W0 g k n m (chk3 [(⟨k, n, ⟨#[]⟩, ⟨#[]⟩⟩ : S24)] m) (chk3 [(⟨k, n, ⟨#[]⟩, ⟨#[]⟩⟩ : S24), (⟨k, n, ⟨#[]⟩, ⟨#[]⟩⟩ : S24)] m) u0 u1 u2 u3 u4 u7 u8 u9 u10 u11 u12 u13 u14 u15 u16 u17 u18 u19 u20 u21 u46 u47 u48 u49 u50 u51 (listed.setIfInBounds 10 true) a' w') ⟨#[u0, u1, u2, u3, u4, .pointer (some ⟨g, 0, none⟩), .int .i64 m, u7, u8, u9, u10, u11, u12, u13, u14, u15, u16, u17, u18, u19, u20, u21, X 0, X 1, X 2, X 3, X 4, X 5, X 6, X 7, X 8, X 9, X 10, X 11, X 12, X 13, X 14, X 15, X 16, X 17, X 18, X 19, X 20, X 21, X 22, X 23, u46, u47, u48, u49, u50, u51], []⟩ w := by
  have e8 := hF 8 (by decide) l8
  have e9 := hF 9 (by decide) l9
  simp only [PF] at e8
  simp only [PF] at e9
  refine wpOp_step (o := { dst := some 32, op := .move (.tmp 31), type := 4, pos := "more.go:16", after := #[{ on := 9, ground := .data }, { on := 8, ground := .chain }], guard := none }) rfl (fun K hK => ?_)
  try simp only [e8, e9]
  go_simp
  exact hK _ _ (PInv.step (i := 10) hs hB hF (Below.refl _ _) rfl _ (by first | rfl | (simp [e8, e9]; done)))
set_option maxRecDepth 100000 in
theorem pl_case11 (Q : Exit → Act → World → Prop) (W0 : World) (g : Nat) (k n m : Int) (u0 u1 u2 u3 u4 u7 u8 u9 u10 u11 u12 u13 u14 u15 u16 u17 u18 u19 u20 u21 u46 u47 u48 u49 u50 u51 : Value) (hrow : W0.heap[g]? = some (.cells #[.int .i64 k, .int .i64 n, .string ⟨#[]⟩, .string ⟨#[]⟩] 24 (0, 0))) (hG : Dv.GErr W0) (hT : Dv.GTab W0) (listed : Array Bool) (w : World) (X : Nat → Value) (hs : 24 ≤ listed.size) (hB : Below W0.heap.size W0 w) (hF : ∀ j, j < 24 → listed.getD j false = true → PF k n m (chk3 [(⟨k, n, ⟨#[]⟩, ⟨#[]⟩⟩ : S24)] m) (chk3 [(⟨k, n, ⟨#[]⟩, ⟨#[]⟩⟩ : S24), (⟨k, n, ⟨#[]⟩, ⟨#[]⟩⟩ : S24)] m) j (X j) w) (l10 : listed.getD 10 false = true) :
    wpOp Tryd.prog ops11 Q 11 (fun a' w' => PInv W0 g k n m (chk3 [(⟨k, n, ⟨#[]⟩, ⟨#[]⟩⟩ : S24)] m) (chk3 [(⟨k, n, ⟨#[]⟩, ⟨#[]⟩⟩ : S24), (⟨k, n, ⟨#[]⟩, ⟨#[]⟩⟩ : S24)] m) u0 u1 u2 u3 u4 u7 u8 u9 u10 u11 u12 u13 u14 u15 u16 u17 u18 u19 u20 u21 u46 u47 u48 u49 u50 u51 (listed.setIfInBounds 11 true) a' w') ⟨#[u0, u1, u2, u3, u4, .pointer (some ⟨g, 0, none⟩), .int .i64 m, u7, u8, u9, u10, u11, u12, u13, u14, u15, u16, u17, u18, u19, u20, u21, X 0, X 1, X 2, X 3, X 4, X 5, X 6, X 7, X 8, X 9, X 10, X 11, X 12, X 13, X 14, X 15, X 16, X 17, X 18, X 19, X 20, X 21, X 22, X 23, u46, u47, u48, u49, u50, u51], []⟩ w := by
  have e10 := hF 10 (by decide) l10
  have hW := keepS hrow hB
  obtain ⟨_, x0, x1, x2, x3⟩ := hW
  simp only [PF] at e10
  refine wpOp_step (o := { dst := some 33, op := .load 24 (.tmp 5), type := 24, pos := "more.go:16", after := #[{ on := 10, ground := .guard }], guard := some (10, false) }) rfl (fun K hK => ?_)
  try simp only [e10]
  rw [if_pos (by rfl)]
  go_simp
  exact hK _ _ (PInv.step (i := 11) hs hB hF (Below.refl _ _) rfl _ (by first | rfl | (simp [e10]; done)))
set_option maxRecDepth 100000 in
theorem pl_case12 (Q : Exit → Act → World → Prop) (W0 : World) (g : Nat) (k n m : Int) (u0 u1 u2 u3 u4 u7 u8 u9 u10 u11 u12 u13 u14 u15 u16 u17 u18 u19 u20 u21 u46 u47 u48 u49 u50 u51 : Value) (hrow : W0.heap[g]? = some (.cells #[.int .i64 k, .int .i64 n, .string ⟨#[]⟩, .string ⟨#[]⟩] 24 (0, 0))) (hG : Dv.GErr W0) (hT : Dv.GTab W0) (listed : Array Bool) (w : World) (X : Nat → Value) (hs : 24 ≤ listed.size) (hB : Below W0.heap.size W0 w) (hF : ∀ j, j < 24 → listed.getD j false = true → PF k n m (chk3 [(⟨k, n, ⟨#[]⟩, ⟨#[]⟩⟩ : S24)] m) (chk3 [(⟨k, n, ⟨#[]⟩, ⟨#[]⟩⟩ : S24), (⟨k, n, ⟨#[]⟩, ⟨#[]⟩⟩ : S24)] m) j (X j) w) (l10 : listed.getD 10 false = true) :
    wpOp Tryd.prog ops11 Q 12 (fun a' w' => PInv W0 g k n m (chk3 [(⟨k, n, ⟨#[]⟩, ⟨#[]⟩⟩ : S24)] m) (chk3 [(⟨k, n, ⟨#[]⟩, ⟨#[]⟩⟩ : S24), (⟨k, n, ⟨#[]⟩, ⟨#[]⟩⟩ : S24)] m) u0 u1 u2 u3 u4 u7 u8 u9 u10 u11 u12 u13 u14 u15 u16 u17 u18 u19 u20 u21 u46 u47 u48 u49 u50 u51 (listed.setIfInBounds 12 true) a' w') ⟨#[u0, u1, u2, u3, u4, .pointer (some ⟨g, 0, none⟩), .int .i64 m, u7, u8, u9, u10, u11, u12, u13, u14, u15, u16, u17, u18, u19, u20, u21, X 0, X 1, X 2, X 3, X 4, X 5, X 6, X 7, X 8, X 9, X 10, X 11, X 12, X 13, X 14, X 15, X 16, X 17, X 18, X 19, X 20, X 21, X 22, X 23, u46, u47, u48, u49, u50, u51], []⟩ w := by
  have e10 := hF 10 (by decide) l10
  have hW := keepS hrow hB
  obtain ⟨_, x0, x1, x2, x3⟩ := hW
  simp only [PF] at e10
  refine wpOp_step (o := { dst := some 34, op := .load 24 (.tmp 5), type := 24, pos := "more.go:16", after := #[{ on := 10, ground := .guard }], guard := some (10, false) }) rfl (fun K hK => ?_)
  try simp only [e10]
  rw [if_pos (by rfl)]
  go_simp
  exact hK _ _ (PInv.step (i := 12) hs hB hF (Below.refl _ _) rfl _ (by first | rfl | (simp [e10]; done)))
set_option maxRecDepth 100000 in
theorem pl_case13 (Q : Exit → Act → World → Prop) (W0 : World) (g : Nat) (k n m : Int) (u0 u1 u2 u3 u4 u7 u8 u9 u10 u11 u12 u13 u14 u15 u16 u17 u18 u19 u20 u21 u46 u47 u48 u49 u50 u51 : Value) (hrow : W0.heap[g]? = some (.cells #[.int .i64 k, .int .i64 n, .string ⟨#[]⟩, .string ⟨#[]⟩] 24 (0, 0))) (hG : Dv.GErr W0) (hT : Dv.GTab W0) (listed : Array Bool) (w : World) (X : Nat → Value) (hs : 24 ≤ listed.size) (hB : Below W0.heap.size W0 w) (hF : ∀ j, j < 24 → listed.getD j false = true → PF k n m (chk3 [(⟨k, n, ⟨#[]⟩, ⟨#[]⟩⟩ : S24)] m) (chk3 [(⟨k, n, ⟨#[]⟩, ⟨#[]⟩⟩ : S24), (⟨k, n, ⟨#[]⟩, ⟨#[]⟩⟩ : S24)] m) j (X j) w) (l10 : listed.getD 10 false = true) (l11 : listed.getD 11 false = true) (l12 : listed.getD 12 false = true) :
    wpOp Tryd.prog ops11 Q 13 (fun a' w' => PInv W0 g k n m (chk3 [(⟨k, n, ⟨#[]⟩, ⟨#[]⟩⟩ : S24)] m) (chk3 [(⟨k, n, ⟨#[]⟩, ⟨#[]⟩⟩ : S24), (⟨k, n, ⟨#[]⟩, ⟨#[]⟩⟩ : S24)] m) u0 u1 u2 u3 u4 u7 u8 u9 u10 u11 u12 u13 u14 u15 u16 u17 u18 u19 u20 u21 u46 u47 u48 u49 u50 u51 (listed.setIfInBounds 13 true) a' w') ⟨#[u0, u1, u2, u3, u4, .pointer (some ⟨g, 0, none⟩), .int .i64 m, u7, u8, u9, u10, u11, u12, u13, u14, u15, u16, u17, u18, u19, u20, u21, X 0, X 1, X 2, X 3, X 4, X 5, X 6, X 7, X 8, X 9, X 10, X 11, X 12, X 13, X 14, X 15, X 16, X 17, X 18, X 19, X 20, X 21, X 22, X 23, u46, u47, u48, u49, u50, u51], []⟩ w := by
  have e10 := hF 10 (by decide) l10
  have e11 := hF 11 (by decide) l11
  have e12 := hF 12 (by decide) l12
  simp only [PF] at e10
  simp only [PF] at e11
  simp only [PF] at e12
  refine wpOp_step (o := { dst := some 35, op := .buildSlice 29 2 #[(0, .tmp 33), (1, .tmp 34)], type := 29, pos := "more.go:16", after := #[{ on := 11, ground := .data }, { on := 12, ground := .data }, { on := 10, ground := .guard }], guard := some (10, false) }) rfl (fun K hK => ?_)
  try simp only [e10, e11, e12]
  rw [if_pos (by rfl)]
  go_simp
  exact hK _ _ (PInv.step (i := 13) hs hB hF (below_alloc (Below.refl _ _) _) ⟨_, rfl, heap_alloc_new _ _⟩ _ (by first | rfl | (simp [e10, e11, e12]; done)))
set_option maxRecDepth 100000 in
theorem pl_case14 (Q : Exit → Act → World → Prop) (W0 : World) (g : Nat) (k n m : Int) (u0 u1 u2 u3 u4 u7 u8 u9 u10 u11 u12 u13 u14 u15 u16 u17 u18 u19 u20 u21 u46 u47 u48 u49 u50 u51 : Value) (hrow : W0.heap[g]? = some (.cells #[.int .i64 k, .int .i64 n, .string ⟨#[]⟩, .string ⟨#[]⟩] 24 (0, 0))) (hG : Dv.GErr W0) (hT : Dv.GTab W0) (listed : Array Bool) (w : World) (X : Nat → Value) (hs : 24 ≤ listed.size) (hB : Below W0.heap.size W0 w) (hF : ∀ j, j < 24 → listed.getD j false = true → PF k n m (chk3 [(⟨k, n, ⟨#[]⟩, ⟨#[]⟩⟩ : S24)] m) (chk3 [(⟨k, n, ⟨#[]⟩, ⟨#[]⟩⟩ : S24), (⟨k, n, ⟨#[]⟩, ⟨#[]⟩⟩ : S24)] m) j (X j) w) (l10 : listed.getD 10 false = true) :
    wpOp Tryd.prog ops11 Q 14 (fun a' w' => PInv W0 g k n m (chk3 [(⟨k, n, ⟨#[]⟩, ⟨#[]⟩⟩ : S24)] m) (chk3 [(⟨k, n, ⟨#[]⟩, ⟨#[]⟩⟩ : S24), (⟨k, n, ⟨#[]⟩, ⟨#[]⟩⟩ : S24)] m) u0 u1 u2 u3 u4 u7 u8 u9 u10 u11 u12 u13 u14 u15 u16 u17 u18 u19 u20 u21 u46 u47 u48 u49 u50 u51 (listed.setIfInBounds 14 true) a' w') ⟨#[u0, u1, u2, u3, u4, .pointer (some ⟨g, 0, none⟩), .int .i64 m, u7, u8, u9, u10, u11, u12, u13, u14, u15, u16, u17, u18, u19, u20, u21, X 0, X 1, X 2, X 3, X 4, X 5, X 6, X 7, X 8, X 9, X 10, X 11, X 12, X 13, X 14, X 15, X 16, X 17, X 18, X 19, X 20, X 21, X 22, X 23, u46, u47, u48, u49, u50, u51], []⟩ w := by
  have e10 := hF 10 (by decide) l10
  simp only [PF] at e10
  refine wpOp_step (o := { dst := some 36, op := .move (.tmp 6), type := 3, pos := "more.go:16", after := #[{ on := 10, ground := .guard }], guard := some (10, false) }) rfl (fun K hK => ?_)
  try simp only [e10]
  rw [if_pos (by rfl)]
  go_simp
  exact hK _ _ (PInv.step (i := 14) hs hB hF (Below.refl _ _) rfl _ (by first | rfl | (simp [e10]; done)))
set_option maxRecDepth 100000 in
theorem pl_case15 (Q : Exit → Act → World → Prop) (W0 : World) (g : Nat) (k n m : Int) (u0 u1 u2 u3 u4 u7 u8 u9 u10 u11 u12 u13 u14 u15 u16 u17 u18 u19 u20 u21 u46 u47 u48 u49 u50 u51 : Value) (hrow : W0.heap[g]? = some (.cells #[.int .i64 k, .int .i64 n, .string ⟨#[]⟩, .string ⟨#[]⟩] 24 (0, 0))) (hG : Dv.GErr W0) (hT : Dv.GTab W0) (listed : Array Bool) (w : World) (X : Nat → Value) (hs : 24 ≤ listed.size) (hB : Below W0.heap.size W0 w) (hF : ∀ j, j < 24 → listed.getD j false = true → PF k n m (chk3 [(⟨k, n, ⟨#[]⟩, ⟨#[]⟩⟩ : S24)] m) (chk3 [(⟨k, n, ⟨#[]⟩, ⟨#[]⟩⟩ : S24), (⟨k, n, ⟨#[]⟩, ⟨#[]⟩⟩ : S24)] m) j (X j) w) (l10 : listed.getD 10 false = true) (l13 : listed.getD 13 false = true) (l14 : listed.getD 14 false = true) :
    wpOp Tryd.prog ops11 Q 15 (fun a' w' => PInv W0 g k n m (chk3 [(⟨k, n, ⟨#[]⟩, ⟨#[]⟩⟩ : S24)] m) (chk3 [(⟨k, n, ⟨#[]⟩, ⟨#[]⟩⟩ : S24), (⟨k, n, ⟨#[]⟩, ⟨#[]⟩⟩ : S24)] m) u0 u1 u2 u3 u4 u7 u8 u9 u10 u11 u12 u13 u14 u15 u16 u17 u18 u19 u20 u21 u46 u47 u48 u49 u50 u51 (listed.setIfInBounds 15 true) a' w') ⟨#[u0, u1, u2, u3, u4, .pointer (some ⟨g, 0, none⟩), .int .i64 m, u7, u8, u9, u10, u11, u12, u13, u14, u15, u16, u17, u18, u19, u20, u21, X 0, X 1, X 2, X 3, X 4, X 5, X 6, X 7, X 8, X 9, X 10, X 11, X 12, X 13, X 14, X 15, X 16, X 17, X 18, X 19, X 20, X 21, X 22, X 23, u46, u47, u48, u49, u50, u51], []⟩ w := by
  have e10 := hF 10 (by decide) l10
  obtain ⟨G13, e13, h13⟩ := hF 13 (by decide) l13
  have e14 := hF 14 (by decide) l14
  simp only [PF] at e10
  simp only [PF] at e14
  refine wpOp_step (o := { dst := some 37, op := .call { callee := .value (.func 9), args := #[.tmp 35, .tmp 36], argTypes := #[29, 3] }, type := 27, pos := "more.go:16", after := #[{ on := 13, ground := .data }, { on := 14, ground := .data }, { on := 10, ground := .chain }, { on := 10, ground := .guard }], guard := some (10, false) }) rfl (fun K hK => ?_)
  try simp only [e10, e13, e14]
  rw [if_pos (by rfl)]
  go_simp
  go_at_call 9
  refine (chkTwo [(⟨k, n, ⟨#[]⟩, ⟨#[]⟩⟩ : S24), (⟨k, n, ⟨#[]⟩, ⟨#[]⟩⟩ : S24)] m _ (C_prop2 (⟨k, n, ⟨#[]⟩, ⟨#[]⟩⟩ : S24) (⟨k, n, ⟨#[]⟩, ⟨#[]⟩⟩ : S24) h13) (pl_sz (n := 0) (k := 0) _ (by simp) trivial) (hT.below hB)).mono ?_
  rintro e w1 ⟨v, rfl, he, hb⟩
  exact hK _ _ (PInv.step (i := 15) (v := v) hs hB hF hb he _ (by first | rfl | (simp [e10, e13, e14]; done)))
set_option maxRecDepth 100000 in
theorem pl_case16 (Q : Exit → Act → World → Prop) (W0 : World) (g : Nat) (k n m : Int) (u0 u1 u2 u3 u4 u7 u8 u9 u10 u11 u12 u13 u14 u15 u16 u17 u18 u19 u20 u21 u46 u47 u48 u49 u50 u51 : Value) (hrow : W0.heap[g]? = some (.cells #[.int .i64 k, .int .i64 n, .string ⟨#[]⟩, .string ⟨#[]⟩] 24 (0, 0))) (hG : Dv.GErr W0) (hT : Dv.GTab W0) (listed : Array Bool) (w : World) (X : Nat → Value) (hs : 24 ≤ listed.size) (hB : Below W0.heap.size W0 w) (hF : ∀ j, j < 24 → listed.getD j false = true → PF k n m (chk3 [(⟨k, n, ⟨#[]⟩, ⟨#[]⟩⟩ : S24)] m) (chk3 [(⟨k, n, ⟨#[]⟩, ⟨#[]⟩⟩ : S24), (⟨k, n, ⟨#[]⟩, ⟨#[]⟩⟩ : S24)] m) j (X j) w) (l10 : listed.getD 10 false = true) (l15 : listed.getD 15 false = true) :
    wpOp Tryd.prog ops11 Q 16 (fun a' w' => PInv W0 g k n m (chk3 [(⟨k, n, ⟨#[]⟩, ⟨#[]⟩⟩ : S24)] m) (chk3 [(⟨k, n, ⟨#[]⟩, ⟨#[]⟩⟩ : S24), (⟨k, n, ⟨#[]⟩, ⟨#[]⟩⟩ : S24)] m) u0 u1 u2 u3 u4 u7 u8 u9 u10 u11 u12 u13 u14 u15 u16 u17 u18 u19 u20 u21 u46 u47 u48 u49 u50 u51 (listed.setIfInBounds 16 true) a' w') ⟨#[u0, u1, u2, u3, u4, .pointer (some ⟨g, 0, none⟩), .int .i64 m, u7, u8, u9, u10, u11, u12, u13, u14, u15, u16, u17, u18, u19, u20, u21, X 0, X 1, X 2, X 3, X 4, X 5, X 6, X 7, X 8, X 9, X 10, X 11, X 12, X 13, X 14, X 15, X 16, X 17, X 18, X 19, X 20, X 21, X 22, X 23, u46, u47, u48, u49, u50, u51], []⟩ w := by
  have e10 := hF 10 (by decide) l10
  have h15 := hF 15 (by decide) l15
  simp only [PF] at e10
  refine wpOp_step (o := { dst := some 38, op := .call { callee := .value (.func 8), args := #[.tmp 37], argTypes := #[27] }, type := 3, pos := "more.go:16", after := #[{ on := 15, ground := .data }, { on := 15, ground := .chain }, { on := 10, ground := .guard }], guard := some (10, false) }) rfl (fun K hK => ?_)
  try simp only [e10]
  rw [if_pos (by rfl)]
  go_simp
  go_at_call 8
  refine (num3 _ _ _ (hG.below hB) h15).mono ?_
  rintro e w1 ⟨rfl, hb⟩
  exact hK _ _ (PInv.step (i := 16) hs hB hF hb rfl _ (by first | rfl | (simp [e10]; done)))
set_option maxRecDepth 100000 in
theorem pl_case17 (Q : Exit → Act → World → Prop) (W0 : World) (g : Nat) (k n m : Int) (u0 u1 u2 u3 u4 u7 u8 u9 u10 u11 u12 u13 u14 u15 u16 u17 u18 u19 u20 u21 u46 u47 u48 u49 u50 u51 : Value) (hrow : W0.heap[g]? = some (.cells #[.int .i64 k, .int .i64 n, .string ⟨#[]⟩, .string ⟨#[]⟩] 24 (0, 0))) (hG : Dv.GErr W0) (hT : Dv.GTab W0) (listed : Array Bool) (w : World) (X : Nat → Value) (hs : 24 ≤ listed.size) (hB : Below W0.heap.size W0 w) (hF : ∀ j, j < 24 → listed.getD j false = true → PF k n m (chk3 [(⟨k, n, ⟨#[]⟩, ⟨#[]⟩⟩ : S24)] m) (chk3 [(⟨k, n, ⟨#[]⟩, ⟨#[]⟩⟩ : S24), (⟨k, n, ⟨#[]⟩, ⟨#[]⟩⟩ : S24)] m) j (X j) w) (l10 : listed.getD 10 false = true) :
    wpOp Tryd.prog ops11 Q 17 (fun a' w' => PInv W0 g k n m (chk3 [(⟨k, n, ⟨#[]⟩, ⟨#[]⟩⟩ : S24)] m) (chk3 [(⟨k, n, ⟨#[]⟩, ⟨#[]⟩⟩ : S24), (⟨k, n, ⟨#[]⟩, ⟨#[]⟩⟩ : S24)] m) u0 u1 u2 u3 u4 u7 u8 u9 u10 u11 u12 u13 u14 u15 u16 u17 u18 u19 u20 u21 u46 u47 u48 u49 u50 u51 (listed.setIfInBounds 17 true) a' w') ⟨#[u0, u1, u2, u3, u4, .pointer (some ⟨g, 0, none⟩), .int .i64 m, u7, u8, u9, u10, u11, u12, u13, u14, u15, u16, u17, u18, u19, u20, u21, X 0, X 1, X 2, X 3, X 4, X 5, X 6, X 7, X 8, X 9, X 10, X 11, X 12, X 13, X 14, X 15, X 16, X 17, X 18, X 19, X 20, X 21, X 22, X 23, u46, u47, u48, u49, u50, u51], []⟩ w := by
  have e10 := hF 10 (by decide) l10
  have hW := keepS hrow hB
  obtain ⟨_, x0, x1, x2, x3⟩ := hW
  simp only [PF] at e10
  refine wpOp_step (o := { dst := some 39, op := .load 24 (.tmp 5), type := 24, pos := "more.go:16", after := #[{ on := 10, ground := .guard }], guard := some (10, false) }) rfl (fun K hK => ?_)
  try simp only [e10]
  rw [if_pos (by rfl)]
  go_simp
  exact hK _ _ (PInv.step (i := 17) hs hB hF (Below.refl _ _) rfl _ (by first | rfl | (simp [e10]; done)))
set_option maxRecDepth 100000 in
theorem pl_case18 (Q : Exit → Act → World → Prop) (W0 : World) (g : Nat) (k n m : Int) (u0 u1 u2 u3 u4 u7 u8 u9 u10 u11 u12 u13 u14 u15 u16 u17 u18 u19 u20 u21 u46 u47 u48 u49 u50 u51 : Value) (hrow : W0.heap[g]? = some (.cells #[.int .i64 k, .int .i64 n, .string ⟨#[]⟩, .string ⟨#[]⟩] 24 (0, 0))) (hG : Dv.GErr W0) (hT : Dv.GTab W0) (listed : Array Bool) (w : World) (X : Nat → Value) (hs : 24 ≤ listed.size) (hB : Below W0.heap.size W0 w) (hF : ∀ j, j < 24 → listed.getD j false = true → PF k n m (chk3 [(⟨k, n, ⟨#[]⟩, ⟨#[]⟩⟩ : S24)] m) (chk3 [(⟨k, n, ⟨#[]⟩, ⟨#[]⟩⟩ : S24), (⟨k, n, ⟨#[]⟩, ⟨#[]⟩⟩ : S24)] m) j (X j) w) (l10 : listed.getD 10 false = true) :
    wpOp Tryd.prog ops11 Q 18 (fun a' w' => PInv W0 g k n m (chk3 [(⟨k, n, ⟨#[]⟩, ⟨#[]⟩⟩ : S24)] m) (chk3 [(⟨k, n, ⟨#[]⟩, ⟨#[]⟩⟩ : S24), (⟨k, n, ⟨#[]⟩, ⟨#[]⟩⟩ : S24)] m) u0 u1 u2 u3 u4 u7 u8 u9 u10 u11 u12 u13 u14 u15 u16 u17 u18 u19 u20 u21 u46 u47 u48 u49 u50 u51 (listed.setIfInBounds 18 true) a' w') ⟨#[u0, u1, u2, u3, u4, .pointer (some ⟨g, 0, none⟩), .int .i64 m, u7, u8, u9, u10, u11, u12, u13, u14, u15, u16, u17, u18, u19, u20, u21, X 0, X 1, X 2, X 3, X 4, X 5, X 6, X 7, X 8, X 9, X 10, X 11, X 12, X 13, X 14, X 15, X 16, X 17, X 18, X 19, X 20, X 21, X 22, X 23, u46, u47, u48, u49, u50, u51], []⟩ w := by
  have e10 := hF 10 (by decide) l10
  have hW := keepS hrow hB
  obtain ⟨_, x0, x1, x2, x3⟩ := hW
  simp only [PF] at e10
  refine wpOp_step (o := { dst := some 40, op := .load 24 (.tmp 5), type := 24, pos := "more.go:16", after := #[{ on := 10, ground := .guard }], guard := some (10, false) }) rfl (fun K hK => ?_)
  try simp only [e10]
  rw [if_pos (by rfl)]
  go_simp
  exact hK _ _ (PInv.step (i := 18) hs hB hF (Below.refl _ _) rfl _ (by first | rfl | (simp [e10]; done)))
set_option maxRecDepth 100000 in
theorem pl_case19 (Q : Exit → Act → World → Prop) (W0 : World) (g : Nat) (k n m : Int) (u0 u1 u2 u3 u4 u7 u8 u9 u10 u11 u12 u13 u14 u15 u16 u17 u18 u19 u20 u21 u46 u47 u48 u49 u50 u51 : Value) (hrow : W0.heap[g]? = some (.cells #[.int .i64 k, .int .i64 n, .string ⟨#[]⟩, .string ⟨#[]⟩] 24 (0, 0))) (hG : Dv.GErr W0) (hT : Dv.GTab W0) (listed : Array Bool) (w : World) (X : Nat → Value) (hs : 24 ≤ listed.size) (hB : Below W0.heap.size W0 w) (hF : ∀ j, j < 24 → listed.getD j false = true → PF k n m (chk3 [(⟨k, n, ⟨#[]⟩, ⟨#[]⟩⟩ : S24)] m) (chk3 [(⟨k, n, ⟨#[]⟩, ⟨#[]⟩⟩ : S24), (⟨k, n, ⟨#[]⟩, ⟨#[]⟩⟩ : S24)] m) j (X j) w) (l10 : listed.getD 10 false = true) (l17 : listed.getD 17 false = true) (l18 : listed.getD 18 false = true) :
    wpOp Tryd.prog ops11 Q 19 (fun a' w' => PInv W0 g k n m (chk3 [(⟨k, n, ⟨#[]⟩, ⟨#[]⟩⟩ : S24)] m) (chk3 [(⟨k, n, ⟨#[]⟩, ⟨#[]⟩⟩ : S24), (⟨k, n, ⟨#[]⟩, ⟨#[]⟩⟩ : S24)] m) u0 u1 u2 u3 u4 u7 u8 u9 u10 u11 u12 u13 u14 u15 u16 u17 u18 u19 u20 u21 u46 u47 u48 u49 u50 u51 (listed.setIfInBounds 19 true) a' w') ⟨#[u0, u1, u2, u3, u4, .pointer (some ⟨g, 0, none⟩), .int .i64 m, u7, u8, u9, u10, u11, u12, u13, u14, u15, u16, u17, u18, u19, u20, u21, X 0, X 1, X 2, X 3, X 4, X 5, X 6, X 7, X 8, X 9, X 10, X 11, X 12, X 13, X 14, X 15, X 16, X 17, X 18, X 19, X 20, X 21, X 22, X 23, u46, u47, u48, u49, u50, u51], []⟩ w := by
  have e10 := hF 10 (by decide) l10
  have e17 := hF 17 (by decide) l17
  have e18 := hF 18 (by decide) l18
  simp only [PF] at e10
  simp only [PF] at e17
  simp only [PF] at e18
  refine wpOp_step (o := { dst := some 41, op := .buildSlice 29 2 #[(0, .tmp 39), (1, .tmp 40)], type := 29, pos := "more.go:16", after := #[{ on := 17, ground := .data }, { on := 18, ground := .data }, { on := 10, ground := .guard }], guard := some (10, false) }) rfl (fun K hK => ?_)
  try simp only [e10, e17, e18]
  rw [if_pos (by rfl)]
  go_simp
  exact hK _ _ (PInv.step (i := 19) hs hB hF (below_alloc (Below.refl _ _) _) ⟨_, rfl, heap_alloc_new _ _⟩ _ (by first | rfl | (simp [e10, e17, e18]; done)))
set_option maxRecDepth 100000 in
theorem pl_case20 (Q : Exit → Act → World → Prop) (W0 : World) (g : Nat) (k n m : Int) (u0 u1 u2 u3 u4 u7 u8 u9 u10 u11 u12 u13 u14 u15 u16 u17 u18 u19 u20 u21 u46 u47 u48 u49 u50 u51 : Value) (hrow : W0.heap[g]? = some (.cells #[.int .i64 k, .int .i64 n, .string ⟨#[]⟩, .string ⟨#[]⟩] 24 (0, 0))) (hG : Dv.GErr W0) (hT : Dv.GTab W0) (listed : Array Bool) (w : World) (X : Nat → Value) (hs : 24 ≤ listed.size) (hB : Below W0.heap.size W0 w) (hF : ∀ j, j < 24 → listed.getD j false = true → PF k n m (chk3 [(⟨k, n, ⟨#[]⟩, ⟨#[]⟩⟩ : S24)] m) (chk3 [(⟨k, n, ⟨#[]⟩, ⟨#[]⟩⟩ : S24), (⟨k, n, ⟨#[]⟩, ⟨#[]⟩⟩ : S24)] m) j (X j) w) (l10 : listed.getD 10 false = true) :
    wpOp Tryd.prog ops11 Q 20 (fun a' w' => PInv W0 g k n m (chk3 [(⟨k, n, ⟨#[]⟩, ⟨#[]⟩⟩ : S24)] m) (chk3 [(⟨k, n, ⟨#[]⟩, ⟨#[]⟩⟩ : S24), (⟨k, n, ⟨#[]⟩, ⟨#[]⟩⟩ : S24)] m) u0 u1 u2 u3 u4 u7 u8 u9 u10 u11 u12 u13 u14 u15 u16 u17 u18 u19 u20 u21 u46 u47 u48 u49 u50 u51 (listed.setIfInBounds 20 true) a' w') ⟨#[u0, u1, u2, u3, u4, .pointer (some ⟨g, 0, none⟩), .int .i64 m, u7, u8, u9, u10, u11, u12, u13, u14, u15, u16, u17, u18, u19, u20, u21, X 0, X 1, X 2, X 3, X 4, X 5, X 6, X 7, X 8, X 9, X 10, X 11, X 12, X 13, X 14, X 15, X 16, X 17, X 18, X 19, X 20, X 21, X 22, X 23, u46, u47, u48, u49, u50, u51], []⟩ w := by
  have e10 := hF 10 (by decide) l10
  simp only [PF] at e10
  refine wpOp_step (o := { dst := some 42, op := .move (.tmp 6), type := 3, pos := "more.go:16", after := #[{ on := 10, ground := .guard }], guard := some (10, false) }) rfl (fun K hK => ?_)
  try simp only [e10]
  rw [if_pos (by rfl)]
  go_simp
  exact hK _ _ (PInv.step (i := 20) hs hB hF (Below.refl _ _) rfl _ (by first | rfl | (simp [e10]; done)))
set_option maxRecDepth 100000 in
theorem pl_case21 (Q : Exit → Act → World → Prop) (W0 : World) (g : Nat) (k n m : Int) (u0 u1 u2 u3 u4 u7 u8 u9 u10 u11 u12 u13 u14 u15 u16 u17 u18 u19 u20 u21 u46 u47 u48 u49 u50 u51 : Value) (hrow : W0.heap[g]? = some (.cells #[.int .i64 k, .int .i64 n, .string ⟨#[]⟩, .string ⟨#[]⟩] 24 (0, 0))) (hG : Dv.GErr W0) (hT : Dv.GTab W0) (listed : Array Bool) (w : World) (X : Nat → Value) (hs : 24 ≤ listed.size) (hB : Below W0.heap.size W0 w) (hF : ∀ j, j < 24 → listed.getD j false = true → PF k n m (chk3 [(⟨k, n, ⟨#[]⟩, ⟨#[]⟩⟩ : S24)] m) (chk3 [(⟨k, n, ⟨#[]⟩, ⟨#[]⟩⟩ : S24), (⟨k, n, ⟨#[]⟩, ⟨#[]⟩⟩ : S24)] m) j (X j) w) (l10 : listed.getD 10 false = true) (l16 : listed.getD 16 false = true) (l19 : listed.getD 19 false = true) (l20 : listed.getD 20 false = true) :
    wpOp Tryd.prog ops11 Q 21 (fun a' w' => PInv W0 g k n m (chk3 [(⟨k, n, ⟨#[]⟩, ⟨#[]⟩⟩ : S24)] m) (chk3 [(⟨k, n, ⟨#[]⟩, ⟨#[]⟩⟩ : S24), (⟨k, n, ⟨#[]⟩, ⟨#[]⟩⟩ : S24)] m) u0 u1 u2 u3 u4 u7 u8 u9 u10 u11 u12 u13 u14 u15 u16 u17 u18 u19 u20 u21 u46 u47 u48 u49 u50 u51 (listed.setIfInBounds 21 true) a' w') ⟨#[u0, u1, u2, u3, u4, .pointer (some ⟨g, 0, none⟩), .int .i64 m, u7, u8, u9, u10, u11, u12, u13, u14, u15, u16, u17, u18, u19, u20, u21, X 0, X 1, X 2, X 3, X 4, X 5, X 6, X 7, X 8, X 9, X 10, X 11, X 12, X 13, X 14, X 15, X 16, X 17, X 18, X 19, X 20, X 21, X 22, X 23, u46, u47, u48, u49, u50, u51], []⟩ w := by
  have e10 := hF 10 (by decide) l10
  have e16 := hF 16 (by decide) l16
  obtain ⟨G19, e19, h19⟩ := hF 19 (by decide) l19
  have e20 := hF 20 (by decide) l20
  simp only [PF] at e10
  simp only [PF] at e16
  simp only [PF] at e20
  refine wpOp_step (o := { dst := some 43, op := .call { callee := .value (.func 10), args := #[.tmp 41, .tmp 42], argTypes := #[29, 3] }, type := 3, pos := "more.go:16", after := #[{ on := 19, ground := .data }, { on := 20, ground := .data }, { on := 16, ground := .chain }, { on := 10, ground := .guard }], guard := some (10, false) }) rfl (fun K hK => ?_)
  try simp only [e10, e16, e19, e20]
  rw [if_pos (by rfl)]
  go_simp
  go_at_call 10
  refine (refTwo [(⟨k, n, ⟨#[]⟩, ⟨#[]⟩⟩ : S24), (⟨k, n, ⟨#[]⟩, ⟨#[]⟩⟩ : S24)] m _ (C_prop2 (⟨k, n, ⟨#[]⟩, ⟨#[]⟩⟩ : S24) (⟨k, n, ⟨#[]⟩, ⟨#[]⟩⟩ : S24) h19) (pl_sz (n := 0) (k := 0) _ (by simp) trivial)).mono ?_
  rintro e w1 ⟨rfl, hb⟩
  exact hK _ _ (PInv.step (i := 21) hs hB hF hb rfl _ (by first | rfl | (simp [e10, e16, e19, e20]; done)))
set_option maxRecDepth 100000 in
theorem pl_case22 (Q : Exit → Act → World → Prop) (W0 : World) (g : Nat) (k n m : Int) (u0 u1 u2 u3 u4 u7 u8 u9 u10 u11 u12 u13 u14 u15 u16 u17 u18 u19 u20 u21 u46 u47 u48 u49 u50 u51 : Value) (hrow : W0.heap[g]? = some (.cells #[.int .i64 k, .int .i64 n, .string ⟨#[]⟩, .string ⟨#[]⟩] 24 (0, 0))) (hG : Dv.GErr W0) (hT : Dv.GTab W0) (listed : Array Bool) (w : World) (X : Nat → Value) (hs : 24 ≤ listed.size) (hB : Below W0.heap.size W0 w) (hF : ∀ j, j < 24 → listed.getD j false = true → PF k n m (chk3 [(⟨k, n, ⟨#[]⟩, ⟨#[]⟩⟩ : S24)] m) (chk3 [(⟨k, n, ⟨#[]⟩, ⟨#[]⟩⟩ : S24), (⟨k, n, ⟨#[]⟩, ⟨#[]⟩⟩ : S24)] m) j (X j) w) (l10 : listed.getD 10 false = true) (l16 : listed.getD 16 false = true) (l21 : listed.getD 21 false = true) :
    wpOp Tryd.prog ops11 Q 22 (fun a' w' => PInv W0 g k n m (chk3 [(⟨k, n, ⟨#[]⟩, ⟨#[]⟩⟩ : S24)] m) (chk3 [(⟨k, n, ⟨#[]⟩, ⟨#[]⟩⟩ : S24), (⟨k, n, ⟨#[]⟩, ⟨#[]⟩⟩ : S24)] m) u0 u1 u2 u3 u4 u7 u8 u9 u10 u11 u12 u13 u14 u15 u16 u17 u18 u19 u20 u21 u46 u47 u48 u49 u50 u51 (listed.setIfInBounds 22 true) a' w') ⟨#[u0, u1, u2, u3, u4, .pointer (some ⟨g, 0, none⟩), .int .i64 m, u7, u8, u9, u10, u11, u12, u13, u14, u15, u16, u17, u18, u19, u20, u21, X 0, X 1, X 2, X 3, X 4, X 5, X 6, X 7, X 8, X 9, X 10, X 11, X 12, X 13, X 14, X 15, X 16, X 17, X 18, X 19, X 20, X 21, X 22, X 23, u46, u47, u48, u49, u50, u51], []⟩ w := by
  have e10 := hF 10 (by decide) l10
  have e16 := hF 16 (by decide) l16
  have e21 := hF 21 (by decide) l21
  simp only [PF] at e10
  simp only [PF] at e16
  simp only [PF] at e21
  refine wpOp_step (o := { dst := some 44, op := .binOp .neq 3 (.tmp 38) (.tmp 43) 3, type := 4, pos := "more.go:16", after := #[{ on := 16, ground := .data }, { on := 21, ground := .data }, { on := 10, ground := .guard }], guard := some (10, false) }) rfl (fun K hK => ?_)
  try simp only [e10, e16, e21]
  rw [if_pos (by rfl)]
  go_simp
  exact hK _ _ (PInv.step (i := 22) hs hB hF (Below.refl _ _) rfl _ (by first | rfl | (simp [e10, e16, e21]; done)))
set_option maxRecDepth 100000 in
theorem pl_case23 (Q : Exit → Act → World → Prop) (W0 : World) (g : Nat) (k n m : Int) (u0 u1 u2 u3 u4 u7 u8 u9 u10 u11 u12 u13 u14 u15 u16 u17 u18 u19 u20 u21 u46 u47 u48 u49 u50 u51 : Value) (hrow : W0.heap[g]? = some (.cells #[.int .i64 k, .int .i64 n, .string ⟨#[]⟩, .string ⟨#[]⟩] 24 (0, 0))) (hG : Dv.GErr W0) (hT : Dv.GTab W0) (listed : Array Bool) (w : World) (X : Nat → Value) (hs : 24 ≤ listed.size) (hB : Below W0.heap.size W0 w) (hF : ∀ j, j < 24 → listed.getD j false = true → PF k n m (chk3 [(⟨k, n, ⟨#[]⟩, ⟨#[]⟩⟩ : S24)] m) (chk3 [(⟨k, n, ⟨#[]⟩, ⟨#[]⟩⟩ : S24), (⟨k, n, ⟨#[]⟩, ⟨#[]⟩⟩ : S24)] m) j (X j) w) (l10 : listed.getD 10 false = true) (l22 : listed.getD 22 false = true) :
    wpOp Tryd.prog ops11 Q 23 (fun a' w' => PInv W0 g k n m (chk3 [(⟨k, n, ⟨#[]⟩, ⟨#[]⟩⟩ : S24)] m) (chk3 [(⟨k, n, ⟨#[]⟩, ⟨#[]⟩⟩ : S24), (⟨k, n, ⟨#[]⟩, ⟨#[]⟩⟩ : S24)] m) u0 u1 u2 u3 u4 u7 u8 u9 u10 u11 u12 u13 u14 u15 u16 u17 u18 u19 u20 u21 u46 u47 u48 u49 u50 u51 (listed.setIfInBounds 23 true) a' w') ⟨#[u0, u1, u2, u3, u4, .pointer (some ⟨g, 0, none⟩), .int .i64 m, u7, u8, u9, u10, u11, u12, u13, u14, u15, u16, u17, u18, u19, u20, u21, X 0, X 1, X 2, X 3, X 4, X 5, X 6, X 7, X 8, X 9, X 10, X 11, X 12, X 13, X 14, X 15, X 16, X 17, X 18, X 19, X 20, X 21, X 22, X 23, u46, u47, u48, u49, u50, u51], []⟩ w := by
  have e10 := hF 10 (by decide) l10
  have e22 := hF 22 (by decide) l22
  simp only [PF] at e10
  simp only [PF] at e22
  refine wpOp_step (o := { dst := some 45, op := .pick (.tmp 32) (.const (.bool true)) (.tmp 44), type := 4, pos := "more.go:16", after := #[{ on := 10, ground := .data }, { on := 22, ground := .data }], guard := none }) rfl (fun K hK => ?_)
  try simp only [e10, e22]
  go_simp
  exact hK _ _ (PInv.step (i := 23) hs hB hF (Below.refl _ _) rfl _ (by first | rfl | (simp [e10, e22]; done)))
theorem ops11_deps : (List.range 24).all (fun j => match ops11[j]? with | none => true | some o => o.after.all (fun e => decide (e.on < j))) = true := by kernel_rfl
theorem ops11_size : ops11.size = 24 := by kernel_rfl
theorem ops11_dep (j : Nat) (o : Oper) (ho : ops11[j]? = some o) : ∀ e ∈ o.after, e.on < j := by
  intro e he
  have hj : j < 24 := by have := (Array.getElem?_eq_some_iff.1 ho).1; rw [ops11_size] at this; exact this
  have h := List.all_eq_true.1 ops11_deps j (List.mem_range.2 hj)
  rw [ho] at h
  obtain ⟨i, hi, rfl⟩ := Array.mem_iff_getElem.1 he
  have := Array.all_eq_true.1 h i hi
  exact of_decide_eq_true this
theorem places_region {Q : Exit → Act → World → Prop} {id : Nat} {w : World} {g : Nat} {k n m : Int} {u0 u1 u2 u3 u4 u7 u8 u9 u10 u11 u12 u13 u14 u15 u16 u17 u18 u19 u20 u21 u22 u23 u24 u25 u26 u27 u28 u29 u30 u31 u32 u33 u34 u35 u36 u37 u38 u39 u40 u41 u42 u43 u44 u45 u46 u47 u48 u49 u50 u51 : Value} (hrow : w.heap[g]? = some (.cells #[.int .i64 k, .int .i64 n, .string ⟨#[]⟩, .string ⟨#[]⟩] 24 (0, 0))) (hG : Dv.GErr w) (hT : Dv.GTab w)
    (hend : ∀ (X : Nat → Value) (w' : World), Below w.heap.size w w' → X 23 = .bool false → Q .normal ⟨#[u0, u1, u2, u3, u4, .pointer (some ⟨g, 0, none⟩), .int .i64 m, u7, u8, u9, u10, u11, u12, u13, u14, u15, u16, u17, u18, u19, u20, u21, X 0, X 1, X 2, X 3, X 4, X 5, X 6, X 7, X 8, X 9, X 10, X 11, X 12, X 13, X 14, X 15, X 16, X 17, X 18, X 19, X 20, X 21, X 22, X 23, u46, u47, u48, u49, u50, u51], []⟩ w') :
    (Code.region id ops11 true).wp Tryd.prog Q ⟨#[u0, u1, u2, u3, u4, .pointer (some ⟨g, 0, none⟩), .int .i64 m, u7, u8, u9, u10, u11, u12, u13, u14, u15, u16, u17, u18, u19, u20, u21, u22, u23, u24, u25, u26, u27, u28, u29, u30, u31, u32, u33, u34, u35, u36, u37, u38, u39, u40, u41, u42, u43, u44, u45, u46, u47, u48, u49, u50, u51], []⟩ w := by
  refine Dv.region_inv (by kernel_rfl) (PInv w g k n m (chk3 [(⟨k, n, ⟨#[]⟩, ⟨#[]⟩⟩ : S24)] m) (chk3 [(⟨k, n, ⟨#[]⟩, ⟨#[]⟩⟩ : S24), (⟨k, n, ⟨#[]⟩, ⟨#[]⟩⟩ : S24)] m) u0 u1 u2 u3 u4 u7 u8 u9 u10 u11 u12 u13 u14 u15 u16 u17 u18 u19 u20 u21 u46 u47 u48 u49 u50 u51) ?_ ?_ ?_
  · refine ⟨by rw [Array.size_replicate, ops11_size]; exact Nat.le_refl _, fun j => match j with | 0 => u22 | 1 => u23 | 2 => u24 | 3 => u25 | 4 => u26 | 5 => u27 | 6 => u28 | 7 => u29 | 8 => u30 | 9 => u31 | 10 => u32 | 11 => u33 | 12 => u34 | 13 => u35 | 14 => u36 | 15 => u37 | 16 => u38 | 17 => u39 | 18 => u40 | 19 => u41 | 20 => u42 | 21 => u43 | 22 => u44 | _ => u45, rfl, drew_refl _, fun j hj h => ?_⟩
    exfalso
    rw [Array.getD_eq_getD_getElem?] at h
    rw [ops11_size, Array.getElem?_replicate, if_pos hj] at h
    cases h
  · rintro listed a w' i ⟨hs, X, rfl, hB, hF⟩ hi
    obtain ⟨_, o, ho, hall⟩ := mem_ready.1 hi
    have hi24 : i < 24 := by have := (Array.getElem?_eq_some_iff.1 ho).1; rw [ops11_size] at this; exact this
    rcases (by omega : i = 0 ∨ i = 1 ∨ i = 2 ∨ i = 3 ∨ i = 4 ∨ i = 5 ∨ i = 6 ∨ i = 7 ∨ i = 8 ∨ i = 9 ∨ i = 10 ∨ i = 11 ∨ i = 12 ∨ i = 13 ∨ i = 14 ∨ i = 15 ∨ i = 16 ∨ i = 17 ∨ i = 18 ∨ i = 19 ∨ i = 20 ∨ i = 21 ∨ i = 22 ∨ i = 23) with rfl | rfl | rfl | rfl | rfl | rfl | rfl | rfl | rfl | rfl | rfl | rfl | rfl | rfl | rfl | rfl | rfl | rfl | rfl | rfl | rfl | rfl | rfl | rfl
    · obtain rfl : o = { dst := some 22, op := .load 24 (.tmp 5), type := 24, pos := "more.go:16", after := #[], guard := none } := (Option.some.inj ho).symm
      exact pl_case0 Q w g k n m _ _ _ _ _ _ _ _ _ _ _ _ _ _ _ _ _ _ _ _ _ _ _ _ _ _ hrow hG hT listed w' X hs hB hF
    · obtain rfl : o = { dst := some 23, op := .buildSlice 29 1 #[(0, .tmp 22)], type := 29, pos := "more.go:16", after := #[{ on := 0, ground := .data }], guard := none } := (Option.some.inj ho).symm
      exact pl_case1 Q w g k n m _ _ _ _ _ _ _ _ _ _ _ _ _ _ _ _ _ _ _ _ _ _ _ _ _ _ hrow hG hT listed w' X hs hB hF (hall ⟨0, .data⟩ (by simp) rfl)
    · obtain rfl : o = { dst := some 24, op := .move (.tmp 6), type := 3, pos := "more.go:16", after := #[], guard := none } := (Option.some.inj ho).symm
      exact pl_case2 Q w g k n m _ _ _ _ _ _ _ _ _ _ _ _ _ _ _ _ _ _ _ _ _ _ _ _ _ _ hrow hG hT listed w' X hs hB hF
    · obtain rfl : o = { dst := some 25, op := .call { callee := .value (.func 9), args := #[.tmp 23, .tmp 24], argTypes := #[29, 3] }, type := 27, pos := "more.go:16", after := #[{ on := 1, ground := .data }, { on := 2, ground := .data }], guard := none } := (Option.some.inj ho).symm
      exact pl_case3 Q w g k n m _ _ _ _ _ _ _ _ _ _ _ _ _ _ _ _ _ _ _ _ _ _ _ _ _ _ hrow hG hT listed w' X hs hB hF (hall ⟨1, .data⟩ (by simp) rfl) (hall ⟨2, .data⟩ (by simp) rfl)
    · obtain rfl : o = { dst := some 26, op := .call { callee := .value (.func 8), args := #[.tmp 25], argTypes := #[27] }, type := 3, pos := "more.go:16", after := #[{ on := 3, ground := .data }, { on := 3, ground := .chain }], guard := none } := (Option.some.inj ho).symm
      exact pl_case4 Q w g k n m _ _ _ _ _ _ _ _ _ _ _ _ _ _ _ _ _ _ _ _ _ _ _ _ _ _ hrow hG hT listed w' X hs hB hF (hall ⟨3, .data⟩ (by simp) rfl)
    · obtain rfl : o = { dst := some 27, op := .load 24 (.tmp 5), type := 24, pos := "more.go:16", after := #[], guard := none } := (Option.some.inj ho).symm
      exact pl_case5 Q w g k n m _ _ _ _ _ _ _ _ _ _ _ _ _ _ _ _ _ _ _ _ _ _ _ _ _ _ hrow hG hT listed w' X hs hB hF
    · obtain rfl : o = { dst := some 28, op := .buildSlice 29 1 #[(0, .tmp 27)], type := 29, pos := "more.go:16", after := #[{ on := 5, ground := .data }], guard := none } := (Option.some.inj ho).symm
      exact pl_case6 Q w g k n m _ _ _ _ _ _ _ _ _ _ _ _ _ _ _ _ _ _ _ _ _ _ _ _ _ _ hrow hG hT listed w' X hs hB hF (hall ⟨5, .data⟩ (by simp) rfl)
    · obtain rfl : o = { dst := some 29, op := .move (.tmp 6), type := 3, pos := "more.go:16", after := #[], guard := none } := (Option.some.inj ho).symm
      exact pl_case7 Q w g k n m _ _ _ _ _ _ _ _ _ _ _ _ _ _ _ _ _ _ _ _ _ _ _ _ _ _ hrow hG hT listed w' X hs hB hF
    · obtain rfl : o = { dst := some 30, op := .call { callee := .value (.func 10), args := #[.tmp 28, .tmp 29], argTypes := #[29, 3] }, type := 3, pos := "more.go:16", after := #[{ on := 6, ground := .data }, { on := 7, ground := .data }, { on := 4, ground := .chain }], guard := none } := (Option.some.inj ho).symm
      exact pl_case8 Q w g k n m _ _ _ _ _ _ _ _ _ _ _ _ _ _ _ _ _ _ _ _ _ _ _ _ _ _ hrow hG hT listed w' X hs hB hF (hall ⟨4, .chain⟩ (by simp) rfl) (hall ⟨6, .data⟩ (by simp) rfl) (hall ⟨7, .data⟩ (by simp) rfl)
    · obtain rfl : o = { dst := some 31, op := .binOp .neq 3 (.tmp 26) (.tmp 30) 3, type := 4, pos := "more.go:16", after := #[{ on := 4, ground := .data }, { on := 8, ground := .data }], guard := none } := (Option.some.inj ho).symm
      exact pl_case9 Q w g k n m _ _ _ _ _ _ _ _ _ _ _ _ _ _ _ _ _ _ _ _ _ _ _ _ _ _ hrow hG hT listed w' X hs hB hF (hall ⟨4, .data⟩ (by simp) rfl) (hall ⟨8, .data⟩ (by simp) rfl)
    · obtain rfl : o = { dst := some 32, op := .move (.tmp 31), type := 4, pos := "more.go:16", after := #[{ on := 9, ground := .data }, { on := 8, ground := .chain }], guard := none } := (Option.some.inj ho).symm
      exact pl_case10 Q w g k n m _ _ _ _ _ _ _ _ _ _ _ _ _ _ _ _ _ _ _ _ _ _ _ _ _ _ hrow hG hT listed w' X hs hB hF (hall ⟨8, .chain⟩ (by simp) rfl) (hall ⟨9, .data⟩ (by simp) rfl)
    · obtain rfl : o = { dst := some 33, op := .load 24 (.tmp 5), type := 24, pos := "more.go:16", after := #[{ on := 10, ground := .guard }], guard := some (10, false) } := (Option.some.inj ho).symm
      exact pl_case11 Q w g k n m _ _ _ _ _ _ _ _ _ _ _ _ _ _ _ _ _ _ _ _ _ _ _ _ _ _ hrow hG hT listed w' X hs hB hF (hall ⟨10, .guard⟩ (by simp) rfl)
    · obtain rfl : o = { dst := some 34, op := .load 24 (.tmp 5), type := 24, pos := "more.go:16", after := #[{ on := 10, ground := .guard }], guard := some (10, false) } := (Option.some.inj ho).symm
      exact pl_case12 Q w g k n m _ _ _ _ _ _ _ _ _ _ _ _ _ _ _ _ _ _ _ _ _ _ _ _ _ _ hrow hG hT listed w' X hs hB hF (hall ⟨10, .guard⟩ (by simp) rfl)
    · obtain rfl : o = { dst := some 35, op := .buildSlice 29 2 #[(0, .tmp 33), (1, .tmp 34)], type := 29, pos := "more.go:16", after := #[{ on := 11, ground := .data }, { on := 12, ground := .data }, { on := 10, ground := .guard }], guard := some (10, false) } := (Option.some.inj ho).symm
      exact pl_case13 Q w g k n m _ _ _ _ _ _ _ _ _ _ _ _ _ _ _ _ _ _ _ _ _ _ _ _ _ _ hrow hG hT listed w' X hs hB hF (hall ⟨10, .guard⟩ (by simp) rfl) (hall ⟨11, .data⟩ (by simp) rfl) (hall ⟨12, .data⟩ (by simp) rfl)
    · obtain rfl : o = { dst := some 36, op := .move (.tmp 6), type := 3, pos := "more.go:16", after := #[{ on := 10, ground := .guard }], guard := some (10, false) } := (Option.some.inj ho).symm
      exact pl_case14 Q w g k n m _ _ _ _ _ _ _ _ _ _ _ _ _ _ _ _ _ _ _ _ _ _ _ _ _ _ hrow hG hT listed w' X hs hB hF (hall ⟨10, .guard⟩ (by simp) rfl)
    · obtain rfl : o = { dst := some 37, op := .call { callee := .value (.func 9), args := #[.tmp 35, .tmp 36], argTypes := #[29, 3] }, type := 27, pos := "more.go:16", after := #[{ on := 13, ground := .data }, { on := 14, ground := .data }, { on := 10, ground := .chain }, { on := 10, ground := .guard }], guard := some (10, false) } := (Option.some.inj ho).symm
      exact pl_case15 Q w g k n m _ _ _ _ _ _ _ _ _ _ _ _ _ _ _ _ _ _ _ _ _ _ _ _ _ _ hrow hG hT listed w' X hs hB hF (hall ⟨10, .chain⟩ (by simp) rfl) (hall ⟨13, .data⟩ (by simp) rfl) (hall ⟨14, .data⟩ (by simp) rfl)
    · obtain rfl : o = { dst := some 38, op := .call { callee := .value (.func 8), args := #[.tmp 37], argTypes := #[27] }, type := 3, pos := "more.go:16", after := #[{ on := 15, ground := .data }, { on := 15, ground := .chain }, { on := 10, ground := .guard }], guard := some (10, false) } := (Option.some.inj ho).symm
      exact pl_case16 Q w g k n m _ _ _ _ _ _ _ _ _ _ _ _ _ _ _ _ _ _ _ _ _ _ _ _ _ _ hrow hG hT listed w' X hs hB hF (hall ⟨10, .guard⟩ (by simp) rfl) (hall ⟨15, .data⟩ (by simp) rfl)
    · obtain rfl : o = { dst := some 39, op := .load 24 (.tmp 5), type := 24, pos := "more.go:16", after := #[{ on := 10, ground := .guard }], guard := some (10, false) } := (Option.some.inj ho).symm
      exact pl_case17 Q w g k n m _ _ _ _ _ _ _ _ _ _ _ _ _ _ _ _ _ _ _ _ _ _ _ _ _ _ hrow hG hT listed w' X hs hB hF (hall ⟨10, .guard⟩ (by simp) rfl)
    · obtain rfl : o = { dst := some 40, op := .load 24 (.tmp 5), type := 24, pos := "more.go:16", after := #[{ on := 10, ground := .guard }], guard := some (10, false) } := (Option.some.inj ho).symm
      exact pl_case18 Q w g k n m _ _ _ _ _ _ _ _ _ _ _ _ _ _ _ _ _ _ _ _ _ _ _ _ _ _ hrow hG hT listed w' X hs hB hF (hall ⟨10, .guard⟩ (by simp) rfl)
    · obtain rfl : o = { dst := some 41, op := .buildSlice 29 2 #[(0, .tmp 39), (1, .tmp 40)], type := 29, pos := "more.go:16", after := #[{ on := 17, ground := .data }, { on := 18, ground := .data }, { on := 10, ground := .guard }], guard := some (10, false) } := (Option.some.inj ho).symm
      exact pl_case19 Q w g k n m _ _ _ _ _ _ _ _ _ _ _ _ _ _ _ _ _ _ _ _ _ _ _ _ _ _ hrow hG hT listed w' X hs hB hF (hall ⟨10, .guard⟩ (by simp) rfl) (hall ⟨17, .data⟩ (by simp) rfl) (hall ⟨18, .data⟩ (by simp) rfl)
    · obtain rfl : o = { dst := some 42, op := .move (.tmp 6), type := 3, pos := "more.go:16", after := #[{ on := 10, ground := .guard }], guard := some (10, false) } := (Option.some.inj ho).symm
      exact pl_case20 Q w g k n m _ _ _ _ _ _ _ _ _ _ _ _ _ _ _ _ _ _ _ _ _ _ _ _ _ _ hrow hG hT listed w' X hs hB hF (hall ⟨10, .guard⟩ (by simp) rfl)
    · obtain rfl : o = { dst := some 43, op := .call { callee := .value (.func 10), args := #[.tmp 41, .tmp 42], argTypes := #[29, 3] }, type := 3, pos := "more.go:16", after := #[{ on := 19, ground := .data }, { on := 20, ground := .data }, { on := 16, ground := .chain }, { on := 10, ground := .guard }], guard := some (10, false) } := (Option.some.inj ho).symm
      exact pl_case21 Q w g k n m _ _ _ _ _ _ _ _ _ _ _ _ _ _ _ _ _ _ _ _ _ _ _ _ _ _ hrow hG hT listed w' X hs hB hF (hall ⟨10, .guard⟩ (by simp) rfl) (hall ⟨16, .chain⟩ (by simp) rfl) (hall ⟨19, .data⟩ (by simp) rfl) (hall ⟨20, .data⟩ (by simp) rfl)
    · obtain rfl : o = { dst := some 44, op := .binOp .neq 3 (.tmp 38) (.tmp 43) 3, type := 4, pos := "more.go:16", after := #[{ on := 16, ground := .data }, { on := 21, ground := .data }, { on := 10, ground := .guard }], guard := some (10, false) } := (Option.some.inj ho).symm
      exact pl_case22 Q w g k n m _ _ _ _ _ _ _ _ _ _ _ _ _ _ _ _ _ _ _ _ _ _ _ _ _ _ hrow hG hT listed w' X hs hB hF (hall ⟨10, .guard⟩ (by simp) rfl) (hall ⟨16, .data⟩ (by simp) rfl) (hall ⟨21, .data⟩ (by simp) rfl)
    · obtain rfl : o = { dst := some 45, op := .pick (.tmp 32) (.const (.bool true)) (.tmp 44), type := 4, pos := "more.go:16", after := #[{ on := 10, ground := .data }, { on := 22, ground := .data }], guard := none } := (Option.some.inj ho).symm
      exact pl_case23 Q w g k n m _ _ _ _ _ _ _ _ _ _ _ _ _ _ _ _ _ _ _ _ _ _ _ _ _ _ hrow hG hT listed w' X hs hB hF (hall ⟨10, .data⟩ (by simp) rfl) (hall ⟨22, .data⟩ (by simp) rfl)
  · rintro listed a w' ⟨hs, X, rfl, hB, hF⟩ hr
    exact hend X w' hB (hF 23 (by decide) (Dv.all_listed ops11_dep hr (by rw [ops11_size]; exact hs) 23 (by rw [ops11_size]; decide)))
end Go.Proofs.YtondmmoabmhpfaaDoor.Q

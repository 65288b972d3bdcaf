import Derived.Test.YtdnmliidmnfijaaDoorKH13
import Derived.Test.YtdnmliidmnfijaaDoorKQ3
import Derived.Test.YtdnmliidmnfijaaDoorKQ6
import Derived.Test.YtdnmliidmnfijaaDoorKQ7
import Derived.Deep.MidRow
set_option linter.unusedVariables false
set_option linter.unusedSimpArgs false
namespace Go.Proofs.YtdnmliidmnfijaaDoor.Q
open Go.RowKit Go.Proofs.YtdnmliidmnfijaaDoorW.PrintWords Go.Proofs.YtdnmliidmnfijaaDoorW.PrintLast Go.Proofs.YtdnmliidmnfijaaDoorW.PrintMore
set_option maxRecDepth 100000 in
set_option maxHeartbeats 4000000 in
theorem EqPacket_ping (w : World) (A1 A2 A3 A4 A5 A6 A7 : Option Addr) (c1 c2 c3 c4 c5 c6 c7 : Nat) (h1 : Kd.C k112 w A1 0 []) (h2 : Kd.C k115 w A2 0 []) (h3 : Kd.C Kd.string w A3 0 []) (h4 : Kd.C Kd.string w A4 0 []) (h5 : Kd.C k117 w A5 0 []) (h6 : Kd.C Kd.string w A6 0 []) (h7 : Kd.C (Kd.int .i64) w A7 0 []) :
    Calls Tryd.prog 20 #[.agg #[.int .i64 12, .bool false, .int .i64 0, .bool false, .string ⟨#[]⟩, .int .i64 0, .string ⟨#[]⟩, .slice A1 0 c1, .string ⟨#[]⟩, .bool false, .int .i64 0, .slice A2 0 c2, .slice A3 0 c3, .slice A4 0 c4, .int .i64 0, .bool false, .slice A5 0 c5, .slice A6 0 c6, .slice A7 0 c7], .agg #[.int .i64 12, .bool false, .int .i64 0, .bool false, .string ⟨#[]⟩, .int .i64 0, .string ⟨#[]⟩, .slice none 0 0, .string ⟨#[]⟩, .bool false, .int .i64 0, .slice none 0 0, .slice none 0 0, .slice none 0 0, .int .i64 0, .bool false, .slice none 0 0, .slice none 0 0, .slice none 0 0]] w fun e w' => e = .returned (.bool true) ∧ Below w.heap.size w w' := by
  have z0 : (0 : Nat) ≤ 0 := Nat.le_refl 0
  have E1 := Lib.hid (fun W (hW : Below w.heap.size w W) => (dovecoteref0_EqProps.calls 1 A1 c1 [] none 0 [] true W (Kd.C_below h1 hW) (Nat.zero_le _) (Kd.C_nil _ _) (Nat.le_refl _) rfl))
  have E2 := Lib.hid (fun W (hW : Below w.heap.size w W) => (dovecoteref0_EqWills.calls 1 A2 c2 [] none 0 [] true W (Kd.C_below h2 hW) (Nat.zero_le _) (Kd.C_nil _ _) (Nat.le_refl _) rfl))
  have E3 := Lib.hid (fun W (hW : Below w.heap.size w W) => (dovecoteref0_EqStrings.calls 1 A3 c3 [] none 0 [] true W (Kd.C_below h3 hW) (Nat.zero_le _) (Kd.C_nil _ _) (Nat.le_refl _) rfl))
  have E4 := Lib.hid (fun W (hW : Below w.heap.size w W) => (dovecoteref0_EqStrings.calls 1 A4 c4 [] none 0 [] true W (Kd.C_below h4 hW) (Nat.zero_le _) (Kd.C_nil _ _) (Nat.le_refl _) rfl))
  have E5 := Lib.hid (fun W (hW : Below w.heap.size w W) => (dovecoteref0_EqSubs.calls 1 A5 c5 [] none 0 [] true W (Kd.C_below h5 hW) (Nat.zero_le _) (Kd.C_nil _ _) (Nat.le_refl _) rfl))
  have E6 := Lib.hid (fun W (hW : Below w.heap.size w W) => (dovecoteref0_EqStrings.calls 1 A6 c6 [] none 0 [] true W (Kd.C_below h6 hW) (Nat.zero_le _) (Kd.C_nil _ _) (Nat.le_refl _) rfl))
  have E7 := Lib.hid (fun W (hW : Below w.heap.size w W) => (dovecoteref0_EqNumbers.calls 1 A7 c7 [] none 0 [] true W (Kd.C_below h7 hW) (Nat.zero_le _) (Kd.C_nil _ _) (Nat.le_refl _) rfl))
  clear h1 h2 h3 h4 h5 h6 h7
  have HB0 := Lib.hid (below_alloc (below_alloc (Below.refl w.heap.size w) (.cells #[.int .i64 12, .bool false, .int .i64 0, .bool false, .string ⟨#[]⟩, .int .i64 0, .string ⟨#[]⟩, .slice A1 0 c1, .string ⟨#[]⟩, .bool false, .int .i64 0, .slice A2 0 c2, .slice A3 0 c3, .slice A4 0 c4, .int .i64 0, .bool false, .slice A5 0 c5, .slice A6 0 c6, .slice A7 0 c7] 40)) (.cells #[.int .i64 12, .bool false, .int .i64 0, .bool false, .string ⟨#[]⟩, .int .i64 0, .string ⟨#[]⟩, .slice none 0 0, .string ⟨#[]⟩, .bool false, .int .i64 0, .slice none 0 0, .slice none 0 0, .slice none 0 0, .int .i64 0, .bool false, .slice none 0 0, .slice none 0 0, .slice none 0 0] 40))
  have b0 := heap_alloc2_old w (.cells #[.int .i64 12, .bool false, .int .i64 0, .bool false, .string ⟨#[]⟩, .int .i64 0, .string ⟨#[]⟩, .slice A1 0 c1, .string ⟨#[]⟩, .bool false, .int .i64 0, .slice A2 0 c2, .slice A3 0 c3, .slice A4 0 c4, .int .i64 0, .bool false, .slice A5 0 c5, .slice A6 0 c6, .slice A7 0 c7] 40) (.cells #[.int .i64 12, .bool false, .int .i64 0, .bool false, .string ⟨#[]⟩, .int .i64 0, .string ⟨#[]⟩, .slice none 0 0, .string ⟨#[]⟩, .bool false, .int .i64 0, .slice none 0 0, .slice none 0 0, .slice none 0 0, .int .i64 0, .bool false, .slice none 0 0, .slice none 0 0, .slice none 0 0] 40)
  have b1 := heap_alloc2_new w (.cells #[.int .i64 12, .bool false, .int .i64 0, .bool false, .string ⟨#[]⟩, .int .i64 0, .string ⟨#[]⟩, .slice A1 0 c1, .string ⟨#[]⟩, .bool false, .int .i64 0, .slice A2 0 c2, .slice A3 0 c3, .slice A4 0 c4, .int .i64 0, .bool false, .slice A5 0 c5, .slice A6 0 c6, .slice A7 0 c7] 40) (.cells #[.int .i64 12, .bool false, .int .i64 0, .bool false, .string ⟨#[]⟩, .int .i64 0, .string ⟨#[]⟩, .slice none 0 0, .string ⟨#[]⟩, .bool false, .int .i64 0, .slice none 0 0, .slice none 0 0, .slice none 0 0, .int .i64 0, .bool false, .slice none 0 0, .slice none 0 0, .slice none 0 0] 40)
  have HR0 := Lib.hid b0
  have HR1 := Lib.hid b1
  clear b0 b1
  go_enter Tryd.func20, Tryd.ntmps20
  go_wp2_with fail
  refine (E1.out _ HB0.out).mono ?_
  rintro e v1 ⟨rfl, hb⟩
  have hbb : Below _ _ _ := hb.below
  have HB1 := Lib.hid (HB0.out.then_ hbb)
  have HRa1 := Lib.hid ((hbb.block _ (Array.getElem?_eq_some_iff.1 HR0.out).1).trans HR0.out)
  have HRb1 := Lib.hid ((hbb.block _ (Array.getElem?_eq_some_iff.1 HR1.out).1).trans HR1.out)
  have k8a : v1.cell? ⟨w.heap.size, 8, none⟩ = some (.string ⟨#[]⟩) := (cell_of_row _ _ 8 _ _ _ HRa1.out).trans rfl
  have k8b : v1.cell? ⟨w.heap.size + 1, 8, none⟩ = some (.string ⟨#[]⟩) := (cell_of_row _ _ 8 _ _ _ HRb1.out).trans rfl
  have k9a : v1.cell? ⟨w.heap.size, 9, none⟩ = some (.bool false) := (cell_of_row _ _ 9 _ _ _ HRa1.out).trans rfl
  have k9b : v1.cell? ⟨w.heap.size + 1, 9, none⟩ = some (.bool false) := (cell_of_row _ _ 9 _ _ _ HRb1.out).trans rfl
  have k10a : v1.cell? ⟨w.heap.size, 10, none⟩ = some (.int .i64 0) := (cell_of_row _ _ 10 _ _ _ HRa1.out).trans rfl
  have k10b : v1.cell? ⟨w.heap.size + 1, 10, none⟩ = some (.int .i64 0) := (cell_of_row _ _ 10 _ _ _ HRb1.out).trans rfl
  have k11a : v1.cell? ⟨w.heap.size, 11, none⟩ = some (.slice A2 0 c2) := (cell_of_row _ _ 11 _ _ _ HRa1.out).trans rfl
  have k11b : v1.cell? ⟨w.heap.size + 1, 11, none⟩ = some (.slice none 0 0) := (cell_of_row _ _ 11 _ _ _ HRb1.out).trans rfl
  clear hb hbb E1
  go_wp2_with fail
  refine (E2.out _ HB1.out).mono ?_
  rintro e v2 ⟨rfl, hb⟩
  have hbb : Below _ _ _ := hb
  have HB2 := Lib.hid (HB1.out.then_ hbb)
  have HRa2 := Lib.hid ((hbb.block _ (Array.getElem?_eq_some_iff.1 HRa1.out).1).trans HRa1.out)
  have HRb2 := Lib.hid ((hbb.block _ (Array.getElem?_eq_some_iff.1 HRb1.out).1).trans HRb1.out)
  have k12a : v2.cell? ⟨w.heap.size, 12, none⟩ = some (.slice A3 0 c3) := (cell_of_row _ _ 12 _ _ _ HRa2.out).trans rfl
  have k12b : v2.cell? ⟨w.heap.size + 1, 12, none⟩ = some (.slice none 0 0) := (cell_of_row _ _ 12 _ _ _ HRb2.out).trans rfl
  clear hb hbb E2 k8a k8b k9a k9b k10a k10b k11a k11b
  go_wp2_with fail
  refine (E3.out _ HB2.out).mono ?_
  rintro e v3 ⟨rfl, hb⟩
  have hbb : Below _ _ _ := hb.below
  have HB3 := Lib.hid (HB2.out.then_ hbb)
  have HRa3 := Lib.hid ((hbb.block _ (Array.getElem?_eq_some_iff.1 HRa2.out).1).trans HRa2.out)
  have HRb3 := Lib.hid ((hbb.block _ (Array.getElem?_eq_some_iff.1 HRb2.out).1).trans HRb2.out)
  have k13a : v3.cell? ⟨w.heap.size, 13, none⟩ = some (.slice A4 0 c4) := (cell_of_row _ _ 13 _ _ _ HRa3.out).trans rfl
  have k13b : v3.cell? ⟨w.heap.size + 1, 13, none⟩ = some (.slice none 0 0) := (cell_of_row _ _ 13 _ _ _ HRb3.out).trans rfl
  clear hb hbb E3 k12a k12b
  go_wp2_with fail
  refine (E4.out _ HB3.out).mono ?_
  rintro e v4 ⟨rfl, hb⟩
  have hbb : Below _ _ _ := hb.below
  have HB4 := Lib.hid (HB3.out.then_ hbb)
  have HRa4 := Lib.hid ((hbb.block _ (Array.getElem?_eq_some_iff.1 HRa3.out).1).trans HRa3.out)
  have HRb4 := Lib.hid ((hbb.block _ (Array.getElem?_eq_some_iff.1 HRb3.out).1).trans HRb3.out)
  have k14a : v4.cell? ⟨w.heap.size, 14, none⟩ = some (.int .i64 0) := (cell_of_row _ _ 14 _ _ _ HRa4.out).trans rfl
  have k14b : v4.cell? ⟨w.heap.size + 1, 14, none⟩ = some (.int .i64 0) := (cell_of_row _ _ 14 _ _ _ HRb4.out).trans rfl
  have k15a : v4.cell? ⟨w.heap.size, 15, none⟩ = some (.bool false) := (cell_of_row _ _ 15 _ _ _ HRa4.out).trans rfl
  have k15b : v4.cell? ⟨w.heap.size + 1, 15, none⟩ = some (.bool false) := (cell_of_row _ _ 15 _ _ _ HRb4.out).trans rfl
  have k16a : v4.cell? ⟨w.heap.size, 16, none⟩ = some (.slice A5 0 c5) := (cell_of_row _ _ 16 _ _ _ HRa4.out).trans rfl
  have k16b : v4.cell? ⟨w.heap.size + 1, 16, none⟩ = some (.slice none 0 0) := (cell_of_row _ _ 16 _ _ _ HRb4.out).trans rfl
  clear hb hbb E4 k13a k13b
  go_wp2_with fail
  refine (E5.out _ HB4.out).mono ?_
  rintro e v5 ⟨rfl, hb⟩
  have hbb : Below _ _ _ := hb.below
  have HB5 := Lib.hid (HB4.out.then_ hbb)
  have HRa5 := Lib.hid ((hbb.block _ (Array.getElem?_eq_some_iff.1 HRa4.out).1).trans HRa4.out)
  have HRb5 := Lib.hid ((hbb.block _ (Array.getElem?_eq_some_iff.1 HRb4.out).1).trans HRb4.out)
  have k17a : v5.cell? ⟨w.heap.size, 17, none⟩ = some (.slice A6 0 c6) := (cell_of_row _ _ 17 _ _ _ HRa5.out).trans rfl
  have k17b : v5.cell? ⟨w.heap.size + 1, 17, none⟩ = some (.slice none 0 0) := (cell_of_row _ _ 17 _ _ _ HRb5.out).trans rfl
  clear hb hbb E5 k14a k14b k15a k15b k16a k16b
  go_wp2_with fail
  refine (E6.out _ HB5.out).mono ?_
  rintro e v6 ⟨rfl, hb⟩
  have hbb : Below _ _ _ := hb.below
  have HB6 := Lib.hid (HB5.out.then_ hbb)
  have HRa6 := Lib.hid ((hbb.block _ (Array.getElem?_eq_some_iff.1 HRa5.out).1).trans HRa5.out)
  have HRb6 := Lib.hid ((hbb.block _ (Array.getElem?_eq_some_iff.1 HRb5.out).1).trans HRb5.out)
  have k18a : v6.cell? ⟨w.heap.size, 18, none⟩ = some (.slice A7 0 c7) := (cell_of_row _ _ 18 _ _ _ HRa6.out).trans rfl
  have k18b : v6.cell? ⟨w.heap.size + 1, 18, none⟩ = some (.slice none 0 0) := (cell_of_row _ _ 18 _ _ _ HRb6.out).trans rfl
  clear hb hbb E6 k17a k17b
  go_wp2_with fail
  refine (E7.out _ HB6.out).mono ?_
  rintro e v7 ⟨rfl, hb⟩
  have hbb : Below _ _ _ := hb.below
  have HB7 := Lib.hid (HB6.out.then_ hbb)
  have HRa7 := Lib.hid ((hbb.block _ (Array.getElem?_eq_some_iff.1 HRa6.out).1).trans HRa6.out)
  have HRb7 := Lib.hid ((hbb.block _ (Array.getElem?_eq_some_iff.1 HRb6.out).1).trans HRb6.out)
  clear hb hbb E7 k18a k18b
  go_wp2_with fail
  go_ret
  exact ⟨rfl, HB7.out⟩
end Go.Proofs.YtdnmliidmnfijaaDoor.Q

/-
  Contracts of the functions that draw the arguments of the laws over spots and boxes.
  Conditions: none.
-/
import Derived.Test.YtnkofjfcioaaaaaCode
import Derived.Test.YtnkofjfcioaaaaaDraw2
namespace Go.Proofs.Ytnkofjfcioaaaaa
open Go.ChangeShapes Go.WideShapes Go.ChangeAt Go.RowKit
set_option linter.unusedVariables false
set_option linter.unusedSimpArgs false

set_option maxHeartbeats 1000000 in
theorem drawSharedBox_any (v : Value) (w : World) (hc : CodeW w v) : Calls Try.prog 37 #[v] w fun e w' => ∃ b0_0 b0_1 b0_2 b0_3 b1_0 b1_1 b1_2 b1_3 : Int, e = .returned (.tuple #[.agg #[.int .i64 b0_0, .int .i64 b0_1, .int .i64 b0_2, .int .i64 b0_3], .agg #[.int .i64 b1_0, .int .i64 b1_1, .int .i64 b1_2, .int .i64 b1_3]]) ∧ Kept w w' := by
  obtain ⟨A, len, cap, rfl, hc⟩ := hc
  have HC := Lib.hid hc
  clear hc
  go_enter Try.func37, Try.ntmps37
  have C0 := Lib.hid (CurB.new (W := ((w.alloc (.cells #[.int .i64 0, .int .i64 0, .int .i64 0, .int .i64 0] 33)).alloc (.cells #[.int .i64 0, .int .i64 0, .int .i64 0, .int .i64 0] 33))) (g := w.heap.size + 1 + 1) (by simp) ((HC.out.kept (by (repeat (first | exact Kept.refl _ | assumption | refine Kept.alloc ?_ _ | refine Kept.drew ?_ | refine Kept.drewN ?_ _ | refine Kept.setCell ?_ (by first | (simp; done) | (simp; omega) | omega | exact Kept.size (by (repeat (first | exact Kept.refl _ | assumption | refine Kept.alloc ?_ _ | refine Kept.drew ?_ | refine Kept.drewN ?_ _ | refine Kept.trans ?_ (by assumption))))) _ | refine Kept.trans ?_ (by assumption))))).mono (by simp <;> omega)) 80)
  have K0 : Hid (Kept w (((w.alloc (.cells #[.int .i64 0, .int .i64 0, .int .i64 0, .int .i64 0] 33)).alloc (.cells #[.int .i64 0, .int .i64 0, .int .i64 0, .int .i64 0] 33)).alloc (.cells #[.slice A len cap, .int .i64 0, .int .u64 0] 80))) := Lib.hid (by (repeat (first | exact Kept.refl _ | assumption | refine Kept.alloc ?_ _ | refine Kept.drew ?_ | refine Kept.drewN ?_ _ | refine Kept.setCell ?_ (by first | (simp; done) | (simp; omega) | omega | exact Kept.size (by (repeat (first | exact Kept.refl _ | assumption | refine Kept.alloc ?_ _ | refine Kept.drew ?_ | refine Kept.drewN ?_ _ | refine Kept.trans ?_ (by assumption))))) _ | refine Kept.trans ?_ (by assumption))))
  have B0_0 : Hid (BoxN (((w.alloc (.cells #[.int .i64 0, .int .i64 0, .int .i64 0, .int .i64 0] 33)).alloc (.cells #[.int .i64 0, .int .i64 0, .int .i64 0, .int .i64 0] 33)).alloc (.cells #[.slice A len cap, .int .i64 0, .int .u64 0] 80)) (w.heap.size) [.int .i64 0, .int .i64 0, .int .i64 0, .int .i64 0]) := Lib.hid (by have hq := (BoxN.new w [.int .i64 0, .int .i64 0, .int .i64 0, .int .i64 0] 33).kept (show Kept _ (((w.alloc (.cells #[.int .i64 0, .int .i64 0, .int .i64 0, .int .i64 0] 33)).alloc (.cells #[.int .i64 0, .int .i64 0, .int .i64 0, .int .i64 0] 33)).alloc (.cells #[.slice A len cap, .int .i64 0, .int .u64 0] 80)) from by (repeat (first | exact Kept.refl _ | assumption | refine Kept.alloc ?_ _ | refine Kept.drew ?_ | refine Kept.drewN ?_ _ | refine Kept.setCell ?_ (by first | (simp; done) | (simp; omega) | omega | exact Kept.size (by (repeat (first | exact Kept.refl _ | assumption | refine Kept.alloc ?_ _ | refine Kept.drew ?_ | refine Kept.drewN ?_ _ | refine Kept.trans ?_ (by assumption))))) _ | refine Kept.trans ?_ (by assumption)))); simpa only [World.size_alloc] using hq)
  have B1_0 : Hid (BoxN (((w.alloc (.cells #[.int .i64 0, .int .i64 0, .int .i64 0, .int .i64 0] 33)).alloc (.cells #[.int .i64 0, .int .i64 0, .int .i64 0, .int .i64 0] 33)).alloc (.cells #[.slice A len cap, .int .i64 0, .int .u64 0] 80)) (w.heap.size + 1) [.int .i64 0, .int .i64 0, .int .i64 0, .int .i64 0]) := Lib.hid (by have hq := (BoxN.new (w.alloc (.cells #[.int .i64 0, .int .i64 0, .int .i64 0, .int .i64 0] 33)) [.int .i64 0, .int .i64 0, .int .i64 0, .int .i64 0] 33).kept (show Kept _ (((w.alloc (.cells #[.int .i64 0, .int .i64 0, .int .i64 0, .int .i64 0] 33)).alloc (.cells #[.int .i64 0, .int .i64 0, .int .i64 0, .int .i64 0] 33)).alloc (.cells #[.slice A len cap, .int .i64 0, .int .u64 0] 80)) from by (repeat (first | exact Kept.refl _ | assumption | refine Kept.alloc ?_ _ | refine Kept.drew ?_ | refine Kept.drewN ?_ _ | refine Kept.setCell ?_ (by first | (simp; done) | (simp; omega) | omega | exact Kept.size (by (repeat (first | exact Kept.refl _ | assumption | refine Kept.alloc ?_ _ | refine Kept.drew ?_ | refine Kept.drewN ?_ _ | refine Kept.trans ?_ (by assumption))))) _ | refine Kept.trans ?_ (by assumption)))); simpa only [World.size_alloc] using hq)
  go_wp2_with fail
  refine (box_any (w.heap.size + 1 + 1) 0 _ C0.out (by omega)).mono ?_
  rintro e w1 ⟨b0_0, b0_1, b0_2, b0_3, rfl, hc1, hs1⟩
  have B0_1 := Lib.hid (BoxN.stir (b := w.heap.size) B0_0.out hs1 (by first | (simp; done) | (simp; omega) | omega))
  have B1_1 := Lib.hid (BoxN.stir (b := w.heap.size + 1) B1_0.out hs1 (by first | (simp; done) | (simp; omega) | omega))
  have C1 := Lib.hid (hc1.mono (k' := 14) (by omega))
  have K1 := Lib.hid (Stir.out K0.out hs1 (by simp <;> omega))
  clear hc1 hs1
  go_wp2_with fail
  refine (box_any (w.heap.size + 1 + 1) 14 _ C1.out (by omega)).mono ?_
  rintro e w2 ⟨b1_0, b1_1, b1_2, b1_3, rfl, hc2, hs2⟩
  have B0_2 := Lib.hid (BoxN.stir (b := w.heap.size) B0_1.out hs2 (by first | (simp; done) | (simp; omega) | omega))
  have B1_2 := Lib.hid (BoxN.stir (b := w.heap.size + 1) B1_1.out hs2 (by first | (simp; done) | (simp; omega) | omega))
  have C2 := Lib.hid (hc2.mono (k' := 28) (by omega))
  have K2 := Lib.hid (Stir.out K1.out hs2 (by simp <;> omega))
  clear hc2 hs2
  obtain ⟨n0_0, n0_f0, n0_1, n0_f1, n0_2, n0_f2, n0_3, n0_f3⟩ := (B0_2.out).four
  obtain ⟨n1_0, n1_f0, n1_1, n1_f1, n1_2, n1_f2, n1_3, n1_f3⟩ := (B1_2.out).four
  go_wp2_with fail
  exact bodyPost_ret (v := .tuple #[.agg #[.int .i64 b0_0, .int .i64 b0_1, .int .i64 b0_2, .int .i64 b0_3], .agg #[.int .i64 b1_0, .int .i64 b1_1, .int .i64 b1_2, .int .i64 b1_3]]) (by simp [results, Try.results37, go_sem, *]) rfl ⟨_, _, _, _, _, _, _, _, rfl, by have hq := K2.out; (repeat (first | with_reducible assumption | with_reducible exact Kept.refl _ | with_reducible refine Kept.setCell ?_ (by first | (simp; done) | (simp; omega) | omega) _ | with_reducible refine Kept.alloc ?_ _ | with_reducible refine Kept.drew ?_ | with_reducible refine Kept.drewN ?_ _))⟩
set_option maxHeartbeats 1000000 in
theorem drawTurnOf_any (v : Value) (w : World) (hc : CodeW w v) : Calls Try.prog 40 #[v] w fun e w' => ∃ s0_0 s0_1 s1_0 s1_1 s2_0 s2_1 : Int, e = .returned (.tuple #[.agg #[.int .i64 s0_0, .int .i64 s0_1], .agg #[.int .i64 s1_0, .int .i64 s1_1], .agg #[.int .i64 s2_0, .int .i64 s2_1]]) ∧ Kept w w' := by
  obtain ⟨A, len, cap, rfl, hc⟩ := hc
  have HC := Lib.hid hc
  clear hc
  go_enter Try.func40, Try.ntmps40
  have C0 := Lib.hid (CurB.new (W := (((w.alloc (.cells #[.int .i64 0, .int .i64 0] 26)).alloc (.cells #[.int .i64 0, .int .i64 0] 26)).alloc (.cells #[.int .i64 0, .int .i64 0] 26))) (g := w.heap.size + 1 + 1 + 1) (by simp) ((HC.out.kept (by (repeat (first | exact Kept.refl _ | assumption | refine Kept.alloc ?_ _ | refine Kept.drew ?_ | refine Kept.drewN ?_ _ | refine Kept.setCell ?_ (by first | (simp; done) | (simp; omega) | omega | exact Kept.size (by (repeat (first | exact Kept.refl _ | assumption | refine Kept.alloc ?_ _ | refine Kept.drew ?_ | refine Kept.drewN ?_ _ | refine Kept.trans ?_ (by assumption))))) _ | refine Kept.trans ?_ (by assumption))))).mono (by simp <;> omega)) 80)
  have K0 : Hid (Kept w ((((w.alloc (.cells #[.int .i64 0, .int .i64 0] 26)).alloc (.cells #[.int .i64 0, .int .i64 0] 26)).alloc (.cells #[.int .i64 0, .int .i64 0] 26)).alloc (.cells #[.slice A len cap, .int .i64 0, .int .u64 0] 80))) := Lib.hid (by (repeat (first | exact Kept.refl _ | assumption | refine Kept.alloc ?_ _ | refine Kept.drew ?_ | refine Kept.drewN ?_ _ | refine Kept.setCell ?_ (by first | (simp; done) | (simp; omega) | omega | exact Kept.size (by (repeat (first | exact Kept.refl _ | assumption | refine Kept.alloc ?_ _ | refine Kept.drew ?_ | refine Kept.drewN ?_ _ | refine Kept.trans ?_ (by assumption))))) _ | refine Kept.trans ?_ (by assumption))))
  have B0_0 : Hid (BoxN ((((w.alloc (.cells #[.int .i64 0, .int .i64 0] 26)).alloc (.cells #[.int .i64 0, .int .i64 0] 26)).alloc (.cells #[.int .i64 0, .int .i64 0] 26)).alloc (.cells #[.slice A len cap, .int .i64 0, .int .u64 0] 80)) (w.heap.size) [.int .i64 0, .int .i64 0]) := Lib.hid (by have hq := (BoxN.new w [.int .i64 0, .int .i64 0] 26).kept (show Kept _ ((((w.alloc (.cells #[.int .i64 0, .int .i64 0] 26)).alloc (.cells #[.int .i64 0, .int .i64 0] 26)).alloc (.cells #[.int .i64 0, .int .i64 0] 26)).alloc (.cells #[.slice A len cap, .int .i64 0, .int .u64 0] 80)) from by (repeat (first | exact Kept.refl _ | assumption | refine Kept.alloc ?_ _ | refine Kept.drew ?_ | refine Kept.drewN ?_ _ | refine Kept.setCell ?_ (by first | (simp; done) | (simp; omega) | omega | exact Kept.size (by (repeat (first | exact Kept.refl _ | assumption | refine Kept.alloc ?_ _ | refine Kept.drew ?_ | refine Kept.drewN ?_ _ | refine Kept.trans ?_ (by assumption))))) _ | refine Kept.trans ?_ (by assumption)))); simpa only [World.size_alloc] using hq)
  have B1_0 : Hid (BoxN ((((w.alloc (.cells #[.int .i64 0, .int .i64 0] 26)).alloc (.cells #[.int .i64 0, .int .i64 0] 26)).alloc (.cells #[.int .i64 0, .int .i64 0] 26)).alloc (.cells #[.slice A len cap, .int .i64 0, .int .u64 0] 80)) (w.heap.size + 1) [.int .i64 0, .int .i64 0]) := Lib.hid (by have hq := (BoxN.new (w.alloc (.cells #[.int .i64 0, .int .i64 0] 26)) [.int .i64 0, .int .i64 0] 26).kept (show Kept _ ((((w.alloc (.cells #[.int .i64 0, .int .i64 0] 26)).alloc (.cells #[.int .i64 0, .int .i64 0] 26)).alloc (.cells #[.int .i64 0, .int .i64 0] 26)).alloc (.cells #[.slice A len cap, .int .i64 0, .int .u64 0] 80)) from by (repeat (first | exact Kept.refl _ | assumption | refine Kept.alloc ?_ _ | refine Kept.drew ?_ | refine Kept.drewN ?_ _ | refine Kept.setCell ?_ (by first | (simp; done) | (simp; omega) | omega | exact Kept.size (by (repeat (first | exact Kept.refl _ | assumption | refine Kept.alloc ?_ _ | refine Kept.drew ?_ | refine Kept.drewN ?_ _ | refine Kept.trans ?_ (by assumption))))) _ | refine Kept.trans ?_ (by assumption)))); simpa only [World.size_alloc] using hq)
  have B2_0 : Hid (BoxN ((((w.alloc (.cells #[.int .i64 0, .int .i64 0] 26)).alloc (.cells #[.int .i64 0, .int .i64 0] 26)).alloc (.cells #[.int .i64 0, .int .i64 0] 26)).alloc (.cells #[.slice A len cap, .int .i64 0, .int .u64 0] 80)) (w.heap.size + 1 + 1) [.int .i64 0, .int .i64 0]) := Lib.hid (by have hq := (BoxN.new ((w.alloc (.cells #[.int .i64 0, .int .i64 0] 26)).alloc (.cells #[.int .i64 0, .int .i64 0] 26)) [.int .i64 0, .int .i64 0] 26).kept (show Kept _ ((((w.alloc (.cells #[.int .i64 0, .int .i64 0] 26)).alloc (.cells #[.int .i64 0, .int .i64 0] 26)).alloc (.cells #[.int .i64 0, .int .i64 0] 26)).alloc (.cells #[.slice A len cap, .int .i64 0, .int .u64 0] 80)) from by (repeat (first | exact Kept.refl _ | assumption | refine Kept.alloc ?_ _ | refine Kept.drew ?_ | refine Kept.drewN ?_ _ | refine Kept.setCell ?_ (by first | (simp; done) | (simp; omega) | omega | exact Kept.size (by (repeat (first | exact Kept.refl _ | assumption | refine Kept.alloc ?_ _ | refine Kept.drew ?_ | refine Kept.drewN ?_ _ | refine Kept.trans ?_ (by assumption))))) _ | refine Kept.trans ?_ (by assumption)))); simpa only [World.size_alloc] using hq)
  go_wp2_with fail
  refine (spot_any (w.heap.size + 1 + 1 + 1) 0 _ C0.out (by omega)).mono ?_
  rintro e w1 ⟨s0_0, s0_1, rfl, hc1, hs1⟩
  have B0_1 := Lib.hid (BoxN.stir (b := w.heap.size) B0_0.out hs1 (by first | (simp; done) | (simp; omega) | omega))
  have B1_1 := Lib.hid (BoxN.stir (b := w.heap.size + 1) B1_0.out hs1 (by first | (simp; done) | (simp; omega) | omega))
  have B2_1 := Lib.hid (BoxN.stir (b := w.heap.size + 1 + 1) B2_0.out hs1 (by first | (simp; done) | (simp; omega) | omega))
  have C1 := Lib.hid (hc1.mono (k' := 8) (by omega))
  have K1 := Lib.hid (Stir.out K0.out hs1 (by simp <;> omega))
  clear hc1 hs1
  go_wp2_with fail
  refine (spot_any (w.heap.size + 1 + 1 + 1) 8 _ C1.out (by omega)).mono ?_
  rintro e w2 ⟨s1_0, s1_1, rfl, hc2, hs2⟩
  have B0_2 := Lib.hid (BoxN.stir (b := w.heap.size) B0_1.out hs2 (by first | (simp; done) | (simp; omega) | omega))
  have B1_2 := Lib.hid (BoxN.stir (b := w.heap.size + 1) B1_1.out hs2 (by first | (simp; done) | (simp; omega) | omega))
  have B2_2 := Lib.hid (BoxN.stir (b := w.heap.size + 1 + 1) B2_1.out hs2 (by first | (simp; done) | (simp; omega) | omega))
  have C2 := Lib.hid (hc2.mono (k' := 16) (by omega))
  have K2 := Lib.hid (Stir.out K1.out hs2 (by simp <;> omega))
  clear hc2 hs2
  go_wp2_with fail
  refine (spot_any (w.heap.size + 1 + 1 + 1) 16 _ C2.out (by omega)).mono ?_
  rintro e w3 ⟨s2_0, s2_1, rfl, hc3, hs3⟩
  have B0_3 := Lib.hid (BoxN.stir (b := w.heap.size) B0_2.out hs3 (by first | (simp; done) | (simp; omega) | omega))
  have B1_3 := Lib.hid (BoxN.stir (b := w.heap.size + 1) B1_2.out hs3 (by first | (simp; done) | (simp; omega) | omega))
  have B2_3 := Lib.hid (BoxN.stir (b := w.heap.size + 1 + 1) B2_2.out hs3 (by first | (simp; done) | (simp; omega) | omega))
  have C3 := Lib.hid (hc3.mono (k' := 24) (by omega))
  have K3 := Lib.hid (Stir.out K2.out hs3 (by simp <;> omega))
  clear hc3 hs3
  obtain ⟨n0_0, n0_f0, n0_1, n0_f1⟩ := (B0_3.out).two
  obtain ⟨n1_0, n1_f0, n1_1, n1_f1⟩ := (B1_3.out).two
  obtain ⟨n2_0, n2_f0, n2_1, n2_f1⟩ := (B2_3.out).two
  go_wp2_with fail
  exact bodyPost_ret (v := .tuple #[.agg #[.int .i64 s0_0, .int .i64 s0_1], .agg #[.int .i64 s1_0, .int .i64 s1_1], .agg #[.int .i64 s2_0, .int .i64 s2_1]]) (by simp [results, Try.results40, go_sem, *]) rfl ⟨_, _, _, _, _, _, rfl, by have hq := K3.out; (repeat (first | with_reducible assumption | with_reducible exact Kept.refl _ | with_reducible refine Kept.setCell ?_ (by first | (simp; done) | (simp; omega) | omega) _ | with_reducible refine Kept.alloc ?_ _ | with_reducible refine Kept.drew ?_ | with_reducible refine Kept.drewN ?_ _))⟩
set_option maxHeartbeats 1000000 in
theorem drawSquareBetween_any (v : Value) (w : World) (hc : CodeW w v) : Calls Try.prog 49 #[v] w fun e w' => ∃ s0_0 s0_1 s1_0 s1_1 : Int, e = .returned (.tuple #[.agg #[.int .i64 s0_0, .int .i64 s0_1], .agg #[.int .i64 s1_0, .int .i64 s1_1]]) ∧ Kept w w' := by
  obtain ⟨A, len, cap, rfl, hc⟩ := hc
  have HC := Lib.hid hc
  clear hc
  go_enter Try.func49, Try.ntmps49
  have C0 := Lib.hid (CurB.new (W := ((w.alloc (.cells #[.int .i64 0, .int .i64 0] 26)).alloc (.cells #[.int .i64 0, .int .i64 0] 26))) (g := w.heap.size + 1 + 1) (by simp) ((HC.out.kept (by (repeat (first | exact Kept.refl _ | assumption | refine Kept.alloc ?_ _ | refine Kept.drew ?_ | refine Kept.drewN ?_ _ | refine Kept.setCell ?_ (by first | (simp; done) | (simp; omega) | omega | exact Kept.size (by (repeat (first | exact Kept.refl _ | assumption | refine Kept.alloc ?_ _ | refine Kept.drew ?_ | refine Kept.drewN ?_ _ | refine Kept.trans ?_ (by assumption))))) _ | refine Kept.trans ?_ (by assumption))))).mono (by simp <;> omega)) 80)
  have K0 : Hid (Kept w (((w.alloc (.cells #[.int .i64 0, .int .i64 0] 26)).alloc (.cells #[.int .i64 0, .int .i64 0] 26)).alloc (.cells #[.slice A len cap, .int .i64 0, .int .u64 0] 80))) := Lib.hid (by (repeat (first | exact Kept.refl _ | assumption | refine Kept.alloc ?_ _ | refine Kept.drew ?_ | refine Kept.drewN ?_ _ | refine Kept.setCell ?_ (by first | (simp; done) | (simp; omega) | omega | exact Kept.size (by (repeat (first | exact Kept.refl _ | assumption | refine Kept.alloc ?_ _ | refine Kept.drew ?_ | refine Kept.drewN ?_ _ | refine Kept.trans ?_ (by assumption))))) _ | refine Kept.trans ?_ (by assumption))))
  have B0_0 : Hid (BoxN (((w.alloc (.cells #[.int .i64 0, .int .i64 0] 26)).alloc (.cells #[.int .i64 0, .int .i64 0] 26)).alloc (.cells #[.slice A len cap, .int .i64 0, .int .u64 0] 80)) (w.heap.size) [.int .i64 0, .int .i64 0]) := Lib.hid (by have hq := (BoxN.new w [.int .i64 0, .int .i64 0] 26).kept (show Kept _ (((w.alloc (.cells #[.int .i64 0, .int .i64 0] 26)).alloc (.cells #[.int .i64 0, .int .i64 0] 26)).alloc (.cells #[.slice A len cap, .int .i64 0, .int .u64 0] 80)) from by (repeat (first | exact Kept.refl _ | assumption | refine Kept.alloc ?_ _ | refine Kept.drew ?_ | refine Kept.drewN ?_ _ | refine Kept.setCell ?_ (by first | (simp; done) | (simp; omega) | omega | exact Kept.size (by (repeat (first | exact Kept.refl _ | assumption | refine Kept.alloc ?_ _ | refine Kept.drew ?_ | refine Kept.drewN ?_ _ | refine Kept.trans ?_ (by assumption))))) _ | refine Kept.trans ?_ (by assumption)))); simpa only [World.size_alloc] using hq)
  have B1_0 : Hid (BoxN (((w.alloc (.cells #[.int .i64 0, .int .i64 0] 26)).alloc (.cells #[.int .i64 0, .int .i64 0] 26)).alloc (.cells #[.slice A len cap, .int .i64 0, .int .u64 0] 80)) (w.heap.size + 1) [.int .i64 0, .int .i64 0]) := Lib.hid (by have hq := (BoxN.new (w.alloc (.cells #[.int .i64 0, .int .i64 0] 26)) [.int .i64 0, .int .i64 0] 26).kept (show Kept _ (((w.alloc (.cells #[.int .i64 0, .int .i64 0] 26)).alloc (.cells #[.int .i64 0, .int .i64 0] 26)).alloc (.cells #[.slice A len cap, .int .i64 0, .int .u64 0] 80)) from by (repeat (first | exact Kept.refl _ | assumption | refine Kept.alloc ?_ _ | refine Kept.drew ?_ | refine Kept.drewN ?_ _ | refine Kept.setCell ?_ (by first | (simp; done) | (simp; omega) | omega | exact Kept.size (by (repeat (first | exact Kept.refl _ | assumption | refine Kept.alloc ?_ _ | refine Kept.drew ?_ | refine Kept.drewN ?_ _ | refine Kept.trans ?_ (by assumption))))) _ | refine Kept.trans ?_ (by assumption)))); simpa only [World.size_alloc] using hq)
  go_wp2_with fail
  refine (spot_any (w.heap.size + 1 + 1) 0 _ C0.out (by omega)).mono ?_
  rintro e w1 ⟨s0_0, s0_1, rfl, hc1, hs1⟩
  have B0_1 := Lib.hid (BoxN.stir (b := w.heap.size) B0_0.out hs1 (by first | (simp; done) | (simp; omega) | omega))
  have B1_1 := Lib.hid (BoxN.stir (b := w.heap.size + 1) B1_0.out hs1 (by first | (simp; done) | (simp; omega) | omega))
  have C1 := Lib.hid (hc1.mono (k' := 8) (by omega))
  have K1 := Lib.hid (Stir.out K0.out hs1 (by simp <;> omega))
  clear hc1 hs1
  go_wp2_with fail
  refine (spot_any (w.heap.size + 1 + 1) 8 _ C1.out (by omega)).mono ?_
  rintro e w2 ⟨s1_0, s1_1, rfl, hc2, hs2⟩
  have B0_2 := Lib.hid (BoxN.stir (b := w.heap.size) B0_1.out hs2 (by first | (simp; done) | (simp; omega) | omega))
  have B1_2 := Lib.hid (BoxN.stir (b := w.heap.size + 1) B1_1.out hs2 (by first | (simp; done) | (simp; omega) | omega))
  have C2 := Lib.hid (hc2.mono (k' := 16) (by omega))
  have K2 := Lib.hid (Stir.out K1.out hs2 (by simp <;> omega))
  clear hc2 hs2
  obtain ⟨n0_0, n0_f0, n0_1, n0_f1⟩ := (B0_2.out).two
  obtain ⟨n1_0, n1_f0, n1_1, n1_f1⟩ := (B1_2.out).two
  go_wp2_with fail
  exact bodyPost_ret (v := .tuple #[.agg #[.int .i64 s0_0, .int .i64 s0_1], .agg #[.int .i64 s1_0, .int .i64 s1_1]]) (by simp [results, Try.results49, go_sem, *]) rfl ⟨_, _, _, _, rfl, by have hq := K2.out; (repeat (first | with_reducible assumption | with_reducible exact Kept.refl _ | with_reducible refine Kept.setCell ?_ (by first | (simp; done) | (simp; omega) | omega) _ | with_reducible refine Kept.alloc ?_ _ | with_reducible refine Kept.drew ?_ | with_reducible refine Kept.drewN ?_ _))⟩
theorem drawLengthBetween_any (v : Value) (w : World) (hc : CodeW w v) : Calls Try.prog 41 #[v] w fun e w' => ∃ a b c d : Int, e = .returned (.tuple #[.agg #[.int .i64 a, .int .i64 b], .agg #[.int .i64 c, .int .i64 d]]) ∧ Kept w w' := by
  have HC := Lib.hid hc
  clear hc
  go_enter Try.func41, Try.ntmps41
  have B0 := Lib.hid ((BoxN.new w [.int .i64 0, .int .i64 0] 26).kept (show Kept _ ((w.alloc (.cells #[.int .i64 0, .int .i64 0] 26)).alloc (.cells #[.int .i64 0, .int .i64 0] 26)) from by (repeat (first | exact Kept.refl _ | assumption | refine Kept.alloc ?_ _ | refine Kept.drew ?_ | refine Kept.drewN ?_ _ | refine Kept.setCell ?_ (by first | (simp; done) | (simp; omega) | omega | exact Kept.size (by (repeat (first | exact Kept.refl _ | assumption | refine Kept.alloc ?_ _ | refine Kept.drew ?_ | refine Kept.drewN ?_ _ | refine Kept.trans ?_ (by assumption))))) _ | refine Kept.trans ?_ (by assumption)))))
  have B1 := Lib.hid (BoxN.new (w.alloc (.cells #[.int .i64 0, .int .i64 0] 26)) [.int .i64 0, .int .i64 0] 26)
  have K0 : Hid (Kept w ((w.alloc (.cells #[.int .i64 0, .int .i64 0] 26)).alloc (.cells #[.int .i64 0, .int .i64 0] 26))) := Lib.hid (by (repeat (first | exact Kept.refl _ | assumption | refine Kept.alloc ?_ _ | refine Kept.drew ?_ | refine Kept.drewN ?_ _ | refine Kept.setCell ?_ (by first | (simp; done) | (simp; omega) | omega | exact Kept.size (by (repeat (first | exact Kept.refl _ | assumption | refine Kept.alloc ?_ _ | refine Kept.drew ?_ | refine Kept.drewN ?_ _ | refine Kept.trans ?_ (by assumption))))) _ | refine Kept.trans ?_ (by assumption))))
  go_wp2_with fail
  refine (drawSquareBetween_any v _ (HC.out.kept K0.out)).mono ?_
  rintro e w1 ⟨a, b, c, d, rfl, k1⟩
  have K1 := Lib.hid (K0.out.trans k1)
  obtain ⟨b0_0, b0_f0, b0_1, b0_f1⟩ := (B0.out.kept k1).two
  obtain ⟨b1_0, b1_f0, b1_1, b1_f1⟩ := BoxN.two (b := w.heap.size + 1) (by have hq := B1.out.kept k1; simpa using hq)
  clear k1
  go_wp2_with fail
  exact bodyPost_ret (v := .tuple #[.agg #[.int .i64 a, .int .i64 b], .agg #[.int .i64 c, .int .i64 d]]) (by simp [results, Try.results41, go_sem, *]) rfl ⟨_, _, _, _, rfl, by have hq := K1.out; (repeat (first | with_reducible assumption | with_reducible exact Kept.refl _ | with_reducible refine Kept.setCell ?_ (by first | (simp; done) | (simp; omega) | omega) _ | with_reducible refine Kept.alloc ?_ _ | with_reducible refine Kept.drew ?_ | with_reducible refine Kept.drewN ?_ _))⟩
end Go.Proofs.Ytnkofjfcioaaaaa

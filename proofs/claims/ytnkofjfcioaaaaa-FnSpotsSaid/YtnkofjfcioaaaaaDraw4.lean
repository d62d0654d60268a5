/-
  Contracts of the functions that draw a list of spots and one thing beside it; vInts of two equal lists.
  Conditions: none.
-/
import Derived.Test.YtnkofjfcioaaaaaDraw3
import Derived.Test.YtnkofjfcioaaaaaMark
namespace Go.Proofs.Ytnkofjfcioaaaaa
open Go.ChangeShapes Go.WideShapes Go.ChangeAt Go.RowKit
set_option linter.unusedVariables false
set_option linter.unusedSimpArgs false

set_option maxHeartbeats 1000000 in
theorem drawAreSpots_any (v : Value) (w : World) (hc : CodeW w v) : Calls Try.prog 70 #[v] w fun e w' => ∃ (u : Value) (xs : List (Int × Int)), e = .returned u ∧ xs.length ≤ 13 ∧ Lies w' 2 pairC u xs ∧ Kept w w' := by
  obtain ⟨A, len, cap, rfl, hc⟩ := hc
  have HC := Lib.hid hc
  clear hc
  go_enter Try.func70, Try.ntmps70
  have C0 := Lib.hid (CurB.new (W := w) (g := w.heap.size) rfl HC.out 80)
  have K0 : Hid (Kept w (w.alloc (.cells #[.slice A len cap, .int .i64 0, .int .u64 0] 80))) := Lib.hid (Kept.alloc (Kept.refl _) _)
  go_wp2_with fail
  refine (spots_any w.heap.size 0 _ C0.out (by omega)).mono ?_
  rintro e w1 ⟨u, xs, rfl, hx, ho, -, hs⟩
  have K1 := Lib.hid (Stir.out K0.out hs (Nat.le_refl _))
  have L1 := Lib.hid (pairs_own ho)
  obtain ⟨A1, c1, rfl, -, -, -⟩ := own_form ho
  clear ho hs
  go_wp2_with fail
  go_ret
  exact ⟨_, xs, rfl, hx, L1.out, K1.out⟩
theorem drawBoxOf_any (v : Value) (w : World) (hc : CodeW w v) : Calls Try.prog 46 #[v] w fun e w' => ∃ (u : Value) (xs : List (Int × Int)), e = .returned u ∧ xs.length ≤ 13 ∧ Lies w' 2 pairC u xs ∧ Kept w w' := by
  have HC := Lib.hid hc
  clear hc
  go_enter Try.func46, Try.ntmps46
  go_wp2_with fail
  refine (drawAreSpots_any v w HC.out).mono ?_
  rintro e w1 ⟨u, xs, rfl, hx, hl, hk⟩
  have K1 := Lib.hid hk
  have L1 := Lib.hid hl
  obtain ⟨A1, c1, rfl, -, -, -⟩ := lies_pairs hl
  clear hl hk
  go_wp2_with fail
  go_ret
  exact ⟨_, xs, rfl, hx, L1.out, K1.out⟩
set_option maxHeartbeats 1000000 in
theorem drawNearestSpot_any (v : Value) (w : World) (hc : CodeW w v) : Calls Try.prog 43 #[v] w fun e w' => ∃ (l : Value) (xs : List (Int × Int)) (x y : Int), e = .returned (.tuple #[l, .agg #[.int .i64 x, .int .i64 y]]) ∧ xs.length ≤ 13 ∧ Lies w' 2 pairC l xs ∧ Kept w w' := by
  obtain ⟨A, len, cap, rfl, hc⟩ := hc
  have HC := Lib.hid hc
  clear hc
  go_enter Try.func43, Try.ntmps43
  have C0 := Lib.hid (CurB.new (W := (w.alloc (.cells #[.int .i64 0, .int .i64 0] 26))) (g := w.heap.size + 1) (by simp) ((HC.out.kept (by (repeat (first | exact Kept.refl _ | assumption | refine Kept.alloc ?_ _ | refine Kept.drew ?_ | refine Kept.drewN ?_ _ | refine Kept.setCell ?_ (by first | (simp; done) | (simp; omega) | omega | exact Kept.size (by (repeat (first | exact Kept.refl _ | assumption | refine Kept.alloc ?_ _ | refine Kept.drew ?_ | refine Kept.drewN ?_ _ | refine Kept.trans ?_ (by assumption))))) _ | refine Kept.trans ?_ (by assumption))))).mono (by simp)) 80)
  have K0 : Hid (Kept w ((w.alloc (.cells #[.int .i64 0, .int .i64 0] 26)).alloc (.cells #[.slice A len cap, .int .i64 0, .int .u64 0] 80))) := Lib.hid (by (repeat (first | exact Kept.refl _ | assumption | refine Kept.alloc ?_ _ | refine Kept.drew ?_ | refine Kept.drewN ?_ _ | refine Kept.setCell ?_ (by first | (simp; done) | (simp; omega) | omega | exact Kept.size (by (repeat (first | exact Kept.refl _ | assumption | refine Kept.alloc ?_ _ | refine Kept.drew ?_ | refine Kept.drewN ?_ _ | refine Kept.trans ?_ (by assumption))))) _ | refine Kept.trans ?_ (by assumption))))
  have B0 : Hid (BoxN ((w.alloc (.cells #[.int .i64 0, .int .i64 0] 26)).alloc (.cells #[.slice A len cap, .int .i64 0, .int .u64 0] 80)) w.heap.size [.int .i64 0, .int .i64 0]) := Lib.hid ((BoxN.new w [.int .i64 0, .int .i64 0] 26).kept (show Kept _ ((w.alloc (.cells #[.int .i64 0, .int .i64 0] 26)).alloc (.cells #[.slice A len cap, .int .i64 0, .int .u64 0] 80)) from by (repeat (first | exact Kept.refl _ | assumption | refine Kept.alloc ?_ _ | refine Kept.drew ?_ | refine Kept.drewN ?_ _ | refine Kept.setCell ?_ (by first | (simp; done) | (simp; omega) | omega | exact Kept.size (by (repeat (first | exact Kept.refl _ | assumption | refine Kept.alloc ?_ _ | refine Kept.drew ?_ | refine Kept.drewN ?_ _ | refine Kept.trans ?_ (by assumption))))) _ | refine Kept.trans ?_ (by assumption)))))
  go_wp2_with fail
  refine (spots_any (w.heap.size + 1) 0 _ C0.out (by omega)).mono ?_
  rintro e w1 ⟨l, xs, rfl, hx, ho, hc1, hs⟩
  have B1 := Lib.hid (BoxN.stir B0.out hs (by omega))
  have C1 := Lib.hid hc1
  have K1 := Lib.hid (Stir.out K0.out hs (by omega))
  have hW : ((w.alloc (.cells #[.int .i64 0, .int .i64 0] 26)).alloc (.cells #[.slice A len cap, .int .i64 0, .int .u64 0] 80)).heap.size = w.heap.size + 1 + 1 := by simp
  rw [hW] at ho
  obtain ⟨A1, c1, rfl, -, -, -⟩ := own_form ho
  have O1 := Lib.hid ho
  clear ho hs hc1 hW
  go_wp2_with fail
  refine (spot_any (w.heap.size + 1) (0 + 200) _ C1.out (by omega)).mono ?_
  rintro e w2 ⟨x, y, rfl, -, hs⟩
  have B2 := Lib.hid (BoxN.stir B1.out hs (by omega))
  have K2 := Lib.hid (Stir.out K1.out hs (by omega))
  have O2 := Lib.hid (hs.own O1.out (by omega))
  clear hs
  obtain ⟨n0, nf0, n1, nf1⟩ := B2.out.two
  go_wp2_with fail
  exact bodyPost_ret (v := .tuple #[.slice A1 xs.length c1, .agg #[.int .i64 x, .int .i64 y]]) (by simp [results, Try.results43, go_sem, *]) rfl ⟨_, xs, _, _, rfl, hx, by
    have hq := O2.out
    refine pairs_own (base := w.heap.size + 1 + 1) (e := 26) ?_
    (repeat (first | with_reducible assumption | refine Stir.own (g := w.heap.size) (Stir.of (grown_set _)) ?_ (by omega))), by have hq := K2.out; (repeat (first | with_reducible assumption | with_reducible exact Kept.refl _ | with_reducible refine Kept.setCell ?_ (by first | (simp; done) | (simp; omega) | omega) _ | with_reducible refine Kept.alloc ?_ _ | with_reducible refine Kept.drew ?_ | with_reducible refine Kept.drewN ?_ _))⟩
set_option maxHeartbeats 1000000 in
theorem drawSpotsIn_any (v : Value) (w : World) (hc : CodeW w v) : Calls Try.prog 47 #[v] w fun e w' => ∃ (l : Value) (xs : List (Int × Int)) (x y z u : Int), e = .returned (.tuple #[l, .agg #[.int .i64 x, .int .i64 y, .int .i64 z, .int .i64 u]]) ∧ xs.length ≤ 13 ∧ Lies w' 2 pairC l xs ∧ Kept w w' := by
  obtain ⟨A, len, cap, rfl, hc⟩ := hc
  have HC := Lib.hid hc
  clear hc
  go_enter Try.func47, Try.ntmps47
  have C0 := Lib.hid (CurB.new (W := (w.alloc (.cells #[.int .i64 0, .int .i64 0, .int .i64 0, .int .i64 0] 33))) (g := w.heap.size + 1) (by simp) ((HC.out.kept (by (repeat (first | exact Kept.refl _ | assumption | refine Kept.alloc ?_ _ | refine Kept.drew ?_ | refine Kept.drewN ?_ _ | refine Kept.setCell ?_ (by first | (simp; done) | (simp; omega) | omega | exact Kept.size (by (repeat (first | exact Kept.refl _ | assumption | refine Kept.alloc ?_ _ | refine Kept.drew ?_ | refine Kept.drewN ?_ _ | refine Kept.trans ?_ (by assumption))))) _ | refine Kept.trans ?_ (by assumption))))).mono (by simp)) 80)
  have K0 : Hid (Kept w ((w.alloc (.cells #[.int .i64 0, .int .i64 0, .int .i64 0, .int .i64 0] 33)).alloc (.cells #[.slice A len cap, .int .i64 0, .int .u64 0] 80))) := Lib.hid (by (repeat (first | exact Kept.refl _ | assumption | refine Kept.alloc ?_ _ | refine Kept.drew ?_ | refine Kept.drewN ?_ _ | refine Kept.setCell ?_ (by first | (simp; done) | (simp; omega) | omega | exact Kept.size (by (repeat (first | exact Kept.refl _ | assumption | refine Kept.alloc ?_ _ | refine Kept.drew ?_ | refine Kept.drewN ?_ _ | refine Kept.trans ?_ (by assumption))))) _ | refine Kept.trans ?_ (by assumption))))
  have B0 : Hid (BoxN ((w.alloc (.cells #[.int .i64 0, .int .i64 0, .int .i64 0, .int .i64 0] 33)).alloc (.cells #[.slice A len cap, .int .i64 0, .int .u64 0] 80)) w.heap.size [.int .i64 0, .int .i64 0, .int .i64 0, .int .i64 0]) := Lib.hid ((BoxN.new w [.int .i64 0, .int .i64 0, .int .i64 0, .int .i64 0] 33).kept (show Kept _ ((w.alloc (.cells #[.int .i64 0, .int .i64 0, .int .i64 0, .int .i64 0] 33)).alloc (.cells #[.slice A len cap, .int .i64 0, .int .u64 0] 80)) from by (repeat (first | exact Kept.refl _ | assumption | refine Kept.alloc ?_ _ | refine Kept.drew ?_ | refine Kept.drewN ?_ _ | refine Kept.setCell ?_ (by first | (simp; done) | (simp; omega) | omega | exact Kept.size (by (repeat (first | exact Kept.refl _ | assumption | refine Kept.alloc ?_ _ | refine Kept.drew ?_ | refine Kept.drewN ?_ _ | refine Kept.trans ?_ (by assumption))))) _ | refine Kept.trans ?_ (by assumption)))))
  go_wp2_with fail
  refine (spots_any (w.heap.size + 1) 0 _ C0.out (by omega)).mono ?_
  rintro e w1 ⟨l, xs, rfl, hx, ho, hc1, hs⟩
  have B1 := Lib.hid (BoxN.stir B0.out hs (by omega))
  have C1 := Lib.hid hc1
  have K1 := Lib.hid (Stir.out K0.out hs (by omega))
  have hW : ((w.alloc (.cells #[.int .i64 0, .int .i64 0, .int .i64 0, .int .i64 0] 33)).alloc (.cells #[.slice A len cap, .int .i64 0, .int .u64 0] 80)).heap.size = w.heap.size + 1 + 1 := by simp
  rw [hW] at ho
  obtain ⟨A1, c1, rfl, -, -, -⟩ := own_form ho
  have O1 := Lib.hid ho
  clear ho hs hc1 hW
  go_wp2_with fail
  refine (box_any (w.heap.size + 1) (0 + 200) _ C1.out (by omega)).mono ?_
  rintro e w2 ⟨x, y, z, u, rfl, -, hs⟩
  have B2 := Lib.hid (BoxN.stir B1.out hs (by omega))
  have K2 := Lib.hid (Stir.out K1.out hs (by omega))
  have O2 := Lib.hid (hs.own O1.out (by omega))
  clear hs
  obtain ⟨n0, nf0, n1, nf1, n2, nf2, n3, nf3⟩ := B2.out.four
  go_wp2_with fail
  exact bodyPost_ret (v := .tuple #[.slice A1 xs.length c1, .agg #[.int .i64 x, .int .i64 y, .int .i64 z, .int .i64 u]]) (by simp [results, Try.results47, go_sem, *]) rfl ⟨_, xs, _, _, _, _, rfl, hx, by
    have hq := O2.out
    refine pairs_own (base := w.heap.size + 1 + 1) (e := 26) ?_
    (repeat (first | with_reducible assumption | refine Stir.own (g := w.heap.size) (Stir.of (grown_set _)) ?_ (by omega))), by have hq := K2.out; (repeat (first | with_reducible assumption | with_reducible exact Kept.refl _ | with_reducible refine Kept.setCell ?_ (by first | (simp; done) | (simp; omega) | omega) _ | with_reducible refine Kept.alloc ?_ _ | with_reducible refine Kept.drew ?_ | with_reducible refine Kept.drewN ?_ _))⟩
theorem vInts_any (u v : Value) (xs : List Int) (w : World) (hU : Lies w 1 intC u xs) (hV : Lies w 1 intC v xs) : Calls Try.prog 48 #[u, v] w fun e w' => e = .returned (.bool true) ∧ Kept w w' := by
  have hm := hU.len
  unfold maxLen at hm
  obtain ⟨A, c, rfl, hlc, hcm, hA⟩ := lies_ints hU
  obtain ⟨A', c', rfl, hlc', hcm', hA'⟩ := lies_ints hV
  clear hU hV
  go_enter Try.func48, Try.ntmps48
  go_wp2
  go_loopw [5] (fun i wr => ∃ k : Nat, k ≤ xs.length ∧ i = .int .i64 k ∧ Kept w wr) (fun i _ => xs.length - (intOf i).toNat)
  case atStart => exact ⟨0, Nat.zero_le _, rfl, Kept.refl _⟩
  case round =>
    obtain ⟨k, hk, rfl, hkw⟩ := hrel
    by_cases hlt : k < xs.length
    · obtain ⟨b, off, rfl, hc⟩ := hA (by omega)
      obtain ⟨b', off', rfl, hc'⟩ := hA' (by omega)
      have c0 := hkw.keep (hc k hlt)
      have d0 := hkw.keep (hc' k hlt)
      have k0 : (0 : Int) ≤ (k : Int) := by omega
      have k1 : (k : Int) < (xs.length : Int) := by omega
      clear hc hc' hA hA'
      go_wp2_with fail
      go_quiet (fail)
      go_wp2
      go_roundw
      case rel => exact ⟨k + 1, by omega, by go_num, by (repeat (first | exact Kept.refl _ | assumption | refine Kept.alloc ?_ _ | refine Kept.drew ?_ | refine Kept.drewN ?_ _ | refine Kept.setCell ?_ (by first | (simp; done) | (simp; omega) | omega | exact Kept.size (by (repeat (first | exact Kept.refl _ | assumption | refine Kept.alloc ?_ _ | refine Kept.drew ?_ | refine Kept.drewN ?_ _ | refine Kept.trans ?_ (by assumption))))) _ | refine Kept.trans ?_ (by assumption)))⟩
      case measure => simp [intOf]; omega
    · go_wp2
      go_ret
      exact ⟨rfl, by (repeat (first | exact Kept.refl _ | assumption | refine Kept.alloc ?_ _ | refine Kept.drew ?_ | refine Kept.drewN ?_ _ | refine Kept.setCell ?_ (by first | (simp; done) | (simp; omega) | omega | exact Kept.size (by (repeat (first | exact Kept.refl _ | assumption | refine Kept.alloc ?_ _ | refine Kept.drew ?_ | refine Kept.drewN ?_ _ | refine Kept.trans ?_ (by assumption))))) _ | refine Kept.trans ?_ (by assumption)))⟩
end Go.Proofs.Ytnkofjfcioaaaaa

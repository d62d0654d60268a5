/-
  Contracts of the functions that draw the arguments of the laws over tides.
  Conditions: none.
-/
import Derived.Test.YtlkbneklmcefcaaDrawT
namespace Go.Proofs.Ytlkbneklmcefcaa
open Go.ChangeShapes Go.WideShapes Go.ChangeAt Go.RowKit
set_option linter.unusedVariables false
set_option linter.unusedSimpArgs false

set_option maxHeartbeats 1000000 in
theorem drawTides_any (v : Value) (w : World) (hc : CodeW w v) : Calls Try.prog 75 #[v] w fun e w' => ∃ (l : Value) (xs : List (Int × Int)), e = .returned (l) ∧ xs.length ≤ 13 ∧ Lies w' 2 pairC l xs ∧ Kept w w' := by
  obtain ⟨A, len, cap, rfl, hc⟩ := hc
  have HC := Lib.hid hc
  clear hc
  go_enter Try.func75, Try.ntmps75
  have C0 := Lib.hid (CurB.new (W := w) (g := w.heap.size) rfl HC.out 82)
  have K0 : Hid (Kept w (w.alloc (.cells #[.slice A len cap, .int .i64 0, .int .u64 0] 82))) := Lib.hid (Kept.alloc (Kept.refl _) _)
  go_wp2_with fail
  refine (tides_any w.heap.size 0 _ C0.out (by omega)).mono ?_
  rintro e w1 ⟨l, xs, rfl, hx, ho, hc1, hs1⟩
  have hW : (w.alloc (.cells #[.slice A len cap, .int .i64 0, .int .u64 0] 82)).heap.size = w.heap.size + 1 := by simp
  rw [hW] at ho
  obtain ⟨A1, c1, rfl, -, -, -⟩ := own_form ho
  have O1 := Lib.hid ho
  have C1 := Lib.hid hc1
  have S1 := Lib.hid hs1
  have z1 := hs1.size
  rw [hW] at z1
  clear ho hc1 hs1 hW
  go_wp2_with fail
  have KF := Lib.hid (Stir.out K0.out S1.out (Nat.le_refl _))
  go_ret
  exact ⟨_, xs, rfl, hx, pairs_own O1.out, KF.out⟩
theorem drawTideGaps_any (v : Value) (w : World) (hc : CodeW w v) : Calls Try.prog 49 #[v] w fun e w' => ∃ (l : Value) (xs : List (Int × Int)), e = .returned l ∧ xs.length ≤ 13 ∧ Lies w' 2 pairC l xs ∧ Kept w w' := by
  have HC := Lib.hid hc
  clear hc
  go_enter Try.func49, Try.ntmps49
  go_wp2_with fail
  refine (drawTides_any v w HC.out).mono ?_
  rintro e w1 ⟨u, xs, rfl, hx, hl, hk⟩
  have K1 := Lib.hid hk
  have L1 := Lib.hid hl
  obtain ⟨A1, c1, rfl, -, -, -⟩ := lies_pairs hl
  clear hl hk
  go_wp2_with fail
  go_ret
  exact ⟨_, xs, rfl, hx, L1.out, K1.out⟩
set_option maxHeartbeats 1000000 in
theorem drawHighestLevel_any (v : Value) (w : World) (hc : CodeW w v) : Calls Try.prog 46 #[v] w fun e w' => ∃ (l : Value) (xs : List (Int × Int)) (a0 a1 : Int), e = .returned (.tuple #[l, .int .i64 a0, .int .i64 a1]) ∧ xs.length ≤ 13 ∧ Lies w' 2 pairC l xs ∧ Kept w w' := by
  obtain ⟨A, len, cap, rfl, hc⟩ := hc
  have HC := Lib.hid hc
  clear hc
  go_enter Try.func46, Try.ntmps46
  have C0 := Lib.hid (CurB.new (W := w) (g := w.heap.size) rfl HC.out 82)
  have K0 : Hid (Kept w (w.alloc (.cells #[.slice A len cap, .int .i64 0, .int .u64 0] 82))) := Lib.hid (Kept.alloc (Kept.refl _) _)
  go_wp2_with fail
  refine (tides_any w.heap.size 0 _ C0.out (by omega)).mono ?_
  rintro e w1 ⟨l, xs, rfl, hx, ho, hc1, hs1⟩
  have hW : (w.alloc (.cells #[.slice A len cap, .int .i64 0, .int .u64 0] 82)).heap.size = w.heap.size + 1 := by simp
  rw [hW] at ho
  obtain ⟨A1, c1, rfl, -, -, -⟩ := own_form ho
  have O1 := Lib.hid ho
  have C1 := Lib.hid hc1
  have S1 := Lib.hid hs1
  have z1 := hs1.size
  rw [hW] at z1
  clear ho hc1 hs1 hW
  go_wp2_with fail
  refine (timeOf_any w.heap.size (w.heap.size + 1) (0 + 200) _ xs _ C1.out (by omega) (by omega) O1.out (by omega)).mono ?_
  rintro e w2 ⟨x2, rfl, hc2, hs2⟩
  have O2 := Lib.hid (hs2.own O1.out (by omega))
  have S2 := Lib.hid (S1.out.trans hs2)
  have z2 := hs2.size
  try simp only [World.size_alloc] at z2
  have C2 := Lib.hid hc2
  clear hc2 hs2
  go_wp2_with fail
  refine (among_any w.heap.size _ 6 (0 + 200 + 10) [0, 1, 10, 30, 100, -1] _ (C2.out.kept (Kept.alloc (Kept.refl _) _)) (by omega) (by exact NumsIn.lit (by rfl) (by simp)) (by omega) (by decide) (by decide)).mono ?_
  rintro e w3 ⟨x3, rfl, -, hc3, hs3⟩
  have O3 := Lib.hid (hs3.own (own_kept O2.out (Kept.alloc (Kept.refl _) _)) (by omega))
  have S3 := Lib.hid ((S2.out.alloc _).trans hs3)
  have z3 := hs3.size
  try simp only [World.size_alloc] at z3
  have C3 := Lib.hid hc3
  clear hc3 hs3
  go_wp2_with fail
  have KF := Lib.hid (Stir.out K0.out S3.out (Nat.le_refl _))
  go_ret3
  exact ⟨_, xs, _, _, rfl, hx, pairs_own O3.out, KF.out⟩
set_option maxHeartbeats 1000000 in
theorem drawFirstMinuteWith_any (v : Value) (w : World) (hc : CodeW w v) : Calls Try.prog 47 #[v] w fun e w' => ∃ (l : Value) (xs : List (Int × Int)) (a0 a1 : Int), e = .returned (.tuple #[l, .int .i64 a0, .int .i64 a1]) ∧ xs.length ≤ 13 ∧ Lies w' 2 pairC l xs ∧ Kept w w' := by
  obtain ⟨A, len, cap, rfl, hc⟩ := hc
  have HC := Lib.hid hc
  clear hc
  go_enter Try.func47, Try.ntmps47
  have C0 := Lib.hid (CurB.new (W := w) (g := w.heap.size) rfl HC.out 82)
  have K0 : Hid (Kept w (w.alloc (.cells #[.slice A len cap, .int .i64 0, .int .u64 0] 82))) := Lib.hid (Kept.alloc (Kept.refl _) _)
  go_wp2_with fail
  refine (tides_any w.heap.size 0 _ C0.out (by omega)).mono ?_
  rintro e w1 ⟨l, xs, rfl, hx, ho, hc1, hs1⟩
  have hW : (w.alloc (.cells #[.slice A len cap, .int .i64 0, .int .u64 0] 82)).heap.size = w.heap.size + 1 := by simp
  rw [hW] at ho
  obtain ⟨A1, c1, rfl, -, -, -⟩ := own_form ho
  have O1 := Lib.hid ho
  have C1 := Lib.hid hc1
  have S1 := Lib.hid hs1
  have z1 := hs1.size
  rw [hW] at z1
  clear ho hc1 hs1 hW
  go_wp2_with fail
  refine (among_any w.heap.size _ 6 (0 + 200) [0, 50, 150, 300, -1001, 2000] _ (C1.out.kept (Kept.alloc (Kept.refl _) _)) (by omega) (by exact NumsIn.lit (by rfl) (by simp)) (by omega) (by decide) (by decide)).mono ?_
  rintro e w2 ⟨x2, rfl, -, hc2, hs2⟩
  have O2 := Lib.hid (hs2.own (own_kept O1.out (Kept.alloc (Kept.refl _) _)) (by omega))
  have S2 := Lib.hid ((S1.out.alloc _).trans hs2)
  have z2 := hs2.size
  try simp only [World.size_alloc] at z2
  have C2 := Lib.hid hc2
  clear hc2 hs2
  go_wp2_with fail
  refine (timeOf_any w.heap.size (w.heap.size + 1) (0 + 200 + 2) _ xs _ C2.out (by omega) (by omega) O2.out (by omega)).mono ?_
  rintro e w3 ⟨x3, rfl, hc3, hs3⟩
  have O3 := Lib.hid (hs3.own O2.out (by omega))
  have S3 := Lib.hid (S2.out.trans hs3)
  have z3 := hs3.size
  try simp only [World.size_alloc] at z3
  have C3 := Lib.hid hc3
  clear hc3 hs3
  go_wp2_with fail
  have KF := Lib.hid (Stir.out K0.out S3.out (Nat.le_refl _))
  go_ret3
  exact ⟨_, xs, _, _, rfl, hx, pairs_own O3.out, KF.out⟩
set_option maxHeartbeats 1000000 in
theorem drawMinutesWith_any (v : Value) (w : World) (hc : CodeW w v) : Calls Try.prog 48 #[v] w fun e w' => ∃ (l : Value) (xs : List (Int × Int)) (a0 a1 a2 : Int), e = .returned (.tuple #[l, .int .i64 a0, .int .i64 a1, .int .i64 a2]) ∧ xs.length ≤ 13 ∧ Lies w' 2 pairC l xs ∧ Kept w w' := by
  obtain ⟨A, len, cap, rfl, hc⟩ := hc
  have HC := Lib.hid hc
  clear hc
  go_enter Try.func48, Try.ntmps48
  have C0 := Lib.hid (CurB.new (W := w) (g := w.heap.size) rfl HC.out 82)
  have K0 : Hid (Kept w (w.alloc (.cells #[.slice A len cap, .int .i64 0, .int .u64 0] 82))) := Lib.hid (Kept.alloc (Kept.refl _) _)
  go_wp2_with fail
  refine (tides_any w.heap.size 0 _ C0.out (by omega)).mono ?_
  rintro e w1 ⟨l, xs, rfl, hx, ho, hc1, hs1⟩
  have hW : (w.alloc (.cells #[.slice A len cap, .int .i64 0, .int .u64 0] 82)).heap.size = w.heap.size + 1 := by simp
  rw [hW] at ho
  obtain ⟨A1, c1, rfl, -, -, -⟩ := own_form ho
  have O1 := Lib.hid ho
  have C1 := Lib.hid hc1
  have S1 := Lib.hid hs1
  have z1 := hs1.size
  rw [hW] at z1
  clear ho hc1 hs1 hW
  go_wp2_with fail
  refine (timeOf_any w.heap.size (w.heap.size + 1) (0 + 200) _ xs _ C1.out (by omega) (by omega) O1.out (by omega)).mono ?_
  rintro e w2 ⟨x2, rfl, hc2, hs2⟩
  have O2 := Lib.hid (hs2.own O1.out (by omega))
  have S2 := Lib.hid (S1.out.trans hs2)
  have z2 := hs2.size
  try simp only [World.size_alloc] at z2
  have C2 := Lib.hid hc2
  clear hc2 hs2
  go_wp2_with fail
  refine (among_any w.heap.size _ 7 (0 + 200 + 10) [0, 50, 150, 200, -1000, 2000, 2001] _ (C2.out.kept (Kept.alloc (Kept.refl _) _)) (by omega) (by exact NumsIn.lit (by rfl) (by simp)) (by omega) (by decide) (by decide)).mono ?_
  rintro e w3 ⟨x3, rfl, -, hc3, hs3⟩
  have O3 := Lib.hid (hs3.own (own_kept O2.out (Kept.alloc (Kept.refl _) _)) (by omega))
  have S3 := Lib.hid ((S2.out.alloc _).trans hs3)
  have z3 := hs3.size
  try simp only [World.size_alloc] at z3
  have C3 := Lib.hid hc3
  clear hc3 hs3
  go_wp2_with fail
  refine (among_any w.heap.size _ 5 (0 + 200 + 10 + 2) [0, 20, 100, 500, -1] _ (C3.out.kept (Kept.alloc (Kept.refl _) _)) (by omega) (by exact NumsIn.lit (by rfl) (by simp)) (by omega) (by decide) (by decide)).mono ?_
  rintro e w4 ⟨x4, rfl, -, hc4, hs4⟩
  have O4 := Lib.hid (hs4.own (own_kept O3.out (Kept.alloc (Kept.refl _) _)) (by omega))
  have S4 := Lib.hid ((S3.out.alloc _).trans hs4)
  have z4 := hs4.size
  try simp only [World.size_alloc] at z4
  have C4 := Lib.hid hc4
  clear hc4 hs4
  go_wp2_with fail
  have KF := Lib.hid (Stir.out K0.out S4.out (Nat.le_refl _))
  refine bodyPost_ret (v := .tuple #[.slice A1 xs.length c1, .int .i64 x3, .int .i64 x2, .int .i64 (wrap64 (x2 + x4))]) (by first | (simp [results, Try.results48, go_sem]; done) | rfl) rfl ?_
  exact ⟨_, xs, _, _, _, rfl, hx, pairs_own O4.out, KF.out⟩
set_option maxHeartbeats 1000000 in
theorem drawLevelAt_any (v : Value) (w : World) (hc : CodeW w v) : Calls Try.prog 41 #[v] w fun e w' => ∃ (l : Value) (xs : List (Int × Int)) (a0 : Int), e = .returned (.tuple #[l, .int .i64 a0]) ∧ xs.length ≤ 13 ∧ Lies w' 2 pairC l xs ∧ Kept w w' := by
  obtain ⟨A, len, cap, rfl, hc⟩ := hc
  have HC := Lib.hid hc
  clear hc
  go_enter Try.func41, Try.ntmps41
  have C0 := Lib.hid (CurB.new (W := w) (g := w.heap.size) rfl HC.out 82)
  have K0 : Hid (Kept w (w.alloc (.cells #[.slice A len cap, .int .i64 0, .int .u64 0] 82))) := Lib.hid (Kept.alloc (Kept.refl _) _)
  go_wp2_with fail
  refine (tides_any w.heap.size 0 _ C0.out (by omega)).mono ?_
  rintro e w1 ⟨l, xs, rfl, hx, ho, hc1, hs1⟩
  have hW : (w.alloc (.cells #[.slice A len cap, .int .i64 0, .int .u64 0] 82)).heap.size = w.heap.size + 1 := by simp
  rw [hW] at ho
  obtain ⟨A1, c1, rfl, -, -, -⟩ := own_form ho
  have O1 := Lib.hid ho
  have C1 := Lib.hid hc1
  have S1 := Lib.hid hs1
  have z1 := hs1.size
  rw [hW] at z1
  clear ho hc1 hs1 hW
  go_wp2_with fail
  refine (timeOf_any w.heap.size (w.heap.size + 1) (0 + 200) _ xs _ C1.out (by omega) (by omega) O1.out (by omega)).mono ?_
  rintro e w2 ⟨x2, rfl, hc2, hs2⟩
  have O2 := Lib.hid (hs2.own O1.out (by omega))
  have S2 := Lib.hid (S1.out.trans hs2)
  have z2 := hs2.size
  try simp only [World.size_alloc] at z2
  have C2 := Lib.hid hc2
  clear hc2 hs2
  go_wp2_with fail
  have KF := Lib.hid (Stir.out K0.out S2.out (Nat.le_refl _))
  go_ret2
  exact ⟨_, xs, _, rfl, hx, pairs_own O2.out, KF.out⟩
set_option maxHeartbeats 1000000 in
theorem drawReducedDepth_any (v : Value) (w : World) (hc : CodeW w v) : Calls Try.prog 42 #[v] w fun e w' => ∃ (l : Value) (xs : List (Int × Int)) (a0 a1 : Int), e = .returned (.tuple #[l, .int .i64 a0, .int .i64 a1]) ∧ xs.length ≤ 13 ∧ Lies w' 2 pairC l xs ∧ Kept w w' := by
  obtain ⟨A, len, cap, rfl, hc⟩ := hc
  have HC := Lib.hid hc
  clear hc
  go_enter Try.func42, Try.ntmps42
  have C0 := Lib.hid (CurB.new (W := w) (g := w.heap.size) rfl HC.out 82)
  have K0 : Hid (Kept w (w.alloc (.cells #[.slice A len cap, .int .i64 0, .int .u64 0] 82))) := Lib.hid (Kept.alloc (Kept.refl _) _)
  go_wp2_with fail
  refine (tides_any w.heap.size 0 _ C0.out (by omega)).mono ?_
  rintro e w1 ⟨l, xs, rfl, hx, ho, hc1, hs1⟩
  have hW : (w.alloc (.cells #[.slice A len cap, .int .i64 0, .int .u64 0] 82)).heap.size = w.heap.size + 1 := by simp
  rw [hW] at ho
  obtain ⟨A1, c1, rfl, -, -, -⟩ := own_form ho
  have O1 := Lib.hid ho
  have C1 := Lib.hid hc1
  have S1 := Lib.hid hs1
  have z1 := hs1.size
  rw [hW] at z1
  clear ho hc1 hs1 hW
  go_wp2_with fail
  refine (among_any w.heap.size _ 7 (0 + 200) [0, 55, 900, 2000, 30000, 30001, -1] _ (C1.out.kept (Kept.alloc (Kept.refl _) _)) (by omega) (by exact NumsIn.lit (by rfl) (by simp)) (by omega) (by decide) (by decide)).mono ?_
  rintro e w2 ⟨x2, rfl, -, hc2, hs2⟩
  have O2 := Lib.hid (hs2.own (own_kept O1.out (Kept.alloc (Kept.refl _) _)) (by omega))
  have S2 := Lib.hid ((S1.out.alloc _).trans hs2)
  have z2 := hs2.size
  try simp only [World.size_alloc] at z2
  have C2 := Lib.hid hc2
  clear hc2 hs2
  go_wp2_with fail
  refine (timeOf_any w.heap.size (w.heap.size + 1) (0 + 200 + 2) _ xs _ C2.out (by omega) (by omega) O2.out (by omega)).mono ?_
  rintro e w3 ⟨x3, rfl, hc3, hs3⟩
  have O3 := Lib.hid (hs3.own O2.out (by omega))
  have S3 := Lib.hid (S2.out.trans hs3)
  have z3 := hs3.size
  try simp only [World.size_alloc] at z3
  have C3 := Lib.hid hc3
  clear hc3 hs3
  go_wp2_with fail
  have KF := Lib.hid (Stir.out K0.out S3.out (Nat.le_refl _))
  go_ret3
  exact ⟨_, xs, _, _, rfl, hx, pairs_own O3.out, KF.out⟩
set_option maxHeartbeats 1000000 in
theorem drawRaiseTides_any (v : Value) (w : World) (hc : CodeW w v) : Calls Try.prog 43 #[v] w fun e w' => ∃ (l : Value) (xs : List (Int × Int)) (a0 : Int), e = .returned (.tuple #[l, .int .i64 a0]) ∧ xs.length ≤ 13 ∧ Lies w' 2 pairC l xs ∧ Kept w w' := by
  obtain ⟨A, len, cap, rfl, hc⟩ := hc
  have HC := Lib.hid hc
  clear hc
  go_enter Try.func43, Try.ntmps43
  have C0 := Lib.hid (CurB.new (W := w) (g := w.heap.size) rfl HC.out 82)
  have K0 : Hid (Kept w (w.alloc (.cells #[.slice A len cap, .int .i64 0, .int .u64 0] 82))) := Lib.hid (Kept.alloc (Kept.refl _) _)
  go_wp2_with fail
  refine (tides_any w.heap.size 0 _ C0.out (by omega)).mono ?_
  rintro e w1 ⟨l, xs, rfl, hx, ho, hc1, hs1⟩
  have hW : (w.alloc (.cells #[.slice A len cap, .int .i64 0, .int .u64 0] 82)).heap.size = w.heap.size + 1 := by simp
  rw [hW] at ho
  obtain ⟨A1, c1, rfl, -, -, -⟩ := own_form ho
  have O1 := Lib.hid ho
  have C1 := Lib.hid hc1
  have S1 := Lib.hid hs1
  have z1 := hs1.size
  rw [hW] at z1
  clear ho hc1 hs1 hW
  go_wp2_with fail
  refine (among_any w.heap.size _ 7 (0 + 200) [0, 10, -200, 1690, -971, 3000, 3001] _ (C1.out.kept (Kept.alloc (Kept.refl _) _)) (by omega) (by exact NumsIn.lit (by rfl) (by simp)) (by omega) (by decide) (by decide)).mono ?_
  rintro e w2 ⟨x2, rfl, -, hc2, hs2⟩
  have O2 := Lib.hid (hs2.own (own_kept O1.out (Kept.alloc (Kept.refl _) _)) (by omega))
  have S2 := Lib.hid ((S1.out.alloc _).trans hs2)
  have z2 := hs2.size
  try simp only [World.size_alloc] at z2
  have C2 := Lib.hid hc2
  clear hc2 hs2
  go_wp2_with fail
  have KF := Lib.hid (Stir.out K0.out S2.out (Nat.le_refl _))
  go_ret2
  exact ⟨_, xs, _, rfl, hx, pairs_own O2.out, KF.out⟩
theorem vInts_any (u v : Value) (xs : List Int) (w : World) (hU : Lies w 1 intC u xs) (hV : Lies w 1 intC v xs) : Calls Try.prog 50 #[u, v] w fun e w' => e = .returned (.bool true) ∧ Kept w w' := by
  have hm := hU.len
  unfold maxLen at hm
  obtain ⟨A, c, rfl, hlc, hcm, hA⟩ := lies_ints hU
  obtain ⟨A', c', rfl, hlc', hcm', hA'⟩ := lies_ints hV
  clear hU hV
  go_enter Try.func50, Try.ntmps50
  go_wp2
  go_loopw [5] (fun i wr => ∃ k : Nat, k ≤ xs.length ∧ i = .int .i64 k ∧ Kept w wr) (fun i _ => xs.length - (intOf i).toNat)
  case atStart => exact ⟨0, Nat.zero_le _, rfl, Kept.refl _⟩
  case round =>
    obtain ⟨k, hk, rfl, hkw⟩ := hrel
    by_cases hlt : k < xs.length
    · obtain ⟨b, off, rfl, hc⟩ := hA (by omega)
      obtain ⟨b', off', rfl, hc'⟩ := hA' (by omega)
      have c0 := hkw.keep (hc k hlt)
      have d0 := hkw.keep (hc' k hlt)
      have k0 : (0 : Int) ≤ (k : Int) := by omega
      have k1 : (k : Int) < (xs.length : Int) := by omega
      clear hc hc' hA hA'
      go_wp2_with fail
      go_quiet (fail)
      go_wp2
      go_roundw
      case rel => exact ⟨k + 1, by omega, by go_num, by (repeat (first | exact Kept.refl _ | assumption | refine Kept.alloc ?_ _ | refine Kept.drew ?_ | refine Kept.drewN ?_ _ | refine Kept.setCell ?_ (by first | (simp; done) | (simp; omega) | omega | exact Kept.size (by (repeat (first | exact Kept.refl _ | assumption | refine Kept.alloc ?_ _ | refine Kept.drew ?_ | refine Kept.drewN ?_ _ | refine Kept.trans ?_ (by assumption))))) _ | refine Kept.trans ?_ (by assumption)))⟩
      case measure => simp [intOf]; omega
    · go_wp2
      go_ret
      exact ⟨rfl, by (repeat (first | exact Kept.refl _ | assumption | refine Kept.alloc ?_ _ | refine Kept.drew ?_ | refine Kept.drewN ?_ _ | refine Kept.setCell ?_ (by first | (simp; done) | (simp; omega) | omega | exact Kept.size (by (repeat (first | exact Kept.refl _ | assumption | refine Kept.alloc ?_ _ | refine Kept.drew ?_ | refine Kept.drewN ?_ _ | refine Kept.trans ?_ (by assumption))))) _ | refine Kept.trans ?_ (by assumption)))⟩
end Go.Proofs.Ytlkbneklmcefcaa

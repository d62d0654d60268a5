/-
  The draws of FnLevels.
  Conditions: none.
-/
import Derived.Test.YtopdnhlolfehcaaGList
namespace Go.Proofs.Ytopdnhlolfehcaa
open Go.ChangeShapes Go.WideShapes Go.ChangeAt Go.RowKit
set_option linter.unusedVariables false
set_option linter.unusedSimpArgs false

set_option maxHeartbeats 2000000 in
theorem gaugeId_any (g B : Nat) (k : Int) (v : Value) (gs : List Gz) (w : World) (hC : CurB w g k) (hk : k ≤ 800000) (hG : GRow w B v gs) (hB : g < B) (hl : gs.length ≤ 10) : Calls Try.prog 108 #[.pointer (some ⟨g, 0, none⟩), v] w fun e w' => ∃ x : Int, e = .returned (.int .i64 x) ∧ CurB w' g (k + 10) ∧ Stir g w w' := by
  have HC := Lib.hid hC
  have HG := Lib.hid hG
  obtain ⟨A, c, rfl⟩ := hG.form
  have hgl := hC.lt
  clear hC hG
  by_cases h0 : gs.length = 0
  · have e0 : ((gs.length : Int) == 0) = true := by simp [h0]
    clear h0
    go_enter Try.func108, Try.ntmps108
    go_wp2_with fail
    refine (among_any g _ 3 k [0, 1, 50] _ (HC.out.kept (Kept.alloc (Kept.refl _) _)) (by omega) (by exact NumsIn.lit (by rfl) (by simp)) (by omega) (by decide) (by decide)).mono ?_
    rintro e w1 ⟨x, rfl, -, hc1, hs1⟩
    have C1 := Lib.hid (hc1.mono (k' := k + 10) (by omega))
    have S1 := Lib.hid ((Stir.kept (Kept.alloc (Kept.refl _) _)).trans hs1)
    clear hc1 hs1
    go_wp2_with fail
    go_ret
    exact ⟨_, rfl, C1.out, S1.out⟩
  · have e0 : ((gs.length : Int) == 0) = false := by rw [beq_eq_false_iff_ne]; omega
    go_enter Try.func108, Try.ntmps108
    go_wp2_with fail
    refine (one_any g k 10 _ HC.out (by omega) (by omega)).mono ?_
    rintro e w1 ⟨bb, rfl, hc1, hs1⟩
    have C1 := Lib.hid hc1
    have S1 := Lib.hid hs1
    have G1 := Lib.hid (HG.out.stir hs1 hB)
    have hz1 := hs1.size
    clear hc1 hs1
    cases bb
    · go_wp2_with fail
      refine (pick_any g (k + 2) (gs.length : Int) _ C1.out (by omega) (by omega)).mono ?_
      rintro e w2 ⟨x, rfl, ⟨x0, x1⟩, hc2, hs2⟩
      obtain ⟨j, rfl⟩ : ∃ j : Nat, x = (j : Int) := ⟨x.toNat, by omega⟩
      have hj : j < gs.length := by omega
      obtain ⟨ys, ho, hr⟩ := G1.out.stir hs2 hB
      obtain ⟨A2, c2, e2, -, -, hA2⟩ := own_form ho
      injection e2 with e21 e22 e23
      subst e21 e23
      clear e22
      obtain ⟨b, rfl, -, -⟩ := hA2 (by omega)
      obtain ⟨u, ⟨y0, -, -, -⟩, -, -⟩ := hr j hj
      have d0 : w2.cell? ⟨b, j * 4, none⟩ = some (.int .i64 (GZ gs j).id) := by rw [ho.cellAt _ (by omega)]; exact y0
      have j0 : (0 : Int) ≤ (j : Int) := by omega
      have j1 : (j : Int) < (gs.length : Int) := by omega
      have C2 := Lib.hid (hc2.mono (k' := k + 10) (by omega))
      have S2 := Lib.hid (S1.out.trans hs2)
      clear hc2 hs2 ho hr y0 hA2 x0 x1
      go_wp2_with fail
      go_ret
      exact ⟨_, rfl, C2.out, S2.out⟩
    · go_wp2_with fail
      refine (among_any g _ 3 (k + 2) [0, 1, 50] _ (C1.out.kept (Kept.alloc (Kept.refl _) _)) (by omega) (by exact NumsIn.lit (by rfl) (by simp)) (by omega) (by decide) (by decide)).mono ?_
      rintro e w2 ⟨x, rfl, -, hc2, hs2⟩
      have C2 := Lib.hid (hc2.mono (k' := k + 10) (by omega))
      have S2 := Lib.hid (S1.out.trans ((Stir.kept (Kept.alloc (Kept.refl _) _)).trans hs2))
      clear hc2 hs2
      go_wp2_with fail
      go_ret
      exact ⟨_, rfl, C2.out, S2.out⟩
set_option maxHeartbeats 1000000 in
theorem drawCommonTimes_any (v : Value) (w : World) (hc : CodeW w v) : Calls Try.prog 97 #[v] w fun e w' => ∃ (u : Value) (gs : List Gz) (a b : Int), e = .returned (.tuple #[u, .int .i64 a, .int .i64 b]) ∧ gs.length ≤ 10 ∧ GFit gs ∧ GLies w' u gs ∧ Kept w w' := by
  obtain ⟨A0, len, cap, rfl, hc⟩ := hc
  have HC := Lib.hid hc
  clear hc
  go_enter Try.func97, Try.ntmps97
  have C0 := Lib.hid (CurB.new (W := w) (g := w.heap.size) rfl HC.out 84)
  have K0 : Hid (Kept w (w.alloc (.cells #[.slice A0 len cap, .int .i64 0, .int .u64 0] 84))) := Lib.hid (Kept.alloc (Kept.refl _) _)
  go_wp2_with fail
  refine (gauges_any w.heap.size 0 _ C0.out (by omega)).mono ?_
  rintro e w1 ⟨u, gs, rfl, hn, hF, hG, hc1, hs1⟩
  obtain ⟨A, c, rfl⟩ := hG.form
  have hB : w.heap.size < (w.alloc (.cells #[.slice A0 len cap, .int .i64 0, .int .u64 0] 84)).heap.size := by simp
  have G1 := Lib.hid hG
  have C1 := Lib.hid hc1
  have K1 := Lib.hid (Stir.out K0.out hs1 (Nat.le_refl _))
  have HB := Lib.hid hB
  clear hG hc1 hs1 hB
  go_wp2_with fail
  refine (gaugeId_any w.heap.size _ _ _ gs _ C1.out (by omega) G1.out HB.out hn).mono ?_
  rintro e w2 ⟨a, rfl, hc2, hs2⟩
  have G2 := Lib.hid (G1.out.stir hs2 HB.out)
  have C2 := Lib.hid hc2
  have K2 := Lib.hid (Stir.out K1.out hs2 (Nat.le_refl _))
  clear hc2 hs2
  go_wp2_with fail
  refine (gaugeId_any w.heap.size _ _ _ gs _ C2.out (by omega) G2.out HB.out hn).mono ?_
  rintro e w3 ⟨b, rfl, hc3, hs3⟩
  have G3 := Lib.hid (G2.out.stir hs3 HB.out)
  have K3 := Lib.hid (Stir.out K2.out hs3 (Nat.le_refl _))
  clear hc3 hs3
  go_wp2_with fail
  go_ret3
  exact ⟨_, gs, _, _, rfl, hn, hF, G3.out.lies, K3.out⟩
theorem drawZeroError_any (v : Value) (w : World) (hc : CodeW w v) : Calls Try.prog 63 #[v] w fun e w' => ∃ (u : Value) (gs : List Gz) (a b : Int), e = .returned (.tuple #[u, .int .i64 a, .int .i64 b]) ∧ gs.length ≤ 10 ∧ GFit gs ∧ GLies w' u gs ∧ Kept w w' := by
  have HC := Lib.hid hc
  clear hc
  go_enter Try.func63, Try.ntmps63
  go_wp2_with fail
  refine (drawCommonTimes_any _ _ HC.out).mono ?_
  rintro e w1 ⟨u, gs, a, b, rfl, hn, hF, hL, hk⟩
  obtain ⟨A, c, rfl, -, -, -⟩ := id hL
  have L1 := Lib.hid hL
  have K1 := Lib.hid hk
  clear hL hk
  go_wp2_with fail
  go_ret3
  exact ⟨_, gs, _, _, rfl, hn, hF, L1.out, K1.out⟩
theorem drawAreGauges_any (v : Value) (w : World) (hc : CodeW w v) : Calls Try.prog 65 #[v] w fun e w' => ∃ (u : Value) (gs : List Gz), e = .returned u ∧ gs.length ≤ 10 ∧ GFit gs ∧ GLies w' u gs ∧ Kept w w' := by
  obtain ⟨A0, len, cap, rfl, hc⟩ := hc
  have HC := Lib.hid hc
  clear hc
  go_enter Try.func65, Try.ntmps65
  have C0 := Lib.hid (CurB.new (W := w) (g := w.heap.size) rfl HC.out 84)
  have K0 : Hid (Kept w (w.alloc (.cells #[.slice A0 len cap, .int .i64 0, .int .u64 0] 84))) := Lib.hid (Kept.alloc (Kept.refl _) _)
  go_wp2_with fail
  refine (gauges_any w.heap.size 0 _ C0.out (by omega)).mono ?_
  rintro e w1 ⟨u, gs, rfl, hn, hF, hG, hc1, hs1⟩
  obtain ⟨A, c, rfl⟩ := hG.form
  have hB : w.heap.size < (w.alloc (.cells #[.slice A0 len cap, .int .i64 0, .int .u64 0] 84)).heap.size := by simp
  have G1 := Lib.hid hG
  have C1 := Lib.hid hc1
  have K1 := Lib.hid (Stir.out K0.out hs1 (Nat.le_refl _))
  have HB := Lib.hid hB
  clear hG hc1 hs1 hB
  go_wp2_with fail
  go_ret
  exact ⟨_, gs, rfl, hn, hF, G1.out.lies, K1.out⟩
set_option maxHeartbeats 1000000 in
theorem drawIsGauge_any (v : Value) (w : World) (hc : CodeW w v) : Calls Try.prog 96 #[v] w fun e w' => ∃ (i z : Int) (nm : ByteArray) (u : Value) (xs : List (Int × Int)), e = .returned (.agg #[.int .i64 i, .string nm, .int .i64 z, u]) ∧ nm.size ≤ 20 ∧ xs.length ≤ 40 ∧ w'.ownsRow (w.heap.size + 1) 28 2 u xs.length (xs.flatMap pairC) ∧ Kept w w' := by
  obtain ⟨A0, len, cap, rfl, hc⟩ := hc
  have HC := Lib.hid hc
  clear hc
  go_enter Try.func96, Try.ntmps96
  have C0 := Lib.hid (CurB.new (W := (w.alloc (.cells #[.int .i64 0, .string { data := #[] }, .int .i64 0, .slice none 0 0] 26))) (g := w.heap.size + 1) (by simp) ((HC.out.kept (Kept.alloc (Kept.refl w) _)).mono (by simp)) 84)
  have K0 : Hid (Kept w ((w.alloc (.cells #[.int .i64 0, .string { data := #[] }, .int .i64 0, .slice none 0 0] 26)).alloc (.cells #[.slice A0 len cap, .int .i64 0, .int .u64 0] 84))) := Lib.hid (Kept.alloc (Kept.alloc (Kept.refl w) _) _)
  have Z0 := Lib.hid (show ((w.alloc (.cells #[.int .i64 0, .string { data := #[] }, .int .i64 0, .slice none 0 0] 26)).alloc (.cells #[.slice A0 len cap, .int .i64 0, .int .u64 0] 84)).cell? ⟨w.heap.size, 0, none⟩ = some (.int .i64 0) ∧ ((w.alloc (.cells #[.int .i64 0, .string { data := #[] }, .int .i64 0, .slice none 0 0] 26)).alloc (.cells #[.slice A0 len cap, .int .i64 0, .int .u64 0] 84)).frozen? ⟨w.heap.size, 0, none⟩ = false ∧ ((w.alloc (.cells #[.int .i64 0, .string { data := #[] }, .int .i64 0, .slice none 0 0] 26)).alloc (.cells #[.slice A0 len cap, .int .i64 0, .int .u64 0] 84)).cell? ⟨w.heap.size, 1, none⟩ = some (.string { data := #[] }) ∧ ((w.alloc (.cells #[.int .i64 0, .string { data := #[] }, .int .i64 0, .slice none 0 0] 26)).alloc (.cells #[.slice A0 len cap, .int .i64 0, .int .u64 0] 84)).frozen? ⟨w.heap.size, 1, none⟩ = false ∧ ((w.alloc (.cells #[.int .i64 0, .string { data := #[] }, .int .i64 0, .slice none 0 0] 26)).alloc (.cells #[.slice A0 len cap, .int .i64 0, .int .u64 0] 84)).cell? ⟨w.heap.size, 2, none⟩ = some (.int .i64 0) ∧ ((w.alloc (.cells #[.int .i64 0, .string { data := #[] }, .int .i64 0, .slice none 0 0] 26)).alloc (.cells #[.slice A0 len cap, .int .i64 0, .int .u64 0] 84)).frozen? ⟨w.heap.size, 2, none⟩ = false ∧ ((w.alloc (.cells #[.int .i64 0, .string { data := #[] }, .int .i64 0, .slice none 0 0] 26)).alloc (.cells #[.slice A0 len cap, .int .i64 0, .int .u64 0] 84)).cell? ⟨w.heap.size, 3, none⟩ = some (.slice none 0 0) ∧ ((w.alloc (.cells #[.int .i64 0, .string { data := #[] }, .int .i64 0, .slice none 0 0] 26)).alloc (.cells #[.slice A0 len cap, .int .i64 0, .int .u64 0] 84)).frozen? ⟨w.heap.size, 3, none⟩ = false by simp [go_sem])
  go_wp2_with fail
  refine (among_any (w.heap.size + 1) _ 3 0 [1, 42, 99] _ (C0.out.kept (Kept.alloc (Kept.refl _) _)) (by omega) (by exact NumsIn.lit (by rfl) (by simp)) (by first | (simp; done) | (simp; omega) | omega) (by decide) (by decide)).mono ?_
  rintro e w1 ⟨x, rfl, -, hc1, hs1⟩
  have C1 := Lib.hid hc1
  have K1 := Lib.hid (Stir.out (K0.out.trans (Kept.alloc (Kept.refl _) _)) hs1 (by omega))
  have Z1 := Lib.hid (blk4_stir hs1 (by omega) (blk4 (Kept.alloc (Kept.refl _) _) Z0.out))
  have hz1 : w.heap.size + 1 < w1.heap.size := hc1.lt
  clear hc1 hs1 C0 K0 Z0
  go_wp2_with fail
  refine (gauge_any (w.heap.size + 1) _ _ _ C1.out (by omega)).mono ?_
  rintro e w2 ⟨i, z, nm, u, xs, rfl, hnm, hxl, ho, hc2, hs2⟩
  obtain ⟨A, c, rfl, -, -, -⟩ := own_form ho
  have O2 := Lib.hid ho
  have K2 := Lib.hid (Stir.out K1.out hs2 (by omega))
  obtain ⟨q0, f0, q1, f1, q2, f2, q3, f3⟩ := blk4_stir hs2 (by omega) Z1.out
  clear ho hc2 hs2 C1 K1
  go_wp2_with fail
  exact bodyPost_ret (v := .agg #[.int .i64 i, .string nm, .int .i64 z, .slice A xs.length c]) (by simp [results, Try.results96, go_sem, *]) rfl ⟨i, z, nm, _, xs, rfl, hnm, hxl, own_base (ownsRow_setCell_below (ownsRow_setCell_below (ownsRow_setCell_below (ownsRow_setCell_below O2.out (by first | (simp; done) | (simp; omega)) _) (by first | (simp; done) | (simp; omega)) _) (by first | (simp; done) | (simp; omega)) _) (by first | (simp; done) | (simp; omega)) _) (by omega), ((((K2.out.setCell (by first | (simp; done) | (simp; omega)) _).setCell (by first | (simp; done) | (simp; omega)) _).setCell (by first | (simp; done) | (simp; omega)) _).setCell (by first | (simp; done) | (simp; omega)) _)⟩
theorem drawHighWaters_any (v : Value) (w : World) (hc : CodeW w v) : Calls Try.prog 61 #[v] w fun e w' => ∃ (i z : Int) (nm : ByteArray) (u : Value) (xs : List (Int × Int)), e = .returned (.agg #[.int .i64 i, .string nm, .int .i64 z, u]) ∧ nm.size ≤ 20 ∧ xs.length ≤ 40 ∧ Lies w' 2 pairC u xs ∧ Kept w w' := by
  have HC := Lib.hid hc
  clear hc
  go_enter Try.func61, Try.ntmps61
  have Z0 := Lib.hid (show (w.alloc (.cells #[.int .i64 0, .string { data := #[] }, .int .i64 0, .slice none 0 0] 26)).cell? ⟨w.heap.size, 0, none⟩ = some (.int .i64 0) ∧ (w.alloc (.cells #[.int .i64 0, .string { data := #[] }, .int .i64 0, .slice none 0 0] 26)).frozen? ⟨w.heap.size, 0, none⟩ = false ∧ (w.alloc (.cells #[.int .i64 0, .string { data := #[] }, .int .i64 0, .slice none 0 0] 26)).cell? ⟨w.heap.size, 1, none⟩ = some (.string { data := #[] }) ∧ (w.alloc (.cells #[.int .i64 0, .string { data := #[] }, .int .i64 0, .slice none 0 0] 26)).frozen? ⟨w.heap.size, 1, none⟩ = false ∧ (w.alloc (.cells #[.int .i64 0, .string { data := #[] }, .int .i64 0, .slice none 0 0] 26)).cell? ⟨w.heap.size, 2, none⟩ = some (.int .i64 0) ∧ (w.alloc (.cells #[.int .i64 0, .string { data := #[] }, .int .i64 0, .slice none 0 0] 26)).frozen? ⟨w.heap.size, 2, none⟩ = false ∧ (w.alloc (.cells #[.int .i64 0, .string { data := #[] }, .int .i64 0, .slice none 0 0] 26)).cell? ⟨w.heap.size, 3, none⟩ = some (.slice none 0 0) ∧ (w.alloc (.cells #[.int .i64 0, .string { data := #[] }, .int .i64 0, .slice none 0 0] 26)).frozen? ⟨w.heap.size, 3, none⟩ = false by simp [go_sem])
  go_wp2_with fail
  refine (drawIsGauge_any _ _ (HC.out.kept (Kept.alloc (Kept.refl w) _))).mono ?_
  rintro e w2 ⟨i, z, nm, u, xs, rfl, hnm, hxl, ho, hk2⟩
  obtain ⟨A, c, rfl, -, -, -⟩ := own_form ho
  have O2 := Lib.hid ho
  have K2 := Lib.hid ((Kept.alloc (Kept.refl w) _).trans hk2)
  obtain ⟨q0, f0, q1, f1, q2, f2, q3, f3⟩ := blk4 hk2 Z0.out
  have hb : w.heap.size < (w.alloc (.cells #[.int .i64 0, .string { data := #[] }, .int .i64 0, .slice none 0 0] 26)).heap.size + 1 := by simp
  clear ho hk2
  go_wp2_with fail
  exact bodyPost_ret (v := .agg #[.int .i64 i, .string nm, .int .i64 z, .slice A xs.length c]) (by simp [results, Try.results61, go_sem, *]) rfl ⟨i, z, nm, _, xs, rfl, hnm, hxl, pairs_own (ownsRow_setCell_below (ownsRow_setCell_below (ownsRow_setCell_below (ownsRow_setCell_below O2.out (by first | (simp; done) | (simp; omega)) _) (by first | (simp; done) | (simp; omega)) _) (by first | (simp; done) | (simp; omega)) _) (by first | (simp; done) | (simp; omega)) _), ((((K2.out.setCell (by first | (simp; done) | (simp; omega)) _).setCell (by first | (simp; done) | (simp; omega)) _).setCell (by first | (simp; done) | (simp; omega)) _).setCell (by first | (simp; done) | (simp; omega)) _)⟩
end Go.Proofs.Ytopdnhlolfehcaa

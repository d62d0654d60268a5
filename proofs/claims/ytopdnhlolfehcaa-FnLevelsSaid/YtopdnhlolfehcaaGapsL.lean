/-
  FnExactGapsOf's walk: both calls return the same gaps, of memory of their own.
  Conditions: none.
-/
import Derived.Test.YtopdnhlolfehcaaGapsOf
namespace Go.Proofs.Ytopdnhlolfehcaa
open Go.ChangeShapes Go.WideShapes Go.ChangeAt Go.RowKit
set_option linter.unusedVariables false
set_option linter.unusedSimpArgs false

set_option maxRecDepth 100000 in
set_option maxHeartbeats 4000000 in
theorem lawGapsOf (id : Int) (nm : ByteArray) (z : Int) (v : Value) (xs : List (Int × Int)) (hs : nm.size ≤ maxLen) (m : Int) (w : World) (hL : Lies w 2 pairC v xs) : Calls Try.prog 10 #[.agg #[.int .i64 id, .string nm, .int .i64 z, v], .int .i64 m] w fun e w' => e = .returned (.bool true) ∧ Kept w w' := by
  have HL := Lib.hid hL
  have hs' := hs
  unfold maxLen at hs
  obtain ⟨A, c, rfl, hlc, hcm, hA⟩ := hL
  clear hA
  have hgl := gp_bd id nm z xs m
  have hpl : (prs (gpVal id nm z xs m)).length ≤ 1000 := by rw [prs_len]; exact hgl
  go_enter Try.func10, Try.ntmps10
  go_wp2_with fail
  refine (szGauge_left _ _ _ _ _ hs' _ (by omega) (by omega) _ (by exact HL.out.kept (by (repeat (first | exact Kept.refl _ | assumption | refine Kept.alloc ?_ _ | refine Kept.drew ?_ | refine Kept.drewN ?_ _ | refine Kept.setCell ?_ (by first | (simp; done) | (simp; omega) | omega | exact Kept.size (by (repeat (first | exact Kept.refl _ | assumption | refine Kept.alloc ?_ _ | refine Kept.drew ?_ | refine Kept.drewN ?_ _ | refine Kept.trans ?_ (by assumption))))) _ | refine Kept.trans ?_ (by assumption)))))).mono ?_
  rintro e W0 ⟨r, rfl, ⟨r0, r1, hr⟩, k0⟩
  by_cases hneg : r < 0
  · go_wp2_with fail
    go_ret
    exact ⟨rfl, by (repeat (first | exact Kept.refl _ | assumption | refine Kept.alloc ?_ _ | refine Kept.drew ?_ | refine Kept.drewN ?_ _ | refine Kept.setCell ?_ (by first | (simp; done) | (simp; omega) | omega | exact Kept.size (by (repeat (first | exact Kept.refl _ | assumption | refine Kept.alloc ?_ _ | refine Kept.drew ?_ | refine Kept.drewN ?_ _ | refine Kept.trans ?_ (by assumption))))) _ | refine Kept.trans ?_ (by assumption)))⟩
  · have hn := hr (by omega)
    clear hr
    have ka : Kept w (w.alloc (.cells #[.int .i64 id, .string nm, .int .i64 z, .slice A xs.length c] 47)) := Kept.alloc (Kept.refl w) _
    have p0 := k0.keep (show (w.alloc (.cells #[.int .i64 id, .string nm, .int .i64 z, .slice A xs.length c] 47)).cell? ⟨w.heap.size, 0, none⟩ = some (.int .i64 id) by simp [go_sem])
    have p1 := k0.keep (show (w.alloc (.cells #[.int .i64 id, .string nm, .int .i64 z, .slice A xs.length c] 47)).cell? ⟨w.heap.size, 1, none⟩ = some (.string nm) by simp [go_sem])
    have p2 := k0.keep (show (w.alloc (.cells #[.int .i64 id, .string nm, .int .i64 z, .slice A xs.length c] 47)).cell? ⟨w.heap.size, 2, none⟩ = some (.int .i64 z) by simp [go_sem])
    have p3 := k0.keep (show (w.alloc (.cells #[.int .i64 id, .string nm, .int .i64 z, .slice A xs.length c] 47)).cell? ⟨w.heap.size, 3, none⟩ = some (.slice A xs.length c) by simp [go_sem])
    go_wp2_with fail
    refine (toGauge_any _ _ _ _ _ _ (HL.out.kept (ka.trans k0)) hn).mono ?_
    rintro e W1 ⟨u1, rfl, hu1, k1⟩
    clear p0 p1 p2 p3
    go_wp2_with fail
    refine (sGapsOf_any _ _ _ _ _ m hs' _ (pairs_own hu1)).mono ?_
    rintro e W2 ⟨uw, rfl, ⟨bw, how⟩, k2⟩
    obtain ⟨Aw, cw, rfl, -, -, -⟩ := own_form how.out
    have K2 := k0.trans (k1.trans k2)
    have q0 := K2.keep (show (w.alloc (.cells #[.int .i64 id, .string nm, .int .i64 z, .slice A xs.length c] 47)).cell? ⟨w.heap.size, 0, none⟩ = some (.int .i64 id) by simp [go_sem])
    have q1 := K2.keep (show (w.alloc (.cells #[.int .i64 id, .string nm, .int .i64 z, .slice A xs.length c] 47)).cell? ⟨w.heap.size, 1, none⟩ = some (.string nm) by simp [go_sem])
    have q2 := K2.keep (show (w.alloc (.cells #[.int .i64 id, .string nm, .int .i64 z, .slice A xs.length c] 47)).cell? ⟨w.heap.size, 2, none⟩ = some (.int .i64 z) by simp [go_sem])
    have q3 := K2.keep (show (w.alloc (.cells #[.int .i64 id, .string nm, .int .i64 z, .slice A xs.length c] 47)).cell? ⟨w.heap.size, 3, none⟩ = some (.slice A xs.length c) by simp [go_sem])
    have HOW := Lib.hid how
    clear how hu1
    go_wp2_with fail
    refine (toGauge_any _ _ _ _ _ _ (HL.out.kept (ka.trans K2)) hn).mono ?_
    rintro e W3 ⟨u3, rfl, hu3, k3⟩
    obtain ⟨A3, c3, rfl, -, -, -⟩ := own_form hu3
    have HU3 := Lib.hid hu3
    have K3 := K2.trans k3
    clear q0 q1 q2 q3 hu3 k1 k2 k0
    go_wp2_with fail
    refine (gapsOf_any _ _ _ _ _ m hs' _ ((pairs_own HU3.out).kept (by (repeat (first | exact Kept.refl _ | assumption | refine Kept.alloc ?_ _ | refine Kept.drew ?_ | refine Kept.drewN ?_ _ | refine Kept.setCell ?_ (by first | (simp; done) | (simp; omega) | omega | exact Kept.size (by (repeat (first | exact Kept.refl _ | assumption | refine Kept.alloc ?_ _ | refine Kept.drew ?_ | refine Kept.drewN ?_ _ | refine Kept.trans ?_ (by assumption))))) _ | refine Kept.trans ?_ (by assumption)))))).mono ?_
    rintro e W4 ⟨ug, rfl, ⟨bg, hog⟩, k4⟩
    obtain ⟨Ag, cg, rfl, -, -, -⟩ := own_form hog.out
    have HOG := Lib.hid hog
    have K34 : Kept W3 W4 := (Kept.alloc (Kept.refl _) _).trans k4
    clear hog
    go_wp2_with fail
    refine (eqIntSS_any _ _ _ _ _ _ _ _ _ _ _ _ HOG.out (HOW.out.kept (k3.trans K34))).mono ?_
    rintro e W5 ⟨rfl, k5⟩
    have K5 := K3.trans (K34.trans k5)
    have K35 := K34.trans k5
    have KX5 := k4.trans k5
    have x0 := KX5.keep (show (W3.alloc (.cells #[.int .i64 id, .string nm, .int .i64 z, .slice A3 xs.length c3] 26)).cell? ⟨W3.heap.size, 0, none⟩ = some (.int .i64 id) by simp [go_sem])
    have x1 := KX5.keep (show (W3.alloc (.cells #[.int .i64 id, .string nm, .int .i64 z, .slice A3 xs.length c3] 26)).cell? ⟨W3.heap.size, 1, none⟩ = some (.string nm) by simp [go_sem])
    have x2 := KX5.keep (show (W3.alloc (.cells #[.int .i64 id, .string nm, .int .i64 z, .slice A3 xs.length c3] 26)).cell? ⟨W3.heap.size, 2, none⟩ = some (.int .i64 z) by simp [go_sem])
    have x3 := KX5.keep (show (W3.alloc (.cells #[.int .i64 id, .string nm, .int .i64 z, .slice A3 xs.length c3] 26)).cell? ⟨W3.heap.size, 3, none⟩ = some (.slice A3 xs.length c3) by simp [go_sem])
    have s0 := K5.keep (show (w.alloc (.cells #[.int .i64 id, .string nm, .int .i64 z, .slice A xs.length c] 47)).cell? ⟨w.heap.size, 0, none⟩ = some (.int .i64 id) by simp [go_sem])
    have s1 := K5.keep (show (w.alloc (.cells #[.int .i64 id, .string nm, .int .i64 z, .slice A xs.length c] 47)).cell? ⟨w.heap.size, 1, none⟩ = some (.string nm) by simp [go_sem])
    have s2 := K5.keep (show (w.alloc (.cells #[.int .i64 id, .string nm, .int .i64 z, .slice A xs.length c] 47)).cell? ⟨w.heap.size, 2, none⟩ = some (.int .i64 z) by simp [go_sem])
    have s3 := K5.keep (show (w.alloc (.cells #[.int .i64 id, .string nm, .int .i64 z, .slice A xs.length c] 47)).cell? ⟨w.heap.size, 3, none⟩ = some (.slice A xs.length c) by simp [go_sem])
    have k05 := ka.trans K5
    go_wp2_with fail
    have kf1_0 : ∀ w' : World, Root (W5) w' → w'.cell? ⟨W3.heap.size, 0, none⟩ = some (.int .i64 id) := fun w' h => h.keep (by first | assumption | exact (Kept.alloc (Kept.refl _) _).keep (by assumption) | (simp [go_sem]; done) | (simp [go_sem, *]; done))
    have kf1_1 : ∀ w' : World, Root (W5) w' → w'.cell? ⟨W3.heap.size, 1, none⟩ = some (.string nm) := fun w' h => h.keep (by first | assumption | exact (Kept.alloc (Kept.refl _) _).keep (by assumption) | (simp [go_sem]; done) | (simp [go_sem, *]; done))
    have kf1_2 : ∀ w' : World, Root (W5) w' → w'.cell? ⟨W3.heap.size, 2, none⟩ = some (.int .i64 z) := fun w' h => h.keep (by first | assumption | exact (Kept.alloc (Kept.refl _) _).keep (by assumption) | (simp [go_sem]; done) | (simp [go_sem, *]; done))
    have kf1_3 : ∀ w' : World, Root (W5) w' → w'.cell? ⟨W3.heap.size, 3, none⟩ = some (.slice A3 xs.length c3) := fun w' h => h.keep (by first | assumption | exact (Kept.alloc (Kept.refl _) _).keep (by assumption) | (simp [go_sem]; done) | (simp [go_sem, *]; done))
    have kf1_4 : ∀ w' : World, Root (W5) w' → w'.cell? ⟨w.heap.size, 0, none⟩ = some (.int .i64 id) := fun w' h => h.keep (by first | assumption | exact (Kept.alloc (Kept.refl _) _).keep (by assumption) | (simp [go_sem]; done) | (simp [go_sem, *]; done))
    have kf1_5 : ∀ w' : World, Root (W5) w' → w'.cell? ⟨w.heap.size, 1, none⟩ = some (.string nm) := fun w' h => h.keep (by first | assumption | exact (Kept.alloc (Kept.refl _) _).keep (by assumption) | (simp [go_sem]; done) | (simp [go_sem, *]; done))
    have kf1_6 : ∀ w' : World, Root (W5) w' → w'.cell? ⟨w.heap.size, 2, none⟩ = some (.int .i64 z) := fun w' h => h.keep (by first | assumption | exact (Kept.alloc (Kept.refl _) _).keep (by assumption) | (simp [go_sem]; done) | (simp [go_sem, *]; done))
    have kf1_7 : ∀ w' : World, Root (W5) w' → w'.cell? ⟨w.heap.size, 3, none⟩ = some (.slice A xs.length c) := fun w' h => h.keep (by first | assumption | exact (Kept.alloc (Kept.refl _) _).keep (by assumption) | (simp [go_sem]; done) | (simp [go_sem, *]; done))
    go_region_held3 (fun w' => Root (W5) w')
      (first | assumption | exact Root.trans (by assumption) hk | exact Root.drew (Root.refl _) | (repeat (first | exact Root.refl _ | assumption | refine Root.alloc ?_ _ | refine Root.drew ?_ | refine Root.setCell ?_ (by first | (simp; done) | (simp; omega) | omega | exact Root.size (by assumption)) _ | refine Root.trans ?_ (by assumption))))
      (first | (go_at_call 33; refine (toGauge_any _ _ _ _ _ _ (by exact HL.out.kept (by (repeat (first | exact Kept.refl _ | assumption | refine Kept.alloc ?_ _ | refine Kept.drew ?_ | refine Kept.drewN ?_ _ | refine Kept.setCell ?_ (by first | (simp; done) | (simp; omega) | omega | exact Kept.size (by (repeat (first | exact Kept.refl _ | assumption | refine Kept.alloc ?_ _ | refine Kept.drew ?_ | refine Kept.drewN ?_ _ | refine Kept.trans ?_ (by assumption))))) _ | refine Kept.trans ?_ (by assumption))))) hn).mono ?_; rintro e w1 ⟨u1, rfl, hu1, hk⟩; (have hkr := Root.trans (by assumption) hk); have hl1 := pairs_own hu1; clear hu1) | (go_at_call 34; refine (eqGauge_any _ _ _ _ _ _ _ (by exact (pairs_own HU3.out).kept (by (repeat (first | exact Kept.refl _ | assumption | refine Kept.alloc ?_ _ | refine Kept.drew ?_ | refine Kept.drewN ?_ _ | refine Kept.setCell ?_ (by first | (simp; done) | (simp; omega) | omega | exact Kept.size (by (repeat (first | exact Kept.refl _ | assumption | refine Kept.alloc ?_ _ | refine Kept.drew ?_ | refine Kept.drewN ?_ _ | refine Kept.trans ?_ (by assumption))))) _ | refine Kept.trans ?_ (by assumption))))) (by first | assumption | exact Lies.kept (by assumption) (by (repeat (first | exact Kept.refl _ | assumption | refine Kept.alloc ?_ _ | refine Kept.drew ?_ | refine Kept.drewN ?_ _ | refine Kept.setCell ?_ (by first | (simp; done) | (simp; omega) | omega | exact Kept.size (by (repeat (first | exact Kept.refl _ | assumption | refine Kept.alloc ?_ _ | refine Kept.drew ?_ | refine Kept.drewN ?_ _ | refine Kept.trans ?_ (by assumption))))) _ | refine Kept.trans ?_ (by assumption)))))).mono ?_; rintro e w1 ⟨rfl, hk⟩; (have hkr := Root.trans (by assumption) hk); (first | (have hkf := From.step (by assumption) hk; obtain ⟨hc, hf⟩ := hkf.cells) | (have hkf := From.start hk; obtain ⟨hc, hf⟩ := hkf.cells))))
    have k57 := hkr.kept
    have K7 := K5.trans k57
    have K37 := K35.trans k57
    clear x0 x1 x2 x3 s0 s1 s2 s3 hk hkr hl1 hc hf hkf
    have KX7 := KX5.trans k57
    have y0 := KX7.keep (show (W3.alloc (.cells #[.int .i64 id, .string nm, .int .i64 z, .slice A3 xs.length c3] 26)).cell? ⟨W3.heap.size, 0, none⟩ = some (.int .i64 id) by simp [go_sem])
    have y1 := KX7.keep (show (W3.alloc (.cells #[.int .i64 id, .string nm, .int .i64 z, .slice A3 xs.length c3] 26)).cell? ⟨W3.heap.size, 1, none⟩ = some (.string nm) by simp [go_sem])
    have y2 := KX7.keep (show (W3.alloc (.cells #[.int .i64 id, .string nm, .int .i64 z, .slice A3 xs.length c3] 26)).cell? ⟨W3.heap.size, 2, none⟩ = some (.int .i64 z) by simp [go_sem])
    have y3 := KX7.keep (show (W3.alloc (.cells #[.int .i64 id, .string nm, .int .i64 z, .slice A3 xs.length c3] 26)).cell? ⟨W3.heap.size, 3, none⟩ = some (.slice A3 xs.length c3) by simp [go_sem])
    have HK7 := Lib.hid K7
    go_wp2_with fail
    refine (markGauge_any _ _ _ _ _ _ _ _ _ (own_kept HU3.out K37) hn).mono ?_
    rintro e W8 ⟨rfl, g8⟩
    have K8 : Kept (w.alloc (.cells #[.int .i64 id, .string nm, .int .i64 z, .slice A xs.length c] 47)) W8 := Kept.marked K7 HU3.out K2.size g8
    have hog8 := (HOG.out.kept (k5.trans k57)).grown g8 (fun g hg => by have := (HU3.out.lt g hg).2; simp; omega)
    have kw8 : Kept W2 W8 := Kept.marked (k3.trans K37) HU3.out (Nat.le_refl _) g8
    have how8 := HOW.out.kept kw8
    clear y0 y1 y2 y3
    go_wp2_with fail
    refine (eqIntSS_any _ _ _ _ _ _ _ _ _ _ _ _ hog8 how8).mono ?_
    rintro e W9 ⟨rfl, k9⟩
    go_wp2_with fail
    refine (markIntSS_any _ _ _ _ _ _ _ (hog8.kept k9) hpl).mono ?_
    rintro e W10 ⟨rfl, hmg, g10⟩
    have K10 : Kept (w.alloc (.cells #[.int .i64 id, .string nm, .int .i64 z, .slice A xs.length c] 47)) W10 := Below.trans (K8.trans k9) (Below.mono g10 (Nat.le_trans K3.size (by simp)))
    have how10 := HOW.out.kept (Below.trans (kw8.trans k9) (Below.mono g10 (Nat.le_trans k3.size (by simp))))
    go_wp2_with fail
    refine (heldIntSS_any _ _ _ _ _ _ _ _ rfl hmg hpl).mono ?_
    rintro e W11 ⟨rfl, rfl⟩
    have t0 := K10.keep (show (w.alloc (.cells #[.int .i64 id, .string nm, .int .i64 z, .slice A xs.length c] 47)).cell? ⟨w.heap.size, 0, none⟩ = some (.int .i64 id) by simp [go_sem])
    have t1 := K10.keep (show (w.alloc (.cells #[.int .i64 id, .string nm, .int .i64 z, .slice A xs.length c] 47)).cell? ⟨w.heap.size, 1, none⟩ = some (.string nm) by simp [go_sem])
    have t2 := K10.keep (show (w.alloc (.cells #[.int .i64 id, .string nm, .int .i64 z, .slice A xs.length c] 47)).cell? ⟨w.heap.size, 2, none⟩ = some (.int .i64 z) by simp [go_sem])
    have t3 := K10.keep (show (w.alloc (.cells #[.int .i64 id, .string nm, .int .i64 z, .slice A xs.length c] 47)).cell? ⟨w.heap.size, 3, none⟩ = some (.slice A xs.length c) by simp [go_sem])
    go_wp2_with fail
    refine (toGauge_any _ _ _ _ _ _ (HL.out.kept (ka.trans K10)) hn).mono ?_
    rintro e W12 ⟨u12, rfl, hu12, k12⟩
    clear t0 t1 t2 t3
    go_wp2_with fail
    refine (gapsOf_any _ _ _ _ _ m hs' _ (pairs_own hu12)).mono ?_
    rintro e W13 ⟨uh, rfl, ⟨bh, hoh⟩, k13⟩
    go_wp2_with fail
    refine (eqIntSS_any _ _ _ _ _ _ _ _ _ _ _ _ hoh (how10.kept (k12.trans k13))).mono ?_
    rintro e W14 ⟨rfl, k14⟩
    go_wp2_with fail
    refine (heldIntSS_any _ _ _ _ _ _ _ _ rfl (hmg.kept (k12.trans (k13.trans k14))) hpl).mono ?_
    rintro e W15 ⟨rfl, rfl⟩
    go_wp2_with fail
    go_ret
    exact ⟨rfl, ka.trans (K10.trans (k12.trans (k13.trans k14)))⟩
end Go.Proofs.Ytopdnhlolfehcaa

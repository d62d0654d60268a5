/-
  FnExactSpotsIn's walk.
  Conditions: none.
-/
import Derived.Test.YtnkofjfcioaaaaaSpots3
namespace Go.Proofs.Ytnkofjfcioaaaaa
open Go.ChangeShapes Go.WideShapes Go.ChangeAt Go.RowKit
set_option linter.unusedVariables false
set_option linter.unusedSimpArgs false
theorem inVal_len (xs : List (Int × Int)) (p q r s : Int) : (inVal xs p q r s).length ≤ 1048576 := by
  unfold inVal
  split
  · rename_i h
    have h1 := inTo_len xs p q r s xs.length
    simp only [inOk, spotsB, Bool.and_eq_true, decide_eq_true_eq] at h
    have := h.1.2
    omega
  · simp
set_option maxHeartbeats 2000000 in
theorem lawSpotsIn (v : Value) (xs : List (Int × Int)) (p q r s : Int) (w : World) (hL : Lies w 2 pairC v xs) : Calls Try.prog 9 #[v, .agg #[.int .i64 p, .int .i64 q, .int .i64 r, .int .i64 s]] w fun e w' => e = .returned (.bool true) ∧ Kept w w' := by
  have HL := Lib.hid hL
  by_cases hn : xs.length ≤ 1048576
  · obtain ⟨A, c, rfl, hlc, hcm, hA⟩ := hL
    clear hA
    have hgl := inVal_len xs p q r s
    go_enter Try.func9, Try.ntmps9
    go_wp2_with (go_at_call 21; (with_reducible refine (szSpotS_ok _ _ _ (by exact HL.out.kept (by (repeat (first | exact Kept.refl _ | assumption | refine Kept.alloc ?_ _ | refine Kept.drew ?_ | refine Kept.drewN ?_ _ | refine Kept.setCell ?_ (by first | (simp; done) | (simp; omega) | omega | exact Kept.size (by (repeat (first | exact Kept.refl _ | assumption | refine Kept.alloc ?_ _ | refine Kept.drew ?_ | refine Kept.drewN ?_ _ | refine Kept.trans ?_ (by assumption))))) _ | refine Kept.trans ?_ (by assumption))))) hn).mono ?_); rintro e w' ⟨rfl, rfl⟩)
    have kf1_0 : ∀ w' : World, Root (w.alloc (.cells #[.int .i64 p, .int .i64 q, .int .i64 r, .int .i64 s] 32)) w' → w'.cell? ⟨w.heap.size, 0, none⟩ = some (.int .i64 p) := fun w' h => h.keep (by first | assumption | exact (Kept.alloc (Kept.refl _) _).keep (by assumption) | (simp [go_sem]; done) | (simp [go_sem, *]; done))
    have kf1_1 : ∀ w' : World, Root (w.alloc (.cells #[.int .i64 p, .int .i64 q, .int .i64 r, .int .i64 s] 32)) w' → w'.cell? ⟨w.heap.size, 1, none⟩ = some (.int .i64 q) := fun w' h => h.keep (by first | assumption | exact (Kept.alloc (Kept.refl _) _).keep (by assumption) | (simp [go_sem]; done) | (simp [go_sem, *]; done))
    have kf1_2 : ∀ w' : World, Root (w.alloc (.cells #[.int .i64 p, .int .i64 q, .int .i64 r, .int .i64 s] 32)) w' → w'.cell? ⟨w.heap.size, 2, none⟩ = some (.int .i64 r) := fun w' h => h.keep (by first | assumption | exact (Kept.alloc (Kept.refl _) _).keep (by assumption) | (simp [go_sem]; done) | (simp [go_sem, *]; done))
    have kf1_3 : ∀ w' : World, Root (w.alloc (.cells #[.int .i64 p, .int .i64 q, .int .i64 r, .int .i64 s] 32)) w' → w'.cell? ⟨w.heap.size, 3, none⟩ = some (.int .i64 s) := fun w' h => h.keep (by first | assumption | exact (Kept.alloc (Kept.refl _) _).keep (by assumption) | (simp [go_sem]; done) | (simp [go_sem, *]; done))
    go_region_held3 (fun w' => Root (w.alloc (.cells #[.int .i64 p, .int .i64 q, .int .i64 r, .int .i64 s] 32)) w')
      (first | assumption | exact Root.trans (by assumption) hk | exact Root.drew (Root.refl _) | (repeat (first | exact Root.refl _ | assumption | refine Root.alloc ?_ _ | refine Root.drew ?_ | refine Root.setCell ?_ (by first | (simp; done) | (simp; omega) | omega | exact Root.size (by assumption)) _ | refine Root.trans ?_ (by assumption))))
      (first | (go_at_call 23; refine (toSpotS_any _ _ _ (by exact HL.out.kept (by (repeat (first | exact Kept.refl _ | assumption | refine Kept.alloc ?_ _ | refine Kept.drew ?_ | refine Kept.drewN ?_ _ | refine Kept.setCell ?_ (by first | (simp; done) | (simp; omega) | omega | exact Kept.size (by (repeat (first | exact Kept.refl _ | assumption | refine Kept.alloc ?_ _ | refine Kept.drew ?_ | refine Kept.drewN ?_ _ | refine Kept.trans ?_ (by assumption))))) _ | refine Kept.trans ?_ (by assumption))))) hn).mono ?_; rintro e w1 ⟨u1, rfl, hu1, hk⟩; (have hkr := Root.trans (by assumption) hk); have hl1 := pairs_own hu1; clear hu1) | (go_at_call 18; refine (toBox_any _ _ _ _ _).mono ?_; rintro e w1 ⟨rfl, hk⟩; (have hkr := Root.trans (by assumption) hk); (first | (have hkf := From.step (by assumption) hk; obtain ⟨hc, hf⟩ := hkf.cells) | (have hkf := From.start hk; obtain ⟨hc, hf⟩ := hkf.cells))) | (go_at_call 30; refine (sSpotsIn_any _ _ _ _ _ _ _ (by first | assumption | exact Lies.kept (by assumption) (by (repeat (first | exact Kept.refl _ | assumption | refine Kept.alloc ?_ _ | refine Kept.drew ?_ | refine Kept.drewN ?_ _ | refine Kept.setCell ?_ (by first | (simp; done) | (simp; omega) | omega | exact Kept.size (by (repeat (first | exact Kept.refl _ | assumption | refine Kept.alloc ?_ _ | refine Kept.drew ?_ | refine Kept.drewN ?_ _ | refine Kept.trans ?_ (by assumption))))) _ | refine Kept.trans ?_ (by assumption)))))).mono ?_; rintro e w1 ⟨uw, rfl, how, hk⟩; (have hkr := Root.trans (by assumption) hk)))
    have k2 := hkr.kept
    have HOW := Lib.hid how
    clear hl1 hk hkr how hc hf hkf
    clear kf1_0 kf1_1 kf1_2 kf1_3
    go_wp2_with fail
    refine (toSpotS_any _ _ _ (HL.out.kept ((Kept.alloc (Kept.refl w) (.cells #[.int .i64 p, .int .i64 q, .int .i64 r, .int .i64 s] 32)).trans k2)) hn).mono ?_
    rintro e W3 ⟨ux, rfl, hox, k3⟩
    have q0 := (k2.trans k3).keep (show (w.alloc (.cells #[.int .i64 p, .int .i64 q, .int .i64 r, .int .i64 s] 32)).cell? ⟨w.heap.size, 0, none⟩ = some (.int .i64 p) by simp [go_sem])
    have q1 := (k2.trans k3).keep (show (w.alloc (.cells #[.int .i64 p, .int .i64 q, .int .i64 r, .int .i64 s] 32)).cell? ⟨w.heap.size, 1, none⟩ = some (.int .i64 q) by simp [go_sem])
    have q2 := (k2.trans k3).keep (show (w.alloc (.cells #[.int .i64 p, .int .i64 q, .int .i64 r, .int .i64 s] 32)).cell? ⟨w.heap.size, 2, none⟩ = some (.int .i64 r) by simp [go_sem])
    have q3 := (k2.trans k3).keep (show (w.alloc (.cells #[.int .i64 p, .int .i64 q, .int .i64 r, .int .i64 s] 32)).cell? ⟨w.heap.size, 3, none⟩ = some (.int .i64 s) by simp [go_sem])
    go_wp2_with fail
    refine (toBox_any _ _ _ _ _).mono ?_
    rintro e W3' ⟨rfl, k3'⟩
    go_wp2_with fail
    refine (spotsIn_any _ _ _ _ _ _ _ ((pairs_own hox).kept k3')).mono ?_
    rintro e W4 ⟨ug, rfl, hog, k4⟩
    go_wp2_with fail
    have how := HOW.out
    refine (eqIntS_any _ _ _ _ (ints_own hog) (ints_own (own_kept how (k3.trans (k3'.trans k4))))).mono ?_
    rintro e W5 ⟨rfl, k5⟩
    go_wp2_with fail
    refine (toSpotS_any _ _ _ (HL.out.kept (((Kept.alloc (Kept.refl w) (.cells #[.int .i64 p, .int .i64 q, .int .i64 r, .int .i64 s] 32)).trans k2).trans (k3.trans (k3'.trans (k4.trans k5))))) hn).mono ?_
    rintro e W6 ⟨uy, rfl, hoy, k6⟩
    go_wp2_with fail
    have k36 := k3'.trans (k4.trans (k5.trans k6))
    refine (eqSpotS_any _ _ _ _ (pairs_own (own_kept hox k36)) (pairs_own hoy)).mono ?_
    rintro e W7 ⟨rfl, k7⟩
    go_wp2_with fail
    have k37 := k36.trans k7
    refine (markSpotS_any _ _ _ _ _ _ (own_kept hox k37) hn).mono ?_
    rintro e W8 ⟨rfl, hmx, g8⟩
    have k07 : Kept (w.alloc (.cells #[.int .i64 p, .int .i64 q, .int .i64 r, .int .i64 s] 32)) W7 := k2.trans (k3.trans k37)
    have k08 : Kept (w.alloc (.cells #[.int .i64 p, .int .i64 q, .int .i64 r, .int .i64 s] 32)) W8 := Kept.marked k07 hox (k2.size) g8
    have hog8 := (own_kept hog (k5.trans (k6.trans k7))).kept g8 (own_ne hox hog k3'.size).2
    have how8 := (own_kept how (k3.trans k37)).kept g8 (own_ne how hox (Nat.le_refl _)).1
    clear q0 q1 q2 q3
    go_wp2_with fail
    refine (eqIntS_any _ _ _ _ (ints_own hog8) (ints_own how8)).mono ?_
    rintro e W9 ⟨rfl, k9⟩
    go_wp2_with fail
    refine (markIntS_any _ _ _ _ _ _ (own_kept hog8 k9) hgl).mono ?_
    rintro e W10 ⟨rfl, hmg, g10⟩
    have k010 : Kept (w.alloc (.cells #[.int .i64 p, .int .i64 q, .int .i64 r, .int .i64 s] 32)) W10 := Kept.marked (k08.trans k9) hog (by have := k2.size; have := k3.size; have := k3'.size; omega) g10
    have how10 := (own_kept how8 k9).kept g10 (own_ne how hog (by have := k3.size; have := k3'.size; omega)).1
    go_wp2_with fail
    refine (heldIntS_any _ _ _ _ _ hmg hgl).mono ?_
    rintro e W11 ⟨rfl, rfl⟩
    have t0 := k010.keep (show (w.alloc (.cells #[.int .i64 p, .int .i64 q, .int .i64 r, .int .i64 s] 32)).cell? ⟨w.heap.size, 0, none⟩ = some (.int .i64 p) by simp [go_sem])
    have t1 := k010.keep (show (w.alloc (.cells #[.int .i64 p, .int .i64 q, .int .i64 r, .int .i64 s] 32)).cell? ⟨w.heap.size, 1, none⟩ = some (.int .i64 q) by simp [go_sem])
    have t2 := k010.keep (show (w.alloc (.cells #[.int .i64 p, .int .i64 q, .int .i64 r, .int .i64 s] 32)).cell? ⟨w.heap.size, 2, none⟩ = some (.int .i64 r) by simp [go_sem])
    have t3 := k010.keep (show (w.alloc (.cells #[.int .i64 p, .int .i64 q, .int .i64 r, .int .i64 s] 32)).cell? ⟨w.heap.size, 3, none⟩ = some (.int .i64 s) by simp [go_sem])
    have K0 := Lib.hid k010
    have KW := Lib.hid k2
    have HMG := Lib.hid hmg
    have HOW10 := Lib.hid how10
    have HLX := Lib.hid (HL.out.kept ((Kept.alloc (Kept.refl w) (.cells #[.int .i64 p, .int .i64 q, .int .i64 r, .int .i64 s] 32)).trans k010))
    clear k010 k2 hmg how10 how8 hog8 k08 k07 hmx hog hox hoy how HOW k3 k3' k4 k5 k6 k7 k9 k36 k37 g8 g10
    go_wp2_with fail
    have kf2_0 : ∀ w' : World, Root (W10) w' → w'.cell? ⟨w.heap.size, 0, none⟩ = some (.int .i64 p) := fun w' h => h.keep (by first | assumption | exact (Kept.alloc (Kept.refl _) _).keep (by assumption) | (simp [go_sem]; done) | (simp [go_sem, *]; done))
    have kf2_1 : ∀ w' : World, Root (W10) w' → w'.cell? ⟨w.heap.size, 1, none⟩ = some (.int .i64 q) := fun w' h => h.keep (by first | assumption | exact (Kept.alloc (Kept.refl _) _).keep (by assumption) | (simp [go_sem]; done) | (simp [go_sem, *]; done))
    have kf2_2 : ∀ w' : World, Root (W10) w' → w'.cell? ⟨w.heap.size, 2, none⟩ = some (.int .i64 r) := fun w' h => h.keep (by first | assumption | exact (Kept.alloc (Kept.refl _) _).keep (by assumption) | (simp [go_sem]; done) | (simp [go_sem, *]; done))
    have kf2_3 : ∀ w' : World, Root (W10) w' → w'.cell? ⟨w.heap.size, 3, none⟩ = some (.int .i64 s) := fun w' h => h.keep (by first | assumption | exact (Kept.alloc (Kept.refl _) _).keep (by assumption) | (simp [go_sem]; done) | (simp [go_sem, *]; done))
    go_region_held3 (fun w' => Root (W10) w')
      (first | assumption | exact Root.trans (by assumption) hk | exact Root.drew (Root.refl _) | (repeat (first | exact Root.refl _ | assumption | refine Root.alloc ?_ _ | refine Root.drew ?_ | refine Root.setCell ?_ (by first | (simp; done) | (simp; omega) | omega | exact Root.size (by assumption)) _ | refine Root.trans ?_ (by assumption))))
      (first | (go_at_call 23; refine (toSpotS_any _ _ _ (by exact HLX.out.kept (by (repeat (first | exact Kept.refl _ | assumption | refine Kept.alloc ?_ _ | refine Kept.drew ?_ | refine Kept.drewN ?_ _ | refine Kept.setCell ?_ (by first | (simp; done) | (simp; omega) | omega | exact Kept.size (by (repeat (first | exact Kept.refl _ | assumption | refine Kept.alloc ?_ _ | refine Kept.drew ?_ | refine Kept.drewN ?_ _ | refine Kept.trans ?_ (by assumption))))) _ | refine Kept.trans ?_ (by assumption))))) hn).mono ?_; rintro e w1 ⟨u1, rfl, hu1, hk⟩; (have hkr := Root.trans (by assumption) hk); have hl1 := pairs_own hu1; clear hu1) | (go_at_call 18; refine (toBox_any _ _ _ _ _).mono ?_; rintro e w1 ⟨rfl, hk⟩; (have hkr := Root.trans (by assumption) hk); (first | (have hkf := From.step (by assumption) hk; obtain ⟨hc, hf⟩ := hkf.cells) | (have hkf := From.start hk; obtain ⟨hc, hf⟩ := hkf.cells))) | (go_at_call 31; refine (spotsIn_any _ _ _ _ _ _ _ (by first | assumption | exact Lies.kept (by assumption) (by (repeat (first | exact Kept.refl _ | assumption | refine Kept.alloc ?_ _ | refine Kept.drew ?_ | refine Kept.drewN ?_ _ | refine Kept.setCell ?_ (by first | (simp; done) | (simp; omega) | omega | exact Kept.size (by (repeat (first | exact Kept.refl _ | assumption | refine Kept.alloc ?_ _ | refine Kept.drew ?_ | refine Kept.drewN ?_ _ | refine Kept.trans ?_ (by assumption))))) _ | refine Kept.trans ?_ (by assumption)))))).mono ?_; rintro e w1 ⟨uh, rfl, hoh, hk⟩; (have hkr := Root.trans (by assumption) hk)))
    have kz := hkr.kept
    clear hk hkr hc hf hkf
    go_wp2_with fail
    refine (eqIntS_any _ _ _ _ (ints_own hoh) (ints_own (own_kept HOW10.out kz))).mono ?_
    rintro e W14 ⟨rfl, k14⟩
    go_wp2_with fail
    refine (heldIntS_any _ _ _ _ _ (own_kept HMG.out (kz.trans k14)) hgl).mono ?_
    rintro e W15 ⟨rfl, rfl⟩
    go_wp2_with fail
    go_ret
    exact ⟨rfl, ((Kept.alloc (Kept.refl w) _).trans K0.out).trans (kz.trans k14)⟩
  · obtain ⟨A, c, rfl, hlc, hcm, hA⟩ := hL
    clear hA
    go_enter Try.func9, Try.ntmps9
    go_wp2_with (go_at_call 21; (with_reducible refine (szSpotS_no _ _ _ (by exact HL.out.kept (by (repeat (first | exact Kept.refl _ | assumption | refine Kept.alloc ?_ _ | refine Kept.drew ?_ | refine Kept.drewN ?_ _ | refine Kept.setCell ?_ (by first | (simp; done) | (simp; omega) | omega | exact Kept.size (by (repeat (first | exact Kept.refl _ | assumption | refine Kept.alloc ?_ _ | refine Kept.drew ?_ | refine Kept.drewN ?_ _ | refine Kept.trans ?_ (by assumption))))) _ | refine Kept.trans ?_ (by assumption))))) (by omega)).mono ?_); rintro e w' ⟨rfl, rfl⟩)
    go_ret
    exact ⟨rfl, by (repeat (first | exact Kept.refl _ | assumption | refine Kept.alloc ?_ _ | refine Kept.drew ?_ | refine Kept.drewN ?_ _ | refine Kept.setCell ?_ (by first | (simp; done) | (simp; omega) | omega | exact Kept.size (by (repeat (first | exact Kept.refl _ | assumption | refine Kept.alloc ?_ _ | refine Kept.drew ?_ | refine Kept.drewN ?_ _ | refine Kept.trans ?_ (by assumption))))) _ | refine Kept.trans ?_ (by assumption)))⟩
end Go.Proofs.Ytnkofjfcioaaaaa

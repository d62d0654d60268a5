/-
  Contracts of HighestLevel, the program's and the reference's, and the law.
  Conditions: none.
-/
import Derived.Test.YtlkbneklmcefcaaHigh
namespace Go.Proofs.Ytlkbneklmcefcaa
open Go.ChangeShapes Go.WideShapes Go.ChangeAt Go.RowKit
set_option linter.unusedVariables false
set_option linter.unusedSimpArgs false
/-- Two numbers in block g, which may be written. -/
structure Cell2 (w : World) (g : Nat) (a b : Int) : Prop where
  c0 : w.cell? ⟨g, 0, none⟩ = some (.int .i64 a)
  c1 : w.cell? ⟨g, 1, none⟩ = some (.int .i64 b)
  f0 : w.frozen? ⟨g, 0, none⟩ = false
  f1 : w.frozen? ⟨g, 1, none⟩ = false
theorem Cell2.kept {w w' : World} {g : Nat} {a b : Int} (h : Cell2 w g a b) (k : Kept w w') : Cell2 w' g a b := ⟨k.keep h.c0, k.keep h.c1, k.free h.c0 h.f0, k.free h.c1 h.f1⟩
theorem Cell2.new (w : World) (a b : Int) (t : TypeId) : Cell2 (w.alloc (.cells #[.int .i64 a, .int .i64 b] t)) w.heap.size a b := by
  constructor <;> simp [go_sem]
theorem Cell2.stored {w : World} {g : Nat} {a b : Int} (h : Cell2 w g a b) (x y : Int) : Cell2 ((w.setCell ⟨g, 0, none⟩ (.int .i64 x)).setCell ⟨g, 1, none⟩ (.int .i64 y)) g x y := by
  obtain ⟨c0, c1, f0, f1⟩ := h
  constructor <;> simp [go_sem, *]
set_option maxHeartbeats 2000000 in
theorem highest_yes (v : Value) (xs : List (Int × Int)) (f t : Int) (w : World) (hL : Lies w 2 pairC v xs) (h0 : hlIn xs f t = true) : Calls Try.prog 39 #[v, .int .i64 f, .int .i64 t] w fun e w' => e = .returned (.tuple #[.int .i64 (hlN xs f t), .int .i64 (hlD xs f t), .bool (hlOk xs f t)]) ∧ Kept w w' := by
  have HL := Lib.hid hL
  have H0 := Lib.hid h0
  obtain ⟨h1, h3⟩ := hlIn_1 h0
  have H1 := Lib.hid h1
  obtain ⟨⟨f1, f2⟩, ⟨t1, t2⟩, t3⟩ := spanB_1 h3
  obtain ⟨A, c, rfl, -, -, -⟩ := hL
  clear h0
  go_enter Try.func39, Try.ntmps39
  go_wp2_with fail
  refine (isTideCurve_any _ _ _ HL.out).mono ?_
  rintro e WQ ⟨rfl, hk⟩
  have HK := Lib.hid hk
  clear hk
  go_wp2_with (go_at_call 69; (with_reducible refine (isSpan_any _ _ _).mono ?_); rintro e w' ⟨rfl, rfl⟩)
  go_loopw [10] (fun i wr => ∃ (k : Nat) (bn bd : Int), f + k ≤ t + 1 ∧ i = .int .i64 (f + k) ∧ Kept w wr ∧ Cell2 wr WQ.heap.size bn bd ∧ (∀ j : Nat, j < k → lvOk xs (f + j) = true) ∧ BestIs xs f k bn bd) (fun i _ => (t + 1 - intOf i).toNat)
  case atStart => exact ⟨0, -20000, 1, by omega, by simp, by have hq := HK.out; (repeat (first | exact Kept.refl _ | assumption | refine Kept.alloc ?_ _ | refine Kept.drew ?_ | refine Kept.drewN ?_ _ | refine Kept.setCell ?_ (by first | (simp; done) | (simp; omega) | omega | exact Kept.size (by (repeat (first | exact Kept.refl _ | assumption | refine Kept.alloc ?_ _ | refine Kept.drew ?_ | refine Kept.drewN ?_ _ | refine Kept.trans ?_ (by assumption))))) _ | refine Kept.trans ?_ (by assumption))), Cell2.new WQ _ _ 69, fun j h => absurd h (by omega), by simp [BestIs]⟩
  case round =>
    obtain ⟨k, bn, bd, hk, rfl, hkw, h2, hall, hbest⟩ := hrel
    have HA := Lib.hid hall
    have HB := Lib.hid hbest
    have H2 := Lib.hid h2
    have hgw : w.heap.size ≤ WQ.heap.size := HK.out.size
    by_cases hlt : f + k ≤ t
    · have HT := Lib.hid (timeB_2 (t := f + k) (by omega) (by omega))
      obtain ⟨⟨bb1, bb2⟩, bb3, bb4⟩ := best_bd H1.out f1 (by omega) hall hbest
      clear hall hbest h2
      cases o : lvOk xs (f + k)
      · have HN := Lib.hid (hl_no (xs := xs) (f := f) (t := t) k hlt o)
        go_wp2_with fail
        refine (levelAt_any _ _ _ _ (HL.out.kept hkw) H1.out HT.out).mono ?_
        rintro e W1 ⟨p, q, rfl, hpq, k1⟩
        rw [o]
        clear hpq
        go_wp2_with fail
        go_ret3
        exact ⟨ret_iib HN.out.1 HN.out.2.1 HN.out.2.2, by (repeat (first | exact Kept.refl _ | assumption | refine Kept.alloc ?_ _ | refine Kept.drew ?_ | refine Kept.drewN ?_ _ | refine Kept.setCell ?_ (by first | (simp; done) | (simp; omega) | omega | exact Kept.size (by (repeat (first | exact Kept.refl _ | assumption | refine Kept.alloc ?_ _ | refine Kept.drew ?_ | refine Kept.drewN ?_ _ | refine Kept.trans ?_ (by assumption))))) _ | refine Kept.trans ?_ (by assumption)))⟩
      · have hb := lv_bd H1.out HT.out o
        have hr := red_bds hb.1 hb.2
        have hst := best_step H1.out f1 (by omega) HA.out o HB.out
        have HA2 := Lib.hid (upto_succ (p := fun j => lvOk xs (f + (j : Nat)) = true) HA.out o)
        have hV : Hid (∀ p q, LvPost xs (f + k) p q → p = redN (lvN xs (f + k)) (lvD xs (f + k)) ∧ q = redD (lvN xs (f + k)) (lvD xs (f + k))) := fun p q h => h o
        have HST := Lib.hid hst
        clear hst hb
        generalize redN (lvN xs (f + k)) (lvD xs (f + k)) = P at *
        generalize redD (lvN xs (f + k)) (lvD xs (f + k)) = Q at *
        obtain ⟨⟨p1, p2⟩, q1, q2⟩ := hr
        obtain ⟨m1, m2⟩ := mul_bd (a := P) (b := bd) 40000000 60 (by omega) (by omega) (by omega) (by omega)
        obtain ⟨m3, m4⟩ := mul_bd (a := bn) (b := Q) 40000000 60 (by omega) (by omega) (by omega) (by omega)
        go_wp2_with fail
        refine (levelAt_any _ _ _ _ (HL.out.kept hkw) H1.out HT.out).mono ?_
        rintro e W1 ⟨p, q, rfl, hpq, k1⟩
        obtain ⟨rfl, rfl⟩ := hV.out _ _ hpq
        rw [o]
        clear hpq
        have HB1 := Lib.hid (H2.out.kept k1)
        have e0 := HB1.out.c0
        have e1 := HB1.out.c1
        have hz := World.block_lt_of_cell? W1 _ e0
        simp only [] at hz
        have z1 : WQ.heap.size ≤ W1.heap.size := by omega
        have z2 : ¬ WQ.heap.size = W1.heap.size := by omega
        have z3 : ¬ W1.heap.size = WQ.heap.size := by omega
        go_wp2_with fail
        refine (compare_any p q bn bd (by omega) (by omega) (by omega) (by omega) _).mono ?_
        rintro e W2 ⟨rfl, k2⟩
        have HB2 := Lib.hid ((HB1.out.kept (Kept.alloc (Kept.refl W1) (.cells #[.int .i64 p, .int .i64 q] 69))).kept k2)
        have l0 := k2.keep (p := ⟨W1.heap.size, 0, none⟩) (v := .int .i64 p) (by simp [go_sem])
        have l1 := k2.keep (p := ⟨W1.heap.size, 1, none⟩) (v := .int .i64 q) (by simp [go_sem])
        have hkw2 := hkw.trans (k1.trans ((Kept.alloc (Kept.refl W1) _).trans k2))
        clear e0 e1 k1 k2
        obtain ⟨e0, e1, g0, g1⟩ := HB2.out
        by_cases hgt : bn * q < p * bd
        · have hc : 0 < cmpI (p * bd) (bn * q) := by
            simp only [cmpI]
            rw [if_neg (by omega), if_pos hgt]
            omega
          have HST2 := Lib.hid (HST.out.1 hgt)
          clear hgt
          go_wp2_with fail
          go_roundw
          case rel => exact ⟨k + 1, p, q, by omega, by go_num, (hkw2.setCell hgw _).setCell hgw _, HB2.out.stored p q, HA2.out, HST2.out⟩
          case measure => simp [intOf]; omega
        · have hc : cmpI (p * bd) (bn * q) ≤ 0 := by
            simp only [cmpI]
            (repeat' split) <;> omega
          have HST2 := Lib.hid (HST.out.2 (Int.not_lt.1 hgt))
          clear hgt
          go_wp2_with fail
          go_roundw
          case rel => exact ⟨k + 1, bn, bd, by omega, by go_num, hkw2, HB2.out, HA2.out, HST2.out⟩
          case measure => simp [intOf]; omega
    · have HV := Lib.hid (hl_best (t := t) H0.out (by omega) (by omega) hall hbest)
      clear hall hbest
      obtain ⟨e0, e1, g0, g1⟩ := h2
      go_wp2_with fail
      go_quiet (fail)
      go_wp2
      go_ret3
      exact ⟨ret_iib HV.out.1 HV.out.2.1 HV.out.2.2, by (repeat (first | exact Kept.refl _ | assumption | refine Kept.alloc ?_ _ | refine Kept.drew ?_ | refine Kept.drewN ?_ _ | refine Kept.setCell ?_ (by first | (simp; done) | (simp; omega) | omega | exact Kept.size (by (repeat (first | exact Kept.refl _ | assumption | refine Kept.alloc ?_ _ | refine Kept.drew ?_ | refine Kept.drewN ?_ _ | refine Kept.trans ?_ (by assumption))))) _ | refine Kept.trans ?_ (by assumption)))⟩
theorem highest_any (v : Value) (xs : List (Int × Int)) (f t : Int) (w : World) (hL : Lies w 2 pairC v xs) : Calls Try.prog 39 #[v, .int .i64 f, .int .i64 t] w fun e w' => e = .returned (.tuple #[.int .i64 (hlN xs f t), .int .i64 (hlD xs f t), .bool (hlOk xs f t)]) ∧ Kept w w' := by
  cases h0 : hlIn xs f t
  · have HN := Lib.hid (hl_out h0)
    have HL := Lib.hid hL
    obtain ⟨A, c, rfl, -, -, -⟩ := hL
    cases h1 : tideB xs
    · clear h0
      (go_enter Try.func39, Try.ntmps39; go_wp2_with (first | (go_at_call 17; (with_reducible refine (isTideCurve_any _ _ _ HL.out).mono ?_); rintro e w' ⟨rfl, hk⟩; (try have hkr := Root.trans (by assumption) hk); (first | (have hkf := From.step (by assumption) hk; obtain ⟨hc, hf⟩ := hkf.cells) | (have hkf := From.start hk; obtain ⟨hc, hf⟩ := hkf.cells))) | (go_at_call 69; (with_reducible refine (isSpan_any _ _ _).mono ?_); rintro e w' ⟨rfl, rfl⟩)); (all_goals go_ret3); all_goals exact ⟨ret_iib HN.out.1 HN.out.2.1 HN.out.2.2, by (repeat (first | exact Kept.refl _ | assumption | refine Kept.alloc ?_ _ | refine Kept.drew ?_ | refine Kept.drewN ?_ _ | refine Kept.setCell ?_ (by first | (simp; done) | (simp; omega) | omega | exact Kept.size (by (repeat (first | exact Kept.refl _ | assumption | refine Kept.alloc ?_ _ | refine Kept.drew ?_ | refine Kept.drewN ?_ _ | refine Kept.trans ?_ (by assumption))))) _ | refine Kept.trans ?_ (by assumption)))⟩)
    · have h2 : spanB f t = false := by cases h : spanB f t <;> simp [hlIn, h1, h] at h0 ⊢
      clear h0
      (go_enter Try.func39, Try.ntmps39; go_wp2_with (first | (go_at_call 17; (with_reducible refine (isTideCurve_any _ _ _ HL.out).mono ?_); rintro e w' ⟨rfl, hk⟩; (try have hkr := Root.trans (by assumption) hk); (first | (have hkf := From.step (by assumption) hk; obtain ⟨hc, hf⟩ := hkf.cells) | (have hkf := From.start hk; obtain ⟨hc, hf⟩ := hkf.cells))) | (go_at_call 69; (with_reducible refine (isSpan_any _ _ _).mono ?_); rintro e w' ⟨rfl, rfl⟩)); (all_goals go_ret3); all_goals exact ⟨ret_iib HN.out.1 HN.out.2.1 HN.out.2.2, by (repeat (first | exact Kept.refl _ | assumption | refine Kept.alloc ?_ _ | refine Kept.drew ?_ | refine Kept.drewN ?_ _ | refine Kept.setCell ?_ (by first | (simp; done) | (simp; omega) | omega | exact Kept.size (by (repeat (first | exact Kept.refl _ | assumption | refine Kept.alloc ?_ _ | refine Kept.drew ?_ | refine Kept.drewN ?_ _ | refine Kept.trans ?_ (by assumption))))) _ | refine Kept.trans ?_ (by assumption)))⟩)
  · exact highest_yes v xs f t w hL h0
set_option maxHeartbeats 2000000 in
theorem sHighest_any (v : Value) (xs : List (Int × Int)) (f t : Int) (w : World) (hL : Lies w 2 pairC v xs) : Calls Try.prog 38 #[v, .int .i64 f, .int .i64 t] w fun e w' => e = .returned (.tuple #[.int .i64 (hlN xs f t), .int .i64 (hlD xs f t), .bool (hlOk xs f t)]) ∧ Kept w w' := by
  have HL := Lib.hid hL
  obtain ⟨A, c, rfl, -, -, -⟩ := hL
  cases h0 : hlIn xs f t
  · have HN := Lib.hid (hl_out h0)
    have h9 : (tideB xs && spanB f t) = false := h0
    clear h0
    (go_enter Try.func38, Try.ntmps38; go_wp2_with (go_at_call 68; (with_reducible refine (l4Span_any _ _ _ _ _ HL.out).mono ?_); rintro e w' ⟨rfl, hk⟩; (try have hkr := Root.trans (by assumption) hk); (first | (have hkf := From.step (by assumption) hk; obtain ⟨hc, hf⟩ := hkf.cells) | (have hkf := From.start hk; obtain ⟨hc, hf⟩ := hkf.cells))); (all_goals go_ret3); all_goals exact ⟨ret_iib HN.out.1 HN.out.2.1 HN.out.2.2, by (repeat (first | exact Kept.refl _ | assumption | refine Kept.alloc ?_ _ | refine Kept.drew ?_ | refine Kept.drewN ?_ _ | refine Kept.setCell ?_ (by first | (simp; done) | (simp; omega) | omega | exact Kept.size (by (repeat (first | exact Kept.refl _ | assumption | refine Kept.alloc ?_ _ | refine Kept.drew ?_ | refine Kept.drewN ?_ _ | refine Kept.trans ?_ (by assumption))))) _ | refine Kept.trans ?_ (by assumption)))⟩)
  · have H0 := Lib.hid h0
    have h9 : (tideB xs && spanB f t) = true := h0
    obtain ⟨h1, h3⟩ := hlIn_1 h0
    have H1 := Lib.hid h1
    obtain ⟨⟨f1, f2⟩, ⟨t1, t2⟩, t3⟩ := spanB_1 h3
    clear h0
    go_enter Try.func38, Try.ntmps38
    go_wp2_with (go_at_call 68; (with_reducible refine (l4Span_any _ _ _ _ _ HL.out).mono ?_); rintro e w' ⟨rfl, hk⟩; (try have hkr := Root.trans (by assumption) hk); (first | (have hkf := From.step (by assumption) hk; obtain ⟨hc, hf⟩ := hkf.cells) | (have hkf := From.start hk; obtain ⟨hc, hf⟩ := hkf.cells)))
    clear hc hf hkf
    go_loopw [9, 10, 11] (fun sa sb i wr => ∃ k : Nat, f + k ≤ t + 1 ∧ i = .int .i64 (f + k) ∧ sa = .int .i64 (hiTo xs f k).1 ∧ sb = .int .i64 (hiTo xs f k).2 ∧ Kept w wr ∧ (∀ j : Nat, j < k → lvOk xs (f + j) = true)) (fun _ _ i _ => (t + 1 - intOf i).toNat)
    case atStart => exact ⟨0, by omega, by simp, rfl, rfl, by (repeat (first | exact Kept.refl _ | assumption | refine Kept.alloc ?_ _ | refine Kept.drew ?_ | refine Kept.drewN ?_ _ | refine Kept.setCell ?_ (by first | (simp; done) | (simp; omega) | omega | exact Kept.size (by (repeat (first | exact Kept.refl _ | assumption | refine Kept.alloc ?_ _ | refine Kept.drew ?_ | refine Kept.drewN ?_ _ | refine Kept.trans ?_ (by assumption))))) _ | refine Kept.trans ?_ (by assumption))), fun j h => absurd h (by omega)⟩
    case round =>
      obtain ⟨k, hk, rfl, rfl, rfl, hkw, hall⟩ := hrel
      have HA := Lib.hid hall
      obtain ⟨⟨bb1, bb2⟩, ⟨bb3, bb4⟩, bb5⟩ := hi_bd h1 f1 k (by omega) hall
      have BB5 := Lib.hid bb5
      clear hall bb5
      by_cases hlt : f + k ≤ t
      · have HT := Lib.hid (timeB_2 (t := f + k) (by omega) (by omega))
        cases o : lvOk xs (f + k)
        · have HN := Lib.hid (hl_no (xs := xs) (f := f) (t := t) k hlt o)
          go_wp2_with (go_at_call 58; (with_reducible refine (l4At_any _ _ _ _ (by exact HL.out.kept (by (repeat (first | exact Kept.refl _ | assumption | refine Kept.alloc ?_ _ | refine Kept.drew ?_ | refine Kept.drewN ?_ _ | refine Kept.setCell ?_ (by first | (simp; done) | (simp; omega) | omega | exact Kept.size (by (repeat (first | exact Kept.refl _ | assumption | refine Kept.alloc ?_ _ | refine Kept.drew ?_ | refine Kept.drewN ?_ _ | refine Kept.trans ?_ (by assumption))))) _ | refine Kept.trans ?_ (by assumption))))) H1.out HT.out).mono ?_); rintro e w' ⟨rfl, hk⟩; (try have hkr := Root.trans (by assumption) hk); (first | (have hkf := From.step (by assumption) hk; obtain ⟨hc, hf⟩ := hkf.cells) | (have hkf := From.start hk; obtain ⟨hc, hf⟩ := hkf.cells)))
          go_ret3
          exact ⟨ret_iib HN.out.1 HN.out.2.1 HN.out.2.2, by (repeat (first | exact Kept.refl _ | assumption | refine Kept.alloc ?_ _ | refine Kept.drew ?_ | refine Kept.drewN ?_ _ | refine Kept.setCell ?_ (by first | (simp; done) | (simp; omega) | omega | exact Kept.size (by (repeat (first | exact Kept.refl _ | assumption | refine Kept.alloc ?_ _ | refine Kept.drew ?_ | refine Kept.drewN ?_ _ | refine Kept.trans ?_ (by assumption))))) _ | refine Kept.trans ?_ (by assumption)))⟩
        · have hb := lv_bd H1.out HT.out o
          obtain ⟨⟨p1, p2⟩, q1, q2⟩ := hb
          have HA2 := Lib.hid (upto_succ (p := fun j => lvOk xs (f + (j : Nat)) = true) HA.out o)
          obtain ⟨m1, m2⟩ := mul_bd (a := lvN xs (f + k)) (b := (hiTo xs f k).2) 40000000 60 (by omega) (by omega) (by omega) (by omega)
          obtain ⟨m3, m4⟩ := mul_bd (a := (hiTo xs f k).1) (b := lvD xs (f + k)) 40000000 60 (by omega) (by omega) (by omega) (by omega)
          by_cases hb0 : (hiTo xs f k).2 = 0
          · have HU : Hid (hiTo xs f (k + 1) = (lvN xs (f + k), lvD xs (f + k))) := by
              show hiTo xs f (k + 1) = _
              rw [hiTo, if_pos (Or.inl hb0)]
            have tb : ((hiTo xs f k).2 == 0) = true := beq_iff_eq.2 hb0
            clear hb0
            go_wp2_with (go_at_call 58; (with_reducible refine (l4At_any _ _ _ _ (by exact HL.out.kept (by (repeat (first | exact Kept.refl _ | assumption | refine Kept.alloc ?_ _ | refine Kept.drew ?_ | refine Kept.drewN ?_ _ | refine Kept.setCell ?_ (by first | (simp; done) | (simp; omega) | omega | exact Kept.size (by (repeat (first | exact Kept.refl _ | assumption | refine Kept.alloc ?_ _ | refine Kept.drew ?_ | refine Kept.drewN ?_ _ | refine Kept.trans ?_ (by assumption))))) _ | refine Kept.trans ?_ (by assumption))))) H1.out HT.out).mono ?_); rintro e w' ⟨rfl, hk⟩; (try have hkr := Root.trans (by assumption) hk); (first | (have hkf := From.step (by assumption) hk; obtain ⟨hc, hf⟩ := hkf.cells) | (have hkf := From.start hk; obtain ⟨hc, hf⟩ := hkf.cells)))
            go_roundw
            case rel => exact ⟨k + 1, by omega, by go_num, by rw [HU.out], by rw [HU.out], by (repeat (first | exact Kept.refl _ | assumption | refine Kept.alloc ?_ _ | refine Kept.drew ?_ | refine Kept.drewN ?_ _ | refine Kept.setCell ?_ (by first | (simp; done) | (simp; omega) | omega | exact Kept.size (by (repeat (first | exact Kept.refl _ | assumption | refine Kept.alloc ?_ _ | refine Kept.drew ?_ | refine Kept.drewN ?_ _ | refine Kept.trans ?_ (by assumption))))) _ | refine Kept.trans ?_ (by assumption))), HA2.out⟩
            case measure => simp [intOf]; omega
          · have tb : ((hiTo xs f k).2 == 0) = false := beq_eq_false_iff_ne.2 hb0
            have e1 : IntKind.i64.wrap (lvN xs (f + k) * (hiTo xs f k).2) = lvN xs (f + k) * (hiTo xs f k).2 := IntWalk.i64_in _ (by omega)
            have e2 : IntKind.i64.wrap ((hiTo xs f k).1 * lvD xs (f + k)) = (hiTo xs f k).1 * lvD xs (f + k) := IntWalk.i64_in _ (by omega)
            by_cases hgt : (hiTo xs f k).1 * lvD xs (f + k) < lvN xs (f + k) * (hiTo xs f k).2
            · have HU : Hid (hiTo xs f (k + 1) = (lvN xs (f + k), lvD xs (f + k))) := by
                show hiTo xs f (k + 1) = _
                rw [hiTo, if_pos (Or.inr hgt)]
              clear hb0
              go_wp2_with (go_at_call 58; (with_reducible refine (l4At_any _ _ _ _ (by exact HL.out.kept (by (repeat (first | exact Kept.refl _ | assumption | refine Kept.alloc ?_ _ | refine Kept.drew ?_ | refine Kept.drewN ?_ _ | refine Kept.setCell ?_ (by first | (simp; done) | (simp; omega) | omega | exact Kept.size (by (repeat (first | exact Kept.refl _ | assumption | refine Kept.alloc ?_ _ | refine Kept.drew ?_ | refine Kept.drewN ?_ _ | refine Kept.trans ?_ (by assumption))))) _ | refine Kept.trans ?_ (by assumption))))) H1.out HT.out).mono ?_); rintro e w' ⟨rfl, hk⟩; (try have hkr := Root.trans (by assumption) hk); (first | (have hkf := From.step (by assumption) hk; obtain ⟨hc, hf⟩ := hkf.cells) | (have hkf := From.start hk; obtain ⟨hc, hf⟩ := hkf.cells)))
              go_roundw
              case rel => exact ⟨k + 1, by omega, by go_num, by rw [HU.out], by rw [HU.out], by (repeat (first | exact Kept.refl _ | assumption | refine Kept.alloc ?_ _ | refine Kept.drew ?_ | refine Kept.drewN ?_ _ | refine Kept.setCell ?_ (by first | (simp; done) | (simp; omega) | omega | exact Kept.size (by (repeat (first | exact Kept.refl _ | assumption | refine Kept.alloc ?_ _ | refine Kept.drew ?_ | refine Kept.drewN ?_ _ | refine Kept.trans ?_ (by assumption))))) _ | refine Kept.trans ?_ (by assumption))), HA2.out⟩
              case measure => simp [intOf]; omega
            · have HU : Hid (hiTo xs f (k + 1) = hiTo xs f k) := by
                show hiTo xs f (k + 1) = _
                rw [hiTo, if_neg (fun h => h.elim hb0 hgt)]
              have hle : lvN xs (f + k) * (hiTo xs f k).2 ≤ (hiTo xs f k).1 * lvD xs (f + k) := by omega
              clear hb0 hgt
              go_wp2_with (go_at_call 58; (with_reducible refine (l4At_any _ _ _ _ (by exact HL.out.kept (by (repeat (first | exact Kept.refl _ | assumption | refine Kept.alloc ?_ _ | refine Kept.drew ?_ | refine Kept.drewN ?_ _ | refine Kept.setCell ?_ (by first | (simp; done) | (simp; omega) | omega | exact Kept.size (by (repeat (first | exact Kept.refl _ | assumption | refine Kept.alloc ?_ _ | refine Kept.drew ?_ | refine Kept.drewN ?_ _ | refine Kept.trans ?_ (by assumption))))) _ | refine Kept.trans ?_ (by assumption))))) H1.out HT.out).mono ?_); rintro e w' ⟨rfl, hk⟩; (try have hkr := Root.trans (by assumption) hk); (first | (have hkf := From.step (by assumption) hk; obtain ⟨hc, hf⟩ := hkf.cells) | (have hkf := From.start hk; obtain ⟨hc, hf⟩ := hkf.cells)))
              go_roundw
              case rel => exact ⟨k + 1, by omega, by go_num, by rw [HU.out], by rw [HU.out], by (repeat (first | exact Kept.refl _ | assumption | refine Kept.alloc ?_ _ | refine Kept.drew ?_ | refine Kept.drewN ?_ _ | refine Kept.setCell ?_ (by first | (simp; done) | (simp; omega) | omega | exact Kept.size (by (repeat (first | exact Kept.refl _ | assumption | refine Kept.alloc ?_ _ | refine Kept.drew ?_ | refine Kept.drewN ?_ _ | refine Kept.trans ?_ (by assumption))))) _ | refine Kept.trans ?_ (by assumption))), HA2.out⟩
              case measure => simp [intOf]; omega
      · have HV := Lib.hid (hl_yes (t := t) H0.out (by omega) HA.out)
        have bb6 := BB5.out (by omega)
        have m1 : -4611686018427387904 ≤ (hiTo xs f k).1 := by omega
        have m2 : (hiTo xs f k).1 ≤ 4611686018427387904 := by omega
        have m3 : 0 < (hiTo xs f k).2 := by omega
        have m4 : (hiTo xs f k).2 ≤ 4611686018427387904 := by omega
        go_wp2_with (go_at_call 62; (with_reducible refine (l2Reduce_any _ _ m1 m2 m3 m4 _).mono ?_); rintro e w' ⟨rfl, hk⟩; (try have hkr := Root.trans (by assumption) hk); (first | (have hkf := From.step (by assumption) hk; obtain ⟨hc, hf⟩ := hkf.cells) | (have hkf := From.start hk; obtain ⟨hc, hf⟩ := hkf.cells)))
        go_ret3
        exact ⟨ret_iib HV.out.1 HV.out.2.1 HV.out.2.2, by (repeat (first | exact Kept.refl _ | assumption | refine Kept.alloc ?_ _ | refine Kept.drew ?_ | refine Kept.drewN ?_ _ | refine Kept.setCell ?_ (by first | (simp; done) | (simp; omega) | omega | exact Kept.size (by (repeat (first | exact Kept.refl _ | assumption | refine Kept.alloc ?_ _ | refine Kept.drew ?_ | refine Kept.drewN ?_ _ | refine Kept.trans ?_ (by assumption))))) _ | refine Kept.trans ?_ (by assumption)))⟩
theorem lawHighestLevel (v : Value) (xs : List (Int × Int)) (f t : Int) (w : World) (hL : Lies w 2 pairC v xs) : Calls Try.prog 11 #[v, .int .i64 f, .int .i64 t] w fun e w' => e = .returned (.bool true) ∧ Kept w w' := by
  have HL := Lib.hid hL
  by_cases hn : xs.length ≤ 1048576
  · obtain ⟨A, c, rfl, hlc, hcm, hA⟩ := hL
    clear hA
    go_enter Try.func11, Try.ntmps11
    go_wp2_with (first | (go_at_call 14; (with_reducible refine (szTideS_ok _ _ _ HL.out hn).mono ?_); rintro e w' ⟨rfl, rfl⟩) | (go_at_call 16; refine (toTideS_any _ _ _ (by exact HL.out.kept (by (repeat (first | exact Kept.refl _ | assumption | refine Kept.alloc ?_ _ | refine Kept.drew ?_ | refine Kept.drewN ?_ _ | refine Kept.setCell ?_ (by first | (simp; done) | (simp; omega) | omega | exact Kept.size (by (repeat (first | exact Kept.refl _ | assumption | refine Kept.alloc ?_ _ | refine Kept.drew ?_ | refine Kept.drewN ?_ _ | refine Kept.trans ?_ (by assumption))))) _ | refine Kept.trans ?_ (by assumption))))) hn).mono ?_; rintro e w1 ⟨u1, rfl, hu1, hk⟩; (try have hkr := Root.trans (by assumption) hk); (first | have hl1 := pairs_own hu1 | have hl1 := crafts_own hu1); clear hu1) | (go_at_call 38; (with_reducible refine (sHighest_any _ _ _ _ _ (by first | assumption | exact Lies.kept (by assumption) (by (repeat (first | exact Kept.refl _ | assumption | refine Kept.alloc ?_ _ | refine Kept.drew ?_ | refine Kept.drewN ?_ _ | refine Kept.setCell ?_ (by first | (simp; done) | (simp; omega) | omega | exact Kept.size (by (repeat (first | exact Kept.refl _ | assumption | refine Kept.alloc ?_ _ | refine Kept.drew ?_ | refine Kept.drewN ?_ _ | refine Kept.trans ?_ (by assumption))))) _ | refine Kept.trans ?_ (by assumption)))))).mono ?_); rintro e w' ⟨rfl, hk⟩; (try have hkr := Root.trans (by assumption) hk); (first | (have hkf := From.step (by assumption) hk; obtain ⟨hc, hf⟩ := hkf.cells) | (have hkf := From.start hk; obtain ⟨hc, hf⟩ := hkf.cells))) | (go_at_call 39; (with_reducible refine (highest_any _ _ _ _ _ (by first | assumption | exact Lies.kept (by assumption) (by (repeat (first | exact Kept.refl _ | assumption | refine Kept.alloc ?_ _ | refine Kept.drew ?_ | refine Kept.drewN ?_ _ | refine Kept.setCell ?_ (by first | (simp; done) | (simp; omega) | omega | exact Kept.size (by (repeat (first | exact Kept.refl _ | assumption | refine Kept.alloc ?_ _ | refine Kept.drew ?_ | refine Kept.drewN ?_ _ | refine Kept.trans ?_ (by assumption))))) _ | refine Kept.trans ?_ (by assumption)))))).mono ?_); rintro e w' ⟨rfl, hk⟩; (try have hkr := Root.trans (by assumption) hk); (first | (have hkf := From.step (by assumption) hk; obtain ⟨hc, hf⟩ := hkf.cells) | (have hkf := From.start hk; obtain ⟨hc, hf⟩ := hkf.cells))) | (go_at_call 18; (with_reducible refine (eqTideS_any _ _ _ _ (by first | assumption | exact Lies.kept (by assumption) (by (repeat (first | exact Kept.refl _ | assumption | refine Kept.alloc ?_ _ | refine Kept.drew ?_ | refine Kept.drewN ?_ _ | refine Kept.setCell ?_ (by first | (simp; done) | (simp; omega) | omega | exact Kept.size (by (repeat (first | exact Kept.refl _ | assumption | refine Kept.alloc ?_ _ | refine Kept.drew ?_ | refine Kept.drewN ?_ _ | refine Kept.trans ?_ (by assumption))))) _ | refine Kept.trans ?_ (by assumption))))) (by first | assumption | exact Lies.kept (by assumption) (by (repeat (first | exact Kept.refl _ | assumption | refine Kept.alloc ?_ _ | refine Kept.drew ?_ | refine Kept.drewN ?_ _ | refine Kept.setCell ?_ (by first | (simp; done) | (simp; omega) | omega | exact Kept.size (by (repeat (first | exact Kept.refl _ | assumption | refine Kept.alloc ?_ _ | refine Kept.drew ?_ | refine Kept.drewN ?_ _ | refine Kept.trans ?_ (by assumption))))) _ | refine Kept.trans ?_ (by assumption)))))).mono ?_); rintro e w' ⟨rfl, hk⟩; (try have hkr := Root.trans (by assumption) hk); (first | (have hkf := From.step (by assumption) hk; obtain ⟨hc, hf⟩ := hkf.cells) | (have hkf := From.start hk; obtain ⟨hc, hf⟩ := hkf.cells))))
    go_ret
    exact ⟨rfl, by (repeat (first | exact Kept.refl _ | assumption | refine Kept.alloc ?_ _ | refine Kept.drew ?_ | refine Kept.drewN ?_ _ | refine Kept.setCell ?_ (by first | (simp; done) | (simp; omega) | omega | exact Kept.size (by (repeat (first | exact Kept.refl _ | assumption | refine Kept.alloc ?_ _ | refine Kept.drew ?_ | refine Kept.drewN ?_ _ | refine Kept.trans ?_ (by assumption))))) _ | refine Kept.trans ?_ (by assumption)))⟩
  · obtain ⟨A, c, rfl, hlc, hcm, hA⟩ := hL
    clear hA
    go_enter Try.func11, Try.ntmps11
    go_wp2_with (go_at_call 14; (with_reducible refine (szTideS_no _ _ _ HL.out (by omega)).mono ?_); rintro e w' ⟨rfl, rfl⟩)
    go_ret
    exact ⟨rfl, by (repeat (first | exact Kept.refl _ | assumption | refine Kept.alloc ?_ _ | refine Kept.drew ?_ | refine Kept.drewN ?_ _ | refine Kept.setCell ?_ (by first | (simp; done) | (simp; omega) | omega | exact Kept.size (by (repeat (first | exact Kept.refl _ | assumption | refine Kept.alloc ?_ _ | refine Kept.drew ?_ | refine Kept.drewN ?_ _ | refine Kept.trans ?_ (by assumption))))) _ | refine Kept.trans ?_ (by assumption)))⟩
end Go.Proofs.Ytlkbneklmcefcaa

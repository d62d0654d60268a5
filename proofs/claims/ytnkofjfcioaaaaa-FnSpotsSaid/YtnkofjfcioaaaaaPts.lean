/-
  Contracts of the functions over points and boxes.
  Conditions: none.
-/
import Derived.Test.YtnkofjfcioaaaaaNum
namespace Go.Proofs.Ytnkofjfcioaaaaa
open Go.ChangeShapes Go.WideShapes Go.ChangeAt Go.RowKit
set_option linter.unusedVariables false

def spotB (x y : Int) : Bool := inB x 0 1000 && inB y 0 1000
def spotV (x y : Int) : Value := .agg #[.int .i64 x, .int .i64 y]

theorem isSpot_any (x y : Int) (w : World) : Calls Try.prog 44 #[.agg #[.int .i64 x, .int .i64 y]] w fun e w' => e = .returned (.bool (spotB x y)) ∧ Kept w w' := by
  go_enter Try.func44, Try.ntmps44
  go_wp2_with (go_at_call 69; refine (inside_any _ _ _ _).mono ?_; rintro e w' ⟨rfl, rfl⟩)
  all_goals go_ret
  all_goals exact ⟨ret_bool (by simp [spotB, *]), by (repeat (first | exact Kept.refl _ | assumption | refine Kept.alloc ?_ _ | refine Kept.drew ?_ | refine Kept.drewN ?_ _ | refine Kept.setCell ?_ (by first | (simp; done) | (simp; omega) | omega | exact Kept.size (by (repeat (first | exact Kept.refl _ | assumption | refine Kept.alloc ?_ _ | refine Kept.drew ?_ | refine Kept.drewN ?_ _ | refine Kept.trans ?_ (by assumption))))) _ | refine Kept.trans ?_ (by assumption)))⟩
theorem toSpot_any (x y : Int) (w : World) : Calls Try.prog 13 #[.agg #[.int .i64 x, .int .i64 y]] w fun e w' => e = .returned (.agg #[.int .i64 x, .int .i64 y]) ∧ Kept w w' := by
  go_enter Try.func13, Try.ntmps13
  go_wp2
  exact bodyPost_ret (v := .agg #[.int .i64 x, .int .i64 y]) (by simp [results, Try.results13, go_sem]) rfl ⟨rfl, by (repeat (first | exact Kept.refl _ | assumption | refine Kept.alloc ?_ _ | refine Kept.drew ?_ | refine Kept.drewN ?_ _ | refine Kept.setCell ?_ (by first | (simp; done) | (simp; omega) | omega | exact Kept.size (by (repeat (first | exact Kept.refl _ | assumption | refine Kept.alloc ?_ _ | refine Kept.drew ?_ | refine Kept.drewN ?_ _ | refine Kept.trans ?_ (by assumption))))) _ | refine Kept.trans ?_ (by assumption)))⟩
theorem l2Grid_any (x : Int) (w : World) : Calls Try.prog 71 #[.int .i64 x] w fun e w' => e = .returned (.bool (inB x 0 1000)) ∧ w = w' := by
  go_enter Try.func71, Try.ntmps71
  go_wp2_with (go_at_call 72; refine (l1In_any _ _ _ _).mono ?_; rintro e w' ⟨rfl, rfl⟩)
  go_ret
  exact ⟨rfl, rfl⟩
theorem l2Spot_any (x y : Int) (w : World) : Calls Try.prog 51 #[.agg #[.int .i64 x, .int .i64 y]] w fun e w' => e = .returned (.bool (spotB x y)) ∧ Kept w w' := by
  go_enter Try.func51, Try.ntmps51
  go_wp2_with (go_at_call 71; refine (l2Grid_any _ _).mono ?_; rintro e w' ⟨rfl, rfl⟩)
  all_goals go_ret
  all_goals exact ⟨ret_bool (by simp [spotB, *]), by (repeat (first | exact Kept.refl _ | assumption | refine Kept.alloc ?_ _ | refine Kept.drew ?_ | refine Kept.drewN ?_ _ | refine Kept.setCell ?_ (by first | (simp; done) | (simp; omega) | omega | exact Kept.size (by (repeat (first | exact Kept.refl _ | assumption | refine Kept.alloc ?_ _ | refine Kept.drew ?_ | refine Kept.drewN ?_ _ | refine Kept.trans ?_ (by assumption))))) _ | refine Kept.trans ?_ (by assumption)))⟩
theorem sIsSpot_any (x y : Int) (w : World) : Calls Try.prog 45 #[.agg #[.int .i64 x, .int .i64 y]] w fun e w' => e = .returned (.bool (spotB x y)) ∧ Kept w w' := by
  go_enter Try.func45, Try.ntmps45
  go_wp2_with (go_at_call 51; (with_reducible refine (l2Spot_any _ _ _).mono ?_); rintro e w' ⟨rfl, hk⟩; (try have hkr := Root.trans (by assumption) hk); (first | (have hkf := From.step (by assumption) hk; obtain ⟨hc, hf⟩ := hkf.cells) | (have hkf := From.start hk; obtain ⟨hc, hf⟩ := hkf.cells)))
  go_ret
  exact ⟨rfl, by (repeat (first | exact Kept.refl _ | assumption | refine Kept.alloc ?_ _ | refine Kept.drew ?_ | refine Kept.drewN ?_ _ | refine Kept.setCell ?_ (by first | (simp; done) | (simp; omega) | omega | exact Kept.size (by (repeat (first | exact Kept.refl _ | assumption | refine Kept.alloc ?_ _ | refine Kept.drew ?_ | refine Kept.drewN ?_ _ | refine Kept.trans ?_ (by assumption))))) _ | refine Kept.trans ?_ (by assumption)))⟩

theorem sq_bd (d : Int) (h1 : -1000 ≤ d) (h2 : d ≤ 1000) : 0 ≤ d * d ∧ d * d ≤ 1000000 := by
  have e : d * d = (d.natAbs * d.natAbs : Nat) := by simp
  have hn : d.natAbs ≤ 1000 := by omega
  have := Nat.mul_le_mul hn hn
  rw [e]
  omega
def sqr (x y u v : Int) : Int := (x - u) * (x - u) + (y - v) * (y - v)
theorem squareOf_any (x y u v : Int) (w : World) (h1 : spotB x y = true) (h2 : spotB u v = true) : Calls Try.prog 58 #[.agg #[.int .i64 x, .int .i64 y], .agg #[.int .i64 u, .int .i64 v]] w fun e w' => e = .returned (.int .i64 (sqr x y u v)) ∧ Kept w w' := by
  simp only [spotB, Bool.and_eq_true, inB_true] at h1 h2
  obtain ⟨⟨a1, a2⟩, a3, a4⟩ := h1
  obtain ⟨⟨b1, b2⟩, b3, b4⟩ := h2
  have s1 := sq_bd (x - u) (by omega) (by omega)
  have s2 := sq_bd (y - v) (by omega) (by omega)
  go_enter Try.func58, Try.ntmps58
  go_wp2
  go_ret
  exact ⟨rfl, by (repeat (first | exact Kept.refl _ | assumption | refine Kept.alloc ?_ _ | refine Kept.drew ?_ | refine Kept.drewN ?_ _ | refine Kept.setCell ?_ (by first | (simp; done) | (simp; omega) | omega | exact Kept.size (by (repeat (first | exact Kept.refl _ | assumption | refine Kept.alloc ?_ _ | refine Kept.drew ?_ | refine Kept.drewN ?_ _ | refine Kept.trans ?_ (by assumption))))) _ | refine Kept.trans ?_ (by assumption)))⟩
def sqOk (x y u v : Int) : Bool := spotB x y && spotB u v
def sqVal (x y u v : Int) : Int := if sqOk x y u v = true then sqr x y u v else 0
theorem squareBetween_any (x y u v : Int) (w : World) : Calls Try.prog 42 #[.agg #[.int .i64 x, .int .i64 y], .agg #[.int .i64 u, .int .i64 v]] w fun e w' => e = .returned (.tuple #[.int .i64 (sqVal x y u v), .bool (sqOk x y u v)]) ∧ Kept w w' := by
  go_enter Try.func42, Try.ntmps42
  go_wp2_with (first | (go_at_call 44; (with_reducible refine (isSpot_any _ _ _).mono ?_); rintro e w' ⟨rfl, hk⟩; (try have hkr := Root.trans (by assumption) hk); (first | (have hkf := From.step (by assumption) hk; obtain ⟨hc, hf⟩ := hkf.cells) | (have hkf := From.start hk; obtain ⟨hc, hf⟩ := hkf.cells))) | (go_at_call 58; (with_reducible refine (squareOf_any _ _ _ _ _ (by first | assumption | exact bnot_t (by assumption)) (by first | assumption | exact bnot_t (by assumption))).mono ?_); rintro e w' ⟨rfl, hk⟩; (try have hkr := Root.trans (by assumption) hk); (first | (have hkf := From.step (by assumption) hk; obtain ⟨hc, hf⟩ := hkf.cells) | (have hkf := From.start hk; obtain ⟨hc, hf⟩ := hkf.cells))))
  all_goals go_ret2
  all_goals exact ⟨ret_ib (by (first | (simp [sqVal, sqOk, *]; done) | (simp [sqVal, sqOk, *]; omega) | (simp only [Bool.not_eq_true', Bool.not_eq_false'] at *; simp [sqVal, sqOk, *]; done) | (simp only [Bool.not_eq_true', Bool.not_eq_false'] at *; simp [sqVal, sqOk, *]; omega) | (simp only [Bool.not_eq_false'] at *; simp [sqVal, sqOk, *]; done) | (simp only [Bool.not_eq_false'] at *; simp [sqVal, sqOk, *]; omega))) (by (first | (simp [sqOk, *]; done) | (simp [sqOk, *]; omega) | (simp only [Bool.not_eq_true', Bool.not_eq_false'] at *; simp [sqOk, *]; done) | (simp only [Bool.not_eq_true', Bool.not_eq_false'] at *; simp [sqOk, *]; omega) | (simp only [Bool.not_eq_false'] at *; simp [sqOk, *]; done) | (simp only [Bool.not_eq_false'] at *; simp [sqOk, *]; omega))), by (repeat (first | exact Kept.refl _ | assumption | refine Kept.alloc ?_ _ | refine Kept.drew ?_ | refine Kept.drewN ?_ _ | refine Kept.setCell ?_ (by first | (simp; done) | (simp; omega) | omega | exact Kept.size (by (repeat (first | exact Kept.refl _ | assumption | refine Kept.alloc ?_ _ | refine Kept.drew ?_ | refine Kept.drewN ?_ _ | refine Kept.trans ?_ (by assumption))))) _ | refine Kept.trans ?_ (by assumption)))⟩
theorem l2Square_any (x y u v : Int) (w : World) (h1 : spotB x y = true) (h2 : spotB u v = true) : Calls Try.prog 56 #[.agg #[.int .i64 x, .int .i64 y], .agg #[.int .i64 u, .int .i64 v]] w fun e w' => e = .returned (.int .i64 (sqr x y u v)) ∧ Kept w w' := by
  simp only [spotB, Bool.and_eq_true, inB_true] at h1 h2
  obtain ⟨⟨a1, a2⟩, a3, a4⟩ := h1
  obtain ⟨⟨b1, b2⟩, b3, b4⟩ := h2
  have s1 := sq_bd (x - u) (by omega) (by omega)
  have s2 := sq_bd (y - v) (by omega) (by omega)
  go_enter Try.func56, Try.ntmps56
  go_wp2
  go_ret
  exact ⟨rfl, by (repeat (first | exact Kept.refl _ | assumption | refine Kept.alloc ?_ _ | refine Kept.drew ?_ | refine Kept.drewN ?_ _ | refine Kept.setCell ?_ (by first | (simp; done) | (simp; omega) | omega | exact Kept.size (by (repeat (first | exact Kept.refl _ | assumption | refine Kept.alloc ?_ _ | refine Kept.drew ?_ | refine Kept.drewN ?_ _ | refine Kept.trans ?_ (by assumption))))) _ | refine Kept.trans ?_ (by assumption)))⟩
theorem sSquareBetween_any (x y u v : Int) (w : World) : Calls Try.prog 50 #[.agg #[.int .i64 x, .int .i64 y], .agg #[.int .i64 u, .int .i64 v]] w fun e w' => e = .returned (.tuple #[.int .i64 (sqVal x y u v), .bool (sqOk x y u v)]) ∧ Kept w w' := by
  go_enter Try.func50, Try.ntmps50
  go_wp2_with (first | (go_at_call 51; (with_reducible refine (l2Spot_any _ _ _).mono ?_); rintro e w' ⟨rfl, hk⟩; (try have hkr := Root.trans (by assumption) hk); (first | (have hkf := From.step (by assumption) hk; obtain ⟨hc, hf⟩ := hkf.cells) | (have hkf := From.start hk; obtain ⟨hc, hf⟩ := hkf.cells))) | (go_at_call 56; (with_reducible refine (l2Square_any _ _ _ _ _ (by first | assumption | exact bnot_t (by assumption)) (by first | assumption | exact bnot_t (by assumption))).mono ?_); rintro e w' ⟨rfl, hk⟩; (try have hkr := Root.trans (by assumption) hk); (first | (have hkf := From.step (by assumption) hk; obtain ⟨hc, hf⟩ := hkf.cells) | (have hkf := From.start hk; obtain ⟨hc, hf⟩ := hkf.cells))))
  all_goals go_ret2
  all_goals exact ⟨ret_ib (by (first | (simp [sqVal, sqOk, *]; done) | (simp [sqVal, sqOk, *]; omega) | (simp only [Bool.not_eq_true', Bool.not_eq_false'] at *; simp [sqVal, sqOk, *]; done) | (simp only [Bool.not_eq_true', Bool.not_eq_false'] at *; simp [sqVal, sqOk, *]; omega) | (simp only [Bool.not_eq_false'] at *; simp [sqVal, sqOk, *]; done) | (simp only [Bool.not_eq_false'] at *; simp [sqVal, sqOk, *]; omega))) (by (first | (simp [sqOk, *]; done) | (simp [sqOk, *]; omega) | (simp only [Bool.not_eq_true', Bool.not_eq_false'] at *; simp [sqOk, *]; done) | (simp only [Bool.not_eq_true', Bool.not_eq_false'] at *; simp [sqOk, *]; omega) | (simp only [Bool.not_eq_false'] at *; simp [sqOk, *]; done) | (simp only [Bool.not_eq_false'] at *; simp [sqOk, *]; omega))), by (repeat (first | exact Kept.refl _ | assumption | refine Kept.alloc ?_ _ | refine Kept.drew ?_ | refine Kept.drewN ?_ _ | refine Kept.setCell ?_ (by first | (simp; done) | (simp; omega) | omega | exact Kept.size (by (repeat (first | exact Kept.refl _ | assumption | refine Kept.alloc ?_ _ | refine Kept.drew ?_ | refine Kept.drewN ?_ _ | refine Kept.trans ?_ (by assumption))))) _ | refine Kept.trans ?_ (by assumption)))⟩

def boxB (a b c d : Int) : Bool := spotB a b && spotB c d && decide (a ≤ c) && decide (b ≤ d)
theorem isBox_any (a b c d : Int) (w : World) : Calls Try.prog 38 #[.agg #[.int .i64 a, .int .i64 b, .int .i64 c, .int .i64 d]] w fun e w' => e = .returned (.bool (boxB a b c d)) ∧ Kept w w' := by
  go_enter Try.func38, Try.ntmps38
  go_wp2_with (go_at_call 44; (with_reducible refine (isSpot_any _ _ _).mono ?_); rintro e w' ⟨rfl, hk⟩; (try have hkr := Root.trans (by assumption) hk); (first | (have hkf := From.step (by assumption) hk; obtain ⟨hc, hf⟩ := hkf.cells) | (have hkf := From.start hk; obtain ⟨hc, hf⟩ := hkf.cells)))
  all_goals go_ret
  all_goals exact ⟨ret_bool (by (first | (simp [boxB, *]; done) | (simp [boxB, *]; omega) | (simp only [Bool.not_eq_true', Bool.not_eq_false'] at *; simp [boxB, *]; done) | (simp only [Bool.not_eq_true', Bool.not_eq_false'] at *; simp [boxB, *]; omega) | (simp only [Bool.not_eq_false'] at *; simp [boxB, *]; done) | (simp only [Bool.not_eq_false'] at *; simp [boxB, *]; omega))), by (repeat (first | exact Kept.refl _ | assumption | refine Kept.alloc ?_ _ | refine Kept.drew ?_ | refine Kept.drewN ?_ _ | refine Kept.setCell ?_ (by first | (simp; done) | (simp; omega) | omega | exact Kept.size (by (repeat (first | exact Kept.refl _ | assumption | refine Kept.alloc ?_ _ | refine Kept.drew ?_ | refine Kept.drewN ?_ _ | refine Kept.trans ?_ (by assumption))))) _ | refine Kept.trans ?_ (by assumption)))⟩
theorem l2Box_any (a b c d : Int) (w : World) : Calls Try.prog 61 #[.agg #[.int .i64 a, .int .i64 b, .int .i64 c, .int .i64 d]] w fun e w' => e = .returned (.bool (boxB a b c d)) ∧ Kept w w' := by
  go_enter Try.func61, Try.ntmps61
  go_wp2_with (go_at_call 71; (with_reducible refine (l2Grid_any _ _).mono ?_); rintro e w' ⟨rfl, rfl⟩)
  all_goals go_ret
  all_goals exact ⟨ret_bool (by (first | (simp [boxB, spotB, *]; done) | (simp [boxB, spotB, *]; omega) | (simp only [Bool.not_eq_true', Bool.not_eq_false'] at *; simp [boxB, spotB, *]; done) | (simp only [Bool.not_eq_true', Bool.not_eq_false'] at *; simp [boxB, spotB, *]; omega) | (simp only [Bool.not_eq_false'] at *; simp [boxB, spotB, *]; done) | (simp only [Bool.not_eq_false'] at *; simp [boxB, spotB, *]; omega))), by (repeat (first | exact Kept.refl _ | assumption | refine Kept.alloc ?_ _ | refine Kept.drew ?_ | refine Kept.drewN ?_ _ | refine Kept.setCell ?_ (by first | (simp; done) | (simp; omega) | omega | exact Kept.size (by (repeat (first | exact Kept.refl _ | assumption | refine Kept.alloc ?_ _ | refine Kept.drew ?_ | refine Kept.drewN ?_ _ | refine Kept.trans ?_ (by assumption))))) _ | refine Kept.trans ?_ (by assumption)))⟩
theorem sIsBox_any (a b c d : Int) (w : World) : Calls Try.prog 39 #[.agg #[.int .i64 a, .int .i64 b, .int .i64 c, .int .i64 d]] w fun e w' => e = .returned (.bool (boxB a b c d)) ∧ Kept w w' := by
  go_enter Try.func39, Try.ntmps39
  go_wp2_with (go_at_call 61; (with_reducible refine (l2Box_any _ _ _ _ _).mono ?_); rintro e w' ⟨rfl, hk⟩; (try have hkr := Root.trans (by assumption) hk); (first | (have hkf := From.step (by assumption) hk; obtain ⟨hc, hf⟩ := hkf.cells) | (have hkf := From.start hk; obtain ⟨hc, hf⟩ := hkf.cells)))
  go_ret
  exact ⟨rfl, by (repeat (first | exact Kept.refl _ | assumption | refine Kept.alloc ?_ _ | refine Kept.drew ?_ | refine Kept.drewN ?_ _ | refine Kept.setCell ?_ (by first | (simp; done) | (simp; omega) | omega | exact Kept.size (by (repeat (first | exact Kept.refl _ | assumption | refine Kept.alloc ?_ _ | refine Kept.drew ?_ | refine Kept.drewN ?_ _ | refine Kept.trans ?_ (by assumption))))) _ | refine Kept.trans ?_ (by assumption)))⟩
theorem toBox_any (a b c d : Int) (w : World) : Calls Try.prog 18 #[.agg #[.int .i64 a, .int .i64 b, .int .i64 c, .int .i64 d]] w fun e w' => e = .returned (.agg #[.int .i64 a, .int .i64 b, .int .i64 c, .int .i64 d]) ∧ Kept w w' := by
  go_enter Try.func18, Try.ntmps18
  go_wp2
  exact bodyPost_ret (v := .agg #[.int .i64 a, .int .i64 b, .int .i64 c, .int .i64 d]) (by simp [results, Try.results18, go_sem]) rfl ⟨rfl, by (repeat (first | exact Kept.refl _ | assumption | refine Kept.alloc ?_ _ | refine Kept.drew ?_ | refine Kept.drewN ?_ _ | refine Kept.setCell ?_ (by first | (simp; done) | (simp; omega) | omega | exact Kept.size (by (repeat (first | exact Kept.refl _ | assumption | refine Kept.alloc ?_ _ | refine Kept.drew ?_ | refine Kept.drewN ?_ _ | refine Kept.trans ?_ (by assumption))))) _ | refine Kept.trans ?_ (by assumption)))⟩
end Go.Proofs.Ytnkofjfcioaaaaa

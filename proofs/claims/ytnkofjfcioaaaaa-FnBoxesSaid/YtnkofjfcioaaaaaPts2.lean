/-
  Contracts of TurnOf, LengthBetween and SharedBox, the program's and the reference's.
  Conditions: none.
-/
import Derived.Test.YtnkofjfcioaaaaaPts
namespace Go.Proofs.Ytnkofjfcioaaaaa
open Go.ChangeShapes Go.WideShapes Go.ChangeAt Go.RowKit
set_option linter.unusedVariables false

theorem prod_bd (a b : Int) (h1 : -1000 ≤ a) (h2 : a ≤ 1000) (h3 : -1000 ≤ b) (h4 : b ≤ 1000) : -1000000 ≤ a * b ∧ a * b ≤ 1000000 := by
  have ha : a.natAbs ≤ 1000 := by omega
  have hb : b.natAbs ≤ 1000 := by omega
  have hm := Nat.mul_le_mul ha hb
  rw [← Int.natAbs_mul] at hm
  omega

def crossI (x y u v p q : Int) : Int := (u - x) * (q - y) - (v - y) * (p - x)
def sgn (n : Int) : Int := if 0 < n then 1 else if n < 0 then -1 else 0
theorem crossOf_any (x y u v p q : Int) (w : World) (h1 : spotB x y = true) (h2 : spotB u v = true) (h3 : spotB p q = true) : Calls Try.prog 54 #[.agg #[.int .i64 x, .int .i64 y], .agg #[.int .i64 u, .int .i64 v], .agg #[.int .i64 p, .int .i64 q]] w fun e w' => e = .returned (.int .i64 (crossI x y u v p q)) ∧ Kept w w' := by
  simp only [spotB, Bool.and_eq_true, inB_true] at h1 h2 h3
  obtain ⟨⟨a1, a2⟩, a3, a4⟩ := h1
  obtain ⟨⟨b1, b2⟩, b3, b4⟩ := h2
  obtain ⟨⟨c1, c2⟩, c3, c4⟩ := h3
  have s1 := prod_bd (u - x) (q - y) (by omega) (by omega) (by omega) (by omega)
  have s2 := prod_bd (v - y) (p - x) (by omega) (by omega) (by omega) (by omega)
  go_enter Try.func54, Try.ntmps54
  go_wp2
  go_ret
  exact ⟨rfl, by (repeat (first | exact Kept.refl _ | assumption | refine Kept.alloc ?_ _ | refine Kept.drew ?_ | refine Kept.drewN ?_ _ | refine Kept.setCell ?_ (by first | (simp; done) | (simp; omega) | omega | exact Kept.size (by (repeat (first | exact Kept.refl _ | assumption | refine Kept.alloc ?_ _ | refine Kept.drew ?_ | refine Kept.drewN ?_ _ | refine Kept.trans ?_ (by assumption))))) _ | refine Kept.trans ?_ (by assumption)))⟩
theorem l2Cross_any (x y u v p q : Int) (w : World) (h1 : spotB x y = true) (h2 : spotB u v = true) (h3 : spotB p q = true) : Calls Try.prog 52 #[.agg #[.int .i64 x, .int .i64 y], .agg #[.int .i64 u, .int .i64 v], .agg #[.int .i64 p, .int .i64 q]] w fun e w' => e = .returned (.int .i64 (crossI x y u v p q)) ∧ Kept w w' := by
  simp only [spotB, Bool.and_eq_true, inB_true] at h1 h2 h3
  obtain ⟨⟨a1, a2⟩, a3, a4⟩ := h1
  obtain ⟨⟨b1, b2⟩, b3, b4⟩ := h2
  obtain ⟨⟨c1, c2⟩, c3, c4⟩ := h3
  have s1 := prod_bd (u - x) (q - y) (by omega) (by omega) (by omega) (by omega)
  have s2 := prod_bd (v - y) (p - x) (by omega) (by omega) (by omega) (by omega)
  go_enter Try.func52, Try.ntmps52
  go_wp2
  go_ret
  exact ⟨rfl, by (repeat (first | exact Kept.refl _ | assumption | refine Kept.alloc ?_ _ | refine Kept.drew ?_ | refine Kept.drewN ?_ _ | refine Kept.setCell ?_ (by first | (simp; done) | (simp; omega) | omega | exact Kept.size (by (repeat (first | exact Kept.refl _ | assumption | refine Kept.alloc ?_ _ | refine Kept.drew ?_ | refine Kept.drewN ?_ _ | refine Kept.trans ?_ (by assumption))))) _ | refine Kept.trans ?_ (by assumption)))⟩
theorem signOf_any (n : Int) (w : World) : Calls Try.prog 53 #[.int .i64 n] w fun e w' => e = .returned (.int .i64 (sgn n)) ∧ w = w' := by
  go_enter Try.func53, Try.ntmps53
  go_wp2
  all_goals go_ret
  all_goals exact ⟨ret_int (by simp only [sgn]; (repeat' split) <;> omega), rfl⟩
def turnOk (x y u v p q : Int) : Bool := spotB x y && spotB u v && spotB p q
def turnVal (x y u v p q : Int) : Int := if turnOk x y u v p q = true then sgn (crossI x y u v p q) else 0
theorem turnOf_any (x y u v p q : Int) (w : World) : Calls Try.prog 14 #[.agg #[.int .i64 x, .int .i64 y], .agg #[.int .i64 u, .int .i64 v], .agg #[.int .i64 p, .int .i64 q]] w fun e w' => e = .returned (.tuple #[.int .i64 (turnVal x y u v p q), .bool (turnOk x y u v p q)]) ∧ Kept w w' := by
  go_enter Try.func14, Try.ntmps14
  go_wp2_with (first | (go_at_call 44; (with_reducible refine (isSpot_any _ _ _).mono ?_); rintro e w' ⟨rfl, hk⟩; (try have hkr := Root.trans (by assumption) hk); (first | (have hkf := From.step (by assumption) hk; obtain ⟨hc, hf⟩ := hkf.cells) | (have hkf := From.start hk; obtain ⟨hc, hf⟩ := hkf.cells))) | (go_at_call 54; (with_reducible refine (crossOf_any _ _ _ _ _ _ _ (by first | assumption | exact bnot_t (by assumption)) (by first | assumption | exact bnot_t (by assumption)) (by first | assumption | exact bnot_t (by assumption))).mono ?_); rintro e w' ⟨rfl, hk⟩; (try have hkr := Root.trans (by assumption) hk); (first | (have hkf := From.step (by assumption) hk; obtain ⟨hc, hf⟩ := hkf.cells) | (have hkf := From.start hk; obtain ⟨hc, hf⟩ := hkf.cells))) | (go_at_call 53; (with_reducible refine (signOf_any _ _).mono ?_); rintro e w' ⟨rfl, rfl⟩))
  all_goals go_ret2
  all_goals exact ⟨ret_ib (by (first | (simp [turnVal, turnOk, *]; done) | (simp [turnVal, turnOk, *]; omega) | (simp only [Bool.not_eq_true', Bool.not_eq_false'] at *; simp [turnVal, turnOk, *]; done) | (simp only [Bool.not_eq_true', Bool.not_eq_false'] at *; simp [turnVal, turnOk, *]; omega) | (simp only [Bool.not_eq_false'] at *; simp [turnVal, turnOk, *]; done) | (simp only [Bool.not_eq_false'] at *; simp [turnVal, turnOk, *]; omega))) (by (first | (simp [turnOk, *]; done) | (simp [turnOk, *]; omega) | (simp only [Bool.not_eq_true', Bool.not_eq_false'] at *; simp [turnOk, *]; done) | (simp only [Bool.not_eq_true', Bool.not_eq_false'] at *; simp [turnOk, *]; omega) | (simp only [Bool.not_eq_false'] at *; simp [turnOk, *]; done) | (simp only [Bool.not_eq_false'] at *; simp [turnOk, *]; omega))), by (repeat (first | exact Kept.refl _ | assumption | refine Kept.alloc ?_ _ | refine Kept.drew ?_ | refine Kept.drewN ?_ _ | refine Kept.setCell ?_ (by first | (simp; done) | (simp; omega) | omega | exact Kept.size (by (repeat (first | exact Kept.refl _ | assumption | refine Kept.alloc ?_ _ | refine Kept.drew ?_ | refine Kept.drewN ?_ _ | refine Kept.trans ?_ (by assumption))))) _ | refine Kept.trans ?_ (by assumption)))⟩
theorem sTurnOf_any (x y u v p q : Int) (w : World) : Calls Try.prog 12 #[.agg #[.int .i64 x, .int .i64 y], .agg #[.int .i64 u, .int .i64 v], .agg #[.int .i64 p, .int .i64 q]] w fun e w' => e = .returned (.tuple #[.int .i64 (turnVal x y u v p q), .bool (turnOk x y u v p q)]) ∧ Kept w w' := by
  go_enter Try.func12, Try.ntmps12
  go_wp2_with (first | (go_at_call 51; (with_reducible refine (l2Spot_any _ _ _).mono ?_); rintro e w' ⟨rfl, hk⟩; (try have hkr := Root.trans (by assumption) hk); (first | (have hkf := From.step (by assumption) hk; obtain ⟨hc, hf⟩ := hkf.cells) | (have hkf := From.start hk; obtain ⟨hc, hf⟩ := hkf.cells))) | (go_at_call 52; (with_reducible refine (l2Cross_any _ _ _ _ _ _ _ (by first | assumption | exact bnot_t (by assumption)) (by first | assumption | exact bnot_t (by assumption)) (by first | assumption | exact bnot_t (by assumption))).mono ?_); rintro e w' ⟨rfl, hk⟩; (try have hkr := Root.trans (by assumption) hk); (first | (have hkf := From.step (by assumption) hk; obtain ⟨hc, hf⟩ := hkf.cells) | (have hkf := From.start hk; obtain ⟨hc, hf⟩ := hkf.cells))))
  all_goals go_ret2
  all_goals exact ⟨ret_ib (by (first | (simp [turnVal, turnOk, sgn, *]; done) | (simp [turnVal, turnOk, sgn, *]; omega) | (simp only [Bool.not_eq_true', Bool.not_eq_false'] at *; simp [turnVal, turnOk, sgn, *]; done) | (simp only [Bool.not_eq_true', Bool.not_eq_false'] at *; simp [turnVal, turnOk, sgn, *]; omega) | (simp only [Bool.not_eq_false'] at *; simp [turnVal, turnOk, sgn, *]; done) | (simp only [Bool.not_eq_false'] at *; simp [turnVal, turnOk, sgn, *]; omega))) (by (first | (simp [turnOk, *]; done) | (simp [turnOk, *]; omega) | (simp only [Bool.not_eq_true', Bool.not_eq_false'] at *; simp [turnOk, *]; done) | (simp only [Bool.not_eq_true', Bool.not_eq_false'] at *; simp [turnOk, *]; omega) | (simp only [Bool.not_eq_false'] at *; simp [turnOk, *]; done) | (simp only [Bool.not_eq_false'] at *; simp [turnOk, *]; omega))), by (repeat (first | exact Kept.refl _ | assumption | refine Kept.alloc ?_ _ | refine Kept.drew ?_ | refine Kept.drewN ?_ _ | refine Kept.setCell ?_ (by first | (simp; done) | (simp; omega) | omega | exact Kept.size (by (repeat (first | exact Kept.refl _ | assumption | refine Kept.alloc ?_ _ | refine Kept.drew ?_ | refine Kept.drewN ?_ _ | refine Kept.trans ?_ (by assumption))))) _ | refine Kept.trans ?_ (by assumption)))⟩
theorem lawTurnOf (x y u v p q : Int) (w : World) : Calls Try.prog 3 #[.agg #[.int .i64 x, .int .i64 y], .agg #[.int .i64 u, .int .i64 v], .agg #[.int .i64 p, .int .i64 q]] w fun e w' => e = .returned (.bool true) ∧ Kept w w' := by
  go_enter Try.func3, Try.ntmps3
  go_wp2_with fail
  have kf1_0 : ∀ w' : World, Root (((w.alloc (.cells #[.int .i64 x, .int .i64 y] 23)).alloc (.cells #[.int .i64 u, .int .i64 v] 23)).alloc (.cells #[.int .i64 p, .int .i64 q] 23)) w' → w'.cell? ⟨w.heap.size, 0, none⟩ = some (.int .i64 x) := fun w' h => h.keep (by first | assumption | exact (Kept.alloc (Kept.refl _) _).keep (by assumption) | (simp [go_sem]; done) | (simp [go_sem, *]; done))
  have kf1_1 : ∀ w' : World, Root (((w.alloc (.cells #[.int .i64 x, .int .i64 y] 23)).alloc (.cells #[.int .i64 u, .int .i64 v] 23)).alloc (.cells #[.int .i64 p, .int .i64 q] 23)) w' → w'.cell? ⟨w.heap.size, 1, none⟩ = some (.int .i64 y) := fun w' h => h.keep (by first | assumption | exact (Kept.alloc (Kept.refl _) _).keep (by assumption) | (simp [go_sem]; done) | (simp [go_sem, *]; done))
  have kf1_2 : ∀ w' : World, Root (((w.alloc (.cells #[.int .i64 x, .int .i64 y] 23)).alloc (.cells #[.int .i64 u, .int .i64 v] 23)).alloc (.cells #[.int .i64 p, .int .i64 q] 23)) w' → w'.cell? ⟨w.heap.size + 1, 0, none⟩ = some (.int .i64 u) := fun w' h => h.keep (by first | assumption | exact (Kept.alloc (Kept.refl _) _).keep (by assumption) | (simp [go_sem]; done) | (simp [go_sem, *]; done))
  have kf1_3 : ∀ w' : World, Root (((w.alloc (.cells #[.int .i64 x, .int .i64 y] 23)).alloc (.cells #[.int .i64 u, .int .i64 v] 23)).alloc (.cells #[.int .i64 p, .int .i64 q] 23)) w' → w'.cell? ⟨w.heap.size + 1, 1, none⟩ = some (.int .i64 v) := fun w' h => h.keep (by first | assumption | exact (Kept.alloc (Kept.refl _) _).keep (by assumption) | (simp [go_sem]; done) | (simp [go_sem, *]; done))
  have kf1_4 : ∀ w' : World, Root (((w.alloc (.cells #[.int .i64 x, .int .i64 y] 23)).alloc (.cells #[.int .i64 u, .int .i64 v] 23)).alloc (.cells #[.int .i64 p, .int .i64 q] 23)) w' → w'.cell? ⟨w.heap.size + 1 + 1, 0, none⟩ = some (.int .i64 p) := fun w' h => h.keep (by first | assumption | exact (Kept.alloc (Kept.refl _) _).keep (by assumption) | (simp [go_sem]; done) | (simp [go_sem, *]; done))
  have kf1_5 : ∀ w' : World, Root (((w.alloc (.cells #[.int .i64 x, .int .i64 y] 23)).alloc (.cells #[.int .i64 u, .int .i64 v] 23)).alloc (.cells #[.int .i64 p, .int .i64 q] 23)) w' → w'.cell? ⟨w.heap.size + 1 + 1, 1, none⟩ = some (.int .i64 q) := fun w' h => h.keep (by first | assumption | exact (Kept.alloc (Kept.refl _) _).keep (by assumption) | (simp [go_sem]; done) | (simp [go_sem, *]; done))
  go_region_held3 (fun w' => Root (((w.alloc (.cells #[.int .i64 x, .int .i64 y] 23)).alloc (.cells #[.int .i64 u, .int .i64 v] 23)).alloc (.cells #[.int .i64 p, .int .i64 q] 23)) w')
    (first | assumption | exact Root.trans (by assumption) hk | exact Root.drew (Root.refl _) | (repeat (first | exact Root.refl _ | assumption | refine Root.alloc ?_ _ | refine Root.drew ?_ | refine Root.setCell ?_ (by first | (simp; done) | (simp; omega) | omega | exact Root.size (by assumption)) _ | refine Root.trans ?_ (by assumption))))
    (first | (go_at_call 13; refine (toSpot_any _ _ _).mono ?_; rintro e w1 ⟨rfl, hk⟩; (have hkr := Root.trans (by assumption) hk); (first | (have hkf := From.step (by assumption) hk; obtain ⟨hc, hf⟩ := hkf.cells) | (have hkf := From.start hk; obtain ⟨hc, hf⟩ := hkf.cells))) | (go_at_call 12; refine (sTurnOf_any _ _ _ _ _ _ _).mono ?_; rintro e w1 ⟨rfl, hk⟩; (have hkr := Root.trans (by assumption) hk); (first | (have hkf := From.step (by assumption) hk; obtain ⟨hc, hf⟩ := hkf.cells) | (have hkf := From.start hk; obtain ⟨hc, hf⟩ := hkf.cells))))
  go_wp2_with fail
  have kf2_0 : ∀ w' : World, Root (((w.alloc (.cells #[.int .i64 x, .int .i64 y] 23)).alloc (.cells #[.int .i64 u, .int .i64 v] 23)).alloc (.cells #[.int .i64 p, .int .i64 q] 23)) w' → w'.cell? ⟨w.heap.size, 0, none⟩ = some (.int .i64 x) := fun w' h => h.keep (by first | assumption | exact (Kept.alloc (Kept.refl _) _).keep (by assumption) | (simp [go_sem]; done) | (simp [go_sem, *]; done))
  have kf2_1 : ∀ w' : World, Root (((w.alloc (.cells #[.int .i64 x, .int .i64 y] 23)).alloc (.cells #[.int .i64 u, .int .i64 v] 23)).alloc (.cells #[.int .i64 p, .int .i64 q] 23)) w' → w'.cell? ⟨w.heap.size, 1, none⟩ = some (.int .i64 y) := fun w' h => h.keep (by first | assumption | exact (Kept.alloc (Kept.refl _) _).keep (by assumption) | (simp [go_sem]; done) | (simp [go_sem, *]; done))
  have kf2_2 : ∀ w' : World, Root (((w.alloc (.cells #[.int .i64 x, .int .i64 y] 23)).alloc (.cells #[.int .i64 u, .int .i64 v] 23)).alloc (.cells #[.int .i64 p, .int .i64 q] 23)) w' → w'.cell? ⟨w.heap.size + 1, 0, none⟩ = some (.int .i64 u) := fun w' h => h.keep (by first | assumption | exact (Kept.alloc (Kept.refl _) _).keep (by assumption) | (simp [go_sem]; done) | (simp [go_sem, *]; done))
  have kf2_3 : ∀ w' : World, Root (((w.alloc (.cells #[.int .i64 x, .int .i64 y] 23)).alloc (.cells #[.int .i64 u, .int .i64 v] 23)).alloc (.cells #[.int .i64 p, .int .i64 q] 23)) w' → w'.cell? ⟨w.heap.size + 1, 1, none⟩ = some (.int .i64 v) := fun w' h => h.keep (by first | assumption | exact (Kept.alloc (Kept.refl _) _).keep (by assumption) | (simp [go_sem]; done) | (simp [go_sem, *]; done))
  have kf2_4 : ∀ w' : World, Root (((w.alloc (.cells #[.int .i64 x, .int .i64 y] 23)).alloc (.cells #[.int .i64 u, .int .i64 v] 23)).alloc (.cells #[.int .i64 p, .int .i64 q] 23)) w' → w'.cell? ⟨w.heap.size + 1 + 1, 0, none⟩ = some (.int .i64 p) := fun w' h => h.keep (by first | assumption | exact (Kept.alloc (Kept.refl _) _).keep (by assumption) | (simp [go_sem]; done) | (simp [go_sem, *]; done))
  have kf2_5 : ∀ w' : World, Root (((w.alloc (.cells #[.int .i64 x, .int .i64 y] 23)).alloc (.cells #[.int .i64 u, .int .i64 v] 23)).alloc (.cells #[.int .i64 p, .int .i64 q] 23)) w' → w'.cell? ⟨w.heap.size + 1 + 1, 1, none⟩ = some (.int .i64 q) := fun w' h => h.keep (by first | assumption | exact (Kept.alloc (Kept.refl _) _).keep (by assumption) | (simp [go_sem]; done) | (simp [go_sem, *]; done))
  go_region_held3 (fun w' => Root (((w.alloc (.cells #[.int .i64 x, .int .i64 y] 23)).alloc (.cells #[.int .i64 u, .int .i64 v] 23)).alloc (.cells #[.int .i64 p, .int .i64 q] 23)) w')
    (first | assumption | exact Root.trans (by assumption) hk | exact Root.drew (Root.refl _) | (repeat (first | exact Root.refl _ | assumption | refine Root.alloc ?_ _ | refine Root.drew ?_ | refine Root.setCell ?_ (by first | (simp; done) | (simp; omega) | omega | exact Root.size (by assumption)) _ | refine Root.trans ?_ (by assumption))))
    (first | (go_at_call 13; refine (toSpot_any _ _ _).mono ?_; rintro e w1 ⟨rfl, hk⟩; (have hkr := Root.trans (by assumption) hk); (first | (have hkf := From.step (by assumption) hk; obtain ⟨hc, hf⟩ := hkf.cells) | (have hkf := From.start hk; obtain ⟨hc, hf⟩ := hkf.cells))) | (go_at_call 14; refine (turnOf_any _ _ _ _ _ _ _).mono ?_; rintro e w1 ⟨rfl, hk⟩; (have hkr := Root.trans (by assumption) hk); (first | (have hkf := From.step (by assumption) hk; obtain ⟨hc, hf⟩ := hkf.cells) | (have hkf := From.start hk; obtain ⟨hc, hf⟩ := hkf.cells))))
  go_wp2_with fail
  go_ret
  exact ⟨rfl, by (repeat (first | exact Kept.refl _ | assumption | refine Kept.alloc ?_ _ | refine Kept.drew ?_ | refine Kept.drewN ?_ _ | refine Kept.setCell ?_ (by first | (simp; done) | (simp; omega) | omega | exact Kept.size (by (repeat (first | exact Kept.refl _ | assumption | refine Kept.alloc ?_ _ | refine Kept.drew ?_ | refine Kept.drewN ?_ _ | refine Kept.trans ?_ (by assumption))))) _ | refine Kept.trans ?_ (by assumption)))⟩

/-- The whole root of a number. -/
def rootGo : Nat → Int → Int
  | 0, _ => 0
  | k + 1, n => if ((k : Int) + 1) * ((k : Int) + 1) ≤ n then (k : Int) + 1 else rootGo k n
def rootI (n : Int) : Int := rootGo 2000 n
theorem sq_lt {a b : Int} (h0 : 0 ≤ b) (h : b < a) : (b + 1) * (b + 1) ≤ a * a := Int.mul_le_mul (by omega) (by omega) (by omega) (by omega)
theorem rootGo_eq (n r : Int) (h0 : 0 ≤ r) (h1 : r * r ≤ n) (h2 : n < (r + 1) * (r + 1)) : ∀ k : Nat, r ≤ k → rootGo k n = r
  | 0, hk => by simp [rootGo]; omega
  | k + 1, hk => by
    rw [rootGo]
    by_cases e : r = (k : Int) + 1
    · rw [← e, if_pos h1]
    · have hlt : r < (k : Int) + 1 := by omega
      have := sq_lt h0 hlt
      rw [if_neg (by omega)]
      exact rootGo_eq n r h0 h1 h2 k (by omega)
theorem rootI_eq (n r : Int) (h0 : 0 ≤ r) (h1 : r * r ≤ n) (h2 : n < (r + 1) * (r + 1)) (hn : n ≤ 2000000) : rootI n = r := by
  refine rootGo_eq n r h0 h1 h2 2000 ?_
  by_cases h : r ≤ 2000
  · exact h
  · have : 2000 * 2000 ≤ r * r := Int.mul_le_mul (by omega) (by omega) (by omega) (by omega)
    omega
theorem mul_self_bd (m b : Int) (h0 : 0 ≤ m) (h1 : m ≤ b) : 0 ≤ m * m ∧ m * m ≤ b * b := ⟨Int.mul_nonneg h0 h0, Int.mul_le_mul h1 h1 h0 (by omega)⟩
theorem sqr_bd (x y u v : Int) (h1 : spotB x y = true) (h2 : spotB u v = true) : 0 ≤ sqr x y u v ∧ sqr x y u v ≤ 2000000 := by
  simp only [spotB, Bool.and_eq_true, inB_true] at h1 h2
  have s1 := sq_bd (x - u) (by omega) (by omega)
  have s2 := sq_bd (y - v) (by omega) (by omega)
  unfold sqr
  omega
/-- A loop's place: low and high around the root. -/
def Around (n l h : Int) : Prop := 0 ≤ l ∧ l < h ∧ h ≤ 2147483648 ∧ l * l ≤ n ∧ n < h * h
theorem rootOf_any (n : Int) (h0 : 0 ≤ n) (hn : n ≤ 2000000) (w : World) : Calls Try.prog 57 #[.int .i64 n] w fun e w' => e = .returned (.int .i64 (rootI n)) ∧ w = w' := by
  go_enter Try.func57, Try.ntmps57
  go_wp2
  go_loop [3, 4, 5] (fun a b _ => ∃ l h : Int, Around n l h ∧ a = .int .i64 l ∧ b = .int .i64 h) (fun a b _ => (intOf b - intOf a).toNat)
  case atStart => exact ⟨0, 2147483648, ⟨by omega, by omega, by omega, by omega, by omega⟩, rfl, rfl⟩
  case round =>
    obtain ⟨l, h, hA, rfl, rfl⟩ := hrel
    obtain ⟨g0, g1, g2, g3, g4⟩ := hA
    have G3 := Lib.hid g3
    have G4 := Lib.hid g4
    clear g3 g4
    by_cases hlt : 1 < h - l
    · have hm := mul_self_bd ((l + h) / 2) 2147483648 (by omega) (by omega)
      by_cases hle : (l + h) / 2 * ((l + h) / 2) ≤ n
      · go_wp2
        go_round
        case rel => exact ⟨_, _, ⟨by omega, by omega, by omega, hle, G4.out⟩, rfl, rfl⟩
        case measure => simp [intOf]; omega
      · go_wp2
        go_round
        case rel => exact ⟨_, _, ⟨by omega, by omega, by omega, G3.out, by omega⟩, rfl, rfl⟩
        case measure => simp [intOf]; omega
    · have e : h = l + 1 := by omega
      have hr := Lib.hid (rootI_eq n l g0 G3.out (by rw [← e]; exact G4.out) hn)
      clear e
      go_wp2
      go_ret
      exact ⟨ret_int hr.out.symm, rfl⟩
theorem l2Root_any (n : Int) (h0 : 0 ≤ n) (hn : n ≤ 2000000) (w : World) : Calls Try.prog 55 #[.int .i64 n] w fun e w' => e = .returned (.int .i64 (rootI n)) ∧ w = w' := by
  go_enter Try.func55, Try.ntmps55
  go_wp2
  go_loop [3, 4, 5] (fun a b _ => ∃ l h : Int, Around n l (h + 1) ∧ h ≤ 2000 ∧ a = .int .i64 l ∧ b = .int .i64 h) (fun a b _ => (intOf b - intOf a).toNat)
  case atStart => exact ⟨0, 2000, ⟨by omega, by omega, by omega, by omega, by omega⟩, by omega, rfl, rfl⟩
  case round =>
    obtain ⟨l, h, hA, hh, rfl, rfl⟩ := hrel
    obtain ⟨g0, g1, g2, g3, g4⟩ := hA
    have G3 := Lib.hid g3
    have G4 := Lib.hid g4
    clear g3 g4
    by_cases hlt : l < h
    · have hm := mul_self_bd ((l + h + 1) / 2) 2000 (by omega) (by omega)
      by_cases hle : (l + h + 1) / 2 * ((l + h + 1) / 2) ≤ n
      · go_wp2
        go_round
        case rel => exact ⟨_, _, ⟨by omega, by omega, by omega, hle, G4.out⟩, by omega, rfl, rfl⟩
        case measure => simp [intOf]; omega
      · go_wp2
        go_round
        case rel => exact ⟨_, _, ⟨by omega, by omega, by omega, G3.out, by rw [show (l + h + 1) / 2 - 1 + 1 = (l + h + 1) / 2 from by omega]; omega⟩, by omega, rfl, rfl⟩
        case measure => simp [intOf]; omega
    · have e : h = l := by omega
      have hr := Lib.hid (rootI_eq n l g0 G3.out (by rw [← e]; exact G4.out) hn)
      clear e
      go_wp2
      go_ret
      exact ⟨ret_int hr.out.symm, rfl⟩
def lenVal (x y u v : Int) : Int := if sqOk x y u v = true then rootI (sqr x y u v) else 0
theorem lengthBetween_any (x y u v : Int) (w : World) : Calls Try.prog 16 #[.agg #[.int .i64 x, .int .i64 y], .agg #[.int .i64 u, .int .i64 v]] w fun e w' => e = .returned (.tuple #[.int .i64 (lenVal x y u v), .bool (sqOk x y u v)]) ∧ Kept w w' := by
  go_enter Try.func16, Try.ntmps16
  go_wp2_with (first | (go_at_call 44; (with_reducible refine (isSpot_any _ _ _).mono ?_); rintro e w' ⟨rfl, hk⟩; (try have hkr := Root.trans (by assumption) hk); (first | (have hkf := From.step (by assumption) hk; obtain ⟨hc, hf⟩ := hkf.cells) | (have hkf := From.start hk; obtain ⟨hc, hf⟩ := hkf.cells))) | (go_at_call 58; (with_reducible refine (squareOf_any _ _ _ _ _ (by first | assumption | exact bnot_t (by assumption)) (by first | assumption | exact bnot_t (by assumption))).mono ?_); rintro e w' ⟨rfl, hk⟩; (try have hkr := Root.trans (by assumption) hk); (first | (have hkf := From.step (by assumption) hk; obtain ⟨hc, hf⟩ := hkf.cells) | (have hkf := From.start hk; obtain ⟨hc, hf⟩ := hkf.cells))) | (go_at_call 57; (with_reducible refine (rootOf_any _ (sqr_bd _ _ _ _ (by first | assumption | exact bnot_t (by assumption)) (by first | assumption | exact bnot_t (by assumption))).1 (sqr_bd _ _ _ _ (by first | assumption | exact bnot_t (by assumption)) (by first | assumption | exact bnot_t (by assumption))).2 _).mono ?_); rintro e w' ⟨rfl, rfl⟩))
  all_goals go_ret2
  all_goals exact ⟨ret_ib (by (first | (simp [lenVal, sqOk, *]; done) | (simp [lenVal, sqOk, *]; omega) | (simp only [Bool.not_eq_true', Bool.not_eq_false'] at *; simp [lenVal, sqOk, *]; done) | (simp only [Bool.not_eq_true', Bool.not_eq_false'] at *; simp [lenVal, sqOk, *]; omega) | (simp only [Bool.not_eq_false'] at *; simp [lenVal, sqOk, *]; done) | (simp only [Bool.not_eq_false'] at *; simp [lenVal, sqOk, *]; omega))) (by (first | (simp [sqOk, *]; done) | (simp [sqOk, *]; omega) | (simp only [Bool.not_eq_true', Bool.not_eq_false'] at *; simp [sqOk, *]; done) | (simp only [Bool.not_eq_true', Bool.not_eq_false'] at *; simp [sqOk, *]; omega) | (simp only [Bool.not_eq_false'] at *; simp [sqOk, *]; done) | (simp only [Bool.not_eq_false'] at *; simp [sqOk, *]; omega))), by (repeat (first | exact Kept.refl _ | assumption | refine Kept.alloc ?_ _ | refine Kept.drew ?_ | refine Kept.drewN ?_ _ | refine Kept.setCell ?_ (by first | (simp; done) | (simp; omega) | omega | exact Kept.size (by (repeat (first | exact Kept.refl _ | assumption | refine Kept.alloc ?_ _ | refine Kept.drew ?_ | refine Kept.drewN ?_ _ | refine Kept.trans ?_ (by assumption))))) _ | refine Kept.trans ?_ (by assumption)))⟩
theorem sLengthBetween_any (x y u v : Int) (w : World) : Calls Try.prog 15 #[.agg #[.int .i64 x, .int .i64 y], .agg #[.int .i64 u, .int .i64 v]] w fun e w' => e = .returned (.tuple #[.int .i64 (lenVal x y u v), .bool (sqOk x y u v)]) ∧ Kept w w' := by
  go_enter Try.func15, Try.ntmps15
  go_wp2_with (first | (go_at_call 51; (with_reducible refine (l2Spot_any _ _ _).mono ?_); rintro e w' ⟨rfl, hk⟩; (try have hkr := Root.trans (by assumption) hk); (first | (have hkf := From.step (by assumption) hk; obtain ⟨hc, hf⟩ := hkf.cells) | (have hkf := From.start hk; obtain ⟨hc, hf⟩ := hkf.cells))) | (go_at_call 56; (with_reducible refine (l2Square_any _ _ _ _ _ (by first | assumption | exact bnot_t (by assumption)) (by first | assumption | exact bnot_t (by assumption))).mono ?_); rintro e w' ⟨rfl, hk⟩; (try have hkr := Root.trans (by assumption) hk); (first | (have hkf := From.step (by assumption) hk; obtain ⟨hc, hf⟩ := hkf.cells) | (have hkf := From.start hk; obtain ⟨hc, hf⟩ := hkf.cells))) | (go_at_call 55; (with_reducible refine (l2Root_any _ (sqr_bd _ _ _ _ (by first | assumption | exact bnot_t (by assumption)) (by first | assumption | exact bnot_t (by assumption))).1 (sqr_bd _ _ _ _ (by first | assumption | exact bnot_t (by assumption)) (by first | assumption | exact bnot_t (by assumption))).2 _).mono ?_); rintro e w' ⟨rfl, rfl⟩))
  all_goals go_ret2
  all_goals exact ⟨ret_ib (by (first | (simp [lenVal, sqOk, *]; done) | (simp [lenVal, sqOk, *]; omega) | (simp only [Bool.not_eq_true', Bool.not_eq_false'] at *; simp [lenVal, sqOk, *]; done) | (simp only [Bool.not_eq_true', Bool.not_eq_false'] at *; simp [lenVal, sqOk, *]; omega) | (simp only [Bool.not_eq_false'] at *; simp [lenVal, sqOk, *]; done) | (simp only [Bool.not_eq_false'] at *; simp [lenVal, sqOk, *]; omega))) (by (first | (simp [sqOk, *]; done) | (simp [sqOk, *]; omega) | (simp only [Bool.not_eq_true', Bool.not_eq_false'] at *; simp [sqOk, *]; done) | (simp only [Bool.not_eq_true', Bool.not_eq_false'] at *; simp [sqOk, *]; omega) | (simp only [Bool.not_eq_false'] at *; simp [sqOk, *]; done) | (simp only [Bool.not_eq_false'] at *; simp [sqOk, *]; omega))), by (repeat (first | exact Kept.refl _ | assumption | refine Kept.alloc ?_ _ | refine Kept.drew ?_ | refine Kept.drewN ?_ _ | refine Kept.setCell ?_ (by first | (simp; done) | (simp; omega) | omega | exact Kept.size (by (repeat (first | exact Kept.refl _ | assumption | refine Kept.alloc ?_ _ | refine Kept.drew ?_ | refine Kept.drewN ?_ _ | refine Kept.trans ?_ (by assumption))))) _ | refine Kept.trans ?_ (by assumption)))⟩
theorem lawLengthBetween (x y u v : Int) (w : World) : Calls Try.prog 4 #[.agg #[.int .i64 x, .int .i64 y], .agg #[.int .i64 u, .int .i64 v]] w fun e w' => e = .returned (.bool true) ∧ Kept w w' := by
  go_enter Try.func4, Try.ntmps4
  go_wp2_with fail
  have kf3_0 : ∀ w' : World, Root ((w.alloc (.cells #[.int .i64 x, .int .i64 y] 23)).alloc (.cells #[.int .i64 u, .int .i64 v] 23)) w' → w'.cell? ⟨w.heap.size, 0, none⟩ = some (.int .i64 x) := fun w' h => h.keep (by first | assumption | exact (Kept.alloc (Kept.refl _) _).keep (by assumption) | (simp [go_sem]; done) | (simp [go_sem, *]; done))
  have kf3_1 : ∀ w' : World, Root ((w.alloc (.cells #[.int .i64 x, .int .i64 y] 23)).alloc (.cells #[.int .i64 u, .int .i64 v] 23)) w' → w'.cell? ⟨w.heap.size, 1, none⟩ = some (.int .i64 y) := fun w' h => h.keep (by first | assumption | exact (Kept.alloc (Kept.refl _) _).keep (by assumption) | (simp [go_sem]; done) | (simp [go_sem, *]; done))
  have kf3_2 : ∀ w' : World, Root ((w.alloc (.cells #[.int .i64 x, .int .i64 y] 23)).alloc (.cells #[.int .i64 u, .int .i64 v] 23)) w' → w'.cell? ⟨w.heap.size + 1, 0, none⟩ = some (.int .i64 u) := fun w' h => h.keep (by first | assumption | exact (Kept.alloc (Kept.refl _) _).keep (by assumption) | (simp [go_sem]; done) | (simp [go_sem, *]; done))
  have kf3_3 : ∀ w' : World, Root ((w.alloc (.cells #[.int .i64 x, .int .i64 y] 23)).alloc (.cells #[.int .i64 u, .int .i64 v] 23)) w' → w'.cell? ⟨w.heap.size + 1, 1, none⟩ = some (.int .i64 v) := fun w' h => h.keep (by first | assumption | exact (Kept.alloc (Kept.refl _) _).keep (by assumption) | (simp [go_sem]; done) | (simp [go_sem, *]; done))
  go_region_held3 (fun w' => Root ((w.alloc (.cells #[.int .i64 x, .int .i64 y] 23)).alloc (.cells #[.int .i64 u, .int .i64 v] 23)) w')
    (first | assumption | exact Root.trans (by assumption) hk | exact Root.drew (Root.refl _) | (repeat (first | exact Root.refl _ | assumption | refine Root.alloc ?_ _ | refine Root.drew ?_ | refine Root.setCell ?_ (by first | (simp; done) | (simp; omega) | omega | exact Root.size (by assumption)) _ | refine Root.trans ?_ (by assumption))))
    (first | (go_at_call 13; refine (toSpot_any _ _ _).mono ?_; rintro e w1 ⟨rfl, hk⟩; (have hkr := Root.trans (by assumption) hk); (first | (have hkf := From.step (by assumption) hk; obtain ⟨hc, hf⟩ := hkf.cells) | (have hkf := From.start hk; obtain ⟨hc, hf⟩ := hkf.cells))) | (go_at_call 15; refine (sLengthBetween_any _ _ _ _ _).mono ?_; rintro e w1 ⟨rfl, hk⟩; (have hkr := Root.trans (by assumption) hk); (first | (have hkf := From.step (by assumption) hk; obtain ⟨hc, hf⟩ := hkf.cells) | (have hkf := From.start hk; obtain ⟨hc, hf⟩ := hkf.cells))))
  go_wp2_with fail
  have kf4_0 : ∀ w' : World, Root ((w.alloc (.cells #[.int .i64 x, .int .i64 y] 23)).alloc (.cells #[.int .i64 u, .int .i64 v] 23)) w' → w'.cell? ⟨w.heap.size, 0, none⟩ = some (.int .i64 x) := fun w' h => h.keep (by first | assumption | exact (Kept.alloc (Kept.refl _) _).keep (by assumption) | (simp [go_sem]; done) | (simp [go_sem, *]; done))
  have kf4_1 : ∀ w' : World, Root ((w.alloc (.cells #[.int .i64 x, .int .i64 y] 23)).alloc (.cells #[.int .i64 u, .int .i64 v] 23)) w' → w'.cell? ⟨w.heap.size, 1, none⟩ = some (.int .i64 y) := fun w' h => h.keep (by first | assumption | exact (Kept.alloc (Kept.refl _) _).keep (by assumption) | (simp [go_sem]; done) | (simp [go_sem, *]; done))
  have kf4_2 : ∀ w' : World, Root ((w.alloc (.cells #[.int .i64 x, .int .i64 y] 23)).alloc (.cells #[.int .i64 u, .int .i64 v] 23)) w' → w'.cell? ⟨w.heap.size + 1, 0, none⟩ = some (.int .i64 u) := fun w' h => h.keep (by first | assumption | exact (Kept.alloc (Kept.refl _) _).keep (by assumption) | (simp [go_sem]; done) | (simp [go_sem, *]; done))
  have kf4_3 : ∀ w' : World, Root ((w.alloc (.cells #[.int .i64 x, .int .i64 y] 23)).alloc (.cells #[.int .i64 u, .int .i64 v] 23)) w' → w'.cell? ⟨w.heap.size + 1, 1, none⟩ = some (.int .i64 v) := fun w' h => h.keep (by first | assumption | exact (Kept.alloc (Kept.refl _) _).keep (by assumption) | (simp [go_sem]; done) | (simp [go_sem, *]; done))
  go_region_held3 (fun w' => Root ((w.alloc (.cells #[.int .i64 x, .int .i64 y] 23)).alloc (.cells #[.int .i64 u, .int .i64 v] 23)) w')
    (first | assumption | exact Root.trans (by assumption) hk | exact Root.drew (Root.refl _) | (repeat (first | exact Root.refl _ | assumption | refine Root.alloc ?_ _ | refine Root.drew ?_ | refine Root.setCell ?_ (by first | (simp; done) | (simp; omega) | omega | exact Root.size (by assumption)) _ | refine Root.trans ?_ (by assumption))))
    (first | (go_at_call 13; refine (toSpot_any _ _ _).mono ?_; rintro e w1 ⟨rfl, hk⟩; (have hkr := Root.trans (by assumption) hk); (first | (have hkf := From.step (by assumption) hk; obtain ⟨hc, hf⟩ := hkf.cells) | (have hkf := From.start hk; obtain ⟨hc, hf⟩ := hkf.cells))) | (go_at_call 16; refine (lengthBetween_any _ _ _ _ _).mono ?_; rintro e w1 ⟨rfl, hk⟩; (have hkr := Root.trans (by assumption) hk); (first | (have hkf := From.step (by assumption) hk; obtain ⟨hc, hf⟩ := hkf.cells) | (have hkf := From.start hk; obtain ⟨hc, hf⟩ := hkf.cells))))
  go_wp2_with fail
  go_ret
  exact ⟨rfl, by (repeat (first | exact Kept.refl _ | assumption | refine Kept.alloc ?_ _ | refine Kept.drew ?_ | refine Kept.drewN ?_ _ | refine Kept.setCell ?_ (by first | (simp; done) | (simp; omega) | omega | exact Kept.size (by (repeat (first | exact Kept.refl _ | assumption | refine Kept.alloc ?_ _ | refine Kept.drew ?_ | refine Kept.drewN ?_ _ | refine Kept.trans ?_ (by assumption))))) _ | refine Kept.trans ?_ (by assumption)))⟩
end Go.Proofs.Ytnkofjfcioaaaaa

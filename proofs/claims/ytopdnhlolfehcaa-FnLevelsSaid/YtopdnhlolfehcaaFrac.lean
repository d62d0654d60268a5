/-
  Contracts of the functions over fractions: greatest common divisors, lowest terms.
  Conditions: none.
-/
import Derived.Test.YtopdnhlolfehcaaLevM
namespace Go.Proofs.Ytopdnhlolfehcaa
open Go.ChangeShapes Go.WideShapes Go.ChangeAt Go.RowKit
set_option linter.unusedVariables false

theorem flipf {P : Program} {f : FuncId} {args : Array Value} {w : World} {v : Ending} (h : Calls P f args w fun e w' => e = v ∧ w = w') : Calls P f args w fun e w' => e = v ∧ w' = w := h.mono fun _ _ ⟨a, b⟩ => ⟨a, b.symm⟩
theorem ret_ii2 {a a' c c' : Int} (h : a = a') (h1 : c = c') : Ending.returned (.tuple #[.int .i64 a', .int .i64 c']) = .returned (.tuple #[.int .i64 a, .int .i64 c]) := by rw [h, h1]
theorem absOf_any (n : Int) (h1 : -4611686018427387904 ≤ n) (h2 : n ≤ 4611686018427387904) (w : World) : Calls Try.prog 111 #[.int .i64 n] w fun e w' => e = .returned (.int .i64 (n.natAbs : Int)) ∧ w = w' := by
  go_enter Try.func111, Try.ntmps111
  go_wp2
  all_goals go_ret
  all_goals exact ⟨ret_int (by first | omega | (split <;> omega)), rfl⟩
theorem gcd_step (x y : Nat) : Nat.gcd y (x % y) = Nat.gcd x y := by rw [Nat.gcd_comm y, ← Nat.gcd_rec, Nat.gcd_comm]
theorem gcdOf_any (a b : Int) (a1 : -4611686018427387904 ≤ a) (a2 : a ≤ 4611686018427387904) (b1 : -4611686018427387904 ≤ b) (b2 : b ≤ 4611686018427387904) (w : World) : Calls Try.prog 107 #[.int .i64 a, .int .i64 b] w fun e w' => e = .returned (.int .i64 (gcdI a b)) ∧ Kept w w' := by
  go_enter Try.func107, Try.ntmps107
  go_wp2_with (go_at_call 111; (with_reducible refine (absOf_any _ (by assumption) (by assumption) _).mono ?_); rintro e w' ⟨rfl, rfl⟩)
  go_loopw [0, 1] (fun s t wr => ∃ x y : Nat, s = .int .i64 x ∧ t = .int .i64 y ∧ x ≤ 4611686018427387904 ∧ y ≤ 4611686018427387904 ∧ Nat.gcd x y = Nat.gcd a.natAbs b.natAbs ∧ Kept w wr) (fun _ t _ => (intOf t).toNat)
  case atStart => exact ⟨_, _, rfl, rfl, by omega, by omega, rfl, Kept.refl _⟩
  case round =>
    obtain ⟨x, y, rfl, rfl, hx, hy, hg, hkw⟩ := hrel
    have HG := Lib.hid hg
    have HK := Lib.hid hkw
    clear hg hkw
    by_cases h0 : y = 0
    · have e : gcdI a b = (x : Int) := by rw [gcdI, ← HG.out, h0, Nat.gcd_zero_right]
      have E := Lib.hid e
      have t1 : ((y : Int) != 0) = false := by rw [bne_eq_false_iff_eq]; omega
      clear e h0
      go_wp2
      go_ret
      exact ⟨ret_int E.out.symm, HK.out⟩
    · have t1 : ((y : Int) != 0) = true := by rw [bne_iff_ne]; omega
      have t2 : ((y : Int) == 0) = false := by rw [beq_eq_false_iff_ne]; omega
      have G := Lib.hid ((gcd_step x y).trans HG.out)
      have hlt := Nat.mod_lt x (show 0 < y by omega)
      have hle : x % y ≤ 4611686018427387904 := by omega
      have y0 : (1 : Int) ≤ (y : Int) := by omega
      go_wp2_with fail
      go_quiet (fail)
      go_wp2
      go_roundw
      case rel => exact ⟨y, x % y, rfl, by rw [Int.natCast_emod], by omega, by omega, G.out, by have hq := HK.out; (repeat (first | exact Kept.refl _ | assumption | refine Kept.alloc ?_ _ | refine Kept.drew ?_ | refine Kept.drewN ?_ _ | refine Kept.setCell ?_ (by first | (simp; done) | (simp; omega) | omega | exact Kept.size (by (repeat (first | exact Kept.refl _ | assumption | refine Kept.alloc ?_ _ | refine Kept.drew ?_ | refine Kept.drewN ?_ _ | refine Kept.trans ?_ (by assumption))))) _ | refine Kept.trans ?_ (by assumption)))⟩
      case measure => simp only [intOf]; rw [← Int.natCast_emod]; omega
theorem lowestTerms_any (a b : Int) (a1 : -4611686018427387904 ≤ a) (a2 : a ≤ 4611686018427387904) (b1 : 0 < b) (b2 : b ≤ 4611686018427387904) (w : World) : Calls Try.prog 94 #[.int .i64 a, .int .i64 b] w fun e w' => e = .returned (.tuple #[.int .i64 (redN a b), .int .i64 (redD a b)]) ∧ Kept w w' := by
  have hp := gcdI_pos (a := a) b1
  have hb := gcdI_le (a := a) b1
  have t2 : (gcdI a b == 0) = false := by rw [beq_eq_false_iff_ne]; omega
  have b1' : -4611686018427387904 ≤ b := by omega
  go_enter Try.func94, Try.ntmps94
  go_wp2_with (go_at_call 107; refine (gcdOf_any a b a1 a2 b1' b2 _).mono ?_; rintro e w1 ⟨rfl, hk⟩)
  go_quiet (fail)
  go_wp2
  go_ret2
  exact ⟨ret_ii2 rfl rfl, by (repeat (first | exact Kept.refl _ | assumption | refine Kept.alloc ?_ _ | refine Kept.drew ?_ | refine Kept.drewN ?_ _ | refine Kept.setCell ?_ (by first | (simp; done) | (simp; omega) | omega | exact Kept.size (by (repeat (first | exact Kept.refl _ | assumption | refine Kept.alloc ?_ _ | refine Kept.drew ?_ | refine Kept.drewN ?_ _ | refine Kept.trans ?_ (by assumption))))) _ | refine Kept.trans ?_ (by assumption)))⟩
def partV (a b : Int) : Value := .agg #[.int .i64 (redN a b), .int .i64 (redD a b)]
theorem most_any (x y : Int) (w : World) : Calls Try.prog 83 #[.int .i64 x, .int .i64 y] w fun e w' => e = .returned (.int .i64 (max x y)) ∧ w = w' := by
  go_enter Try.func83, Try.ntmps83
  go_wp2
  all_goals go_ret
  all_goals exact ⟨ret_int (by omega), rfl⟩
theorem l2Reduce_any (a b : Int) (a1 : -4611686018427387904 ≤ a) (a2 : a ≤ 4611686018427387904) (b1 : 0 < b) (b2 : b ≤ 4611686018427387904) (w : World) : Calls Try.prog 93 #[.int .i64 a, .int .i64 b] w fun e w' => e = .returned (.tuple #[.int .i64 (redN a b), .int .i64 (redD a b)]) ∧ Kept w w' := by
  have hp := gcdI_pos (a := a) b1
  have hb := gcdI_le (a := a) b1
  have t9 : (gcdI a b == 0) = false := by rw [beq_eq_false_iff_ne]; omega
  go_enter Try.func93, Try.ntmps93
  go_wp2_with (go_at_call 83; (with_reducible refine (most_any _ _ _).mono ?_); rintro e w' ⟨rfl, rfl⟩)
  go_loopw [6, 7, 8] (fun s t _ wr => ∃ x y : Nat, s = .int .i64 x ∧ t = .int .i64 y ∧ x ≤ 4611686018427387904 ∧ y ≤ 4611686018427387904 ∧ Nat.gcd x y = Nat.gcd a.natAbs b.natAbs ∧ Kept w wr) (fun _ t _ _ => (intOf t).toNat)
  case atStart => exact ⟨a.natAbs, b.natAbs, by first | rfl | (congr 1; omega), by congr 1; omega, by omega, by omega, rfl, Kept.refl _⟩
  case round =>
    obtain ⟨x, y, rfl, rfl, hx, hy, hg, hkw⟩ := hrel
    have HG := Lib.hid hg
    have HK := Lib.hid hkw
    clear hg hkw
    by_cases h0 : y = 0
    · have e : (x : Int) = gcdI a b := by rw [gcdI, ← HG.out, h0, Nat.gcd_zero_right]
      have t1 : ((y : Int) != 0) = false := by rw [bne_eq_false_iff_eq]; omega
      rw [e]
      clear e h0
      go_wp2_with fail
      go_quiet (fail)
      go_wp2
      go_ret2
      exact ⟨ret_ii2 rfl rfl, by have hq := HK.out; (repeat (first | exact Kept.refl _ | assumption | refine Kept.alloc ?_ _ | refine Kept.drew ?_ | refine Kept.drewN ?_ _ | refine Kept.setCell ?_ (by first | (simp; done) | (simp; omega) | omega | exact Kept.size (by (repeat (first | exact Kept.refl _ | assumption | refine Kept.alloc ?_ _ | refine Kept.drew ?_ | refine Kept.drewN ?_ _ | refine Kept.trans ?_ (by assumption))))) _ | refine Kept.trans ?_ (by assumption)))⟩
    · have t1 : ((y : Int) != 0) = true := by rw [bne_iff_ne]; omega
      have t2 : ((y : Int) == 0) = false := by rw [beq_eq_false_iff_ne]; omega
      have G := Lib.hid ((gcd_step x y).trans HG.out)
      have hlt := Nat.mod_lt x (show 0 < y by omega)
      have y0 : (1 : Int) ≤ (y : Int) := by omega
      go_wp2
      go_roundw
      case rel => exact ⟨y, x % y, rfl, by rw [Int.natCast_emod], by omega, by omega, G.out, HK.out⟩
      case measure => simp only [intOf]; rw [← Int.natCast_emod]; omega
end Go.Proofs.Ytopdnhlolfehcaa

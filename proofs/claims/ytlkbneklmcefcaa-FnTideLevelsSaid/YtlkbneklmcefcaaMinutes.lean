/-
  Contracts of ReducedDepth, MinutesWith and FirstMinuteWith, the program's and the reference's, and the laws.
  Conditions: none.
-/
import Derived.Test.YtlkbneklmcefcaaLevel
namespace Go.Proofs.Ytlkbneklmcefcaa
open Go.ChangeShapes Go.WideShapes Go.ChangeAt Go.RowKit
set_option linter.unusedVariables false

/-- A floor of a fraction does not hang on lowest terms. -/
theorem floor_red (d p q g : Int) (hg : 0 < g) (hq : 0 < q) : (d * (q * g) - p * g) / (q * g) = (d * q - p) / q := by
  rw [show d * (q * g) - p * g = (d * q - p) * g by rw [Int.sub_mul, Int.mul_assoc], Int.mul_ediv_mul_of_pos_left _ _ hg]
theorem floor_lv (d p q : Int) (hq : 0 < q) : (d * redD p q - redN p q) / redD p q = (d * q - p) / q := by
  have h1 := red_mul (a := p) hq
  have h2 := gcdI_pos (a := p) hq
  have h3 := redD_pos (a := p) hq
  have h4 := floor_red d (redN p q) (redD p q) (gcdI p q) h2 h3
  rw [h1.1, h1.2] at h4
  exact h4.symm
theorem tparts (a : Int) {b : Int} (hb : 0 < b) : b * a.tdiv b + a.tmod b = a ∧ -b < a.tmod b ∧ a.tmod b < b ∧ (0 ≤ a → 0 ≤ a.tmod b) ∧ (a ≤ 0 → a.tmod b ≤ 0) := by
  refine ⟨Int.mul_tdiv_add_tmod a b, Int.lt_tmod_of_pos a hb, Int.tmod_lt_of_pos a hb, fun h => Int.tmod_nonneg b h, fun h => ?_⟩
  have h2 : 0 ≤ (-a).tmod b := Int.tmod_nonneg b (by omega)
  rw [Int.neg_tmod] at h2
  omega
theorem fl_neg {a b : Int} (hb : 0 < b) (h : a.tmod b < 0) : a / b = a.tdiv b - 1 := by
  obtain ⟨h1, h2, h3, -⟩ := tparts a hb
  have := (Int.ediv_emod_unique (a := a) (r := a.tmod b + b) (q := a.tdiv b - 1) hb).2 ⟨by rw [Int.mul_sub]; omega, by omega, by omega⟩
  exact this.1
theorem fl_pos {a b : Int} (hb : 0 < b) (h : ¬ a.tmod b < 0) : a / b = a.tdiv b := by
  obtain ⟨h1, h2, h3, -⟩ := tparts a hb
  have := (Int.ediv_emod_unique (a := a) (r := a.tmod b) (q := a.tdiv b) hb).2 ⟨by omega, by omega, by omega⟩
  exact this.1
theorem tdiv_bd {a b : Int} (hb : 0 < b) (h1 : -4611686018427387904 ≤ a) (h2 : a ≤ 4611686018427387904) : -4611686018427387904 ≤ a.tdiv b ∧ a.tdiv b ≤ 4611686018427387904 := by
  have h3 := Int.natAbs_tdiv a b
  have h4 := Nat.div_le_self a.natAbs b.natAbs
  have h5 : (a.tdiv b).natAbs ≤ a.natAbs := by rw [h3]; exact h4
  omega
theorem tmod_bd {a b : Int} (hb : 0 < b) (h2 : b ≤ 4611686018427387904) : -4611686018427387904 ≤ a.tmod b ∧ a.tmod b ≤ 4611686018427387904 := by
  obtain ⟨-, h3, h4, -⟩ := tparts a hb
  omega
theorem fl_up {a b : Int} (hb : 0 < b) (h : a < 0) : -((-a + b - 1).tdiv b) = a / b := by
  rw [Int.tdiv_eq_ediv_of_nonneg (by omega)]
  have h1 := Int.mul_ediv_add_emod (-a + b - 1) b
  have h2 := Int.emod_nonneg (-a + b - 1) (b := b) (by omega)
  have h3 := Int.emod_lt_of_pos (-a + b - 1) hb
  have := (Int.ediv_emod_unique (a := a) (r := b - 1 - (-a + b - 1) % b) (q := -((-a + b - 1) / b)) hb).2 ⟨by rw [Int.mul_neg]; omega, by omega, by omega⟩
  exact this.1.symm
theorem fl_dn {a b : Int} (h : 0 ≤ a) : a.tdiv b = a / b := Int.tdiv_eq_ediv_of_nonneg h
theorem floorDiv_any (a b : Int) (h1 : -4611686018427387904 ≤ a) (h2 : a ≤ 4611686018427387904) (h3 : 0 < b) (h4 : b ≤ 4611686018427387904) (w : World) : Calls Try.prog 61 #[.int .i64 a, .int .i64 b] w fun e w' => e = .returned (.int .i64 (a / b)) ∧ w = w' := by
  have t0 : (b == 0) = false := beq_eq_false_iff_ne.2 (by omega)
  obtain ⟨q1, q2⟩ := tdiv_bd h3 h1 h2
  obtain ⟨q3, q4⟩ := tmod_bd (a := a) h3 h4
  have e1 : IntKind.i64.wrap (a.tdiv b) = a.tdiv b := IntWalk.i64_in _ (by omega)
  have e2 : IntKind.i64.wrap (a.tmod b) = a.tmod b := IntWalk.i64_in _ (by omega)
  by_cases hn : a.tmod b < 0
  · rw [fl_neg h3 hn]
    have e3 : IntKind.i64.wrap (a.tdiv b - 1) = a.tdiv b - 1 := IntWalk.i64_in _ (by omega)
    go_enter Try.func61, Try.ntmps61
    go_wp2
    all_goals go_ret
    all_goals exact ⟨rfl, rfl⟩
  · have hf := fl_pos h3 hn
    have hn' : 0 ≤ a.tmod b := by omega
    rw [hf]
    clear hf
    go_enter Try.func61, Try.ntmps61
    go_wp2
    all_goals go_ret
    all_goals exact ⟨rfl, rfl⟩
theorem l4Floor_any (a b : Int) (h1 : -4611686018427387904 ≤ a) (h2 : a ≤ 4611686018427387904) (h3 : 0 < b) (h4 : b ≤ 2305843009213693952) (w : World) : Calls Try.prog 59 #[.int .i64 a, .int .i64 b] w fun e w' => e = .returned (.int .i64 (a / b)) ∧ w = w' := by
  have t0 : (b == 0) = false := beq_eq_false_iff_ne.2 (by omega)
  by_cases hn : a < 0
  · rw [← fl_up h3 hn]
    have e0 : IntKind.i64.wrap (-a) = -a := IntWalk.i64_in _ (by omega)
    have e1 : IntKind.i64.wrap (-a + b) = -a + b := IntWalk.i64_in _ (by omega)
    have e2 : IntKind.i64.wrap (-a + b - 1) = -a + b - 1 := IntWalk.i64_in _ (by omega)
    obtain ⟨q1, q2⟩ : -9223372036854775807 ≤ (-a + b - 1).tdiv b ∧ (-a + b - 1).tdiv b ≤ 9223372036854775807 := by
      have h3 := Int.natAbs_tdiv (-a + b - 1) b
      have h4 := Nat.div_le_self (-a + b - 1).natAbs b.natAbs
      have h5 : ((-a + b - 1).tdiv b).natAbs ≤ (-a + b - 1).natAbs := by rw [h3]; exact h4
      omega
    have e3 : IntKind.i64.wrap ((-a + b - 1).tdiv b) = (-a + b - 1).tdiv b := IntWalk.i64_in _ (by omega)
    have e4 : IntKind.i64.wrap (-((-a + b - 1).tdiv b)) = -((-a + b - 1).tdiv b) := IntWalk.i64_in _ (by omega)
    go_enter Try.func59, Try.ntmps59
    go_wp2
    all_goals go_ret
    all_goals exact ⟨rfl, rfl⟩
  · have hn' : 0 ≤ a := by omega
    rw [← fl_dn hn']
    obtain ⟨q1, q2⟩ := tdiv_bd h3 h1 h2
    have e1 : IntKind.i64.wrap (a.tdiv b) = a.tdiv b := IntWalk.i64_in _ (by omega)
    go_enter Try.func59, Try.ntmps59
    go_wp2
    all_goals go_ret
    all_goals exact ⟨rfl, rfl⟩
/-- cmp.Compare on numbers. -/
def cmpI (x y : Int) : Int := if x < y then -1 else if y < x then 1 else 0
theorem cmpInt_any (x y : Int) (w : World) : Calls Try.prog 79 #[.int .i64 x, .int .i64 y] w fun e w' => e = .returned (.int .i64 (cmpI x y)) ∧ w = w' := by
  have t1 : (x != x) = false := by simp
  have t2 : (y != y) = false := by simp
  go_enter Try.func79, Try.ntmps79
  go_wp2
  all_goals go_ret
  all_goals exact ⟨ret_int (by simp only [cmpI]; (repeat' split) <;> omega), rfl⟩
theorem compare_any (p q a b : Int) (h1 : -4611686018427387904 ≤ p * b) (h2 : p * b ≤ 4611686018427387904) (h3 : -4611686018427387904 ≤ a * q) (h4 : a * q ≤ 4611686018427387904) (w : World) : Calls Try.prog 70 #[.agg #[.int .i64 p, .int .i64 q], .agg #[.int .i64 a, .int .i64 b]] w fun e w' => e = .returned (.int .i64 (cmpI (p * b) (a * q))) ∧ Kept w w' := by
  have e1 : IntKind.i64.wrap (p * b) = p * b := IntWalk.i64_in _ (by omega)
  have e2 : IntKind.i64.wrap (a * q) = a * q := IntWalk.i64_in _ (by omega)
  go_enter Try.func70, Try.ntmps70
  go_wp2_with (go_at_call 79; (with_reducible refine (cmpInt_any _ _ _).mono ?_); rintro e w' ⟨rfl, rfl⟩)
  go_ret
  exact ⟨rfl, by (repeat (first | exact Kept.refl _ | assumption | refine Kept.alloc ?_ _ | refine Kept.drew ?_ | refine Kept.drewN ?_ _ | refine Kept.setCell ?_ (by first | (simp; done) | (simp; omega) | omega | exact Kept.size (by (repeat (first | exact Kept.refl _ | assumption | refine Kept.alloc ?_ _ | refine Kept.drew ?_ | refine Kept.drewN ?_ _ | refine Kept.trans ?_ (by assumption))))) _ | refine Kept.trans ?_ (by assumption)))⟩
/-- Is there a level at a time that is at least some level. -/
def hasB (xs : List (Int × Int)) (l t : Int) : Bool := lvOk xs t && decide (l * lvD xs t ≤ lvN xs t)
theorem has_red {p q l : Int} (hq : 0 < q) : (l * redD p q ≤ redN p q) ↔ (l * q ≤ p) := by
  have h1 := red_mul (a := p) hq
  have h2 := gcdI_pos (a := p) hq
  have e1 : l * q = (l * redD p q) * gcdI p q := by rw [Int.mul_assoc, h1.2]
  constructor
  · intro h
    rw [e1, ← h1.1]
    have := Int.mul_le_mul_of_nonneg_right h (Int.le_of_lt h2)
    rw [h1.1] at this ⊢
    exact this
  · intro h
    rw [e1] at h
    have h5 : (l * redD p q) * gcdI p q ≤ redN p q * gcdI p q := by rw [h1.1]; exact h
    exact Int.le_of_mul_le_mul_right h5 h2
theorem red_bds {p q : Int} (hp : -40000000 ≤ p ∧ p ≤ 40000000) (hq : 1 ≤ q ∧ q ≤ 60) : (-40000000 ≤ redN p q ∧ redN p q ≤ 40000000) ∧ (1 ≤ redD p q ∧ redD p q ≤ 60) := by
  have h1 := red_bd p (b := q) (by omega)
  have h2 := redD_pos (a := p) (b := q) (by omega)
  omega
theorem lev_mul {l d : Int} (hl : levB l = true) (hd : 1 ≤ d ∧ d ≤ 60) : -120000 ≤ l * d ∧ l * d ≤ 120000 := by
  have hl2 := inB_true.1 hl
  have ha : l.natAbs ≤ 2000 := by omega
  have hb : d.natAbs ≤ 60 := by omega
  have hm := Nat.mul_le_mul ha hb
  rw [← Int.natAbs_mul] at hm
  omega
theorem hasLevel_any (v : Value) (xs : List (Int × Int)) (l t : Int) (w : World) (hL : Lies w 2 pairC v xs) (hB : tideB xs = true) (ht : timeB t = true) (hl : levB l = true) : Calls Try.prog 67 #[v, .int .i64 l, .int .i64 t] w fun e w' => e = .returned (.bool (hasB xs l t)) ∧ Kept w w' := by
  have HL := Lib.hid hL
  have H1 := Lib.hid hB
  have H2 := Lib.hid ht
  obtain ⟨A, c, rfl, hlc, hcm, hA⟩ := hL
  clear hA
  cases h3 : lvOk xs t
  · have HV := Lib.hid (show hasB xs l t = false by simp [hasB, h3])
    clear hB ht hl
    go_enter Try.func67, Try.ntmps67
    go_wp2_with (go_at_call 60; refine (levelAt_any _ _ _ _ (by exact HL.out.kept (by (repeat (first | exact Kept.refl _ | assumption | refine Kept.alloc ?_ _ | refine Kept.drew ?_ | refine Kept.drewN ?_ _ | refine Kept.setCell ?_ (by first | (simp; done) | (simp; omega) | omega | exact Kept.size (by (repeat (first | exact Kept.refl _ | assumption | refine Kept.alloc ?_ _ | refine Kept.drew ?_ | refine Kept.drewN ?_ _ | refine Kept.trans ?_ (by assumption))))) _ | refine Kept.trans ?_ (by assumption))))) H1.out H2.out).mono ?_; rintro e w1 ⟨p, q, rfl, hpq, hk⟩)
    go_ret
    exact ⟨ret_bool HV.out.symm, by (repeat (first | exact Kept.refl _ | assumption | refine Kept.alloc ?_ _ | refine Kept.drew ?_ | refine Kept.drewN ?_ _ | refine Kept.setCell ?_ (by first | (simp; done) | (simp; omega) | omega | exact Kept.size (by (repeat (first | exact Kept.refl _ | assumption | refine Kept.alloc ?_ _ | refine Kept.drew ?_ | refine Kept.drewN ?_ _ | refine Kept.trans ?_ (by assumption))))) _ | refine Kept.trans ?_ (by assumption)))⟩
  · have hb := lv_bd hB ht h3
    have hr := red_bds hb.1 hb.2
    have hm := lev_mul hl hr.2
    have HV := Lib.hid (show hasB xs l t = decide (0 ≤ cmpI (redN (lvN xs t) (lvD xs t)) (l * redD (lvN xs t) (lvD xs t))) by
      have := has_red (p := lvN xs t) (q := lvD xs t) (l := l) (by omega)
      simp only [hasB, h3, Bool.true_and]
      rw [decide_eq_decide, ← this]
      simp only [cmpI]
      (repeat' split) <;> omega)
    obtain ⟨⟨r1, r2⟩, r3, r4⟩ := hr
    obtain ⟨m1, m2⟩ := hm
    have n1 : -4611686018427387904 ≤ redN (lvN xs t) (lvD xs t) * 1 := by omega
    have n2 : redN (lvN xs t) (lvD xs t) * 1 ≤ 4611686018427387904 := by omega
    have n3 : -4611686018427387904 ≤ l * redD (lvN xs t) (lvD xs t) := by omega
    have n4 : l * redD (lvN xs t) (lvD xs t) ≤ 4611686018427387904 := by omega
    have H3 := Lib.hid h3
    clear hB ht hl hb
    go_enter Try.func67, Try.ntmps67
    go_wp2_with (first | (go_at_call 60; refine (levelAt_any _ _ _ _ (by exact HL.out.kept (by (repeat (first | exact Kept.refl _ | assumption | refine Kept.alloc ?_ _ | refine Kept.drew ?_ | refine Kept.drewN ?_ _ | refine Kept.setCell ?_ (by first | (simp; done) | (simp; omega) | omega | exact Kept.size (by (repeat (first | exact Kept.refl _ | assumption | refine Kept.alloc ?_ _ | refine Kept.drew ?_ | refine Kept.drewN ?_ _ | refine Kept.trans ?_ (by assumption))))) _ | refine Kept.trans ?_ (by assumption))))) H1.out H2.out).mono ?_; rintro e w1 ⟨p, q, rfl, hpq, hk⟩; obtain ⟨rfl, rfl⟩ := hpq H3.out) | (go_at_call 70; (with_reducible refine (compare_any _ _ _ _ n1 n2 n3 n4 _).mono ?_); rintro e w' ⟨rfl, hk⟩; (try have hkr := Root.trans (by assumption) hk); (first | (have hkf := From.step (by assumption) hk; obtain ⟨hc, hf⟩ := hkf.cells) | (have hkf := From.start hk; obtain ⟨hc, hf⟩ := hkf.cells))))
    go_ret
    exact ⟨ret_bool HV.out.symm, by (repeat (first | exact Kept.refl _ | assumption | refine Kept.alloc ?_ _ | refine Kept.drew ?_ | refine Kept.drewN ?_ _ | refine Kept.setCell ?_ (by first | (simp; done) | (simp; omega) | omega | exact Kept.size (by (repeat (first | exact Kept.refl _ | assumption | refine Kept.alloc ?_ _ | refine Kept.drew ?_ | refine Kept.drewN ?_ _ | refine Kept.trans ?_ (by assumption))))) _ | refine Kept.trans ?_ (by assumption)))⟩
theorem l4Has_any (v : Value) (xs : List (Int × Int)) (l t : Int) (w : World) (hL : Lies w 2 pairC v xs) (hB : tideB xs = true) (ht : timeB t = true) (hl : levB l = true) : Calls Try.prog 66 #[v, .int .i64 l, .int .i64 t] w fun e w' => e = .returned (.bool (hasB xs l t)) ∧ Kept w w' := by
  have HL := Lib.hid hL
  have H1 := Lib.hid hB
  have H2 := Lib.hid ht
  obtain ⟨A, c, rfl, hlc, hcm, hA⟩ := hL
  clear hA
  cases h3 : lvOk xs t
  · have HV := Lib.hid (show hasB xs l t = false by simp [hasB, h3])
    clear hB ht hl
    go_enter Try.func66, Try.ntmps66
    go_wp2_with (go_at_call 58; (with_reducible refine (l4At_any _ _ _ _ (by exact HL.out.kept (by (repeat (first | exact Kept.refl _ | assumption | refine Kept.alloc ?_ _ | refine Kept.drew ?_ | refine Kept.drewN ?_ _ | refine Kept.setCell ?_ (by first | (simp; done) | (simp; omega) | omega | exact Kept.size (by (repeat (first | exact Kept.refl _ | assumption | refine Kept.alloc ?_ _ | refine Kept.drew ?_ | refine Kept.drewN ?_ _ | refine Kept.trans ?_ (by assumption))))) _ | refine Kept.trans ?_ (by assumption))))) H1.out H2.out).mono ?_); rintro e w' ⟨rfl, hk⟩; (try have hkr := Root.trans (by assumption) hk); (first | (have hkf := From.step (by assumption) hk; obtain ⟨hc, hf⟩ := hkf.cells) | (have hkf := From.start hk; obtain ⟨hc, hf⟩ := hkf.cells)))
    go_ret
    exact ⟨ret_bool HV.out.symm, by (repeat (first | exact Kept.refl _ | assumption | refine Kept.alloc ?_ _ | refine Kept.drew ?_ | refine Kept.drewN ?_ _ | refine Kept.setCell ?_ (by first | (simp; done) | (simp; omega) | omega | exact Kept.size (by (repeat (first | exact Kept.refl _ | assumption | refine Kept.alloc ?_ _ | refine Kept.drew ?_ | refine Kept.drewN ?_ _ | refine Kept.trans ?_ (by assumption))))) _ | refine Kept.trans ?_ (by assumption)))⟩
  · have hb := lv_bd hB ht h3
    have hm := lev_mul hl hb.2
    have HV := Lib.hid (show hasB xs l t = decide (l * lvD xs t ≤ lvN xs t) by simp [hasB, h3])
    obtain ⟨m1, m2⟩ := hm
    clear hB ht hl
    go_enter Try.func66, Try.ntmps66
    go_wp2_with (go_at_call 58; (with_reducible refine (l4At_any _ _ _ _ (by exact HL.out.kept (by (repeat (first | exact Kept.refl _ | assumption | refine Kept.alloc ?_ _ | refine Kept.drew ?_ | refine Kept.drewN ?_ _ | refine Kept.setCell ?_ (by first | (simp; done) | (simp; omega) | omega | exact Kept.size (by (repeat (first | exact Kept.refl _ | assumption | refine Kept.alloc ?_ _ | refine Kept.drew ?_ | refine Kept.drewN ?_ _ | refine Kept.trans ?_ (by assumption))))) _ | refine Kept.trans ?_ (by assumption))))) H1.out H2.out).mono ?_); rintro e w' ⟨rfl, hk⟩; (try have hkr := Root.trans (by assumption) hk); (first | (have hkf := From.step (by assumption) hk; obtain ⟨hc, hf⟩ := hkf.cells) | (have hkf := From.start hk; obtain ⟨hc, hf⟩ := hkf.cells)))
    go_ret
    exact ⟨ret_bool HV.out.symm, by (repeat (first | exact Kept.refl _ | assumption | refine Kept.alloc ?_ _ | refine Kept.drew ?_ | refine Kept.drewN ?_ _ | refine Kept.setCell ?_ (by first | (simp; done) | (simp; omega) | omega | exact Kept.size (by (repeat (first | exact Kept.refl _ | assumption | refine Kept.alloc ?_ _ | refine Kept.drew ?_ | refine Kept.drewN ?_ _ | refine Kept.trans ?_ (by assumption))))) _ | refine Kept.trans ?_ (by assumption)))⟩
/-- How many of the first k minutes from a time on have a level. -/
def cntTo (xs : List (Int × Int)) (l f : Int) : Nat → Nat
  | 0 => 0
  | k + 1 => cntTo xs l f k + (if hasB xs l (f + k) = true then 1 else 0)
theorem cntTo_le (xs : List (Int × Int)) (l f : Int) : ∀ k, cntTo xs l f k ≤ k
  | 0 => Nat.le_refl _
  | k + 1 => by
    have := cntTo_le xs l f k
    rw [cntTo]
    split <;> omega
def spanB (f t : Int) : Bool := timeB f && timeB t && decide (f ≤ t)
theorem spanB_1 {f t : Int} (h : spanB f t = true) : (0 ≤ f ∧ f ≤ 10000) ∧ (0 ≤ t ∧ t ≤ 10000) ∧ f ≤ t := by
  simp only [spanB, timeB, Bool.and_eq_true, inB_true, decide_eq_true_eq] at h
  omega
theorem isSpan_any (f t : Int) (w : World) : Calls Try.prog 69 #[.int .i64 f, .int .i64 t] w fun e w' => e = .returned (.bool (spanB f t)) ∧ w = w' := by
  go_enter Try.func69, Try.ntmps69
  go_wp2_with (go_at_call 53; (with_reducible refine (isTime_any _ _).mono ?_); rintro e w' ⟨rfl, rfl⟩)
  all_goals go_ret
  all_goals exact ⟨ret_bool (by (first | (simp [spanB, *]; done) | (simp [spanB, *]; omega) | (simp only [Bool.not_eq_true', Bool.not_eq_false'] at *; simp [spanB, *]; done) | (simp only [Bool.not_eq_true', Bool.not_eq_false'] at *; simp [spanB, *]; omega) | (simp only [Bool.not_eq_false'] at *; simp [spanB, *]; done) | (simp only [Bool.not_eq_false'] at *; simp [spanB, *]; omega))), rfl⟩
theorem l4Span_any (v : Value) (xs : List (Int × Int)) (f t : Int) (w : World) (hL : Lies w 2 pairC v xs) : Calls Try.prog 68 #[v, .int .i64 f, .int .i64 t] w fun e w' => e = .returned (.bool (tideB xs && spanB f t)) ∧ Kept w w' := by
  have HX : (tideB xs && spanB f t) = (askB xs f && timeB t && decide (f ≤ t)) := by simp [askB, spanB, Bool.and_assoc]
  rw [HX]
  clear HX
  have HL := Lib.hid hL
  obtain ⟨A, c, rfl, hlc, hcm, hA⟩ := hL
  clear hA
  go_enter Try.func68, Try.ntmps68
  go_wp2_with (first | (go_at_call 57; (with_reducible refine (l4Asked_any _ _ _ _ HL.out).mono ?_); rintro e w' ⟨rfl, hk⟩; (try have hkr := Root.trans (by assumption) hk); (first | (have hkf := From.step (by assumption) hk; obtain ⟨hc, hf⟩ := hkf.cells) | (have hkf := From.start hk; obtain ⟨hc, hf⟩ := hkf.cells))) | (go_at_call 76; (with_reducible refine (l2Time_any _ _).mono ?_); rintro e w' ⟨rfl, rfl⟩))
  all_goals go_ret
  all_goals exact ⟨ret_bool (by simp [*]), by (repeat (first | exact Kept.refl _ | assumption | refine Kept.alloc ?_ _ | refine Kept.drew ?_ | refine Kept.drewN ?_ _ | refine Kept.setCell ?_ (by first | (simp; done) | (simp; omega) | omega | exact Kept.size (by (repeat (first | exact Kept.refl _ | assumption | refine Kept.alloc ?_ _ | refine Kept.drew ?_ | refine Kept.drewN ?_ _ | refine Kept.trans ?_ (by assumption))))) _ | refine Kept.trans ?_ (by assumption)))⟩
end Go.Proofs.Ytlkbneklmcefcaa

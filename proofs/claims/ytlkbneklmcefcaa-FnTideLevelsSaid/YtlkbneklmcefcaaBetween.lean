/-
  Contracts of LevelBetween, the program's and the reference's, and the law.
  Conditions: none.
-/
import Derived.Test.YtlkbneklmcefcaaReduced
import Derived.Deep.DeepCutAuto
namespace Go.Proofs.Ytlkbneklmcefcaa
open Go.ChangeShapes Go.WideShapes Go.ChangeAt Go.RowKit
set_option linter.unusedVariables false

theorem mul_bd {a b : Int} (A B : Int) (h1 : -A ≤ a) (h2 : a ≤ A) (h3 : -B ≤ b) (h4 : b ≤ B) : -(A * B) ≤ a * b ∧ a * b ≤ A * B := by
  have ha : a.natAbs ≤ A.toNat := by omega
  have hb : b.natAbs ≤ B.toNat := by omega
  have hm := Nat.mul_le_mul ha hb
  rw [← Int.natAbs_mul] at hm
  have e : ((A.toNat * B.toNat : Nat) : Int) = A * B := by
    rw [Int.natCast_mul, Int.toNat_of_nonneg (by omega), Int.toNat_of_nonneg (by omega)]
  omega
/-- Lowest terms do not hang on a common factor. -/
theorem red_scale (a : Int) {b k : Int} (hb : 0 < b) (hk : 0 < k) : redN (a * k) (b * k) = redN a b ∧ redD (a * k) (b * k) = redD a b := by
  have hg : gcdI (a * k) (b * k) = gcdI a b * k := by
    unfold gcdI
    rw [Int.natAbs_mul, Int.natAbs_mul, Nat.gcd_mul_right, Int.natCast_mul]
    rw [Int.natAbs_of_nonneg (Int.le_of_lt hk)]
  have hp := gcdI_pos (a := a) hb
  unfold redN redD
  rw [hg]
  exact ⟨Int.mul_tdiv_mul_of_pos_left _ _ hk, Int.mul_ediv_mul_of_pos_left _ _ hk⟩
theorem red_same {a b c d : Int} (hb : 0 < b) (hd : 0 < d) (h : a * d = c * b) : redN a b = redN c d ∧ redD a b = redD c d := by
  have h1 := red_scale a hb hd
  have h2 := red_scale c hd hb
  rw [← h1.1, ← h1.2, ← h2.1, ← h2.2, h, Int.mul_comm b d]
  exact ⟨rfl, rfl⟩
theorem red_cross (a : Int) {b : Int} (hb : 0 < b) : redN a b * b = a * redD a b := by
  have h := red_mul (a := a) hb
  have h1 : redN a b * b = redN a b * (redD a b * gcdI a b) := by rw [h.2]
  rw [h1, Int.mul_comm (redD a b), ← Int.mul_assoc, h.1]
/-- The sum of two fractions, each in lowest terms, in lowest terms: the same as of the fractions themselves. -/
theorem red_sum {p q u v x y : Int} (hq : 0 < q) (hv : 0 < v) (hx : 0 < x) (hy : 0 < y) :
    redN (redN (y * redN p q) ((x + y) * redD p q) * redD (x * redN u v) ((x + y) * redD u v) + redN (x * redN u v) ((x + y) * redD u v) * redD (y * redN p q) ((x + y) * redD p q)) (redD (y * redN p q) ((x + y) * redD p q) * redD (x * redN u v) ((x + y) * redD u v)) = redN (y * p * v + x * u * q) ((x + y) * q * v) ∧
    redD (redN (y * redN p q) ((x + y) * redD p q) * redD (x * redN u v) ((x + y) * redD u v) + redN (x * redN u v) ((x + y) * redD u v) * redD (y * redN p q) ((x + y) * redD p q)) (redD (y * redN p q) ((x + y) * redD p q) * redD (x * redN u v) ((x + y) * redD u v)) = redD (y * p * v + x * u * q) ((x + y) * q * v) := by
  have s0 : 0 < x + y := by omega
  have d1 := redD_pos (a := p) hq
  have d2 := redD_pos (a := u) hv
  have c1 := red_cross p hq
  have c2 := red_cross u hv
  have m1 : 0 < (x + y) * redD p q := Int.mul_pos s0 d1
  have m2 : 0 < (x + y) * redD u v := Int.mul_pos s0 d2
  have k1 := red_cross (y * redN p q) m1
  have k2 := red_cross (x * redN u v) m2
  have e1 := redD_pos (a := y * redN p q) m1
  have e2 := redD_pos (a := x * redN u v) m2
  generalize redN (y * redN p q) ((x + y) * redD p q) = n1 at *
  generalize redD (y * redN p q) ((x + y) * redD p q) = t1 at *
  generalize redN (x * redN u v) ((x + y) * redD u v) = n2 at *
  generalize redD (x * redN u v) ((x + y) * redD u v) = t2 at *
  generalize redN p q = a1 at *
  generalize redD p q = b1 at *
  generalize redN u v = a2 at *
  generalize redD u v = b2 at *
  generalize x + y = s at *
  refine red_same (Int.mul_pos e1 e2) (Int.mul_pos (Int.mul_pos s0 hq) hv) ?_
  -- n1 * (s * q) = y * p * t1
  have f1 : n1 * (s * q) = y * p * t1 := by
    have h : b1 * (n1 * (s * q)) = b1 * (y * p * t1) := by
      calc b1 * (n1 * (s * q)) = (n1 * (s * b1)) * q := by ac_rfl
        _ = (y * a1 * t1) * q := by rw [k1]
        _ = (a1 * q) * (y * t1) := by ac_rfl
        _ = (p * b1) * (y * t1) := by rw [c1]
        _ = b1 * (y * p * t1) := by ac_rfl
    exact Int.eq_of_mul_eq_mul_left (by omega) h
  have f2 : n2 * (s * v) = x * u * t2 := by
    have h : b2 * (n2 * (s * v)) = b2 * (x * u * t2) := by
      calc b2 * (n2 * (s * v)) = (n2 * (s * b2)) * v := by ac_rfl
        _ = (x * a2 * t2) * v := by rw [k2]
        _ = (a2 * v) * (x * t2) := by ac_rfl
        _ = (u * b2) * (x * t2) := by rw [c2]
        _ = b2 * (x * u * t2) := by ac_rfl
    exact Int.eq_of_mul_eq_mul_left (by omega) h
  calc (n1 * t2 + n2 * t1) * (s * q * v) = (n1 * (s * q)) * (t2 * v) + (n2 * (s * v)) * (t1 * q) := by rw [Int.add_mul]; congr 1 <;> ac_rfl
    _ = (y * p * t1) * (t2 * v) + (x * u * t2) * (t1 * q) := by rw [f1, f2]
    _ = (y * p * v + x * u * q) * (t1 * t2) := by rw [Int.add_mul]; congr 1 <;> ac_rfl
def lbIn (xs ys : List (Int × Int)) (x y t : Int) : Bool := tideB xs && tideB ys && inB x 1 10000 && inB y 1 10000 && timeB t
def lbOk (xs ys : List (Int × Int)) (x y t : Int) : Bool := lbIn xs ys x y t && lvOk xs t && lvOk ys t
def lbA (xs ys : List (Int × Int)) (x y t : Int) : Int := y * lvN xs t * lvD ys t + x * lvN ys t * lvD xs t
def lbB (xs ys : List (Int × Int)) (x y t : Int) : Int := (x + y) * lvD xs t * lvD ys t
def lbN (xs ys : List (Int × Int)) (x y t : Int) : Int := if lbOk xs ys x y t = true then redN (lbA xs ys x y t) (lbB xs ys x y t) else 0
def lbD (xs ys : List (Int × Int)) (x y t : Int) : Int := if lbOk xs ys x y t = true then redD (lbA xs ys x y t) (lbB xs ys x y t) else 0
theorem lb_no {xs ys : List (Int × Int)} {x y t : Int} (h : lbOk xs ys x y t = false) : lbN xs ys x y t = 0 ∧ lbD xs ys x y t = 0 := by simp [lbN, lbD, h]
theorem lb_yes {xs ys : List (Int × Int)} {x y t : Int} (h : lbOk xs ys x y t = true) : lbN xs ys x y t = redN (y * lvN xs t * lvD ys t + x * lvN ys t * lvD xs t) ((x + y) * lvD xs t * lvD ys t) ∧ lbD xs ys x y t = redD (y * lvN xs t * lvD ys t + x * lvN ys t * lvD xs t) ((x + y) * lvD xs t * lvD ys t) := by simp [lbN, lbD, lbA, lbB, h]
theorem lbIn_1 {xs ys : List (Int × Int)} {x y t : Int} (h : lbIn xs ys x y t = true) : tideB xs = true ∧ tideB ys = true ∧ inB x 1 10000 = true ∧ inB y 1 10000 = true ∧ timeB t = true := by
  simp only [lbIn, Bool.and_eq_true] at h
  exact ⟨h.1.1.1.1, h.1.1.1.2, h.1.1.2, h.1.2, h.2⟩
theorem pos_mul {a b : Int} (A B : Int) (h1 : 1 ≤ a) (h2 : a ≤ A) (h3 : 1 ≤ b) (h4 : b ≤ B) : 1 ≤ a * b ∧ a * b ≤ A * B := by
  have h5 := Int.mul_pos (show 0 < a by omega) (show 0 < b by omega)
  have h6 := (mul_bd A B (show -A ≤ a by omega) h2 (show -B ≤ b by omega) h4).2
  omega
theorem red_bd2 {a b : Int} (A : Int) (h1 : -A ≤ a) (h2 : a ≤ A) (hb : 0 < b) : (-A ≤ redN a b ∧ redN a b ≤ A) ∧ (1 ≤ redD a b ∧ redD a b ≤ b) := by
  have h3 := red_bd a hb
  have h4 := redD_pos (a := a) hb
  omega
theorem plus_any (p q a b : Int) (p1 : -400000000000 ≤ p) (p2 : p ≤ 400000000000) (q1 : 1 ≤ q) (q2 : q ≤ 1200000) (a1 : -400000000000 ≤ a) (a2 : a ≤ 400000000000) (b1 : 1 ≤ b) (b2 : b ≤ 1200000) (w : World) : Calls Try.prog 64 #[.agg #[.int .i64 p, .int .i64 q], .agg #[.int .i64 a, .int .i64 b]] w fun e w' => e = .returned (.agg #[.int .i64 (redN (p * b + a * q) (q * b)), .int .i64 (redD (p * b + a * q) (q * b))]) ∧ Kept w w' := by
  have m1 := mul_bd 400000000000 1200000 p1 p2 (show -1200000 ≤ b by omega) b2
  have m2 := mul_bd 400000000000 1200000 a1 a2 (show -1200000 ≤ q by omega) q2
  have m3 := pos_mul 1200000 1200000 q1 q2 b1 b2
  obtain ⟨m11, m12⟩ := m1
  obtain ⟨m21, m22⟩ := m2
  obtain ⟨m31, m32⟩ := m3
  have n1 : -4611686018427387904 ≤ p * b + a * q := by omega
  have n2 : p * b + a * q ≤ 4611686018427387904 := by omega
  have n3 : 0 < q * b := by omega
  have n4 : q * b ≤ 4611686018427387904 := by omega
  have e1 : IntKind.i64.wrap (p * b) = p * b := IntWalk.i64_in _ (by omega)
  have e2 : IntKind.i64.wrap (a * q) = a * q := IntWalk.i64_in _ (by omega)
  have e3 : IntKind.i64.wrap (p * b + a * q) = p * b + a * q := IntWalk.i64_in _ (by omega)
  have e4 : IntKind.i64.wrap (q * b) = q * b := IntWalk.i64_in _ (by omega)
  go_enter Try.func64, Try.ntmps64
  go_wp2_with (go_at_call 63; (with_reducible refine (asPart_any _ _ n1 n2 n3 n4 _).mono ?_); rintro e w' ⟨rfl, hk⟩; (try have hkr := Root.trans (by assumption) hk); (first | (have hkf := From.step (by assumption) hk; obtain ⟨hc, hf⟩ := hkf.cells) | (have hkf := From.start hk; obtain ⟨hc, hf⟩ := hkf.cells)); have z0 : w.heap.size < w'.heap.size := hk.sz (by first | assumption | (simp; done) | (simp; omega)); have y0 : w.heap.size ≤ w'.heap.size := Nat.le_of_lt z0; have z1 : w.heap.size + 1 < w'.heap.size := hk.sz (by first | assumption | (simp; done) | (simp; omega)); have y1 : w.heap.size + 1 ≤ w'.heap.size := Nat.le_of_lt z1; have z2 : w.heap.size + 1 + 1 < w'.heap.size := hk.sz (by first | assumption | (simp; done) | (simp; omega)); have y2 : w.heap.size + 1 + 1 ≤ w'.heap.size := Nat.le_of_lt z2)
  exact bodyPost_ret (v := .agg #[.int .i64 (redN (p * b + a * q) (q * b)), .int .i64 (redD (p * b + a * q) (q * b))]) (by simp [results, Try.results64, go_sem, *]) rfl ⟨rfl, by (repeat (first | exact Kept.refl _ | assumption | refine Kept.alloc ?_ _ | refine Kept.drew ?_ | refine Kept.drewN ?_ _ | refine Kept.setCell ?_ (by first | (simp; done) | (simp; omega) | omega | exact Kept.size (by (repeat (first | exact Kept.refl _ | assumption | refine Kept.alloc ?_ _ | refine Kept.drew ?_ | refine Kept.drewN ?_ _ | refine Kept.trans ?_ (by assumption))))) _ | refine Kept.trans ?_ (by assumption)))⟩
set_option maxRecDepth 100000 in
set_option maxHeartbeats 4000000 in
theorem levelBetween_core (v u : Value) (xs ys : List (Int × Int)) (x y t P Q R S N1 D1 N2 D2 ON OD : Int) (w : World) (hL : Lies w 2 pairC v xs) (hM : Lies w 2 pairC u ys)
    (t1 : tideB xs = true) (t2 : tideB ys = true) (tt : timeB t = true) (i1 : inB x 1 10000 = true) (i2 : inB y 1 10000 = true) (o1 : lvOk xs t = true) (o2 : lvOk ys t = true)
    (hP : redN (lvN xs t) (lvD xs t) = P) (hQ : redD (lvN xs t) (lvD xs t) = Q) (hR : redN (lvN ys t) (lvD ys t) = R) (hS : redD (lvN ys t) (lvD ys t) = S)
    (hN1 : redN (y * P) ((x + y) * Q) = N1) (hD1 : redD (y * P) ((x + y) * Q) = D1) (hN2 : redN (x * R) ((x + y) * S) = N2) (hD2 : redD (x * R) ((x + y) * S) = D2)
    (hON : redN (N1 * D2 + N2 * D1) (D1 * D2) = ON) (hOD : redD (N1 * D2 + N2 * D1) (D1 * D2) = OD) :
    Calls Try.prog 33 #[v, u, .int .i64 x, .int .i64 y, .int .i64 t] w fun e w' => e = .returned (.tuple #[.int .i64 ON, .int .i64 OD, .bool true]) ∧ Kept w w' := by
  have HL := Lib.hid hL
  have HM := Lib.hid hM
  obtain ⟨A, c, rfl, -, -, -⟩ := hL
  obtain ⟨A', c', rfl, -, -, -⟩ := hM
  have O1 := Lib.hid o1
  have O2 := Lib.hid o2
  have T1 := Lib.hid t1
  have T2 := Lib.hid t2
  have TT := Lib.hid tt
  have hb1 := lv_bd t1 tt o1
  have hb2 := lv_bd t2 tt o2
  have hr1 := red_bds hb1.1 hb1.2
  have hr2 := red_bds hb2.1 hb2.2
  rw [hP, hQ] at hr1
  rw [hR, hS] at hr2
  obtain ⟨⟨p1, p2⟩, q1, q2⟩ := hr1
  obtain ⟨⟨p3, p4⟩, q3, q4⟩ := hr2
  obtain ⟨x1, x2⟩ := inB_true.1 i1
  obtain ⟨y1, y2⟩ := inB_true.1 i2
  obtain ⟨m1, m2⟩ := mul_bd 10000 40000000 (show -10000 ≤ y by omega) y2 p1 p2
  obtain ⟨m3, m4⟩ := mul_bd 10000 40000000 (show -10000 ≤ x by omega) x2 p3 p4
  obtain ⟨m5, m6⟩ := pos_mul 20000 60 (show 1 ≤ x + y by omega) (show x + y ≤ 20000 by omega) q1 q2
  obtain ⟨m7, m8⟩ := pos_mul 20000 60 (show 1 ≤ x + y by omega) (show x + y ≤ 20000 by omega) q3 q4
  obtain ⟨⟨b1, b2⟩, b3, b4⟩ := red_bd2 (a := y * P) (b := (x + y) * Q) 400000000000 (by omega) (by omega) (by omega)
  obtain ⟨⟨b5, b6⟩, b7, b8⟩ := red_bd2 (a := x * R) (b := (x + y) * S) 400000000000 (by omega) (by omega) (by omega)
  rw [hN1] at b1 b2
  rw [hD1] at b3 b4
  rw [hN2] at b5 b6
  rw [hD2] at b7 b8
  have hA1 : Hid (∀ W, Calls Try.prog 63 #[.int .i64 (y * P), .int .i64 ((x + y) * Q)] W fun e w' => e = .returned (.agg #[.int .i64 N1, .int .i64 D1]) ∧ Kept W w') := fun W => by
    have h := asPart_any (y * P) ((x + y) * Q) (by omega) (by omega) (by omega) (by omega) W
    rw [hN1, hD1] at h
    exact h
  have hA2 : Hid (∀ W, Calls Try.prog 63 #[.int .i64 (x * R), .int .i64 ((x + y) * S)] W fun e w' => e = .returned (.agg #[.int .i64 N2, .int .i64 D2]) ∧ Kept W w') := fun W => by
    have h := asPart_any (x * R) ((x + y) * S) (by omega) (by omega) (by omega) (by omega) W
    rw [hN2, hD2] at h
    exact h
  have hA3 : Hid (∀ W, Calls Try.prog 64 #[.agg #[.int .i64 N1, .int .i64 D1], .agg #[.int .i64 N2, .int .i64 D2]] W fun e w' => e = .returned (.agg #[.int .i64 ON, .int .i64 OD]) ∧ Kept W w') := fun W => by
    have h := plus_any N1 D1 N2 D2 b1 b2 b3 (by omega) b5 b6 b7 (by omega) W
    rw [hON, hOD] at h
    exact h
  have e1 : IntKind.i64.wrap (y * P) = y * P := IntWalk.i64_in _ (by omega)
  have e2 : IntKind.i64.wrap (x * R) = x * R := IntWalk.i64_in _ (by omega)
  have e3 : IntKind.i64.wrap (x + y) = x + y := IntWalk.i64_in _ (by omega)
  have e4 : IntKind.i64.wrap ((x + y) * Q) = (x + y) * Q := IntWalk.i64_in _ (by omega)
  have e5 : IntKind.i64.wrap ((x + y) * S) = (x + y) * S := IntWalk.i64_in _ (by omega)
  have hV1 : Hid (∀ p q, LvPost xs t p q → p = P ∧ q = Q) := fun p q h => by
    have := h o1
    rw [hP, hQ] at this
    exact this
  have hV2 : Hid (∀ p q, LvPost ys t p q → p = R ∧ q = S) := fun p q h => by
    have := h o2
    rw [hR, hS] at this
    exact this
  clear hP hQ hR hS hN1 hD1 hN2 hD2 hON hOD hb1 hb2
  go_enter Try.func33, Try.ntmps33
  go_wp2_with fail
  refine (isTideCurve_any _ _ _ HL.out).mono ?_
  rintro e W1 ⟨rfl, k1⟩
  go_wp2_with fail
  refine (isTideCurve_any _ _ _ (HM.out.kept k1)).mono ?_
  rintro e W2 ⟨rfl, k2⟩
  go_wp2_with (first | (go_at_call 54; (with_reducible refine (inside_any _ _ _ _).mono ?_); rintro e w' ⟨rfl, rfl⟩) | (go_at_call 53; (with_reducible refine (isTime_any _ _).mono ?_); rintro e w' ⟨rfl, rfl⟩))
  refine (levelAt_any _ _ _ _ (HL.out.kept (k1.trans k2)) T1.out TT.out).mono ?_
  rintro e W3 ⟨p, q, rfl, hpq, k3⟩
  obtain ⟨rfl, rfl⟩ := hV1.out _ _ hpq
  clear hpq
  go_wp2_with fail
  refine (levelAt_any _ _ _ _ (HM.out.kept (k1.trans (k2.trans (k3.trans (Kept.alloc (Kept.refl _) _))))) T2.out TT.out).mono ?_
  rintro e W4 ⟨r, s, rfl, hrs, k4⟩
  obtain ⟨rfl, rfl⟩ := hV2.out _ _ hrs
  clear hrs
  have u0 := k4.keep (p := ⟨W3.heap.size, 0, none⟩) (v := .int .i64 p) (by simp [go_sem])
  have u1 := k4.keep (p := ⟨W3.heap.size, 1, none⟩) (v := .int .i64 q) (by simp [go_sem])
  have K4 := Lib.hid (show Kept w W4 from k1.trans (k2.trans (k3.trans ((Kept.alloc (Kept.refl _) _).trans k4))))
  clear k1 k2 k3 k4
  go_upto_region 7 with fail
  go_cut [17] (fun s17 wx => ∃ g, s17 = .pointer (some ⟨g, 0, none⟩) ∧ Kept w wx ∧ wx.cell? ⟨g, 0, none⟩ = some (.int .i64 ON) ∧ wx.cell? ⟨g, 1, none⟩ = some (.int .i64 OD))
  case first =>
    have kw4 := K4.out
    have kw5 := kw4.alloc (.cells #[.int .i64 r, .int .i64 s] 69)
    have kf1_0 : ∀ w' : World, Root (W4.alloc (.cells #[.int .i64 r, .int .i64 s] 69)) w' → w'.cell? ⟨W3.heap.size, 0, none⟩ = some (.int .i64 p) := fun w' h => h.keep (by first | assumption | exact (Kept.alloc (Kept.refl _) _).keep (by assumption) | (simp [go_sem]; done) | (simp [go_sem, *]; done))
    have kf1_1 : ∀ w' : World, Root (W4.alloc (.cells #[.int .i64 r, .int .i64 s] 69)) w' → w'.cell? ⟨W3.heap.size, 1, none⟩ = some (.int .i64 q) := fun w' h => h.keep (by first | assumption | exact (Kept.alloc (Kept.refl _) _).keep (by assumption) | (simp [go_sem]; done) | (simp [go_sem, *]; done))
    have kf1_2 : ∀ w' : World, Root (W4.alloc (.cells #[.int .i64 r, .int .i64 s] 69)) w' → w'.cell? ⟨W4.heap.size, 0, none⟩ = some (.int .i64 r) := fun w' h => h.keep (by first | assumption | exact (Kept.alloc (Kept.refl _) _).keep (by assumption) | (simp [go_sem]; done) | (simp [go_sem, *]; done))
    have kf1_3 : ∀ w' : World, Root (W4.alloc (.cells #[.int .i64 r, .int .i64 s] 69)) w' → w'.cell? ⟨W4.heap.size, 1, none⟩ = some (.int .i64 s) := fun w' h => h.keep (by first | assumption | exact (Kept.alloc (Kept.refl _) _).keep (by assumption) | (simp [go_sem]; done) | (simp [go_sem, *]; done))
    go_region_held3 (fun w' => Root (W4.alloc (.cells #[.int .i64 r, .int .i64 s] 69)) w')
      (first | assumption | exact Root.trans (by assumption) hk | exact Root.drew (Root.refl _) | (repeat (first | exact Root.refl _ | assumption | refine Root.alloc ?_ _ | refine Root.drew ?_ | refine Root.setCell ?_ (by first | (simp; done) | (simp; omega) | omega | exact Root.size (by assumption)) _ | refine Root.trans ?_ (by assumption))))
      (first | (go_at_call 63; (with_reducible refine (hA1.out _).mono ?_); rintro e w1 ⟨rfl, hk⟩; (have hkr := Root.trans (by assumption) hk); (first | (have hkf := From.step (by assumption) hk; obtain ⟨hc, hf⟩ := hkf.cells) | (have hkf := From.start hk; obtain ⟨hc, hf⟩ := hkf.cells))) | (go_at_call 63; (with_reducible refine (hA2.out _).mono ?_); rintro e w1 ⟨rfl, hk⟩; (have hkr := Root.trans (by assumption) hk); (first | (have hkf := From.step (by assumption) hk; obtain ⟨hc, hf⟩ := hkf.cells) | (have hkf := From.start hk; obtain ⟨hc, hf⟩ := hkf.cells))) | (go_at_call 64; (with_reducible refine (hA3.out _).mono ?_); rintro e w1 ⟨rfl, hk⟩; (have hkr := Root.trans (by assumption) hk); (first | (have hkf := From.step (by assumption) hk; obtain ⟨hc, hf⟩ := hkf.cells) | (have hkf := From.start hk; obtain ⟨hc, hf⟩ := hkf.cells))))
    all_goals (go_wp2_with fail; go_meet; refine ⟨_, rfl, ?_, by simp [go_sem, *], by simp [go_sem, *]⟩)
    all_goals (have hkw := kw5.trans (Root.kept hkr))
    all_goals first
      | exact hkw.alloc _
      | exact (hkw.setCell (Nat.le_succ_of_le kw4.size) _).setCell (Nat.le_succ_of_le kw4.size) _
      | exact (hkw.setCell (Nat.le_trans kw5.size (Root.size (by assumption))) _).setCell (Nat.le_trans kw5.size (Root.size (by assumption))) _
  case rest =>
    obtain ⟨g, rfl, kx, v0, v1⟩ := hcut
    clear u0 u1
    go_wp2_with fail
    go_quiet (fail)
    go_wp2
    go_ret3
    exact ⟨rfl, by (repeat (first | exact Kept.refl _ | assumption | refine Kept.alloc ?_ _ | refine Kept.drew ?_ | refine Kept.drewN ?_ _ | refine Kept.setCell ?_ (by first | (simp; done) | (simp; omega) | omega | exact Kept.size (by (repeat (first | exact Kept.refl _ | assumption | refine Kept.alloc ?_ _ | refine Kept.drew ?_ | refine Kept.drewN ?_ _ | refine Kept.trans ?_ (by assumption))))) _ | refine Kept.trans ?_ (by assumption)))⟩
end Go.Proofs.Ytlkbneklmcefcaa

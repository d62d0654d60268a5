/-
  Contracts of RangeOf, the program's and the reference's, and the law.
  Conditions: none.
-/
import Derived.Test.YtopdnhlolfehcaaGauge
import Derived.Test.YtopdnhlolfehcaaMm
namespace Go.Proofs.Ytopdnhlolfehcaa
open Go.ChangeShapes Go.WideShapes Go.ChangeAt Go.RowKit
set_option linter.unusedVariables false

/-- The lowest and the highest of the first k levels, and of the first one. -/
def loTo (xs : List (Int × Int)) : Nat → Int
  | 0 => P2 xs 0
  | k + 1 => mnI (loTo xs k) (P2 xs k)
def hiTo (xs : List (Int × Int)) : Nat → Int
  | 0 => P2 xs 0
  | k + 1 => mxI (hiTo xs k) (P2 xs k)
theorem lo_1 (xs : List (Int × Int)) : P2 xs 0 = loTo xs 1 := by simp [loTo, mnI]
theorem hi_1 (xs : List (Int × Int)) : P2 xs 0 = hiTo xs 1 := by simp [hiTo, mxI]
theorem lohi_bd {xs : List (Int × Int)} (h0 : 0 < xs.length) (h : ∀ i, i < xs.length → -500 ≤ P2 xs i ∧ P2 xs i ≤ 2000) : ∀ k, k ≤ xs.length → (-500 ≤ loTo xs k ∧ loTo xs k ≤ 2000) ∧ (-500 ≤ hiTo xs k ∧ hiTo xs k ≤ 2000)
  | 0, _ => ⟨h 0 h0, h 0 h0⟩
  | k + 1, hk => by
    have ih := lohi_bd h0 h k (by omega)
    have hh := h k (by omega)
    simp only [loTo, hiTo, mnI, mxI]
    (repeat' split) <;> omega
def rgOk (id : Int) (nm : ByteArray) (z : Int) (xs : List (Int × Int)) : Bool := gaugeB id nm z xs && decide (0 < xs.length)
def rgL (id : Int) (nm : ByteArray) (z : Int) (xs : List (Int × Int)) : Int := if rgOk id nm z xs = true then loTo xs xs.length + z else 0
def rgH (id : Int) (nm : ByteArray) (z : Int) (xs : List (Int × Int)) : Int := if rgOk id nm z xs = true then hiTo xs xs.length + z else 0
theorem rg_no {id z : Int} {nm : ByteArray} {xs : List (Int × Int)} (h : rgOk id nm z xs = false) : rgL id nm z xs = 0 ∧ rgH id nm z xs = 0 := by simp [rgL, rgH, h]
theorem rg_yes {id z : Int} {nm : ByteArray} {xs : List (Int × Int)} (h : rgOk id nm z xs = true) : rgL id nm z xs = loTo xs xs.length + z ∧ rgH id nm z xs = hiTo xs xs.length + z := by simp [rgL, rgH, h]
set_option maxHeartbeats 1000000 in
theorem rangeOf_any (id : Int) (nm : ByteArray) (z : Int) (v : Value) (xs : List (Int × Int)) (hs : nm.size ≤ maxLen) (w : World) (hL : Lies w 2 pairC v xs) : Calls Try.prog 36 #[.agg #[.int .i64 id, .string nm, .int .i64 z, v]] w fun e w' => e = .returned (.tuple #[.int .i64 (rgL id nm z xs), .int .i64 (rgH id nm z xs), .bool (rgOk id nm z xs)]) ∧ Kept w w' := by
  have HL := Lib.hid hL
  have hmx := fun (W : World) (ts : Array TypeId) (t : TypeId) (x y : Int) => run_mx (P := Try.prog) W ts t x y
  have hmn := fun (W : World) (ts : Array TypeId) (t : TypeId) (x y : Int) => run_mn (P := Try.prog) W ts t x y
  obtain ⟨A, c, rfl, hlc, hcm, hA⟩ := lies_pairs hL
  clear hL
  cases h1 : gaugeB id nm z xs
  · have H0 := Lib.hid (show rgOk id nm z xs = false by simp [rgOk, h1])
    have HN := Lib.hid (rg_no H0.out)
    clear hA
    go_enter Try.func36, Try.ntmps36
    go_wp2_with (go_at_call 21; (with_reducible refine (isGauge_any _ _ _ _ _ hs _ (by exact HL.out.kept (by (repeat (first | exact Kept.refl _ | assumption | refine Kept.alloc ?_ _ | refine Kept.drew ?_ | refine Kept.drewN ?_ _ | refine Kept.setCell ?_ (by first | (simp; done) | (simp; omega) | omega | exact Kept.size (by (repeat (first | exact Kept.refl _ | assumption | refine Kept.alloc ?_ _ | refine Kept.drew ?_ | refine Kept.drewN ?_ _ | refine Kept.trans ?_ (by assumption))))) _ | refine Kept.trans ?_ (by assumption)))))).mono ?_); rintro e w' ⟨rfl, hk⟩; (try have hkr := Root.trans (by assumption) hk); (first | (have hkf := From.step (by assumption) hk; obtain ⟨hc, hf⟩ := hkf.cells) | (have hkf := From.start hk; obtain ⟨hc, hf⟩ := hkf.cells)))
    go_ret3
    exact ⟨ret_iib HN.out.1 HN.out.2 H0.out, by (repeat (first | exact Kept.refl _ | assumption | refine Kept.alloc ?_ _ | refine Kept.drew ?_ | refine Kept.drewN ?_ _ | refine Kept.setCell ?_ (by first | (simp; done) | (simp; omega) | omega | exact Kept.size (by (repeat (first | exact Kept.refl _ | assumption | refine Kept.alloc ?_ _ | refine Kept.drew ?_ | refine Kept.drewN ?_ _ | refine Kept.trans ?_ (by assumption))))) _ | refine Kept.trans ?_ (by assumption)))⟩
  · by_cases h2 : 0 < xs.length
    · have H0 := Lib.hid (show rgOk id nm z xs = true by simp [rgOk, h1, h2])
      have HN := Lib.hid (rg_yes H0.out)
      have HB := Lib.hid (lohi_bd h2 (fun i hi => (gaugeB_at h1 hi).2.1))
      have hne : ((xs.length : Int) == 0) = false := beq_eq_false_iff_ne.2 (by omega)
      obtain ⟨-, ⟨z1, z2⟩, hn, -⟩ := gaugeB_1 h1
      obtain ⟨b, off, rfl, hc⟩ := hA h2
      have HC := Lib.hid hc
      have q1 := (hc 0 h2).2
      simp only [Nat.zero_mul, Nat.add_zero] at q1
      have hbl := World.block_lt_of_cell? w _ q1
      simp only [] at hbl
      have hbl1 : b < w.heap.size + 1 := by omega
      have hbl2 : ¬ b = w.heap.size := by omega
      have hbl3 : ¬ w.heap.size = b := by omega
      have hl0 : (0 : Int) < (xs.length : Int) := by omega
      clear hA hc
      go_enter Try.func36, Try.ntmps36
      go_wp2_with (go_at_call 21; (with_reducible refine (isGauge_any _ _ _ _ _ hs _ (by exact HL.out.kept (by (repeat (first | exact Kept.refl _ | assumption | refine Kept.alloc ?_ _ | refine Kept.drew ?_ | refine Kept.drewN ?_ _ | refine Kept.setCell ?_ (by first | (simp; done) | (simp; omega) | omega | exact Kept.size (by (repeat (first | exact Kept.refl _ | assumption | refine Kept.alloc ?_ _ | refine Kept.drew ?_ | refine Kept.drewN ?_ _ | refine Kept.trans ?_ (by assumption))))) _ | refine Kept.trans ?_ (by assumption)))))).mono ?_); rintro e w' ⟨rfl, hk⟩; (try have hkr := Root.trans (by assumption) hk); (first | (have hkf := From.step (by assumption) hk; obtain ⟨hc, hf⟩ := hkf.cells) | (have hkf := From.start hk; obtain ⟨hc, hf⟩ := hkf.cells)))
      go_quiet (fail)
      go_wp2_with fail
      have HKW := Lib.hid (show Kept (w.alloc (.cells #[.int .i64 id, .string nm, .int .i64 z, .slice (some ⟨b, off, none⟩) xs.length c] 26)) w' by (repeat (first | exact Kept.refl _ | assumption | refine Kept.alloc ?_ _ | refine Kept.drew ?_ | refine Kept.drewN ?_ _ | refine Kept.setCell ?_ (by first | (simp; done) | (simp; omega) | omega | exact Kept.size (by (repeat (first | exact Kept.refl _ | assumption | refine Kept.alloc ?_ _ | refine Kept.drew ?_ | refine Kept.drewN ?_ _ | refine Kept.trans ?_ (by assumption))))) _ | refine Kept.trans ?_ (by assumption))))
      clear hc hf hkf
      go_loopw [5, 6, 31] (fun lo hi i wr => ∃ k : Nat, k ≤ xs.length ∧ i = .int .i64 (k : Int) ∧ lo = .int .i64 (loTo xs k) ∧ hi = .int .i64 (hiTo xs k) ∧ Kept (w.alloc (.cells #[.int .i64 id, .string nm, .int .i64 z, .slice (some ⟨b, off, none⟩) xs.length c] 26)) wr) (fun _ _ i _ => xs.length - (intOf i).toNat)
      case atStart => exact ⟨0, by omega, rfl, rfl, rfl, by (repeat (first | exact Kept.refl _ | assumption | refine Kept.alloc ?_ _ | refine Kept.drew ?_ | refine Kept.drewN ?_ _ | refine Kept.setCell ?_ (by first | (simp; done) | (simp; omega) | omega | exact Kept.size (by (repeat (first | exact Kept.refl _ | assumption | refine Kept.alloc ?_ _ | refine Kept.drew ?_ | refine Kept.drewN ?_ _ | refine Kept.trans ?_ (by assumption))))) _ | refine Kept.trans ?_ (by assumption)))⟩
      case round =>
        clear q1
        obtain ⟨k, hk', rfl, rfl, rfl, hkw⟩ := hrel
        have p2 := hkw.keep (show (w.alloc (.cells #[.int .i64 id, .string nm, .int .i64 z, .slice (some ⟨b, off, none⟩) xs.length c] 26)).cell? ⟨w.heap.size, 2, none⟩ = some (.int .i64 z) by simp [go_sem])
        have p3 := hkw.keep (show (w.alloc (.cells #[.int .i64 id, .string nm, .int .i64 z, .slice (some ⟨b, off, none⟩) xs.length c] 26)).cell? ⟨w.heap.size, 3, none⟩ = some (.slice (some ⟨b, off, none⟩) xs.length c) by simp [go_sem])
        by_cases hlt : k < xs.length
        · have c0 := hkw.keep ((Kept.alloc (Kept.refl w) _).keep (HC.out k hlt).1)
          have c1 := hkw.keep ((Kept.alloc (Kept.refl w) _).keep (HC.out k hlt).2)
          have k00 : (0 : Int) ≤ (k : Int) := by omega
          have k01 : (k : Int) < (xs.length : Int) := by omega
          go_wp2_with fail
          go_quiet (fail)
          go_wp2
          go_roundw
          case rel => exact ⟨k + 1, by omega, by go_num, rfl, rfl, by (repeat (first | exact Kept.refl _ | assumption | refine Kept.alloc ?_ _ | refine Kept.drew ?_ | refine Kept.drewN ?_ _ | refine Kept.setCell ?_ (by first | (simp; done) | (simp; omega) | omega | exact Kept.size (by (repeat (first | exact Kept.refl _ | assumption | refine Kept.alloc ?_ _ | refine Kept.drew ?_ | refine Kept.drewN ?_ _ | refine Kept.trans ?_ (by assumption))))) _ | refine Kept.trans ?_ (by assumption)))⟩
          case measure => simp [intOf]; omega
        · have e : k = xs.length := by omega
          obtain ⟨⟨l1, l2⟩, l3, l4⟩ := HB.out k hk'
          have HN2 := HN.out
          rw [← e] at HN2
          have HN3 := Lib.hid HN2
          clear e HN2
          go_wp2_with fail
          have e1 : IntKind.i64.wrap (loTo xs k + z) = loTo xs k + z := IntWalk.i64_in _ (by omega)
          have e2 : IntKind.i64.wrap (hiTo xs k + z) = hiTo xs k + z := IntWalk.i64_in _ (by omega)
          go_quiet (fail)
          clear e1 e2
          go_wp2
          go_ret3
          exact ⟨ret_iib HN3.out.1 HN3.out.2 H0.out, by (repeat (first | exact Kept.refl _ | assumption | refine Kept.alloc ?_ _ | refine Kept.drew ?_ | refine Kept.drewN ?_ _ | refine Kept.setCell ?_ (by first | (simp; done) | (simp; omega) | omega | exact Kept.size (by (repeat (first | exact Kept.refl _ | assumption | refine Kept.alloc ?_ _ | refine Kept.drew ?_ | refine Kept.drewN ?_ _ | refine Kept.trans ?_ (by assumption))))) _ | refine Kept.trans ?_ (by assumption)))⟩
    · have H0 := Lib.hid (show rgOk id nm z xs = false by simp [rgOk, h2])
      have HN := Lib.hid (rg_no H0.out)
      have hne : ((xs.length : Int) == 0) = true := beq_iff_eq.2 (by omega)
      clear hA
      go_enter Try.func36, Try.ntmps36
      go_wp2_with (go_at_call 21; (with_reducible refine (isGauge_any _ _ _ _ _ hs _ (by exact HL.out.kept (by (repeat (first | exact Kept.refl _ | assumption | refine Kept.alloc ?_ _ | refine Kept.drew ?_ | refine Kept.drewN ?_ _ | refine Kept.setCell ?_ (by first | (simp; done) | (simp; omega) | omega | exact Kept.size (by (repeat (first | exact Kept.refl _ | assumption | refine Kept.alloc ?_ _ | refine Kept.drew ?_ | refine Kept.drewN ?_ _ | refine Kept.trans ?_ (by assumption))))) _ | refine Kept.trans ?_ (by assumption)))))).mono ?_); rintro e w' ⟨rfl, hk⟩; (try have hkr := Root.trans (by assumption) hk); (first | (have hkf := From.step (by assumption) hk; obtain ⟨hc, hf⟩ := hkf.cells) | (have hkf := From.start hk; obtain ⟨hc, hf⟩ := hkf.cells)))
      go_ret3
      exact ⟨ret_iib HN.out.1 HN.out.2 H0.out, by (repeat (first | exact Kept.refl _ | assumption | refine Kept.alloc ?_ _ | refine Kept.drew ?_ | refine Kept.drewN ?_ _ | refine Kept.setCell ?_ (by first | (simp; done) | (simp; omega) | omega | exact Kept.size (by (repeat (first | exact Kept.refl _ | assumption | refine Kept.alloc ?_ _ | refine Kept.drew ?_ | refine Kept.drewN ?_ _ | refine Kept.trans ?_ (by assumption))))) _ | refine Kept.trans ?_ (by assumption)))⟩
set_option maxHeartbeats 1000000 in
theorem sRangeOf_any (id : Int) (nm : ByteArray) (z : Int) (v : Value) (xs : List (Int × Int)) (hs : nm.size ≤ maxLen) (w : World) (hL : Lies w 2 pairC v xs) : Calls Try.prog 35 #[.agg #[.int .i64 id, .string nm, .int .i64 z, v]] w fun e w' => e = .returned (.tuple #[.int .i64 (rgL id nm z xs), .int .i64 (rgH id nm z xs), .bool (rgOk id nm z xs)]) ∧ Kept w w' := by
  have HL := Lib.hid hL
  have hmx := fun (W : World) (ts : Array TypeId) (t : TypeId) (x y : Int) => run_mx (P := Try.prog) W ts t x y
  have hmn := fun (W : World) (ts : Array TypeId) (t : TypeId) (x y : Int) => run_mn (P := Try.prog) W ts t x y
  obtain ⟨A, c, rfl, hlc, hcm, hA⟩ := lies_pairs hL
  clear hL
  cases h1 : gaugeB id nm z xs
  · have H0 := Lib.hid (show rgOk id nm z xs = false by simp [rgOk, h1])
    have HN := Lib.hid (rg_no H0.out)
    clear hA
    go_enter Try.func35, Try.ntmps35
    go_wp2_with (go_at_call 72; (with_reducible refine (l3One_any _ _ _ _ _ hs _ (by exact HL.out.kept (by (repeat (first | exact Kept.refl _ | assumption | refine Kept.alloc ?_ _ | refine Kept.drew ?_ | refine Kept.drewN ?_ _ | refine Kept.setCell ?_ (by first | (simp; done) | (simp; omega) | omega | exact Kept.size (by (repeat (first | exact Kept.refl _ | assumption | refine Kept.alloc ?_ _ | refine Kept.drew ?_ | refine Kept.drewN ?_ _ | refine Kept.trans ?_ (by assumption))))) _ | refine Kept.trans ?_ (by assumption)))))).mono ?_); rintro e w' ⟨rfl, hk⟩; (try have hkr := Root.trans (by assumption) hk); (first | (have hkf := From.step (by assumption) hk; obtain ⟨hc, hf⟩ := hkf.cells) | (have hkf := From.start hk; obtain ⟨hc, hf⟩ := hkf.cells)))
    go_ret3
    exact ⟨ret_iib HN.out.1 HN.out.2 H0.out, by (repeat (first | exact Kept.refl _ | assumption | refine Kept.alloc ?_ _ | refine Kept.drew ?_ | refine Kept.drewN ?_ _ | refine Kept.setCell ?_ (by first | (simp; done) | (simp; omega) | omega | exact Kept.size (by (repeat (first | exact Kept.refl _ | assumption | refine Kept.alloc ?_ _ | refine Kept.drew ?_ | refine Kept.drewN ?_ _ | refine Kept.trans ?_ (by assumption))))) _ | refine Kept.trans ?_ (by assumption)))⟩
  · by_cases h2 : 0 < xs.length
    · have H0 := Lib.hid (show rgOk id nm z xs = true by simp [rgOk, h1, h2])
      have HN := Lib.hid (rg_yes H0.out)
      have HB := Lib.hid (lohi_bd h2 (fun i hi => (gaugeB_at h1 hi).2.1))
      have hne : ((xs.length : Int) == 0) = false := beq_eq_false_iff_ne.2 (by omega)
      obtain ⟨-, ⟨z1, z2⟩, hn, -⟩ := gaugeB_1 h1
      obtain ⟨b, off, rfl, hc⟩ := hA h2
      have HC := Lib.hid hc
      have q1 := (hc 0 h2).2
      simp only [Nat.zero_mul, Nat.add_zero] at q1
      have hbl := World.block_lt_of_cell? w _ q1
      simp only [] at hbl
      have hbl1 : b < w.heap.size + 1 := by omega
      have hbl2 : ¬ b = w.heap.size := by omega
      have hbl3 : ¬ w.heap.size = b := by omega
      have hl0 : (0 : Int) < (xs.length : Int) := by omega
      clear hA hc
      go_enter Try.func35, Try.ntmps35
      go_wp2_with (go_at_call 72; (with_reducible refine (l3One_any _ _ _ _ _ hs _ (by exact HL.out.kept (by (repeat (first | exact Kept.refl _ | assumption | refine Kept.alloc ?_ _ | refine Kept.drew ?_ | refine Kept.drewN ?_ _ | refine Kept.setCell ?_ (by first | (simp; done) | (simp; omega) | omega | exact Kept.size (by (repeat (first | exact Kept.refl _ | assumption | refine Kept.alloc ?_ _ | refine Kept.drew ?_ | refine Kept.drewN ?_ _ | refine Kept.trans ?_ (by assumption))))) _ | refine Kept.trans ?_ (by assumption)))))).mono ?_); rintro e w' ⟨rfl, hk⟩; (try have hkr := Root.trans (by assumption) hk); (first | (have hkf := From.step (by assumption) hk; obtain ⟨hc, hf⟩ := hkf.cells) | (have hkf := From.start hk; obtain ⟨hc, hf⟩ := hkf.cells)))
      go_quiet (fail)
      go_wp2_with fail
      have HKW := Lib.hid (show Kept (w.alloc (.cells #[.int .i64 id, .string nm, .int .i64 z, .slice (some ⟨b, off, none⟩) xs.length c] 26)) w' by (repeat (first | exact Kept.refl _ | assumption | refine Kept.alloc ?_ _ | refine Kept.drew ?_ | refine Kept.drewN ?_ _ | refine Kept.setCell ?_ (by first | (simp; done) | (simp; omega) | omega | exact Kept.size (by (repeat (first | exact Kept.refl _ | assumption | refine Kept.alloc ?_ _ | refine Kept.drew ?_ | refine Kept.drewN ?_ _ | refine Kept.trans ?_ (by assumption))))) _ | refine Kept.trans ?_ (by assumption))))
      clear hc hf hkf
      go_loopw [5, 6, 7] (fun lo hi i wr => ∃ k : Nat, k ≤ xs.length ∧ i = .int .i64 (k : Int) ∧ lo = .int .i64 (loTo xs k) ∧ hi = .int .i64 (hiTo xs k) ∧ Kept (w.alloc (.cells #[.int .i64 id, .string nm, .int .i64 z, .slice (some ⟨b, off, none⟩) xs.length c] 26)) wr) (fun _ _ i _ => xs.length - (intOf i).toNat)
      case atStart => exact ⟨1, by omega, rfl, by rw [lo_1], by rw [hi_1], by (repeat (first | exact Kept.refl _ | assumption | refine Kept.alloc ?_ _ | refine Kept.drew ?_ | refine Kept.drewN ?_ _ | refine Kept.setCell ?_ (by first | (simp; done) | (simp; omega) | omega | exact Kept.size (by (repeat (first | exact Kept.refl _ | assumption | refine Kept.alloc ?_ _ | refine Kept.drew ?_ | refine Kept.drewN ?_ _ | refine Kept.trans ?_ (by assumption))))) _ | refine Kept.trans ?_ (by assumption)))⟩
      case round =>
        clear q1
        obtain ⟨k, hk', rfl, rfl, rfl, hkw⟩ := hrel
        have p2 := hkw.keep (show (w.alloc (.cells #[.int .i64 id, .string nm, .int .i64 z, .slice (some ⟨b, off, none⟩) xs.length c] 26)).cell? ⟨w.heap.size, 2, none⟩ = some (.int .i64 z) by simp [go_sem])
        have p3 := hkw.keep (show (w.alloc (.cells #[.int .i64 id, .string nm, .int .i64 z, .slice (some ⟨b, off, none⟩) xs.length c] 26)).cell? ⟨w.heap.size, 3, none⟩ = some (.slice (some ⟨b, off, none⟩) xs.length c) by simp [go_sem])
        by_cases hlt : k < xs.length
        · have c0 := hkw.keep ((Kept.alloc (Kept.refl w) _).keep (HC.out k hlt).1)
          have c1 := hkw.keep ((Kept.alloc (Kept.refl w) _).keep (HC.out k hlt).2)
          have k00 : (0 : Int) ≤ (k : Int) := by omega
          have k01 : (k : Int) < (xs.length : Int) := by omega
          go_wp2_with (first | (go_at_call 82; (with_reducible refine (l1Least_any _ _ _).mono ?_); rintro e w' ⟨rfl, rfl⟩) | (go_at_call 83; (with_reducible refine (l1Most_any _ _ _).mono ?_); rintro e w' ⟨rfl, rfl⟩))
          go_roundw
          case rel => exact ⟨k + 1, by omega, by go_num, rfl, rfl, by (repeat (first | exact Kept.refl _ | assumption | refine Kept.alloc ?_ _ | refine Kept.drew ?_ | refine Kept.drewN ?_ _ | refine Kept.setCell ?_ (by first | (simp; done) | (simp; omega) | omega | exact Kept.size (by (repeat (first | exact Kept.refl _ | assumption | refine Kept.alloc ?_ _ | refine Kept.drew ?_ | refine Kept.drewN ?_ _ | refine Kept.trans ?_ (by assumption))))) _ | refine Kept.trans ?_ (by assumption)))⟩
          case measure => simp [intOf]; omega
        · have e : k = xs.length := by omega
          obtain ⟨⟨l1, l2⟩, l3, l4⟩ := HB.out k hk'
          have HN2 := HN.out
          rw [← e] at HN2
          have HN3 := Lib.hid HN2
          clear e HN2
          go_wp2_with fail
          have e1 : IntKind.i64.wrap (loTo xs k + z) = loTo xs k + z := IntWalk.i64_in _ (by omega)
          have e2 : IntKind.i64.wrap (hiTo xs k + z) = hiTo xs k + z := IntWalk.i64_in _ (by omega)
          go_quiet (fail)
          clear e1 e2
          go_wp2
          go_ret3
          exact ⟨ret_iib HN3.out.1 HN3.out.2 H0.out, by (repeat (first | exact Kept.refl _ | assumption | refine Kept.alloc ?_ _ | refine Kept.drew ?_ | refine Kept.drewN ?_ _ | refine Kept.setCell ?_ (by first | (simp; done) | (simp; omega) | omega | exact Kept.size (by (repeat (first | exact Kept.refl _ | assumption | refine Kept.alloc ?_ _ | refine Kept.drew ?_ | refine Kept.drewN ?_ _ | refine Kept.trans ?_ (by assumption))))) _ | refine Kept.trans ?_ (by assumption)))⟩
    · have H0 := Lib.hid (show rgOk id nm z xs = false by simp [rgOk, h2])
      have HN := Lib.hid (rg_no H0.out)
      have hne : ((xs.length : Int) == 0) = true := beq_iff_eq.2 (by omega)
      clear hA
      go_enter Try.func35, Try.ntmps35
      go_wp2_with (go_at_call 72; (with_reducible refine (l3One_any _ _ _ _ _ hs _ (by exact HL.out.kept (by (repeat (first | exact Kept.refl _ | assumption | refine Kept.alloc ?_ _ | refine Kept.drew ?_ | refine Kept.drewN ?_ _ | refine Kept.setCell ?_ (by first | (simp; done) | (simp; omega) | omega | exact Kept.size (by (repeat (first | exact Kept.refl _ | assumption | refine Kept.alloc ?_ _ | refine Kept.drew ?_ | refine Kept.drewN ?_ _ | refine Kept.trans ?_ (by assumption))))) _ | refine Kept.trans ?_ (by assumption)))))).mono ?_); rintro e w' ⟨rfl, hk⟩; (try have hkr := Root.trans (by assumption) hk); (first | (have hkf := From.step (by assumption) hk; obtain ⟨hc, hf⟩ := hkf.cells) | (have hkf := From.start hk; obtain ⟨hc, hf⟩ := hkf.cells)))
      go_ret3
      exact ⟨ret_iib HN.out.1 HN.out.2 H0.out, by (repeat (first | exact Kept.refl _ | assumption | refine Kept.alloc ?_ _ | refine Kept.drew ?_ | refine Kept.drewN ?_ _ | refine Kept.setCell ?_ (by first | (simp; done) | (simp; omega) | omega | exact Kept.size (by (repeat (first | exact Kept.refl _ | assumption | refine Kept.alloc ?_ _ | refine Kept.drew ?_ | refine Kept.drewN ?_ _ | refine Kept.trans ?_ (by assumption))))) _ | refine Kept.trans ?_ (by assumption)))⟩
set_option maxHeartbeats 1000000 in
theorem lawRangeOf (id : Int) (nm : ByteArray) (z : Int) (v : Value) (xs : List (Int × Int)) (hs : nm.size ≤ maxLen) (w : World) (hL : Lies w 2 pairC v xs) : Calls Try.prog 6 #[.agg #[.int .i64 id, .string nm, .int .i64 z, v]] w fun e w' => e = .returned (.bool true) ∧ Kept w w' := by
  have HL := Lib.hid hL
  have hs' := hs
  unfold maxLen at hs
  obtain ⟨A, c, rfl, hlc, hcm, hA⟩ := hL
  clear hA
  go_enter Try.func6, Try.ntmps6
  go_wp2_with fail
  refine (szGauge_left _ _ _ _ _ hs' _ (by omega) (by omega) _ (by exact HL.out.kept (by (repeat (first | exact Kept.refl _ | assumption | refine Kept.alloc ?_ _ | refine Kept.drew ?_ | refine Kept.drewN ?_ _ | refine Kept.setCell ?_ (by first | (simp; done) | (simp; omega) | omega | exact Kept.size (by (repeat (first | exact Kept.refl _ | assumption | refine Kept.alloc ?_ _ | refine Kept.drew ?_ | refine Kept.drewN ?_ _ | refine Kept.trans ?_ (by assumption))))) _ | refine Kept.trans ?_ (by assumption)))))).mono ?_
  rintro e W0 ⟨r, rfl, ⟨r0, r1, hr⟩, k0⟩
  by_cases hneg : r < 0
  · go_wp2_with fail
    go_ret
    exact ⟨rfl, by (repeat (first | exact Kept.refl _ | assumption | refine Kept.alloc ?_ _ | refine Kept.drew ?_ | refine Kept.drewN ?_ _ | refine Kept.setCell ?_ (by first | (simp; done) | (simp; omega) | omega | exact Kept.size (by (repeat (first | exact Kept.refl _ | assumption | refine Kept.alloc ?_ _ | refine Kept.drew ?_ | refine Kept.drewN ?_ _ | refine Kept.trans ?_ (by assumption))))) _ | refine Kept.trans ?_ (by assumption)))⟩
  · have hn := hr (by omega)
    clear hr
    have p0 := k0.keep (show (w.alloc (.cells #[.int .i64 id, .string nm, .int .i64 z, .slice A xs.length c] 47)).cell? ⟨w.heap.size, 0, none⟩ = some (.int .i64 id) by simp [go_sem])
    have p1 := k0.keep (show (w.alloc (.cells #[.int .i64 id, .string nm, .int .i64 z, .slice A xs.length c] 47)).cell? ⟨w.heap.size, 1, none⟩ = some (.string nm) by simp [go_sem])
    have p2 := k0.keep (show (w.alloc (.cells #[.int .i64 id, .string nm, .int .i64 z, .slice A xs.length c] 47)).cell? ⟨w.heap.size, 2, none⟩ = some (.int .i64 z) by simp [go_sem])
    have p3 := k0.keep (show (w.alloc (.cells #[.int .i64 id, .string nm, .int .i64 z, .slice A xs.length c] 47)).cell? ⟨w.heap.size, 3, none⟩ = some (.slice A xs.length c) by simp [go_sem])
    have K0 := Lib.hid (show Kept w W0 by (repeat (first | exact Kept.refl _ | assumption | refine Kept.alloc ?_ _ | refine Kept.drew ?_ | refine Kept.drewN ?_ _ | refine Kept.setCell ?_ (by first | (simp; done) | (simp; omega) | omega | exact Kept.size (by (repeat (first | exact Kept.refl _ | assumption | refine Kept.alloc ?_ _ | refine Kept.drew ?_ | refine Kept.drewN ?_ _ | refine Kept.trans ?_ (by assumption))))) _ | refine Kept.trans ?_ (by assumption))))
    clear k0
    go_wp2_with fail
    refine (toGauge_any _ _ _ _ _ _ (HL.out.kept K0.out) hn).mono ?_
    rintro e W1 ⟨u1, rfl, hu1, k1⟩
    have q0 := k1.keep p0
    have q1 := k1.keep p1
    have q2 := k1.keep p2
    have q3 := k1.keep p3
    have l1 := pairs_own hu1
    clear hu1
    go_wp2_with fail
    refine (sRangeOf_any _ _ _ _ _ hs' _ l1).mono ?_
    rintro e W2 ⟨rfl, k2⟩
    have r0 := k2.keep q0
    have r1 := k2.keep q1
    have r2 := k2.keep q2
    have r3 := k2.keep q3
    clear l1 q0 q1 q2 q3
    go_wp2_with fail
    refine (toGauge_any _ _ _ _ _ _ (HL.out.kept (K0.out.trans (k1.trans k2))) hn).mono ?_
    rintro e W3 ⟨u3, rfl, hu3, k3⟩
    have l3 := pairs_own hu3
    obtain ⟨A3, c3, rfl, -, -, -⟩ := own_form hu3
    have L3 := Lib.hid l3
    have s0 := k3.keep r0
    have s1 := k3.keep r1
    have s2 := k3.keep r2
    have s3 := k3.keep r3
    clear l3 hu3 r0 r1 r2 r3
    go_wp2_with fail
    refine (rangeOf_any _ _ _ _ _ hs' _ (L3.out.kept (by (repeat (first | exact Kept.refl _ | assumption | refine Kept.alloc ?_ _ | refine Kept.drew ?_ | refine Kept.drewN ?_ _ | refine Kept.setCell ?_ (by first | (simp; done) | (simp; omega) | omega | exact Kept.size (by (repeat (first | exact Kept.refl _ | assumption | refine Kept.alloc ?_ _ | refine Kept.drew ?_ | refine Kept.drewN ?_ _ | refine Kept.trans ?_ (by assumption))))) _ | refine Kept.trans ?_ (by assumption)))))).mono ?_
    rintro e W4 ⟨rfl, k4⟩
    have hx0 := k4.keep (show (W3.alloc (.cells #[.int .i64 id, .string nm, .int .i64 z, .slice A3 xs.length c3] 26)).cell? ⟨W3.heap.size, 0, none⟩ = some (.int .i64 id) by simp [go_sem])
    have hx1 := k4.keep (show (W3.alloc (.cells #[.int .i64 id, .string nm, .int .i64 z, .slice A3 xs.length c3] 26)).cell? ⟨W3.heap.size, 1, none⟩ = some (.string nm) by simp [go_sem])
    have hx2 := k4.keep (show (W3.alloc (.cells #[.int .i64 id, .string nm, .int .i64 z, .slice A3 xs.length c3] 26)).cell? ⟨W3.heap.size, 2, none⟩ = some (.int .i64 z) by simp [go_sem])
    have hx3 := k4.keep (show (W3.alloc (.cells #[.int .i64 id, .string nm, .int .i64 z, .slice A3 xs.length c3] 26)).cell? ⟨W3.heap.size, 3, none⟩ = some (.slice A3 xs.length c3) by simp [go_sem])
    have t0 := k4.keep ((Kept.alloc (Kept.refl W3) (.cells #[.int .i64 id, .string nm, .int .i64 z, .slice A3 xs.length c3] 26)).keep s0)
    have t1 := k4.keep ((Kept.alloc (Kept.refl W3) (.cells #[.int .i64 id, .string nm, .int .i64 z, .slice A3 xs.length c3] 26)).keep s1)
    have t2 := k4.keep ((Kept.alloc (Kept.refl W3) (.cells #[.int .i64 id, .string nm, .int .i64 z, .slice A3 xs.length c3] 26)).keep s2)
    have t3 := k4.keep ((Kept.alloc (Kept.refl W3) (.cells #[.int .i64 id, .string nm, .int .i64 z, .slice A3 xs.length c3] 26)).keep s3)
    have K4 := Lib.hid (show Kept w W4 from K0.out.trans (k1.trans (k2.trans (k3.trans ((Kept.alloc (Kept.refl _) _).trans k4)))))
    have K34 := Lib.hid (show Kept W3 W4 from (Kept.alloc (Kept.refl _) _).trans k4)
    clear s0 s1 s2 s3 p0 p1 p2 p3 k1 k2 k3 k4
    go_wp2_with fail
    have k04 := K4.out
    have k34 := K34.out
    have kf1_0 : ∀ w' : World, Root (W4) w' → w'.cell? ⟨W3.heap.size, 0, none⟩ = some (.int .i64 id) := fun w' h => h.keep (by first | assumption | exact (Kept.alloc (Kept.refl _) _).keep (by assumption) | (simp [go_sem]; done) | (simp [go_sem, *]; done))
    have kf1_1 : ∀ w' : World, Root (W4) w' → w'.cell? ⟨W3.heap.size, 1, none⟩ = some (.string nm) := fun w' h => h.keep (by first | assumption | exact (Kept.alloc (Kept.refl _) _).keep (by assumption) | (simp [go_sem]; done) | (simp [go_sem, *]; done))
    have kf1_2 : ∀ w' : World, Root (W4) w' → w'.cell? ⟨W3.heap.size, 2, none⟩ = some (.int .i64 z) := fun w' h => h.keep (by first | assumption | exact (Kept.alloc (Kept.refl _) _).keep (by assumption) | (simp [go_sem]; done) | (simp [go_sem, *]; done))
    have kf1_3 : ∀ w' : World, Root (W4) w' → w'.cell? ⟨W3.heap.size, 3, none⟩ = some (.slice A3 xs.length c3) := fun w' h => h.keep (by first | assumption | exact (Kept.alloc (Kept.refl _) _).keep (by assumption) | (simp [go_sem]; done) | (simp [go_sem, *]; done))
    have kf1_4 : ∀ w' : World, Root (W4) w' → w'.cell? ⟨w.heap.size, 0, none⟩ = some (.int .i64 id) := fun w' h => h.keep (by first | assumption | exact (Kept.alloc (Kept.refl _) _).keep (by assumption) | (simp [go_sem]; done) | (simp [go_sem, *]; done))
    have kf1_5 : ∀ w' : World, Root (W4) w' → w'.cell? ⟨w.heap.size, 1, none⟩ = some (.string nm) := fun w' h => h.keep (by first | assumption | exact (Kept.alloc (Kept.refl _) _).keep (by assumption) | (simp [go_sem]; done) | (simp [go_sem, *]; done))
    have kf1_6 : ∀ w' : World, Root (W4) w' → w'.cell? ⟨w.heap.size, 2, none⟩ = some (.int .i64 z) := fun w' h => h.keep (by first | assumption | exact (Kept.alloc (Kept.refl _) _).keep (by assumption) | (simp [go_sem]; done) | (simp [go_sem, *]; done))
    have kf1_7 : ∀ w' : World, Root (W4) w' → w'.cell? ⟨w.heap.size, 3, none⟩ = some (.slice A xs.length c) := fun w' h => h.keep (by first | assumption | exact (Kept.alloc (Kept.refl _) _).keep (by assumption) | (simp [go_sem]; done) | (simp [go_sem, *]; done))
    go_region_held3 (fun w' => Root (W4) w')
      (first | assumption | exact Root.trans (by assumption) hk | exact Root.drew (Root.refl _) | (repeat (first | exact Root.refl _ | assumption | refine Root.alloc ?_ _ | refine Root.drew ?_ | refine Root.setCell ?_ (by first | (simp; done) | (simp; omega) | omega | exact Root.size (by assumption)) _ | refine Root.trans ?_ (by assumption))))
      (first | (go_at_call 33; refine (toGauge_any _ _ _ _ _ _ (by exact HL.out.kept (by (repeat (first | exact Kept.refl _ | assumption | refine Kept.alloc ?_ _ | refine Kept.drew ?_ | refine Kept.drewN ?_ _ | refine Kept.setCell ?_ (by first | (simp; done) | (simp; omega) | omega | exact Kept.size (by (repeat (first | exact Kept.refl _ | assumption | refine Kept.alloc ?_ _ | refine Kept.drew ?_ | refine Kept.drewN ?_ _ | refine Kept.trans ?_ (by assumption))))) _ | refine Kept.trans ?_ (by assumption))))) hn).mono ?_; rintro e w1 ⟨u1, rfl, hu1, hk⟩; (have hkr := Root.trans (by assumption) hk); have hl1 := pairs_own hu1; clear hu1) | (go_at_call 34; refine (eqGauge_any _ _ _ _ _ _ _ (by exact L3.out.kept (by (repeat (first | exact Kept.refl _ | assumption | refine Kept.alloc ?_ _ | refine Kept.drew ?_ | refine Kept.drewN ?_ _ | refine Kept.setCell ?_ (by first | (simp; done) | (simp; omega) | omega | exact Kept.size (by (repeat (first | exact Kept.refl _ | assumption | refine Kept.alloc ?_ _ | refine Kept.drew ?_ | refine Kept.drewN ?_ _ | refine Kept.trans ?_ (by assumption))))) _ | refine Kept.trans ?_ (by assumption))))) (by first | assumption | exact Lies.kept (by assumption) (by (repeat (first | exact Kept.refl _ | assumption | refine Kept.alloc ?_ _ | refine Kept.drew ?_ | refine Kept.drewN ?_ _ | refine Kept.setCell ?_ (by first | (simp; done) | (simp; omega) | omega | exact Kept.size (by (repeat (first | exact Kept.refl _ | assumption | refine Kept.alloc ?_ _ | refine Kept.drew ?_ | refine Kept.drewN ?_ _ | refine Kept.trans ?_ (by assumption))))) _ | refine Kept.trans ?_ (by assumption)))))).mono ?_; rintro e w1 ⟨rfl, hk⟩; (have hkr := Root.trans (by assumption) hk); (first | (have hkf := From.step (by assumption) hk; obtain ⟨hc, hf⟩ := hkf.cells) | (have hkf := From.start hk; obtain ⟨hc, hf⟩ := hkf.cells))))
    go_wp2_with fail
    go_ret
    exact ⟨rfl, by (repeat (first | exact Kept.refl _ | assumption | refine Kept.alloc ?_ _ | refine Kept.drew ?_ | refine Kept.drewN ?_ _ | refine Kept.setCell ?_ (by first | (simp; done) | (simp; omega) | omega | exact Kept.size (by (repeat (first | exact Kept.refl _ | assumption | refine Kept.alloc ?_ _ | refine Kept.drew ?_ | refine Kept.drewN ?_ _ | refine Kept.trans ?_ (by assumption))))) _ | refine Kept.trans ?_ (by assumption)))⟩
end Go.Proofs.Ytopdnhlolfehcaa

/-
  Contracts of BoxOf, the program's and the reference's, and the law.
  Conditions: none.
-/
import Derived.Test.YtnkofjfcioaaaaaBoxes
import Derived.Test.YtnkofjfcioaaaaaSpots2
import Derived.BigRegion
namespace Go.Proofs.Ytnkofjfcioaaaaa
open Go.ChangeShapes Go.WideShapes Go.ChangeAt Go.RowKit
set_option linter.unusedVariables false

/-- The box of the first k points, and of the first point. -/
def bxA (xs : List (Int × Int)) : Nat → Int
  | 0 => P1 xs 0
  | k + 1 => mnI (bxA xs k) (P1 xs k)
def bxB (xs : List (Int × Int)) : Nat → Int
  | 0 => P2 xs 0
  | k + 1 => mnI (bxB xs k) (P2 xs k)
def bxC (xs : List (Int × Int)) : Nat → Int
  | 0 => P1 xs 0
  | k + 1 => mxI (bxC xs k) (P1 xs k)
def bxD (xs : List (Int × Int)) : Nat → Int
  | 0 => P2 xs 0
  | k + 1 => mxI (bxD xs k) (P2 xs k)
/-- Four numbers are the box of the first k points. -/
def BoxIs (xs : List (Int × Int)) (k : Nat) (a b c d : Int) : Prop := a = bxA xs k ∧ b = bxB xs k ∧ c = bxC xs k ∧ d = bxD xs k
theorem boxIs_0 (xs : List (Int × Int)) : BoxIs xs 0 (P1 xs 0) (P2 xs 0) (P1 xs 0) (P2 xs 0) := ⟨rfl, rfl, rfl, rfl⟩
theorem boxIs_1 (xs : List (Int × Int)) : BoxIs xs 1 (P1 xs 0) (P2 xs 0) (P1 xs 0) (P2 xs 0) := by simp [BoxIs, bxA, bxB, bxC, bxD, mnI, mxI]
theorem boxIs_step {xs : List (Int × Int)} {k : Nat} {a b c d : Int} (h : BoxIs xs k a b c d) : BoxIs xs (k + 1) (mnI a (P1 xs k)) (mnI b (P2 xs k)) (mxI c (P1 xs k)) (mxI d (P2 xs k)) := by
  obtain ⟨rfl, rfl, rfl, rfl⟩ := h
  exact ⟨rfl, rfl, rfl, rfl⟩
def boOk (xs : List (Int × Int)) : Bool := spotsB xs && decide (0 < xs.length)
/-- What BoxOf returns. -/
def boV (xs : List (Int × Int)) : Value := .tuple #[.agg #[.int .i64 (onB (boOk xs) (bxA xs xs.length)), .int .i64 (onB (boOk xs) (bxB xs xs.length)), .int .i64 (onB (boOk xs) (bxC xs xs.length)), .int .i64 (onB (boOk xs) (bxD xs xs.length))], .bool (boOk xs)]
theorem bo_no {xs : List (Int × Int)} (h : boOk xs = false) : Ending.returned (.tuple #[.agg #[.int .i64 0, .int .i64 0, .int .i64 0, .int .i64 0], .bool false]) = .returned (boV xs) := by simp [boV, h, onB]
theorem bo_yes {xs : List (Int × Int)} {a b c d : Int} (h : boOk xs = true) (hb : BoxIs xs xs.length a b c d) : Ending.returned (.tuple #[.agg #[.int .i64 a, .int .i64 b, .int .i64 c, .int .i64 d], .bool true]) = .returned (boV xs) := by
  obtain ⟨rfl, rfl, rfl, rfl⟩ := hb
  simp [boV, h, onB]
/-- Four numbers in block g, which may be written. -/
structure Cell4 (w : World) (g : Nat) (a b c d : Int) : Prop where
  c0 : w.cell? ⟨g, 0, none⟩ = some (.int .i64 a)
  c1 : w.cell? ⟨g, 1, none⟩ = some (.int .i64 b)
  c2 : w.cell? ⟨g, 2, none⟩ = some (.int .i64 c)
  c3 : w.cell? ⟨g, 3, none⟩ = some (.int .i64 d)
  f0 : w.frozen? ⟨g, 0, none⟩ = false
  f1 : w.frozen? ⟨g, 1, none⟩ = false
  f2 : w.frozen? ⟨g, 2, none⟩ = false
  f3 : w.frozen? ⟨g, 3, none⟩ = false
theorem Cell4.kept {w w' : World} {g : Nat} {a b c d : Int} (h : Cell4 w g a b c d) (k : Kept w w') : Cell4 w' g a b c d :=
  ⟨k.keep h.c0, k.keep h.c1, k.keep h.c2, k.keep h.c3, k.free h.c0 h.f0, k.free h.c1 h.f1, k.free h.c2 h.f2, k.free h.c3 h.f3⟩
theorem Cell4.new (w : World) (a b c d : Int) (t : TypeId) : Cell4 (w.alloc (.cells #[.int .i64 a, .int .i64 b, .int .i64 c, .int .i64 d] t)) w.heap.size a b c d := by
  constructor <;> simp [go_sem]
set_option maxHeartbeats 2000000 in
theorem boxOf_no (v : Value) (xs : List (Int × Int)) (w : World) (hL : Lies w 2 pairC v xs) (h0 : boOk xs = false) : Calls Try.prog 29 #[v] w fun e w' => e = .returned (boV xs) ∧ Kept w w' := by
  have HL := Lib.hid hL
  obtain ⟨A, c, rfl, hlc, hcm, hA⟩ := hL
  clear hA
  have HX := Lib.hid (bo_no h0)
  cases h1 : spotsB xs
  · clear h0
    go_enter Try.func29, Try.ntmps29
    go_wp2_with (go_at_call 24; (with_reducible refine (areSpots_any _ _ _ (by exact HL.out.kept (by (repeat (first | exact Kept.refl _ | assumption | refine Kept.alloc ?_ _ | refine Kept.drew ?_ | refine Kept.drewN ?_ _ | refine Kept.setCell ?_ (by first | (simp; done) | (simp; omega) | omega | exact Kept.size (by (repeat (first | exact Kept.refl _ | assumption | refine Kept.alloc ?_ _ | refine Kept.drew ?_ | refine Kept.drewN ?_ _ | refine Kept.trans ?_ (by assumption))))) _ | refine Kept.trans ?_ (by assumption)))))).mono ?_); rintro e w' ⟨rfl, hk⟩; (try have hkr := Root.trans (by assumption) hk); (first | (have hkf := From.step (by assumption) hk; obtain ⟨hc, hf⟩ := hkf.cells) | (have hkf := From.start hk; obtain ⟨hc, hf⟩ := hkf.cells)); have z0 : w.heap.size < w'.heap.size := hk.sz (by first | assumption | (simp; done) | (simp; omega)); have y0 : w.heap.size ≤ w'.heap.size := Nat.le_of_lt z0)
    exact bodyPost_ret (v := .tuple #[.agg #[.int .i64 0, .int .i64 0, .int .i64 0, .int .i64 0], .bool false]) (by simp [results, Try.results29, go_sem, *]) rfl ⟨HX.out, by (repeat (first | exact Kept.refl _ | assumption | refine Kept.alloc ?_ _ | refine Kept.drew ?_ | refine Kept.drewN ?_ _ | refine Kept.setCell ?_ (by first | (simp; done) | (simp; omega) | omega | exact Kept.size (by (repeat (first | exact Kept.refl _ | assumption | refine Kept.alloc ?_ _ | refine Kept.drew ?_ | refine Kept.drewN ?_ _ | refine Kept.trans ?_ (by assumption))))) _ | refine Kept.trans ?_ (by assumption)))⟩
  · have hne : ((xs.length : Int) == 0) = true := by
      simp only [boOk, h1, Bool.true_and, decide_eq_false_iff_not] at h0
      exact beq_iff_eq.2 (by omega)
    clear h0
    go_enter Try.func29, Try.ntmps29
    go_wp2_with (go_at_call 24; (with_reducible refine (areSpots_any _ _ _ (by exact HL.out.kept (by (repeat (first | exact Kept.refl _ | assumption | refine Kept.alloc ?_ _ | refine Kept.drew ?_ | refine Kept.drewN ?_ _ | refine Kept.setCell ?_ (by first | (simp; done) | (simp; omega) | omega | exact Kept.size (by (repeat (first | exact Kept.refl _ | assumption | refine Kept.alloc ?_ _ | refine Kept.drew ?_ | refine Kept.drewN ?_ _ | refine Kept.trans ?_ (by assumption))))) _ | refine Kept.trans ?_ (by assumption)))))).mono ?_); rintro e w' ⟨rfl, hk⟩; (try have hkr := Root.trans (by assumption) hk); (first | (have hkf := From.step (by assumption) hk; obtain ⟨hc, hf⟩ := hkf.cells) | (have hkf := From.start hk; obtain ⟨hc, hf⟩ := hkf.cells)); have z0 : w.heap.size < w'.heap.size := hk.sz (by first | assumption | (simp; done) | (simp; omega)); have y0 : w.heap.size ≤ w'.heap.size := Nat.le_of_lt z0)
    exact bodyPost_ret (v := .tuple #[.agg #[.int .i64 0, .int .i64 0, .int .i64 0, .int .i64 0], .bool false]) (by simp [results, Try.results29, go_sem, *]) rfl ⟨HX.out, by (repeat (first | exact Kept.refl _ | assumption | refine Kept.alloc ?_ _ | refine Kept.drew ?_ | refine Kept.drewN ?_ _ | refine Kept.setCell ?_ (by first | (simp; done) | (simp; omega) | omega | exact Kept.size (by (repeat (first | exact Kept.refl _ | assumption | refine Kept.alloc ?_ _ | refine Kept.drew ?_ | refine Kept.drewN ?_ _ | refine Kept.trans ?_ (by assumption))))) _ | refine Kept.trans ?_ (by assumption)))⟩
set_option maxHeartbeats 4000000 in
theorem boxOf_yes (v : Value) (xs : List (Int × Int)) (w : World) (hL : Lies w 2 pairC v xs) (h0 : boOk xs = true) : Calls Try.prog 29 #[v] w fun e w' => e = .returned (boV xs) ∧ Kept w w' := by
  have hmx := fun (W : World) (ts : Array TypeId) (t : TypeId) (x y : Int) => run_mx (P := Try.prog) W ts t x y
  have hmn := fun (W : World) (ts : Array TypeId) (t : TypeId) (x y : Int) => run_mn (P := Try.prog) W ts t x y
  have HL := Lib.hid hL
  have H0 := Lib.hid h0
  have hp : spotsB xs = true ∧ 0 < xs.length := by simpa [boOk] using h0
  obtain ⟨h1, h2⟩ := hp
  have hm := hL.len
  unfold maxLen at hm
  obtain ⟨A, c, rfl, hlc, hcm, hA⟩ := lies_pairs hL
  obtain ⟨b, off, rfl, hc⟩ := hA h2
  have HC := Lib.hid hc
  have hne : ((xs.length : Int) == 0) = false := beq_eq_false_iff_ne.2 (by omega)
  have q0 := (hc 0 h2).1
  have q1 := (hc 0 h2).2
  simp only [Nat.zero_mul, Nat.add_zero] at q0 q1
  clear hA h0 hc hL
  go_enter Try.func29, Try.ntmps29
  go_wp2_with (go_at_call 24; (with_reducible refine (areSpots_any _ _ _ (by exact HL.out.kept (by (repeat (first | exact Kept.refl _ | assumption | refine Kept.alloc ?_ _ | refine Kept.drew ?_ | refine Kept.drewN ?_ _ | refine Kept.setCell ?_ (by first | (simp; done) | (simp; omega) | omega | exact Kept.size (by (repeat (first | exact Kept.refl _ | assumption | refine Kept.alloc ?_ _ | refine Kept.drew ?_ | refine Kept.drewN ?_ _ | refine Kept.trans ?_ (by assumption))))) _ | refine Kept.trans ?_ (by assumption)))))).mono ?_); rintro e w' ⟨rfl, hk⟩; (try have hkr := Root.trans (by assumption) hk); (first | (have hkf := From.step (by assumption) hk; obtain ⟨hc, hf⟩ := hkf.cells) | (have hkf := From.start hk; obtain ⟨hc, hf⟩ := hkf.cells)); have z0 : w.heap.size < w'.heap.size := hk.sz (by first | assumption | (simp; done) | (simp; omega)); have y0 : w.heap.size ≤ w'.heap.size := Nat.le_of_lt z0)
  have g0 := hk.keep ((Kept.alloc (Kept.refl w) (.cells #[.int .i64 0, .int .i64 0, .int .i64 0, .int .i64 0] 33)).keep q0)
  have g1 := hk.keep ((Kept.alloc (Kept.refl w) (.cells #[.int .i64 0, .int .i64 0, .int .i64 0, .int .i64 0] 33)).keep q1)
  have g0' : ∀ o : Obj, (w'.alloc o).cell? ⟨b, off, none⟩ = some (.int .i64 (P1 xs 0)) := fun o => (Kept.alloc (Kept.refl _) o).keep g0
  have g1' : ∀ o : Obj, (w'.alloc o).cell? ⟨b, off + 1, none⟩ = some (.int .i64 (P2 xs 0)) := fun o => (Kept.alloc (Kept.refl _) o).keep g1
  have HK := Lib.hid hk
  have HS := Lib.hid z0
  clear hc hf hkf hk y0
  go_region
  go_wp2_with fail
  go_loopw [35] (fun i wr => ∃ (k : Nat) (a b c d : Int), k ≤ xs.length ∧ i = .int .i64 k ∧ Kept (w.alloc (.cells #[.int .i64 0, .int .i64 0, .int .i64 0, .int .i64 0] 33)) wr ∧ Cell4 wr w'.heap.size a b c d ∧ BoxIs xs k a b c d) (fun i _ => xs.length - (intOf i).toNat)
  case atStart => exact ⟨0, _, _, _, _, Nat.zero_le _, rfl, by have hq := HK.out; (repeat (first | exact Kept.refl _ | assumption | refine Kept.alloc ?_ _ | refine Kept.drew ?_ | refine Kept.drewN ?_ _ | refine Kept.setCell ?_ (by first | (simp; done) | (simp; omega) | omega | exact Kept.size (by (repeat (first | exact Kept.refl _ | assumption | refine Kept.alloc ?_ _ | refine Kept.drew ?_ | refine Kept.drewN ?_ _ | refine Kept.trans ?_ (by assumption))))) _ | refine Kept.trans ?_ (by assumption))), (Cell4.new w' _ _ _ _ 33).kept (by (repeat (first | exact Kept.refl _ | assumption | refine Kept.alloc ?_ _ | refine Kept.drew ?_ | refine Kept.drewN ?_ _ | refine Kept.setCell ?_ (by first | (simp; done) | (simp; omega) | omega | exact Kept.size (by (repeat (first | exact Kept.refl _ | assumption | refine Kept.alloc ?_ _ | refine Kept.drew ?_ | refine Kept.drewN ?_ _ | refine Kept.trans ?_ (by assumption))))) _ | refine Kept.trans ?_ (by assumption)))), boxIs_0 xs⟩
  case round =>
    clear g0 g1 g0' g1' q0 q1
    obtain ⟨k, a, b1, c1, d1, hk, rfl, hkw, h4, hbox⟩ := hrel
    have HX := Lib.hid hbox
    obtain ⟨e0, e1, e2, e3, f0, f1, f2, f3⟩ := h4
    have hz := World.block_lt_of_cell? wr _ e0
    simp only [] at hz
    have n1 : w'.heap.size ≤ wr.heap.size := by omega
    have n2 : ¬ w'.heap.size = wr.heap.size := by omega
    have n3 : ¬ wr.heap.size = w'.heap.size := by omega
    have n4 : ¬ w.heap.size = w'.heap.size := by omega
    have n5 : ¬ w'.heap.size = w.heap.size := by omega
    have n6 : w.heap.size < wr.heap.size := by omega
    have n7 : ¬ w.heap.size = wr.heap.size := by omega
    have n8 : ¬ wr.heap.size = w.heap.size := by omega
    clear hbox
    by_cases hlt : k < xs.length
    · have g0 := hkw.keep ((Kept.alloc (Kept.refl w) (.cells #[.int .i64 0, .int .i64 0, .int .i64 0, .int .i64 0] 33)).keep (HC.out k hlt).1)
      have g1 := hkw.keep ((Kept.alloc (Kept.refl w) (.cells #[.int .i64 0, .int .i64 0, .int .i64 0, .int .i64 0] 33)).keep (HC.out k hlt).2)
      have HS2 := Lib.hid (boxIs_step HX.out)
      go_upto_region 7 with (fail)
      have hq0 : wr.heap.size < (wr.alloc (.cells #[.int .i64 (P1 xs k), .int .i64 (P2 xs k)] 26)).heap.size := by simp
      go_cut [49] (fun _ wx => Kept (w.alloc (.cells #[.int .i64 0, .int .i64 0, .int .i64 0, .int .i64 0] 33)) wx ∧ Cell4 wx w'.heap.size (mnI a (P1 xs k)) (mnI b1 (P2 xs k)) c1 d1 ∧ wx.cell? ⟨wr.heap.size, 0, none⟩ = some (.int .i64 (P1 xs k)) ∧ wx.cell? ⟨wr.heap.size, 1, none⟩ = some (.int .i64 (P2 xs k)))
      case first =>
        go_region
        go_wp2_with fail
        go_meet
        exact ⟨by (repeat (first | exact Kept.refl _ | assumption | refine Kept.alloc ?_ _ | refine Kept.drew ?_ | refine Kept.drewN ?_ _ | refine Kept.setCell ?_ (by first | (simp; done) | (simp; omega) | omega | exact Kept.size (by (repeat (first | exact Kept.refl _ | assumption | refine Kept.alloc ?_ _ | refine Kept.drew ?_ | refine Kept.drewN ?_ _ | refine Kept.trans ?_ (by assumption))))) _ | refine Kept.trans ?_ (by assumption))), by constructor <;> simp [go_sem, *], by simp [go_sem, *], by simp [go_sem, *]⟩
      case rest =>
        clear e0 e1 e2 e3 f0 f1 f2 f3
        obtain ⟨hkx, h4x, x0, x1⟩ := hcut
        obtain ⟨e0, e1, e2, e3, f0, f1, f2, f3⟩ := h4x
        go_wp2_with fail
        go_region
        go_wp2_with fail
        go_roundw
        case rel => exact ⟨k + 1, _, _, _, _, by omega, by go_num, by (repeat (first | exact Kept.refl _ | assumption | refine Kept.alloc ?_ _ | refine Kept.drew ?_ | refine Kept.drewN ?_ _ | refine Kept.setCell ?_ (by first | (simp; done) | (simp; omega) | omega | exact Kept.size (by (repeat (first | exact Kept.refl _ | assumption | refine Kept.alloc ?_ _ | refine Kept.drew ?_ | refine Kept.drewN ?_ _ | refine Kept.trans ?_ (by assumption))))) _ | refine Kept.trans ?_ (by assumption))), by constructor <;> simp [go_sem, *], HS2.out⟩
        case measure => simp [intOf]; omega
    · have e : k = xs.length := by omega
      have HF := Lib.hid (bo_yes H0.out (by rw [← e]; exact HX.out))
      have r0 := hkw.keep (show (w.alloc (.cells #[.int .i64 0, .int .i64 0, .int .i64 0, .int .i64 0] 33)).cell? ⟨w.heap.size, 0, none⟩ = some (.int .i64 0) by simp [go_sem])
      have r1 := hkw.keep (show (w.alloc (.cells #[.int .i64 0, .int .i64 0, .int .i64 0, .int .i64 0] 33)).cell? ⟨w.heap.size, 1, none⟩ = some (.int .i64 0) by simp [go_sem])
      have r2 := hkw.keep (show (w.alloc (.cells #[.int .i64 0, .int .i64 0, .int .i64 0, .int .i64 0] 33)).cell? ⟨w.heap.size, 2, none⟩ = some (.int .i64 0) by simp [go_sem])
      have r3 := hkw.keep (show (w.alloc (.cells #[.int .i64 0, .int .i64 0, .int .i64 0, .int .i64 0] 33)).cell? ⟨w.heap.size, 3, none⟩ = some (.int .i64 0) by simp [go_sem])
      have u0 := hkw.free (show (w.alloc (.cells #[.int .i64 0, .int .i64 0, .int .i64 0, .int .i64 0] 33)).cell? ⟨w.heap.size, 0, none⟩ = some (.int .i64 0) by simp [go_sem]) (by simp [go_sem])
      have u1 := hkw.free (show (w.alloc (.cells #[.int .i64 0, .int .i64 0, .int .i64 0, .int .i64 0] 33)).cell? ⟨w.heap.size, 1, none⟩ = some (.int .i64 0) by simp [go_sem]) (by simp [go_sem])
      have u2 := hkw.free (show (w.alloc (.cells #[.int .i64 0, .int .i64 0, .int .i64 0, .int .i64 0] 33)).cell? ⟨w.heap.size, 2, none⟩ = some (.int .i64 0) by simp [go_sem]) (by simp [go_sem])
      have u3 := hkw.free (show (w.alloc (.cells #[.int .i64 0, .int .i64 0, .int .i64 0, .int .i64 0] 33)).cell? ⟨w.heap.size, 3, none⟩ = some (.int .i64 0) by simp [go_sem]) (by simp [go_sem])
      clear e
      go_wp2_with fail
      exact bodyPost_ret (v := .tuple #[.agg #[.int .i64 a, .int .i64 b1, .int .i64 c1, .int .i64 d1], .bool true]) (by simp [results, Try.results29, go_sem, *]) rfl ⟨HF.out, by (repeat (first | exact Kept.refl _ | assumption | refine Kept.alloc ?_ _ | refine Kept.drew ?_ | refine Kept.drewN ?_ _ | refine Kept.setCell ?_ (by first | (simp; done) | (simp; omega) | omega | exact Kept.size (by (repeat (first | exact Kept.refl _ | assumption | refine Kept.alloc ?_ _ | refine Kept.drew ?_ | refine Kept.drewN ?_ _ | refine Kept.trans ?_ (by assumption))))) _ | refine Kept.trans ?_ (by assumption)))⟩
set_option maxHeartbeats 2000000 in
theorem sBoxOf_no (v : Value) (xs : List (Int × Int)) (w : World) (hL : Lies w 2 pairC v xs) (h0 : boOk xs = false) : Calls Try.prog 28 #[v] w fun e w' => e = .returned (boV xs) ∧ Kept w w' := by
  have HL := Lib.hid hL
  obtain ⟨A, c, rfl, hlc, hcm, hA⟩ := hL
  clear hA
  have HX := Lib.hid (bo_no h0)
  cases h1 : spotsB xs
  · clear h0
    go_enter Try.func28, Try.ntmps28
    go_wp2_with (go_at_call 62; (with_reducible refine (l2Spots_any _ _ _ (by exact HL.out.kept (by (repeat (first | exact Kept.refl _ | assumption | refine Kept.alloc ?_ _ | refine Kept.drew ?_ | refine Kept.drewN ?_ _ | refine Kept.setCell ?_ (by first | (simp; done) | (simp; omega) | omega | exact Kept.size (by (repeat (first | exact Kept.refl _ | assumption | refine Kept.alloc ?_ _ | refine Kept.drew ?_ | refine Kept.drewN ?_ _ | refine Kept.trans ?_ (by assumption))))) _ | refine Kept.trans ?_ (by assumption)))))).mono ?_); rintro e w' ⟨rfl, hk⟩; (try have hkr := Root.trans (by assumption) hk); (first | (have hkf := From.step (by assumption) hk; obtain ⟨hc, hf⟩ := hkf.cells) | (have hkf := From.start hk; obtain ⟨hc, hf⟩ := hkf.cells)); have z0 : w.heap.size < w'.heap.size := hk.sz (by first | assumption | (simp; done) | (simp; omega)); have y0 : w.heap.size ≤ w'.heap.size := Nat.le_of_lt z0)
    exact bodyPost_ret (v := .tuple #[.agg #[.int .i64 0, .int .i64 0, .int .i64 0, .int .i64 0], .bool false]) (by simp [results, Try.results28, go_sem, *]) rfl ⟨HX.out, by (repeat (first | exact Kept.refl _ | assumption | refine Kept.alloc ?_ _ | refine Kept.drew ?_ | refine Kept.drewN ?_ _ | refine Kept.setCell ?_ (by first | (simp; done) | (simp; omega) | omega | exact Kept.size (by (repeat (first | exact Kept.refl _ | assumption | refine Kept.alloc ?_ _ | refine Kept.drew ?_ | refine Kept.drewN ?_ _ | refine Kept.trans ?_ (by assumption))))) _ | refine Kept.trans ?_ (by assumption)))⟩
  · have hne : ((xs.length : Int) == 0) = true := by
      simp only [boOk, h1, Bool.true_and, decide_eq_false_iff_not] at h0
      exact beq_iff_eq.2 (by omega)
    clear h0
    go_enter Try.func28, Try.ntmps28
    go_wp2_with (go_at_call 62; (with_reducible refine (l2Spots_any _ _ _ (by exact HL.out.kept (by (repeat (first | exact Kept.refl _ | assumption | refine Kept.alloc ?_ _ | refine Kept.drew ?_ | refine Kept.drewN ?_ _ | refine Kept.setCell ?_ (by first | (simp; done) | (simp; omega) | omega | exact Kept.size (by (repeat (first | exact Kept.refl _ | assumption | refine Kept.alloc ?_ _ | refine Kept.drew ?_ | refine Kept.drewN ?_ _ | refine Kept.trans ?_ (by assumption))))) _ | refine Kept.trans ?_ (by assumption)))))).mono ?_); rintro e w' ⟨rfl, hk⟩; (try have hkr := Root.trans (by assumption) hk); (first | (have hkf := From.step (by assumption) hk; obtain ⟨hc, hf⟩ := hkf.cells) | (have hkf := From.start hk; obtain ⟨hc, hf⟩ := hkf.cells)); have z0 : w.heap.size < w'.heap.size := hk.sz (by first | assumption | (simp; done) | (simp; omega)); have y0 : w.heap.size ≤ w'.heap.size := Nat.le_of_lt z0)
    exact bodyPost_ret (v := .tuple #[.agg #[.int .i64 0, .int .i64 0, .int .i64 0, .int .i64 0], .bool false]) (by simp [results, Try.results28, go_sem, *]) rfl ⟨HX.out, by (repeat (first | exact Kept.refl _ | assumption | refine Kept.alloc ?_ _ | refine Kept.drew ?_ | refine Kept.drewN ?_ _ | refine Kept.setCell ?_ (by first | (simp; done) | (simp; omega) | omega | exact Kept.size (by (repeat (first | exact Kept.refl _ | assumption | refine Kept.alloc ?_ _ | refine Kept.drew ?_ | refine Kept.drewN ?_ _ | refine Kept.trans ?_ (by assumption))))) _ | refine Kept.trans ?_ (by assumption)))⟩
end Go.Proofs.Ytnkofjfcioaaaaa

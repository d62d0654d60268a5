/-
  Contracts of HeightOf, the program's and the reference's.
  Conditions: none.
-/
import Derived.Test.YtopdnhlolfehcaaGauge
import Derived.Test.YtopdnhlolfehcaaFind
namespace Go.Proofs.Ytopdnhlolfehcaa
open Go.ChangeShapes Go.WideShapes Go.ChangeAt Go.RowKit
set_option linter.unusedVariables false

/-- The index of the reading with a time. -/
def htAt (xs : List (Int × Int)) (t : Int) (i : Nat) : Bool := decide (P1 xs i = t)
def htI (xs : List (Int × Int)) (t : Int) : Option Nat := findTo (htAt xs t) xs.length
def htR (xs : List (Int × Int)) (z t : Int) : Int := match htI xs t with
  | some i => P2 xs i + z
  | none => 0
theorem ht_yes {xs : List (Int × Int)} {t : Int} {k : Nat} (hk : k < xs.length) (h0 : ∀ j, j < k → htAt xs t j = false) (h : P1 xs k = t) : htI xs t = some k := find_some hk h0 (by simp [htAt, h])
theorem ht_no {xs : List (Int × Int)} {t : Int} (h0 : ∀ j, j < xs.length → htAt xs t j = false) : htI xs t = none := find_none h0
theorem htR_yes {xs : List (Int × Int)} {z t : Int} {k : Nat} (h : htI xs t = some k) : htR xs z t = P2 xs k + z ∧ (htI xs t).isSome = true := by simp [htR, h]
theorem htR_no {xs : List (Int × Int)} {z t : Int} (h : htI xs t = none) : htR xs z t = 0 ∧ (htI xs t).isSome = false := by simp [htR, h]
theorem heightAt_any (id : Int) (nm : ByteArray) (z : Int) (v : Value) (xs : List (Int × Int)) (t : Int) (w : World) (hL : Lies w 2 pairC v xs) (hB : gaugeB id nm z xs = true) : Calls Try.prog 73 #[.agg #[.int .i64 id, .string nm, .int .i64 z, v], .int .i64 t] w fun e w' => e = .returned (.tuple #[.int .i64 (htR xs z t), .bool (htI xs t).isSome]) ∧ Kept w w' := by
  obtain ⟨A, c, rfl, hlc, hcm, hA⟩ := lies_pairs hL
  clear hL
  have hb := gaugeB_1 hB
  obtain ⟨-, ⟨z1, z2⟩, hn, -⟩ := hb
  have HB := Lib.hid hB
  clear hB
  go_enter Try.func73, Try.ntmps73
  go_wp2
  go_loopw [11] (fun i wr => ∃ k : Nat, k ≤ xs.length ∧ i = .int .i64 (k : Int) ∧ Kept (w.alloc (.cells #[.int .i64 id, .string nm, .int .i64 z, .slice A xs.length c] 26)) wr ∧ ∀ j, j < k → htAt xs t j = false) (fun i _ => xs.length - (intOf i).toNat)
  case atStart => exact ⟨0, Nat.zero_le _, rfl, Kept.refl _, fun j h => absurd h (by omega)⟩
  case round =>
    obtain ⟨k, hk, rfl, hkw, hall⟩ := hrel
    have HA := Lib.hid hall
    clear hall
    have p2 := hkw.keep (show (w.alloc (.cells #[.int .i64 id, .string nm, .int .i64 z, .slice A xs.length c] 26)).cell? ⟨w.heap.size, 2, none⟩ = some (.int .i64 z) by simp [go_sem])
    have p3 := hkw.keep (show (w.alloc (.cells #[.int .i64 id, .string nm, .int .i64 z, .slice A xs.length c] 26)).cell? ⟨w.heap.size, 3, none⟩ = some (.slice A xs.length c) by simp [go_sem])
    have hzz := hkw.size
    have z0 : w.heap.size < wr.heap.size := by simp at hzz; omega
    have z3 : w.heap.size ≤ wr.heap.size := by omega
    have z4 : ¬ w.heap.size = wr.heap.size := by omega
    have z5 : ¬ wr.heap.size = w.heap.size := by omega
    clear hzz
    by_cases hlt : k < xs.length
    · obtain ⟨b, off, rfl, hc⟩ := hA (by omega)
      have c0 := hkw.keep ((Kept.alloc (Kept.refl w) _).keep (hc k hlt).1)
      have c1 := hkw.keep ((Kept.alloc (Kept.refl w) _).keep (hc k hlt).2)
      obtain ⟨-, ⟨b1, b2⟩, -⟩ := gaugeB_at HB.out hlt
      clear hA hc
      by_cases he : P1 xs k = t
      · have HX := Lib.hid (htR_yes (z := z) (ht_yes hlt HA.out he))
        have te : (P1 xs k == t) = true := beq_iff_eq.2 he
        clear he
        go_wp2_with fail
        have e1 : IntKind.i64.wrap (P2 xs k + z) = P2 xs k + z := IntWalk.i64_in _ (by omega)
        (try go_quiet (fail))
        go_wp2
        go_ret2
        exact ⟨ret_ib HX.out.1 HX.out.2, by (repeat (first | exact Kept.refl _ | assumption | refine Kept.alloc ?_ _ | refine Kept.drew ?_ | refine Kept.drewN ?_ _ | refine Kept.setCell ?_ (by first | (simp; done) | (simp; omega) | omega | exact Kept.size (by (repeat (first | exact Kept.refl _ | assumption | refine Kept.alloc ?_ _ | refine Kept.drew ?_ | refine Kept.drewN ?_ _ | refine Kept.trans ?_ (by assumption))))) _ | refine Kept.trans ?_ (by assumption)))⟩
      · have te : (P1 xs k == t) = false := beq_eq_false_iff_ne.2 he
        have HB2 := Lib.hid (upto_succ (p := fun j => htAt xs t j = false) HA.out (show htAt xs t k = false by simp [htAt, he]))
        clear he
        go_wp2
        go_roundw
        case rel => exact ⟨k + 1, by omega, by go_num, by (repeat (first | exact Kept.refl _ | assumption | refine Kept.alloc ?_ _ | refine Kept.drew ?_ | refine Kept.drewN ?_ _ | refine Kept.setCell ?_ (by first | (simp; done) | (simp; omega) | omega | exact Kept.size (by (repeat (first | exact Kept.refl _ | assumption | refine Kept.alloc ?_ _ | refine Kept.drew ?_ | refine Kept.drewN ?_ _ | refine Kept.trans ?_ (by assumption))))) _ | refine Kept.trans ?_ (by assumption))), HB2.out⟩
        case measure => simp [intOf]; omega
    · have e : k = xs.length := by omega
      have HX := Lib.hid (htR_no (z := z) (ht_no (xs := xs) (t := t) (fun j hj => HA.out j (by omega))))
      clear e hA
      go_wp2
      go_ret2
      exact ⟨ret_ib HX.out.1 HX.out.2, by (repeat (first | exact Kept.refl _ | assumption | refine Kept.alloc ?_ _ | refine Kept.drew ?_ | refine Kept.drewN ?_ _ | refine Kept.setCell ?_ (by first | (simp; done) | (simp; omega) | omega | exact Kept.size (by (repeat (first | exact Kept.refl _ | assumption | refine Kept.alloc ?_ _ | refine Kept.drew ?_ | refine Kept.drewN ?_ _ | refine Kept.trans ?_ (by assumption))))) _ | refine Kept.trans ?_ (by assumption)))⟩
theorem l3At_any (id : Int) (nm : ByteArray) (z : Int) (v : Value) (xs : List (Int × Int)) (t : Int) (w : World) (hL : Lies w 2 pairC v xs) : Calls Try.prog 79 #[.agg #[.int .i64 id, .string nm, .int .i64 z, v], .int .i64 t] w fun e w' => e = .returned (.int .i64 (idxI (htI xs t))) ∧ Kept w w' := by
  have hm := hL.len
  unfold maxLen at hm
  obtain ⟨A, c, rfl, hlc, hcm, hA⟩ := lies_pairs hL
  clear hL
  go_enter Try.func79, Try.ntmps79
  go_wp2
  go_loopw [5] (fun i wr => ∃ k : Nat, k ≤ xs.length ∧ i = .int .i64 (k : Int) ∧ Kept (w.alloc (.cells #[.int .i64 id, .string nm, .int .i64 z, .slice A xs.length c] 26)) wr ∧ ∀ j, j < k → htAt xs t j = false) (fun i _ => xs.length - (intOf i).toNat)
  case atStart => exact ⟨0, Nat.zero_le _, rfl, Kept.refl _, fun j h => absurd h (by omega)⟩
  case round =>
    obtain ⟨k, hk, rfl, hkw, hall⟩ := hrel
    have HA := Lib.hid hall
    clear hall
    have p3 := hkw.keep (show (w.alloc (.cells #[.int .i64 id, .string nm, .int .i64 z, .slice A xs.length c] 26)).cell? ⟨w.heap.size, 3, none⟩ = some (.slice A xs.length c) by simp [go_sem])
    by_cases hlt : k < xs.length
    · obtain ⟨b, off, rfl, hc⟩ := hA (by omega)
      have c0 := hkw.keep ((Kept.alloc (Kept.refl w) _).keep (hc k hlt).1)
      have c1 := hkw.keep ((Kept.alloc (Kept.refl w) _).keep (hc k hlt).2)
      have k0 : (0 : Int) ≤ (k : Int) := by omega
      have k1 : (k : Int) < (xs.length : Int) := by omega
      clear hA hc
      by_cases he : P1 xs k = t
      · have HX := Lib.hid (show (k : Int) = idxI (htI xs t) by rw [ht_yes hlt HA.out he]; rfl)
        have te : (P1 xs k == t) = true := beq_iff_eq.2 he
        clear he
        go_wp2
        go_ret
        exact ⟨ret_int HX.out, by (repeat (first | exact Kept.refl _ | assumption | refine Kept.alloc ?_ _ | refine Kept.drew ?_ | refine Kept.drewN ?_ _ | refine Kept.setCell ?_ (by first | (simp; done) | (simp; omega) | omega | exact Kept.size (by (repeat (first | exact Kept.refl _ | assumption | refine Kept.alloc ?_ _ | refine Kept.drew ?_ | refine Kept.drewN ?_ _ | refine Kept.trans ?_ (by assumption))))) _ | refine Kept.trans ?_ (by assumption)))⟩
      · have te : (P1 xs k == t) = false := beq_eq_false_iff_ne.2 he
        have HB2 := Lib.hid (upto_succ (p := fun j => htAt xs t j = false) HA.out (show htAt xs t k = false by simp [htAt, he]))
        clear he
        go_wp2
        go_roundw
        case rel => exact ⟨k + 1, by omega, by go_num, by (repeat (first | exact Kept.refl _ | assumption | refine Kept.alloc ?_ _ | refine Kept.drew ?_ | refine Kept.drewN ?_ _ | refine Kept.setCell ?_ (by first | (simp; done) | (simp; omega) | omega | exact Kept.size (by (repeat (first | exact Kept.refl _ | assumption | refine Kept.alloc ?_ _ | refine Kept.drew ?_ | refine Kept.drewN ?_ _ | refine Kept.trans ?_ (by assumption))))) _ | refine Kept.trans ?_ (by assumption))), HB2.out⟩
        case measure => simp [intOf]; omega
    · have e : k = xs.length := by omega
      have HX := Lib.hid (show (-1 : Int) = idxI (htI xs t) by rw [ht_no (xs := xs) (t := t) (fun j hj => HA.out j (by omega))]; rfl)
      clear e hA
      go_wp2
      go_ret
      exact ⟨ret_int HX.out, by (repeat (first | exact Kept.refl _ | assumption | refine Kept.alloc ?_ _ | refine Kept.drew ?_ | refine Kept.drewN ?_ _ | refine Kept.setCell ?_ (by first | (simp; done) | (simp; omega) | omega | exact Kept.size (by (repeat (first | exact Kept.refl _ | assumption | refine Kept.alloc ?_ _ | refine Kept.drew ?_ | refine Kept.drewN ?_ _ | refine Kept.trans ?_ (by assumption))))) _ | refine Kept.trans ?_ (by assumption)))⟩
def hoOk (id : Int) (nm : ByteArray) (z : Int) (xs : List (Int × Int)) (t : Int) : Bool := gaugeB id nm z xs && (htI xs t).isSome
def hoV (id : Int) (nm : ByteArray) (z : Int) (xs : List (Int × Int)) (t : Int) : Int := if gaugeB id nm z xs = true then htR xs z t else 0
theorem ho_no {id z t : Int} {nm : ByteArray} {xs : List (Int × Int)} (h : gaugeB id nm z xs = false) : hoV id nm z xs t = 0 ∧ hoOk id nm z xs t = false := by simp [hoV, hoOk, h]
theorem ho_yes {id z t : Int} {nm : ByteArray} {xs : List (Int × Int)} (h : gaugeB id nm z xs = true) : hoV id nm z xs t = htR xs z t ∧ hoOk id nm z xs t = (htI xs t).isSome := by simp [hoV, hoOk, h]
theorem heightOf_any (id : Int) (nm : ByteArray) (z : Int) (v : Value) (xs : List (Int × Int)) (hs : nm.size ≤ maxLen) (t : Int) (w : World) (hL : Lies w 2 pairC v xs) : Calls Try.prog 20 #[.agg #[.int .i64 id, .string nm, .int .i64 z, v], .int .i64 t] w fun e w' => e = .returned (.tuple #[.int .i64 (hoV id nm z xs t), .bool (hoOk id nm z xs t)]) ∧ Kept w w' := by
  have HL := Lib.hid hL
  obtain ⟨A, c, rfl, hlc, hcm, hA⟩ := hL
  clear hA
  cases h1 : gaugeB id nm z xs
  · have HX := Lib.hid (ho_no (t := t) h1)
    go_enter Try.func20, Try.ntmps20
    go_wp2_with (go_at_call 21; (with_reducible refine (isGauge_any _ _ _ _ _ hs _ (by exact HL.out.kept (by (repeat (first | exact Kept.refl _ | assumption | refine Kept.alloc ?_ _ | refine Kept.drew ?_ | refine Kept.drewN ?_ _ | refine Kept.setCell ?_ (by first | (simp; done) | (simp; omega) | omega | exact Kept.size (by (repeat (first | exact Kept.refl _ | assumption | refine Kept.alloc ?_ _ | refine Kept.drew ?_ | refine Kept.drewN ?_ _ | refine Kept.trans ?_ (by assumption))))) _ | refine Kept.trans ?_ (by assumption)))))).mono ?_); rintro e w' ⟨rfl, hk⟩; (try have hkr := Root.trans (by assumption) hk); (first | (have hkf := From.step (by assumption) hk; obtain ⟨hc, hf⟩ := hkf.cells) | (have hkf := From.start hk; obtain ⟨hc, hf⟩ := hkf.cells)))
    go_ret2
    exact ⟨ret_ib HX.out.1 HX.out.2, by (repeat (first | exact Kept.refl _ | assumption | refine Kept.alloc ?_ _ | refine Kept.drew ?_ | refine Kept.drewN ?_ _ | refine Kept.setCell ?_ (by first | (simp; done) | (simp; omega) | omega | exact Kept.size (by (repeat (first | exact Kept.refl _ | assumption | refine Kept.alloc ?_ _ | refine Kept.drew ?_ | refine Kept.drewN ?_ _ | refine Kept.trans ?_ (by assumption))))) _ | refine Kept.trans ?_ (by assumption)))⟩
  · have HX := Lib.hid (ho_yes (t := t) h1)
    have H1 := Lib.hid h1
    go_enter Try.func20, Try.ntmps20
    go_wp2_with (first | (go_at_call 21; (with_reducible refine (isGauge_any _ _ _ _ _ hs _ (by exact HL.out.kept (by (repeat (first | exact Kept.refl _ | assumption | refine Kept.alloc ?_ _ | refine Kept.drew ?_ | refine Kept.drewN ?_ _ | refine Kept.setCell ?_ (by first | (simp; done) | (simp; omega) | omega | exact Kept.size (by (repeat (first | exact Kept.refl _ | assumption | refine Kept.alloc ?_ _ | refine Kept.drew ?_ | refine Kept.drewN ?_ _ | refine Kept.trans ?_ (by assumption))))) _ | refine Kept.trans ?_ (by assumption)))))).mono ?_); rintro e w' ⟨rfl, hk⟩; (try have hkr := Root.trans (by assumption) hk); (first | (have hkf := From.step (by assumption) hk; obtain ⟨hc, hf⟩ := hkf.cells) | (have hkf := From.start hk; obtain ⟨hc, hf⟩ := hkf.cells))) | (go_at_call 73; (with_reducible refine (heightAt_any _ _ _ _ _ _ _ (by exact HL.out.kept (by (repeat (first | exact Kept.refl _ | assumption | refine Kept.alloc ?_ _ | refine Kept.drew ?_ | refine Kept.drewN ?_ _ | refine Kept.setCell ?_ (by first | (simp; done) | (simp; omega) | omega | exact Kept.size (by (repeat (first | exact Kept.refl _ | assumption | refine Kept.alloc ?_ _ | refine Kept.drew ?_ | refine Kept.drewN ?_ _ | refine Kept.trans ?_ (by assumption))))) _ | refine Kept.trans ?_ (by assumption))))) H1.out).mono ?_); rintro e w' ⟨rfl, hk⟩; (try have hkr := Root.trans (by assumption) hk); (first | (have hkf := From.step (by assumption) hk; obtain ⟨hc, hf⟩ := hkf.cells) | (have hkf := From.start hk; obtain ⟨hc, hf⟩ := hkf.cells))))
    go_ret2
    exact ⟨ret_ib HX.out.1 HX.out.2, by (repeat (first | exact Kept.refl _ | assumption | refine Kept.alloc ?_ _ | refine Kept.drew ?_ | refine Kept.drewN ?_ _ | refine Kept.setCell ?_ (by first | (simp; done) | (simp; omega) | omega | exact Kept.size (by (repeat (first | exact Kept.refl _ | assumption | refine Kept.alloc ?_ _ | refine Kept.drew ?_ | refine Kept.drewN ?_ _ | refine Kept.trans ?_ (by assumption))))) _ | refine Kept.trans ?_ (by assumption)))⟩
theorem sHeightOf_any (id : Int) (nm : ByteArray) (z : Int) (v : Value) (xs : List (Int × Int)) (hs : nm.size ≤ maxLen) (t : Int) (w : World) (hL : Lies w 2 pairC v xs) : Calls Try.prog 30 #[.agg #[.int .i64 id, .string nm, .int .i64 z, v], .int .i64 t] w fun e w' => e = .returned (.tuple #[.int .i64 (hoV id nm z xs t), .bool (hoOk id nm z xs t)]) ∧ Kept w w' := by
  have HL := Lib.hid hL
  have hm := hL.len
  unfold maxLen at hm
  obtain ⟨A, c, rfl, hlc, hcm, hA⟩ := lies_pairs hL
  clear hL
  cases h1 : gaugeB id nm z xs
  · have HX := Lib.hid (ho_no (t := t) h1)
    clear hA
    go_enter Try.func30, Try.ntmps30
    go_wp2_with (first | (go_at_call 79; (with_reducible refine (l3At_any _ _ _ _ _ _ _ (by exact HL.out.kept (by (repeat (first | exact Kept.refl _ | assumption | refine Kept.alloc ?_ _ | refine Kept.drew ?_ | refine Kept.drewN ?_ _ | refine Kept.setCell ?_ (by first | (simp; done) | (simp; omega) | omega | exact Kept.size (by (repeat (first | exact Kept.refl _ | assumption | refine Kept.alloc ?_ _ | refine Kept.drew ?_ | refine Kept.drewN ?_ _ | refine Kept.trans ?_ (by assumption))))) _ | refine Kept.trans ?_ (by assumption)))))).mono ?_); rintro e w' ⟨rfl, hk⟩; (try have hkr := Root.trans (by assumption) hk); (first | (have hkf := From.step (by assumption) hk; obtain ⟨hc, hf⟩ := hkf.cells) | (have hkf := From.start hk; obtain ⟨hc, hf⟩ := hkf.cells))) | (go_at_call 72; (with_reducible refine (l3One_any _ _ _ _ _ hs _ (by exact HL.out.kept (by (repeat (first | exact Kept.refl _ | assumption | refine Kept.alloc ?_ _ | refine Kept.drew ?_ | refine Kept.drewN ?_ _ | refine Kept.setCell ?_ (by first | (simp; done) | (simp; omega) | omega | exact Kept.size (by (repeat (first | exact Kept.refl _ | assumption | refine Kept.alloc ?_ _ | refine Kept.drew ?_ | refine Kept.drewN ?_ _ | refine Kept.trans ?_ (by assumption))))) _ | refine Kept.trans ?_ (by assumption)))))).mono ?_); rintro e w' ⟨rfl, hk⟩; (try have hkr := Root.trans (by assumption) hk); (first | (have hkf := From.step (by assumption) hk; obtain ⟨hc, hf⟩ := hkf.cells) | (have hkf := From.start hk; obtain ⟨hc, hf⟩ := hkf.cells))))
    go_ret2
    exact ⟨ret_ib HX.out.1 HX.out.2, by (repeat (first | exact Kept.refl _ | assumption | refine Kept.alloc ?_ _ | refine Kept.drew ?_ | refine Kept.drewN ?_ _ | refine Kept.setCell ?_ (by first | (simp; done) | (simp; omega) | omega | exact Kept.size (by (repeat (first | exact Kept.refl _ | assumption | refine Kept.alloc ?_ _ | refine Kept.drew ?_ | refine Kept.drewN ?_ _ | refine Kept.trans ?_ (by assumption))))) _ | refine Kept.trans ?_ (by assumption)))⟩
  · have HX := Lib.hid (ho_yes (t := t) h1)
    have H1 := Lib.hid h1
    have hb := gaugeB_1 h1
    obtain ⟨-, ⟨z1, z2⟩, hn, -⟩ := hb
    cases h2 : htI xs t with
    | none =>
      have HY := Lib.hid (htR_no (z := z) h2)
      have e : idxI (htI xs t) = -1 := by rw [h2]; rfl
      have HI := Lib.hid fun W => l3At_any id nm z (.slice A xs.length c) xs t W
      rw [e] at HI
      clear hA h2 e
      go_enter Try.func30, Try.ntmps30
      go_wp2_with (first | (go_at_call 79; (with_reducible refine (HI.out _ (by exact HL.out.kept (by (repeat (first | exact Kept.refl _ | assumption | refine Kept.alloc ?_ _ | refine Kept.drew ?_ | refine Kept.drewN ?_ _ | refine Kept.setCell ?_ (by first | (simp; done) | (simp; omega) | omega | exact Kept.size (by (repeat (first | exact Kept.refl _ | assumption | refine Kept.alloc ?_ _ | refine Kept.drew ?_ | refine Kept.drewN ?_ _ | refine Kept.trans ?_ (by assumption))))) _ | refine Kept.trans ?_ (by assumption)))))).mono ?_); rintro e w' ⟨rfl, hk⟩; (try have hkr := Root.trans (by assumption) hk); (first | (have hkf := From.step (by assumption) hk; obtain ⟨hc, hf⟩ := hkf.cells) | (have hkf := From.start hk; obtain ⟨hc, hf⟩ := hkf.cells))) | (go_at_call 72; (with_reducible refine (l3One_any _ _ _ _ _ hs _ (by exact HL.out.kept (by (repeat (first | exact Kept.refl _ | assumption | refine Kept.alloc ?_ _ | refine Kept.drew ?_ | refine Kept.drewN ?_ _ | refine Kept.setCell ?_ (by first | (simp; done) | (simp; omega) | omega | exact Kept.size (by (repeat (first | exact Kept.refl _ | assumption | refine Kept.alloc ?_ _ | refine Kept.drew ?_ | refine Kept.drewN ?_ _ | refine Kept.trans ?_ (by assumption))))) _ | refine Kept.trans ?_ (by assumption)))))).mono ?_); rintro e w' ⟨rfl, hk⟩; (try have hkr := Root.trans (by assumption) hk); (first | (have hkf := From.step (by assumption) hk; obtain ⟨hc, hf⟩ := hkf.cells) | (have hkf := From.start hk; obtain ⟨hc, hf⟩ := hkf.cells))))
      go_ret2
      exact ⟨ret_ib (HX.out.1.trans HY.out.1) (HX.out.2.trans HY.out.2), by (repeat (first | exact Kept.refl _ | assumption | refine Kept.alloc ?_ _ | refine Kept.drew ?_ | refine Kept.drewN ?_ _ | refine Kept.setCell ?_ (by first | (simp; done) | (simp; omega) | omega | exact Kept.size (by (repeat (first | exact Kept.refl _ | assumption | refine Kept.alloc ?_ _ | refine Kept.drew ?_ | refine Kept.drewN ?_ _ | refine Kept.trans ?_ (by assumption))))) _ | refine Kept.trans ?_ (by assumption)))⟩
    | some i =>
      have HY := Lib.hid (htR_yes (z := z) h2)
      have e : idxI (htI xs t) = (i : Int) := by rw [h2]; rfl
      have hi := (find_is h2).1
      have HI := Lib.hid fun W => l3At_any id nm z (.slice A xs.length c) xs t W
      rw [e] at HI
      obtain ⟨b, off, rfl, hc⟩ := hA (by omega)
      have c1 := (hc i hi).2
      have hbl := World.block_lt_of_cell? w _ c1
      simp only [] at hbl
      have hbl1 : b < w.heap.size + 1 := by omega
      have hbl2 : ¬ b = w.heap.size := by omega
      have hbl3 : ¬ w.heap.size = b := by omega
      obtain ⟨-, ⟨b1, b2⟩, -⟩ := gaugeB_at h1 hi
      have i0 : (0 : Int) ≤ (i : Int) := by omega
      have i1 : (i : Int) < (xs.length : Int) := by omega
      have e1 : IntKind.i64.wrap (P2 xs i + z) = P2 xs i + z := IntWalk.i64_in _ (by omega)
      clear hA h2 e hc
      go_enter Try.func30, Try.ntmps30
      go_wp2_with (first | (go_at_call 79; (with_reducible refine (HI.out _ (by exact HL.out.kept (by (repeat (first | exact Kept.refl _ | assumption | refine Kept.alloc ?_ _ | refine Kept.drew ?_ | refine Kept.drewN ?_ _ | refine Kept.setCell ?_ (by first | (simp; done) | (simp; omega) | omega | exact Kept.size (by (repeat (first | exact Kept.refl _ | assumption | refine Kept.alloc ?_ _ | refine Kept.drew ?_ | refine Kept.drewN ?_ _ | refine Kept.trans ?_ (by assumption))))) _ | refine Kept.trans ?_ (by assumption)))))).mono ?_); rintro e w' ⟨rfl, hk⟩; (try have hkr := Root.trans (by assumption) hk); (first | (have hkf := From.step (by assumption) hk; obtain ⟨hc, hf⟩ := hkf.cells) | (have hkf := From.start hk; obtain ⟨hc, hf⟩ := hkf.cells))) | (go_at_call 72; (with_reducible refine (l3One_any _ _ _ _ _ hs _ (by exact HL.out.kept (by (repeat (first | exact Kept.refl _ | assumption | refine Kept.alloc ?_ _ | refine Kept.drew ?_ | refine Kept.drewN ?_ _ | refine Kept.setCell ?_ (by first | (simp; done) | (simp; omega) | omega | exact Kept.size (by (repeat (first | exact Kept.refl _ | assumption | refine Kept.alloc ?_ _ | refine Kept.drew ?_ | refine Kept.drewN ?_ _ | refine Kept.trans ?_ (by assumption))))) _ | refine Kept.trans ?_ (by assumption)))))).mono ?_); rintro e w' ⟨rfl, hk⟩; (try have hkr := Root.trans (by assumption) hk); (first | (have hkf := From.step (by assumption) hk; obtain ⟨hc, hf⟩ := hkf.cells) | (have hkf := From.start hk; obtain ⟨hc, hf⟩ := hkf.cells))))
      go_quiet (fail)
      go_wp2
      go_ret2
      exact ⟨ret_ib (HX.out.1.trans HY.out.1) (HX.out.2.trans HY.out.2), by (repeat (first | exact Kept.refl _ | assumption | refine Kept.alloc ?_ _ | refine Kept.drew ?_ | refine Kept.drewN ?_ _ | refine Kept.setCell ?_ (by first | (simp; done) | (simp; omega) | omega | exact Kept.size (by (repeat (first | exact Kept.refl _ | assumption | refine Kept.alloc ?_ _ | refine Kept.drew ?_ | refine Kept.drewN ?_ _ | refine Kept.trans ?_ (by assumption))))) _ | refine Kept.trans ?_ (by assumption)))⟩
set_option maxHeartbeats 1000000 in
theorem lawHeightOf (id : Int) (nm : ByteArray) (z : Int) (v : Value) (xs : List (Int × Int)) (hs : nm.size ≤ maxLen) (t : Int) (w : World) (hL : Lies w 2 pairC v xs) : Calls Try.prog 5 #[.agg #[.int .i64 id, .string nm, .int .i64 z, v], .int .i64 t] w fun e w' => e = .returned (.bool true) ∧ Kept w w' := by
  have HL := Lib.hid hL
  have hs' := hs
  unfold maxLen at hs
  obtain ⟨A, c, rfl, hlc, hcm, hA⟩ := hL
  clear hA
  go_enter Try.func5, Try.ntmps5
  go_wp2_with fail
  refine (szGauge_left _ _ _ _ _ hs' _ (by omega) (by omega) _ (by exact HL.out.kept (by (repeat (first | exact Kept.refl _ | assumption | refine Kept.alloc ?_ _ | refine Kept.drew ?_ | refine Kept.drewN ?_ _ | refine Kept.setCell ?_ (by first | (simp; done) | (simp; omega) | omega | exact Kept.size (by (repeat (first | exact Kept.refl _ | assumption | refine Kept.alloc ?_ _ | refine Kept.drew ?_ | refine Kept.drewN ?_ _ | refine Kept.trans ?_ (by assumption))))) _ | refine Kept.trans ?_ (by assumption)))))).mono ?_
  rintro e W0 ⟨r, rfl, ⟨r0, r1, hr⟩, k0⟩
  by_cases hneg : r < 0
  · go_wp2_with fail
    go_ret
    exact ⟨rfl, by (repeat (first | exact Kept.refl _ | assumption | refine Kept.alloc ?_ _ | refine Kept.drew ?_ | refine Kept.drewN ?_ _ | refine Kept.setCell ?_ (by first | (simp; done) | (simp; omega) | omega | exact Kept.size (by (repeat (first | exact Kept.refl _ | assumption | refine Kept.alloc ?_ _ | refine Kept.drew ?_ | refine Kept.drewN ?_ _ | refine Kept.trans ?_ (by assumption))))) _ | refine Kept.trans ?_ (by assumption)))⟩
  · have hn := hr (by omega)
    clear hr
    have p0 := k0.keep (show (w.alloc (.cells #[.int .i64 id, .string nm, .int .i64 z, .slice A xs.length c] 47)).cell? ⟨w.heap.size, 0, none⟩ = some (.int .i64 id) by simp [go_sem])
    have p1 := k0.keep (show (w.alloc (.cells #[.int .i64 id, .string nm, .int .i64 z, .slice A xs.length c] 47)).cell? ⟨w.heap.size, 1, none⟩ = some (.string nm) by simp [go_sem])
    have p2 := k0.keep (show (w.alloc (.cells #[.int .i64 id, .string nm, .int .i64 z, .slice A xs.length c] 47)).cell? ⟨w.heap.size, 2, none⟩ = some (.int .i64 z) by simp [go_sem])
    have p3 := k0.keep (show (w.alloc (.cells #[.int .i64 id, .string nm, .int .i64 z, .slice A xs.length c] 47)).cell? ⟨w.heap.size, 3, none⟩ = some (.slice A xs.length c) by simp [go_sem])
    have K0 := Lib.hid (show Kept w W0 by (repeat (first | exact Kept.refl _ | assumption | refine Kept.alloc ?_ _ | refine Kept.drew ?_ | refine Kept.drewN ?_ _ | refine Kept.setCell ?_ (by first | (simp; done) | (simp; omega) | omega | exact Kept.size (by (repeat (first | exact Kept.refl _ | assumption | refine Kept.alloc ?_ _ | refine Kept.drew ?_ | refine Kept.drewN ?_ _ | refine Kept.trans ?_ (by assumption))))) _ | refine Kept.trans ?_ (by assumption))))
    clear k0
    go_wp2_with fail
    refine (toGauge_any _ _ _ _ _ _ (HL.out.kept K0.out) hn).mono ?_
    rintro e W1 ⟨u1, rfl, hu1, k1⟩
    have q0 := k1.keep p0
    have q1 := k1.keep p1
    have q2 := k1.keep p2
    have q3 := k1.keep p3
    have l1 := pairs_own hu1
    clear hu1
    go_wp2_with fail
    refine (sHeightOf_any _ _ _ _ _ hs' _ _ l1).mono ?_
    rintro e W2 ⟨rfl, k2⟩
    have r0 := k2.keep q0
    have r1 := k2.keep q1
    have r2 := k2.keep q2
    have r3 := k2.keep q3
    clear l1 q0 q1 q2 q3
    go_wp2_with fail
    refine (toGauge_any _ _ _ _ _ _ (HL.out.kept (K0.out.trans (k1.trans k2))) hn).mono ?_
    rintro e W3 ⟨u3, rfl, hu3, k3⟩
    have l3 := pairs_own hu3
    obtain ⟨A3, c3, rfl, -, -, -⟩ := own_form hu3
    have L3 := Lib.hid l3
    have s0 := k3.keep r0
    have s1 := k3.keep r1
    have s2 := k3.keep r2
    have s3 := k3.keep r3
    clear l3 hu3 r0 r1 r2 r3
    go_wp2_with fail
    refine (heightOf_any _ _ _ _ _ hs' _ _ (L3.out.kept (by (repeat (first | exact Kept.refl _ | assumption | refine Kept.alloc ?_ _ | refine Kept.drew ?_ | refine Kept.drewN ?_ _ | refine Kept.setCell ?_ (by first | (simp; done) | (simp; omega) | omega | exact Kept.size (by (repeat (first | exact Kept.refl _ | assumption | refine Kept.alloc ?_ _ | refine Kept.drew ?_ | refine Kept.drewN ?_ _ | refine Kept.trans ?_ (by assumption))))) _ | refine Kept.trans ?_ (by assumption)))))).mono ?_
    rintro e W4 ⟨rfl, k4⟩
    have hx0 := k4.keep (show (W3.alloc (.cells #[.int .i64 id, .string nm, .int .i64 z, .slice A3 xs.length c3] 26)).cell? ⟨W3.heap.size, 0, none⟩ = some (.int .i64 id) by simp [go_sem])
    have hx1 := k4.keep (show (W3.alloc (.cells #[.int .i64 id, .string nm, .int .i64 z, .slice A3 xs.length c3] 26)).cell? ⟨W3.heap.size, 1, none⟩ = some (.string nm) by simp [go_sem])
    have hx2 := k4.keep (show (W3.alloc (.cells #[.int .i64 id, .string nm, .int .i64 z, .slice A3 xs.length c3] 26)).cell? ⟨W3.heap.size, 2, none⟩ = some (.int .i64 z) by simp [go_sem])
    have hx3 := k4.keep (show (W3.alloc (.cells #[.int .i64 id, .string nm, .int .i64 z, .slice A3 xs.length c3] 26)).cell? ⟨W3.heap.size, 3, none⟩ = some (.slice A3 xs.length c3) by simp [go_sem])
    have t0 := k4.keep ((Kept.alloc (Kept.refl W3) (.cells #[.int .i64 id, .string nm, .int .i64 z, .slice A3 xs.length c3] 26)).keep s0)
    have t1 := k4.keep ((Kept.alloc (Kept.refl W3) (.cells #[.int .i64 id, .string nm, .int .i64 z, .slice A3 xs.length c3] 26)).keep s1)
    have t2 := k4.keep ((Kept.alloc (Kept.refl W3) (.cells #[.int .i64 id, .string nm, .int .i64 z, .slice A3 xs.length c3] 26)).keep s2)
    have t3 := k4.keep ((Kept.alloc (Kept.refl W3) (.cells #[.int .i64 id, .string nm, .int .i64 z, .slice A3 xs.length c3] 26)).keep s3)
    have K4 := Lib.hid (show Kept w W4 from K0.out.trans (k1.trans (k2.trans (k3.trans ((Kept.alloc (Kept.refl _) _).trans k4)))))
    have K34 := Lib.hid (show Kept W3 W4 from (Kept.alloc (Kept.refl _) _).trans k4)
    clear s0 s1 s2 s3 p0 p1 p2 p3 k1 k2 k3 k4
    go_wp2_with fail
    have k04 := K4.out
    have k34 := K34.out
    have kf1_0 : ∀ w' : World, Root (W4) w' → w'.cell? ⟨W3.heap.size, 0, none⟩ = some (.int .i64 id) := fun w' h => h.keep (by first | assumption | exact (Kept.alloc (Kept.refl _) _).keep (by assumption) | (simp [go_sem]; done) | (simp [go_sem, *]; done))
    have kf1_1 : ∀ w' : World, Root (W4) w' → w'.cell? ⟨W3.heap.size, 1, none⟩ = some (.string nm) := fun w' h => h.keep (by first | assumption | exact (Kept.alloc (Kept.refl _) _).keep (by assumption) | (simp [go_sem]; done) | (simp [go_sem, *]; done))
    have kf1_2 : ∀ w' : World, Root (W4) w' → w'.cell? ⟨W3.heap.size, 2, none⟩ = some (.int .i64 z) := fun w' h => h.keep (by first | assumption | exact (Kept.alloc (Kept.refl _) _).keep (by assumption) | (simp [go_sem]; done) | (simp [go_sem, *]; done))
    have kf1_3 : ∀ w' : World, Root (W4) w' → w'.cell? ⟨W3.heap.size, 3, none⟩ = some (.slice A3 xs.length c3) := fun w' h => h.keep (by first | assumption | exact (Kept.alloc (Kept.refl _) _).keep (by assumption) | (simp [go_sem]; done) | (simp [go_sem, *]; done))
    have kf1_4 : ∀ w' : World, Root (W4) w' → w'.cell? ⟨w.heap.size, 0, none⟩ = some (.int .i64 id) := fun w' h => h.keep (by first | assumption | exact (Kept.alloc (Kept.refl _) _).keep (by assumption) | (simp [go_sem]; done) | (simp [go_sem, *]; done))
    have kf1_5 : ∀ w' : World, Root (W4) w' → w'.cell? ⟨w.heap.size, 1, none⟩ = some (.string nm) := fun w' h => h.keep (by first | assumption | exact (Kept.alloc (Kept.refl _) _).keep (by assumption) | (simp [go_sem]; done) | (simp [go_sem, *]; done))
    have kf1_6 : ∀ w' : World, Root (W4) w' → w'.cell? ⟨w.heap.size, 2, none⟩ = some (.int .i64 z) := fun w' h => h.keep (by first | assumption | exact (Kept.alloc (Kept.refl _) _).keep (by assumption) | (simp [go_sem]; done) | (simp [go_sem, *]; done))
    have kf1_7 : ∀ w' : World, Root (W4) w' → w'.cell? ⟨w.heap.size, 3, none⟩ = some (.slice A xs.length c) := fun w' h => h.keep (by first | assumption | exact (Kept.alloc (Kept.refl _) _).keep (by assumption) | (simp [go_sem]; done) | (simp [go_sem, *]; done))
    go_region_held3 (fun w' => Root (W4) w')
      (first | assumption | exact Root.trans (by assumption) hk | exact Root.drew (Root.refl _) | (repeat (first | exact Root.refl _ | assumption | refine Root.alloc ?_ _ | refine Root.drew ?_ | refine Root.setCell ?_ (by first | (simp; done) | (simp; omega) | omega | exact Root.size (by assumption)) _ | refine Root.trans ?_ (by assumption))))
      (first | (go_at_call 33; refine (toGauge_any _ _ _ _ _ _ (by exact HL.out.kept (by (repeat (first | exact Kept.refl _ | assumption | refine Kept.alloc ?_ _ | refine Kept.drew ?_ | refine Kept.drewN ?_ _ | refine Kept.setCell ?_ (by first | (simp; done) | (simp; omega) | omega | exact Kept.size (by (repeat (first | exact Kept.refl _ | assumption | refine Kept.alloc ?_ _ | refine Kept.drew ?_ | refine Kept.drewN ?_ _ | refine Kept.trans ?_ (by assumption))))) _ | refine Kept.trans ?_ (by assumption))))) hn).mono ?_; rintro e w1 ⟨u1, rfl, hu1, hk⟩; (have hkr := Root.trans (by assumption) hk); have hl1 := pairs_own hu1; clear hu1) | (go_at_call 34; refine (eqGauge_any _ _ _ _ _ _ _ (by exact L3.out.kept (by (repeat (first | exact Kept.refl _ | assumption | refine Kept.alloc ?_ _ | refine Kept.drew ?_ | refine Kept.drewN ?_ _ | refine Kept.setCell ?_ (by first | (simp; done) | (simp; omega) | omega | exact Kept.size (by (repeat (first | exact Kept.refl _ | assumption | refine Kept.alloc ?_ _ | refine Kept.drew ?_ | refine Kept.drewN ?_ _ | refine Kept.trans ?_ (by assumption))))) _ | refine Kept.trans ?_ (by assumption))))) (by first | assumption | exact Lies.kept (by assumption) (by (repeat (first | exact Kept.refl _ | assumption | refine Kept.alloc ?_ _ | refine Kept.drew ?_ | refine Kept.drewN ?_ _ | refine Kept.setCell ?_ (by first | (simp; done) | (simp; omega) | omega | exact Kept.size (by (repeat (first | exact Kept.refl _ | assumption | refine Kept.alloc ?_ _ | refine Kept.drew ?_ | refine Kept.drewN ?_ _ | refine Kept.trans ?_ (by assumption))))) _ | refine Kept.trans ?_ (by assumption)))))).mono ?_; rintro e w1 ⟨rfl, hk⟩; (have hkr := Root.trans (by assumption) hk); (first | (have hkf := From.step (by assumption) hk; obtain ⟨hc, hf⟩ := hkf.cells) | (have hkf := From.start hk; obtain ⟨hc, hf⟩ := hkf.cells))))
    go_wp2_with fail
    go_ret
    exact ⟨rfl, by (repeat (first | exact Kept.refl _ | assumption | refine Kept.alloc ?_ _ | refine Kept.drew ?_ | refine Kept.drewN ?_ _ | refine Kept.setCell ?_ (by first | (simp; done) | (simp; omega) | omega | exact Kept.size (by (repeat (first | exact Kept.refl _ | assumption | refine Kept.alloc ?_ _ | refine Kept.drew ?_ | refine Kept.drewN ?_ _ | refine Kept.trans ?_ (by assumption))))) _ | refine Kept.trans ?_ (by assumption)))⟩
end Go.Proofs.Ytopdnhlolfehcaa

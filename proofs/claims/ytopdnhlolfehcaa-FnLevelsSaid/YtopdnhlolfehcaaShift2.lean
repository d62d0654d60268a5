/-
  Contract of the program's ShiftZero.
  Conditions: none.
-/
import Derived.Test.YtopdnhlolfehcaaShift
namespace Go.Proofs.Ytopdnhlolfehcaa
open Go.ChangeShapes Go.WideShapes Go.ChangeAt Go.RowKit
set_option linter.unusedVariables false
set_option linter.unusedSimpArgs false

/-- Readings raised by a number. -/
def shiftL (xs : List (Int × Int)) (d : Int) : List (Int × Int) := xs.map (fun p => (p.1, p.2 + d))
theorem shift_len (xs : List (Int × Int)) (d : Int) : (shiftL xs d).length = xs.length := by simp [shiftL]
theorem shift_take {xs : List (Int × Int)} {d : Int} {k : Nat} (hk : k < xs.length) : (shiftL xs d).take (k + 1) = (shiftL xs d).take k ++ [(P1 xs k, P2 xs k + d)] := by
  rw [List.take_succ_eq_append_getElem (by rw [shift_len]; exact hk), P1_at hk, P2_at hk]
  simp [shiftL]
/-- The first k are raised. -/
def mixL (xs : List (Int × Int)) (d : Int) (k : Nat) : List (Int × Int) := (shiftL xs d).take k ++ xs.drop k
theorem mix_len {xs : List (Int × Int)} {d : Int} {k : Nat} (hk : k ≤ xs.length) : (mixL xs d k).length = xs.length := by simp [mixL, shift_len]; omega
theorem mix_0 (xs : List (Int × Int)) (d : Int) : mixL xs d 0 = xs := by simp [mixL]
theorem mix_all (xs : List (Int × Int)) (d : Int) : mixL xs d xs.length = shiftL xs d := by simp [mixL, List.take_of_length_le, shift_len]
theorem mix_set {xs : List (Int × Int)} {d : Int} {k : Nat} (hk : k < xs.length) : ((mixL xs d k).flatMap pairC).set (k * 2 + 1) (.int .i64 (P2 xs k + d)) = (mixL xs d (k + 1)).flatMap pairC := by
  unfold mixL
  rw [shift_take hk, List.drop_eq_getElem_cons hk, List.flatMap_append, List.flatMap_cons, List.flatMap_append, List.flatMap_append, List.append_assoc]
  have hl : (((shiftL xs d).take k).flatMap pairC).length = k * 2 := by rw [flat_len, List.length_take, shift_len]; omega
  rw [List.set_append_right _ _ (by omega), hl]
  simp [pairC, P1_at hk, show k * 2 + 1 - k * 2 = 1 by omega]
theorem mix_get {xs : List (Int × Int)} {d : Int} {k : Nat} (hk : k < xs.length) : ((mixL xs d k).flatMap pairC)[k * 2 + 1]? = some (.int .i64 (P2 xs k)) := by
  unfold mixL
  rw [List.drop_eq_getElem_cons hk, List.flatMap_append, List.flatMap_cons]
  have hl : (((shiftL xs d).take k).flatMap pairC).length = k * 2 := by rw [flat_len, List.length_take, shift_len]; omega
  rw [List.getElem?_append_right (by omega), hl]
  simp [pairC, P2_at hk, show k * 2 + 1 - k * 2 = 1 by omega]
theorem asG_no {id : Int} {nm : ByteArray} {z : Int} {v : Value} {xs : List (Int × Int)} (h : gaugeB id nm z xs = false) : asG id nm z v xs = .agg #[.int .i64 0, .string { data := #[] }, .int .i64 0, .slice none 0 0] := by simp [asG, h, noG]
theorem asG_yes {id : Int} {nm : ByteArray} {z : Int} {v : Value} {xs : List (Int × Int)} (h : gaugeB id nm z xs = true) : asG id nm z v xs = .agg #[.int .i64 id, .string nm, .int .i64 z, v] := by simp [asG, h]
def szOk (id : Int) (nm : ByteArray) (z : Int) (xs : List (Int × Int)) (to : Int) : Bool := gaugeB id nm z xs && inB to (-1000) 1000 && gaugeB id nm to (shiftL xs (z - to))
def szL (id : Int) (nm : ByteArray) (z : Int) (xs : List (Int × Int)) (to : Int) : List (Int × Int) := if szOk id nm z xs to = true then shiftL xs (z - to) else []
/-- The gauge that is answered. -/
def szG (b : Bool) (id : Int) (nm : ByteArray) (to : Int) (u : Value) : Value := .agg #[.int .i64 (if b = true then id else 0), .string (if b = true then nm else { data := #[] }), .int .i64 (if b = true then to else 0), u]
theorem sz_no {id : Int} {nm : ByteArray} {z : Int} {xs : List (Int × Int)} {to : Int} (h : szOk id nm z xs to = false) : Ending.returned (.tuple #[noG, .bool false]) = .returned (.tuple #[szG (szOk id nm z xs to) id nm to (.slice none 0 0), .bool (szOk id nm z xs to)]) ∧ szL id nm z xs to = [] := by
  simp [szG, szL, h, noG]
theorem sz_yes {id : Int} {nm : ByteArray} {z : Int} {xs : List (Int × Int)} {to : Int} {u : Value} (h : szOk id nm z xs to = true) : Ending.returned (.tuple #[.agg #[.int .i64 id, .string nm, .int .i64 to, u], .bool true]) = .returned (.tuple #[szG (szOk id nm z xs to) id nm to u, .bool (szOk id nm z xs to)]) ∧ szL id nm z xs to = shiftL xs (z - to) := by
  simp [szG, szL, h]
set_option maxRecDepth 100000 in
set_option maxHeartbeats 4000000 in
theorem shiftZero_any (id : Int) (nm : ByteArray) (z : Int) (v : Value) (xs : List (Int × Int)) (to : Int) (hs : nm.size ≤ maxLen) (w : World) (hL : Lies w 2 pairC v xs) : Calls Try.prog 23 #[.agg #[.int .i64 id, .string nm, .int .i64 z, v], .int .i64 to] w fun e w' => ∃ u, e = .returned (.tuple #[szG (szOk id nm z xs to) id nm to u, .bool (szOk id nm z xs to)]) ∧ w'.ownsRow w.heap.size 28 2 u (szL id nm z xs to).length ((szL id nm z xs to).flatMap pairC) ∧ Kept w w' := by
  have HL := Lib.hid hL
  obtain ⟨A, c, rfl, hlc, hcm, hA⟩ := lies_pairs hL
  clear hL hA
  cases h1 : gaugeB id nm z xs
  · have HV := Lib.hid (sz_no (show szOk id nm z xs to = false by simp [szOk, h1]))
    go_enter Try.func23, Try.ntmps23
    go_wp2_with fail
    refine (isGauge_any _ _ _ _ _ hs _ (by exact HL.out.kept (by (repeat (first | exact Kept.refl _ | assumption | refine Kept.alloc ?_ _ | refine Kept.drew ?_ | refine Kept.drewN ?_ _ | refine Kept.setCell ?_ (by first | (simp; done) | (simp; omega) | omega | exact Kept.size (by (repeat (first | exact Kept.refl _ | assumption | refine Kept.alloc ?_ _ | refine Kept.drew ?_ | refine Kept.drewN ?_ _ | refine Kept.trans ?_ (by assumption))))) _ | refine Kept.trans ?_ (by assumption)))))).mono ?_
    rintro e w1 ⟨rfl, hk⟩
    have a0 := hk.keep (show ((w.alloc (.cells #[.int .i64 id, .string nm, .int .i64 z, .slice A xs.length c] 26)).alloc (.cells #[.int .i64 0, .string { data := #[] }, .int .i64 0, .slice none 0 0] 26)).cell? ⟨w.heap.size, 0, none⟩ = some (.int .i64 id) by simp [go_sem])
    have af0 := hk.free (show ((w.alloc (.cells #[.int .i64 id, .string nm, .int .i64 z, .slice A xs.length c] 26)).alloc (.cells #[.int .i64 0, .string { data := #[] }, .int .i64 0, .slice none 0 0] 26)).cell? ⟨w.heap.size, 0, none⟩ = some (.int .i64 id) by simp [go_sem]) (by simp [go_sem])
    have a1 := hk.keep (show ((w.alloc (.cells #[.int .i64 id, .string nm, .int .i64 z, .slice A xs.length c] 26)).alloc (.cells #[.int .i64 0, .string { data := #[] }, .int .i64 0, .slice none 0 0] 26)).cell? ⟨w.heap.size, 1, none⟩ = some (.string nm) by simp [go_sem])
    have af1 := hk.free (show ((w.alloc (.cells #[.int .i64 id, .string nm, .int .i64 z, .slice A xs.length c] 26)).alloc (.cells #[.int .i64 0, .string { data := #[] }, .int .i64 0, .slice none 0 0] 26)).cell? ⟨w.heap.size, 1, none⟩ = some (.string nm) by simp [go_sem]) (by simp [go_sem])
    have a2 := hk.keep (show ((w.alloc (.cells #[.int .i64 id, .string nm, .int .i64 z, .slice A xs.length c] 26)).alloc (.cells #[.int .i64 0, .string { data := #[] }, .int .i64 0, .slice none 0 0] 26)).cell? ⟨w.heap.size, 2, none⟩ = some (.int .i64 z) by simp [go_sem])
    have af2 := hk.free (show ((w.alloc (.cells #[.int .i64 id, .string nm, .int .i64 z, .slice A xs.length c] 26)).alloc (.cells #[.int .i64 0, .string { data := #[] }, .int .i64 0, .slice none 0 0] 26)).cell? ⟨w.heap.size, 2, none⟩ = some (.int .i64 z) by simp [go_sem]) (by simp [go_sem])
    have a3 := hk.keep (show ((w.alloc (.cells #[.int .i64 id, .string nm, .int .i64 z, .slice A xs.length c] 26)).alloc (.cells #[.int .i64 0, .string { data := #[] }, .int .i64 0, .slice none 0 0] 26)).cell? ⟨w.heap.size, 3, none⟩ = some (.slice A xs.length c) by simp [go_sem])
    have af3 := hk.free (show ((w.alloc (.cells #[.int .i64 id, .string nm, .int .i64 z, .slice A xs.length c] 26)).alloc (.cells #[.int .i64 0, .string { data := #[] }, .int .i64 0, .slice none 0 0] 26)).cell? ⟨w.heap.size, 3, none⟩ = some (.slice A xs.length c) by simp [go_sem]) (by simp [go_sem])
    have b0 := hk.keep (show ((w.alloc (.cells #[.int .i64 id, .string nm, .int .i64 z, .slice A xs.length c] 26)).alloc (.cells #[.int .i64 0, .string { data := #[] }, .int .i64 0, .slice none 0 0] 26)).cell? ⟨w.heap.size + 1, 0, none⟩ = some (.int .i64 0) by simp [go_sem])
    have bf0 := hk.free (show ((w.alloc (.cells #[.int .i64 id, .string nm, .int .i64 z, .slice A xs.length c] 26)).alloc (.cells #[.int .i64 0, .string { data := #[] }, .int .i64 0, .slice none 0 0] 26)).cell? ⟨w.heap.size + 1, 0, none⟩ = some (.int .i64 0) by simp [go_sem]) (by simp [go_sem])
    have b1 := hk.keep (show ((w.alloc (.cells #[.int .i64 id, .string nm, .int .i64 z, .slice A xs.length c] 26)).alloc (.cells #[.int .i64 0, .string { data := #[] }, .int .i64 0, .slice none 0 0] 26)).cell? ⟨w.heap.size + 1, 1, none⟩ = some (.string { data := #[] }) by simp [go_sem])
    have bf1 := hk.free (show ((w.alloc (.cells #[.int .i64 id, .string nm, .int .i64 z, .slice A xs.length c] 26)).alloc (.cells #[.int .i64 0, .string { data := #[] }, .int .i64 0, .slice none 0 0] 26)).cell? ⟨w.heap.size + 1, 1, none⟩ = some (.string { data := #[] }) by simp [go_sem]) (by simp [go_sem])
    have b2 := hk.keep (show ((w.alloc (.cells #[.int .i64 id, .string nm, .int .i64 z, .slice A xs.length c] 26)).alloc (.cells #[.int .i64 0, .string { data := #[] }, .int .i64 0, .slice none 0 0] 26)).cell? ⟨w.heap.size + 1, 2, none⟩ = some (.int .i64 0) by simp [go_sem])
    have bf2 := hk.free (show ((w.alloc (.cells #[.int .i64 id, .string nm, .int .i64 z, .slice A xs.length c] 26)).alloc (.cells #[.int .i64 0, .string { data := #[] }, .int .i64 0, .slice none 0 0] 26)).cell? ⟨w.heap.size + 1, 2, none⟩ = some (.int .i64 0) by simp [go_sem]) (by simp [go_sem])
    have b3 := hk.keep (show ((w.alloc (.cells #[.int .i64 id, .string nm, .int .i64 z, .slice A xs.length c] 26)).alloc (.cells #[.int .i64 0, .string { data := #[] }, .int .i64 0, .slice none 0 0] 26)).cell? ⟨w.heap.size + 1, 3, none⟩ = some (.slice none 0 0) by simp [go_sem])
    have bf3 := hk.free (show ((w.alloc (.cells #[.int .i64 id, .string nm, .int .i64 z, .slice A xs.length c] 26)).alloc (.cells #[.int .i64 0, .string { data := #[] }, .int .i64 0, .slice none 0 0] 26)).cell? ⟨w.heap.size + 1, 3, none⟩ = some (.slice none 0 0) by simp [go_sem]) (by simp [go_sem])
    have HK := Lib.hid ((Kept.alloc (Kept.alloc (Kept.refl w) _) _).trans hk)
    clear hk
    rw [h1]
    go_wp2_with fail
    exact bodyPost_ret (v := .tuple #[noG, .bool false]) (by simp [results, Try.results23, go_sem, noG, *]) rfl ⟨_, HV.out.1, by rw [HV.out.2]; exact World.ownsRow_nil _ _ _ _, ((((HK.out.setCell (by simp) _).setCell (by simp) _).setCell (by simp) _).setCell (by simp) _)⟩
  cases h2 : inB to (-1000) 1000
  · have HV := Lib.hid (sz_no (show szOk id nm z xs to = false by simp [szOk, h2]))
    go_enter Try.func23, Try.ntmps23
    go_wp2_with fail
    refine (isGauge_any _ _ _ _ _ hs _ (by exact HL.out.kept (by (repeat (first | exact Kept.refl _ | assumption | refine Kept.alloc ?_ _ | refine Kept.drew ?_ | refine Kept.drewN ?_ _ | refine Kept.setCell ?_ (by first | (simp; done) | (simp; omega) | omega | exact Kept.size (by (repeat (first | exact Kept.refl _ | assumption | refine Kept.alloc ?_ _ | refine Kept.drew ?_ | refine Kept.drewN ?_ _ | refine Kept.trans ?_ (by assumption))))) _ | refine Kept.trans ?_ (by assumption)))))).mono ?_
    rintro e w1 ⟨rfl, hk⟩
    have a0 := hk.keep (show ((w.alloc (.cells #[.int .i64 id, .string nm, .int .i64 z, .slice A xs.length c] 26)).alloc (.cells #[.int .i64 0, .string { data := #[] }, .int .i64 0, .slice none 0 0] 26)).cell? ⟨w.heap.size, 0, none⟩ = some (.int .i64 id) by simp [go_sem])
    have af0 := hk.free (show ((w.alloc (.cells #[.int .i64 id, .string nm, .int .i64 z, .slice A xs.length c] 26)).alloc (.cells #[.int .i64 0, .string { data := #[] }, .int .i64 0, .slice none 0 0] 26)).cell? ⟨w.heap.size, 0, none⟩ = some (.int .i64 id) by simp [go_sem]) (by simp [go_sem])
    have a1 := hk.keep (show ((w.alloc (.cells #[.int .i64 id, .string nm, .int .i64 z, .slice A xs.length c] 26)).alloc (.cells #[.int .i64 0, .string { data := #[] }, .int .i64 0, .slice none 0 0] 26)).cell? ⟨w.heap.size, 1, none⟩ = some (.string nm) by simp [go_sem])
    have af1 := hk.free (show ((w.alloc (.cells #[.int .i64 id, .string nm, .int .i64 z, .slice A xs.length c] 26)).alloc (.cells #[.int .i64 0, .string { data := #[] }, .int .i64 0, .slice none 0 0] 26)).cell? ⟨w.heap.size, 1, none⟩ = some (.string nm) by simp [go_sem]) (by simp [go_sem])
    have a2 := hk.keep (show ((w.alloc (.cells #[.int .i64 id, .string nm, .int .i64 z, .slice A xs.length c] 26)).alloc (.cells #[.int .i64 0, .string { data := #[] }, .int .i64 0, .slice none 0 0] 26)).cell? ⟨w.heap.size, 2, none⟩ = some (.int .i64 z) by simp [go_sem])
    have af2 := hk.free (show ((w.alloc (.cells #[.int .i64 id, .string nm, .int .i64 z, .slice A xs.length c] 26)).alloc (.cells #[.int .i64 0, .string { data := #[] }, .int .i64 0, .slice none 0 0] 26)).cell? ⟨w.heap.size, 2, none⟩ = some (.int .i64 z) by simp [go_sem]) (by simp [go_sem])
    have a3 := hk.keep (show ((w.alloc (.cells #[.int .i64 id, .string nm, .int .i64 z, .slice A xs.length c] 26)).alloc (.cells #[.int .i64 0, .string { data := #[] }, .int .i64 0, .slice none 0 0] 26)).cell? ⟨w.heap.size, 3, none⟩ = some (.slice A xs.length c) by simp [go_sem])
    have af3 := hk.free (show ((w.alloc (.cells #[.int .i64 id, .string nm, .int .i64 z, .slice A xs.length c] 26)).alloc (.cells #[.int .i64 0, .string { data := #[] }, .int .i64 0, .slice none 0 0] 26)).cell? ⟨w.heap.size, 3, none⟩ = some (.slice A xs.length c) by simp [go_sem]) (by simp [go_sem])
    have b0 := hk.keep (show ((w.alloc (.cells #[.int .i64 id, .string nm, .int .i64 z, .slice A xs.length c] 26)).alloc (.cells #[.int .i64 0, .string { data := #[] }, .int .i64 0, .slice none 0 0] 26)).cell? ⟨w.heap.size + 1, 0, none⟩ = some (.int .i64 0) by simp [go_sem])
    have bf0 := hk.free (show ((w.alloc (.cells #[.int .i64 id, .string nm, .int .i64 z, .slice A xs.length c] 26)).alloc (.cells #[.int .i64 0, .string { data := #[] }, .int .i64 0, .slice none 0 0] 26)).cell? ⟨w.heap.size + 1, 0, none⟩ = some (.int .i64 0) by simp [go_sem]) (by simp [go_sem])
    have b1 := hk.keep (show ((w.alloc (.cells #[.int .i64 id, .string nm, .int .i64 z, .slice A xs.length c] 26)).alloc (.cells #[.int .i64 0, .string { data := #[] }, .int .i64 0, .slice none 0 0] 26)).cell? ⟨w.heap.size + 1, 1, none⟩ = some (.string { data := #[] }) by simp [go_sem])
    have bf1 := hk.free (show ((w.alloc (.cells #[.int .i64 id, .string nm, .int .i64 z, .slice A xs.length c] 26)).alloc (.cells #[.int .i64 0, .string { data := #[] }, .int .i64 0, .slice none 0 0] 26)).cell? ⟨w.heap.size + 1, 1, none⟩ = some (.string { data := #[] }) by simp [go_sem]) (by simp [go_sem])
    have b2 := hk.keep (show ((w.alloc (.cells #[.int .i64 id, .string nm, .int .i64 z, .slice A xs.length c] 26)).alloc (.cells #[.int .i64 0, .string { data := #[] }, .int .i64 0, .slice none 0 0] 26)).cell? ⟨w.heap.size + 1, 2, none⟩ = some (.int .i64 0) by simp [go_sem])
    have bf2 := hk.free (show ((w.alloc (.cells #[.int .i64 id, .string nm, .int .i64 z, .slice A xs.length c] 26)).alloc (.cells #[.int .i64 0, .string { data := #[] }, .int .i64 0, .slice none 0 0] 26)).cell? ⟨w.heap.size + 1, 2, none⟩ = some (.int .i64 0) by simp [go_sem]) (by simp [go_sem])
    have b3 := hk.keep (show ((w.alloc (.cells #[.int .i64 id, .string nm, .int .i64 z, .slice A xs.length c] 26)).alloc (.cells #[.int .i64 0, .string { data := #[] }, .int .i64 0, .slice none 0 0] 26)).cell? ⟨w.heap.size + 1, 3, none⟩ = some (.slice none 0 0) by simp [go_sem])
    have bf3 := hk.free (show ((w.alloc (.cells #[.int .i64 id, .string nm, .int .i64 z, .slice A xs.length c] 26)).alloc (.cells #[.int .i64 0, .string { data := #[] }, .int .i64 0, .slice none 0 0] 26)).cell? ⟨w.heap.size + 1, 3, none⟩ = some (.slice none 0 0) by simp [go_sem]) (by simp [go_sem])
    have HK := Lib.hid ((Kept.alloc (Kept.alloc (Kept.refl w) _) _).trans hk)
    clear hk
    rw [h1]
    go_wp2_with (go_at_call 74; (with_reducible refine (inside_any _ _ _ _).mono ?_); rintro e w' ⟨rfl, rfl⟩)
    exact bodyPost_ret (v := .tuple #[noG, .bool false]) (by simp [results, Try.results23, go_sem, noG, *]) rfl ⟨_, HV.out.1, by rw [HV.out.2]; exact World.ownsRow_nil _ _ _ _, ((((HK.out.setCell (by simp) _).setCell (by simp) _).setCell (by simp) _).setCell (by simp) _)⟩
  have hgl := (gaugeB_1 h1).2.2.1
  have hz := (gaugeB_1 h1).2.1
  have hto := inB_true.1 h2
  obtain ⟨t1, t2⟩ := hto
  obtain ⟨z1, z2⟩ := hz
  have H1 := Lib.hid h1
  have H2 := Lib.hid h2
  go_enter Try.func23, Try.ntmps23
  go_wp2_with fail
  refine (isGauge_any _ _ _ _ _ hs _ (by exact HL.out.kept (by (repeat (first | exact Kept.refl _ | assumption | refine Kept.alloc ?_ _ | refine Kept.drew ?_ | refine Kept.drewN ?_ _ | refine Kept.setCell ?_ (by first | (simp; done) | (simp; omega) | omega | exact Kept.size (by (repeat (first | exact Kept.refl _ | assumption | refine Kept.alloc ?_ _ | refine Kept.drew ?_ | refine Kept.drewN ?_ _ | refine Kept.trans ?_ (by assumption))))) _ | refine Kept.trans ?_ (by assumption)))))).mono ?_
  rintro e w1 ⟨rfl, hk⟩
  have a0 := hk.keep (show ((w.alloc (.cells #[.int .i64 id, .string nm, .int .i64 z, .slice A xs.length c] 26)).alloc (.cells #[.int .i64 0, .string { data := #[] }, .int .i64 0, .slice none 0 0] 26)).cell? ⟨w.heap.size, 0, none⟩ = some (.int .i64 id) by simp [go_sem])
  have af0 := hk.free (show ((w.alloc (.cells #[.int .i64 id, .string nm, .int .i64 z, .slice A xs.length c] 26)).alloc (.cells #[.int .i64 0, .string { data := #[] }, .int .i64 0, .slice none 0 0] 26)).cell? ⟨w.heap.size, 0, none⟩ = some (.int .i64 id) by simp [go_sem]) (by simp [go_sem])
  have a1 := hk.keep (show ((w.alloc (.cells #[.int .i64 id, .string nm, .int .i64 z, .slice A xs.length c] 26)).alloc (.cells #[.int .i64 0, .string { data := #[] }, .int .i64 0, .slice none 0 0] 26)).cell? ⟨w.heap.size, 1, none⟩ = some (.string nm) by simp [go_sem])
  have af1 := hk.free (show ((w.alloc (.cells #[.int .i64 id, .string nm, .int .i64 z, .slice A xs.length c] 26)).alloc (.cells #[.int .i64 0, .string { data := #[] }, .int .i64 0, .slice none 0 0] 26)).cell? ⟨w.heap.size, 1, none⟩ = some (.string nm) by simp [go_sem]) (by simp [go_sem])
  have a2 := hk.keep (show ((w.alloc (.cells #[.int .i64 id, .string nm, .int .i64 z, .slice A xs.length c] 26)).alloc (.cells #[.int .i64 0, .string { data := #[] }, .int .i64 0, .slice none 0 0] 26)).cell? ⟨w.heap.size, 2, none⟩ = some (.int .i64 z) by simp [go_sem])
  have af2 := hk.free (show ((w.alloc (.cells #[.int .i64 id, .string nm, .int .i64 z, .slice A xs.length c] 26)).alloc (.cells #[.int .i64 0, .string { data := #[] }, .int .i64 0, .slice none 0 0] 26)).cell? ⟨w.heap.size, 2, none⟩ = some (.int .i64 z) by simp [go_sem]) (by simp [go_sem])
  have a3 := hk.keep (show ((w.alloc (.cells #[.int .i64 id, .string nm, .int .i64 z, .slice A xs.length c] 26)).alloc (.cells #[.int .i64 0, .string { data := #[] }, .int .i64 0, .slice none 0 0] 26)).cell? ⟨w.heap.size, 3, none⟩ = some (.slice A xs.length c) by simp [go_sem])
  have af3 := hk.free (show ((w.alloc (.cells #[.int .i64 id, .string nm, .int .i64 z, .slice A xs.length c] 26)).alloc (.cells #[.int .i64 0, .string { data := #[] }, .int .i64 0, .slice none 0 0] 26)).cell? ⟨w.heap.size, 3, none⟩ = some (.slice A xs.length c) by simp [go_sem]) (by simp [go_sem])
  have b0 := hk.keep (show ((w.alloc (.cells #[.int .i64 id, .string nm, .int .i64 z, .slice A xs.length c] 26)).alloc (.cells #[.int .i64 0, .string { data := #[] }, .int .i64 0, .slice none 0 0] 26)).cell? ⟨w.heap.size + 1, 0, none⟩ = some (.int .i64 0) by simp [go_sem])
  have bf0 := hk.free (show ((w.alloc (.cells #[.int .i64 id, .string nm, .int .i64 z, .slice A xs.length c] 26)).alloc (.cells #[.int .i64 0, .string { data := #[] }, .int .i64 0, .slice none 0 0] 26)).cell? ⟨w.heap.size + 1, 0, none⟩ = some (.int .i64 0) by simp [go_sem]) (by simp [go_sem])
  have b1 := hk.keep (show ((w.alloc (.cells #[.int .i64 id, .string nm, .int .i64 z, .slice A xs.length c] 26)).alloc (.cells #[.int .i64 0, .string { data := #[] }, .int .i64 0, .slice none 0 0] 26)).cell? ⟨w.heap.size + 1, 1, none⟩ = some (.string { data := #[] }) by simp [go_sem])
  have bf1 := hk.free (show ((w.alloc (.cells #[.int .i64 id, .string nm, .int .i64 z, .slice A xs.length c] 26)).alloc (.cells #[.int .i64 0, .string { data := #[] }, .int .i64 0, .slice none 0 0] 26)).cell? ⟨w.heap.size + 1, 1, none⟩ = some (.string { data := #[] }) by simp [go_sem]) (by simp [go_sem])
  have b2 := hk.keep (show ((w.alloc (.cells #[.int .i64 id, .string nm, .int .i64 z, .slice A xs.length c] 26)).alloc (.cells #[.int .i64 0, .string { data := #[] }, .int .i64 0, .slice none 0 0] 26)).cell? ⟨w.heap.size + 1, 2, none⟩ = some (.int .i64 0) by simp [go_sem])
  have bf2 := hk.free (show ((w.alloc (.cells #[.int .i64 id, .string nm, .int .i64 z, .slice A xs.length c] 26)).alloc (.cells #[.int .i64 0, .string { data := #[] }, .int .i64 0, .slice none 0 0] 26)).cell? ⟨w.heap.size + 1, 2, none⟩ = some (.int .i64 0) by simp [go_sem]) (by simp [go_sem])
  have b3 := hk.keep (show ((w.alloc (.cells #[.int .i64 id, .string nm, .int .i64 z, .slice A xs.length c] 26)).alloc (.cells #[.int .i64 0, .string { data := #[] }, .int .i64 0, .slice none 0 0] 26)).cell? ⟨w.heap.size + 1, 3, none⟩ = some (.slice none 0 0) by simp [go_sem])
  have bf3 := hk.free (show ((w.alloc (.cells #[.int .i64 id, .string nm, .int .i64 z, .slice A xs.length c] 26)).alloc (.cells #[.int .i64 0, .string { data := #[] }, .int .i64 0, .slice none 0 0] 26)).cell? ⟨w.heap.size + 1, 3, none⟩ = some (.slice none 0 0) by simp [go_sem]) (by simp [go_sem])
  rw [H1.out]
  have HK1 := Lib.hid hk
  clear hk
  go_wp2_with (go_at_call 74; (with_reducible refine (inside_any _ _ _ _).mono ?_); rintro e w' ⟨rfl, rfl⟩)
  refine (newGauge_any _ _ _ _ xs (by omega) _ (by exact HL.out.kept ((Kept.alloc (Kept.alloc (Kept.refl w) _) _).trans HK1.out))).mono ?_
  rintro e w2 ⟨u1, rfl, hu1, hk2⟩
  obtain ⟨A1, c1, rfl, hc1, hc2, hg1⟩ := own_form hu1
  have HU := Lib.hid hu1
  have hk := HK1.out.trans hk2
  have HK2 := Lib.hid hk
  clear a0 a1 a2 a3 b0 b1 b2 b3 af0 af1 af2 af3 bf0 bf1 bf2 bf3 hu1 hk2
  have a0 := hk.keep (show ((w.alloc (.cells #[.int .i64 id, .string nm, .int .i64 z, .slice A xs.length c] 26)).alloc (.cells #[.int .i64 0, .string { data := #[] }, .int .i64 0, .slice none 0 0] 26)).cell? ⟨w.heap.size, 0, none⟩ = some (.int .i64 id) by simp [go_sem])
  have af0 := hk.free (show ((w.alloc (.cells #[.int .i64 id, .string nm, .int .i64 z, .slice A xs.length c] 26)).alloc (.cells #[.int .i64 0, .string { data := #[] }, .int .i64 0, .slice none 0 0] 26)).cell? ⟨w.heap.size, 0, none⟩ = some (.int .i64 id) by simp [go_sem]) (by simp [go_sem])
  have a1 := hk.keep (show ((w.alloc (.cells #[.int .i64 id, .string nm, .int .i64 z, .slice A xs.length c] 26)).alloc (.cells #[.int .i64 0, .string { data := #[] }, .int .i64 0, .slice none 0 0] 26)).cell? ⟨w.heap.size, 1, none⟩ = some (.string nm) by simp [go_sem])
  have af1 := hk.free (show ((w.alloc (.cells #[.int .i64 id, .string nm, .int .i64 z, .slice A xs.length c] 26)).alloc (.cells #[.int .i64 0, .string { data := #[] }, .int .i64 0, .slice none 0 0] 26)).cell? ⟨w.heap.size, 1, none⟩ = some (.string nm) by simp [go_sem]) (by simp [go_sem])
  have a2 := hk.keep (show ((w.alloc (.cells #[.int .i64 id, .string nm, .int .i64 z, .slice A xs.length c] 26)).alloc (.cells #[.int .i64 0, .string { data := #[] }, .int .i64 0, .slice none 0 0] 26)).cell? ⟨w.heap.size, 2, none⟩ = some (.int .i64 z) by simp [go_sem])
  have af2 := hk.free (show ((w.alloc (.cells #[.int .i64 id, .string nm, .int .i64 z, .slice A xs.length c] 26)).alloc (.cells #[.int .i64 0, .string { data := #[] }, .int .i64 0, .slice none 0 0] 26)).cell? ⟨w.heap.size, 2, none⟩ = some (.int .i64 z) by simp [go_sem]) (by simp [go_sem])
  have a3 := hk.keep (show ((w.alloc (.cells #[.int .i64 id, .string nm, .int .i64 z, .slice A xs.length c] 26)).alloc (.cells #[.int .i64 0, .string { data := #[] }, .int .i64 0, .slice none 0 0] 26)).cell? ⟨w.heap.size, 3, none⟩ = some (.slice A xs.length c) by simp [go_sem])
  have af3 := hk.free (show ((w.alloc (.cells #[.int .i64 id, .string nm, .int .i64 z, .slice A xs.length c] 26)).alloc (.cells #[.int .i64 0, .string { data := #[] }, .int .i64 0, .slice none 0 0] 26)).cell? ⟨w.heap.size, 3, none⟩ = some (.slice A xs.length c) by simp [go_sem]) (by simp [go_sem])
  have b0 := hk.keep (show ((w.alloc (.cells #[.int .i64 id, .string nm, .int .i64 z, .slice A xs.length c] 26)).alloc (.cells #[.int .i64 0, .string { data := #[] }, .int .i64 0, .slice none 0 0] 26)).cell? ⟨w.heap.size + 1, 0, none⟩ = some (.int .i64 0) by simp [go_sem])
  have bf0 := hk.free (show ((w.alloc (.cells #[.int .i64 id, .string nm, .int .i64 z, .slice A xs.length c] 26)).alloc (.cells #[.int .i64 0, .string { data := #[] }, .int .i64 0, .slice none 0 0] 26)).cell? ⟨w.heap.size + 1, 0, none⟩ = some (.int .i64 0) by simp [go_sem]) (by simp [go_sem])
  have b1 := hk.keep (show ((w.alloc (.cells #[.int .i64 id, .string nm, .int .i64 z, .slice A xs.length c] 26)).alloc (.cells #[.int .i64 0, .string { data := #[] }, .int .i64 0, .slice none 0 0] 26)).cell? ⟨w.heap.size + 1, 1, none⟩ = some (.string { data := #[] }) by simp [go_sem])
  have bf1 := hk.free (show ((w.alloc (.cells #[.int .i64 id, .string nm, .int .i64 z, .slice A xs.length c] 26)).alloc (.cells #[.int .i64 0, .string { data := #[] }, .int .i64 0, .slice none 0 0] 26)).cell? ⟨w.heap.size + 1, 1, none⟩ = some (.string { data := #[] }) by simp [go_sem]) (by simp [go_sem])
  have b2 := hk.keep (show ((w.alloc (.cells #[.int .i64 id, .string nm, .int .i64 z, .slice A xs.length c] 26)).alloc (.cells #[.int .i64 0, .string { data := #[] }, .int .i64 0, .slice none 0 0] 26)).cell? ⟨w.heap.size + 1, 2, none⟩ = some (.int .i64 0) by simp [go_sem])
  have bf2 := hk.free (show ((w.alloc (.cells #[.int .i64 id, .string nm, .int .i64 z, .slice A xs.length c] 26)).alloc (.cells #[.int .i64 0, .string { data := #[] }, .int .i64 0, .slice none 0 0] 26)).cell? ⟨w.heap.size + 1, 2, none⟩ = some (.int .i64 0) by simp [go_sem]) (by simp [go_sem])
  have b3 := hk.keep (show ((w.alloc (.cells #[.int .i64 id, .string nm, .int .i64 z, .slice A xs.length c] 26)).alloc (.cells #[.int .i64 0, .string { data := #[] }, .int .i64 0, .slice none 0 0] 26)).cell? ⟨w.heap.size + 1, 3, none⟩ = some (.slice none 0 0) by simp [go_sem])
  have bf3 := hk.free (show ((w.alloc (.cells #[.int .i64 id, .string nm, .int .i64 z, .slice A xs.length c] 26)).alloc (.cells #[.int .i64 0, .string { data := #[] }, .int .i64 0, .slice none 0 0] 26)).cell? ⟨w.heap.size + 1, 3, none⟩ = some (.slice none 0 0) by simp [go_sem]) (by simp [go_sem])
  clear hk
  have hU0 := HU.out
  rw [← mix_0 xs (z - to)] at hU0
  have HU0 := Lib.hid hU0
  clear hU0
  go_wp2_with fail
  go_loopw [22] (fun i wr => ∃ k : Nat, k ≤ xs.length ∧ i = .int .i64 (k : Int) ∧ Kept ((w.alloc (.cells #[.int .i64 id, .string nm, .int .i64 z, .slice A xs.length c] 26)).alloc (.cells #[.int .i64 0, .string { data := #[] }, .int .i64 0, .slice none 0 0] 26)) wr ∧ wr.ownsRow w1.heap.size 28 2 (.slice A1 xs.length c1) xs.length ((mixL xs (z - to) k).flatMap pairC) ∧ (wr.cell? ⟨w2.heap.size, 0, none⟩ = some (.int .i64 id) ∧ wr.cell? ⟨w2.heap.size, 1, none⟩ = some (.string nm) ∧ wr.cell? ⟨w2.heap.size, 2, none⟩ = some (.int .i64 z) ∧ wr.cell? ⟨w2.heap.size, 3, none⟩ = some (.slice A1 xs.length c1) ∧ wr.frozen? ⟨w2.heap.size, 2, none⟩ = false)) (fun i _ => xs.length - (intOf i).toNat)
  case atStart => exact ⟨0, by omega, rfl, Kept.alloc HK2.out _, by
    have h := HU0.out
    rw [mix_len (Nat.zero_le _), mix_0] at h
    rw [mix_0]
    exact h.alloc _, by simp [go_sem], by simp [go_sem], by simp [go_sem], by simp [go_sem], by simp [go_sem]⟩
  case round =>
    obtain ⟨k, hk, rfl, hkw, hown, e0, e1, e2, e3, ef2⟩ := hrel
    have HO := Lib.hid hown
    have HQ := Lib.hid hkw
    clear hown a0 a1 a2 a3 b0 b1 b2 b3 af0 af1 af2 af3 bf0 bf1 bf2 bf3
    have a0 := hkw.keep (show ((w.alloc (.cells #[.int .i64 id, .string nm, .int .i64 z, .slice A xs.length c] 26)).alloc (.cells #[.int .i64 0, .string { data := #[] }, .int .i64 0, .slice none 0 0] 26)).cell? ⟨w.heap.size, 0, none⟩ = some (.int .i64 id) by simp [go_sem])
    have af0 := hkw.free (show ((w.alloc (.cells #[.int .i64 id, .string nm, .int .i64 z, .slice A xs.length c] 26)).alloc (.cells #[.int .i64 0, .string { data := #[] }, .int .i64 0, .slice none 0 0] 26)).cell? ⟨w.heap.size, 0, none⟩ = some (.int .i64 id) by simp [go_sem]) (by simp [go_sem])
    have a1 := hkw.keep (show ((w.alloc (.cells #[.int .i64 id, .string nm, .int .i64 z, .slice A xs.length c] 26)).alloc (.cells #[.int .i64 0, .string { data := #[] }, .int .i64 0, .slice none 0 0] 26)).cell? ⟨w.heap.size, 1, none⟩ = some (.string nm) by simp [go_sem])
    have af1 := hkw.free (show ((w.alloc (.cells #[.int .i64 id, .string nm, .int .i64 z, .slice A xs.length c] 26)).alloc (.cells #[.int .i64 0, .string { data := #[] }, .int .i64 0, .slice none 0 0] 26)).cell? ⟨w.heap.size, 1, none⟩ = some (.string nm) by simp [go_sem]) (by simp [go_sem])
    have a2 := hkw.keep (show ((w.alloc (.cells #[.int .i64 id, .string nm, .int .i64 z, .slice A xs.length c] 26)).alloc (.cells #[.int .i64 0, .string { data := #[] }, .int .i64 0, .slice none 0 0] 26)).cell? ⟨w.heap.size, 2, none⟩ = some (.int .i64 z) by simp [go_sem])
    have af2 := hkw.free (show ((w.alloc (.cells #[.int .i64 id, .string nm, .int .i64 z, .slice A xs.length c] 26)).alloc (.cells #[.int .i64 0, .string { data := #[] }, .int .i64 0, .slice none 0 0] 26)).cell? ⟨w.heap.size, 2, none⟩ = some (.int .i64 z) by simp [go_sem]) (by simp [go_sem])
    have a3 := hkw.keep (show ((w.alloc (.cells #[.int .i64 id, .string nm, .int .i64 z, .slice A xs.length c] 26)).alloc (.cells #[.int .i64 0, .string { data := #[] }, .int .i64 0, .slice none 0 0] 26)).cell? ⟨w.heap.size, 3, none⟩ = some (.slice A xs.length c) by simp [go_sem])
    have af3 := hkw.free (show ((w.alloc (.cells #[.int .i64 id, .string nm, .int .i64 z, .slice A xs.length c] 26)).alloc (.cells #[.int .i64 0, .string { data := #[] }, .int .i64 0, .slice none 0 0] 26)).cell? ⟨w.heap.size, 3, none⟩ = some (.slice A xs.length c) by simp [go_sem]) (by simp [go_sem])
    have b0 := hkw.keep (show ((w.alloc (.cells #[.int .i64 id, .string nm, .int .i64 z, .slice A xs.length c] 26)).alloc (.cells #[.int .i64 0, .string { data := #[] }, .int .i64 0, .slice none 0 0] 26)).cell? ⟨w.heap.size + 1, 0, none⟩ = some (.int .i64 0) by simp [go_sem])
    have bf0 := hkw.free (show ((w.alloc (.cells #[.int .i64 id, .string nm, .int .i64 z, .slice A xs.length c] 26)).alloc (.cells #[.int .i64 0, .string { data := #[] }, .int .i64 0, .slice none 0 0] 26)).cell? ⟨w.heap.size + 1, 0, none⟩ = some (.int .i64 0) by simp [go_sem]) (by simp [go_sem])
    have b1 := hkw.keep (show ((w.alloc (.cells #[.int .i64 id, .string nm, .int .i64 z, .slice A xs.length c] 26)).alloc (.cells #[.int .i64 0, .string { data := #[] }, .int .i64 0, .slice none 0 0] 26)).cell? ⟨w.heap.size + 1, 1, none⟩ = some (.string { data := #[] }) by simp [go_sem])
    have bf1 := hkw.free (show ((w.alloc (.cells #[.int .i64 id, .string nm, .int .i64 z, .slice A xs.length c] 26)).alloc (.cells #[.int .i64 0, .string { data := #[] }, .int .i64 0, .slice none 0 0] 26)).cell? ⟨w.heap.size + 1, 1, none⟩ = some (.string { data := #[] }) by simp [go_sem]) (by simp [go_sem])
    have b2 := hkw.keep (show ((w.alloc (.cells #[.int .i64 id, .string nm, .int .i64 z, .slice A xs.length c] 26)).alloc (.cells #[.int .i64 0, .string { data := #[] }, .int .i64 0, .slice none 0 0] 26)).cell? ⟨w.heap.size + 1, 2, none⟩ = some (.int .i64 0) by simp [go_sem])
    have bf2 := hkw.free (show ((w.alloc (.cells #[.int .i64 id, .string nm, .int .i64 z, .slice A xs.length c] 26)).alloc (.cells #[.int .i64 0, .string { data := #[] }, .int .i64 0, .slice none 0 0] 26)).cell? ⟨w.heap.size + 1, 2, none⟩ = some (.int .i64 0) by simp [go_sem]) (by simp [go_sem])
    have b3 := hkw.keep (show ((w.alloc (.cells #[.int .i64 id, .string nm, .int .i64 z, .slice A xs.length c] 26)).alloc (.cells #[.int .i64 0, .string { data := #[] }, .int .i64 0, .slice none 0 0] 26)).cell? ⟨w.heap.size + 1, 3, none⟩ = some (.slice none 0 0) by simp [go_sem])
    have bf3 := hkw.free (show ((w.alloc (.cells #[.int .i64 id, .string nm, .int .i64 z, .slice A xs.length c] 26)).alloc (.cells #[.int .i64 0, .string { data := #[] }, .int .i64 0, .slice none 0 0] 26)).cell? ⟨w.heap.size + 1, 3, none⟩ = some (.slice none 0 0) by simp [go_sem]) (by simp [go_sem])
    clear hkw
    by_cases hlt : k < xs.length
    · obtain ⟨g, rfl, hg2, hg3⟩ := hg1 (by omega)
      obtain ⟨-, ⟨q1, q2⟩, -⟩ := gaugeB_at H1.out hlt
      have x1 : wr.cell? ⟨g, k * 2 + 1, none⟩ = some (.int .i64 (P2 xs k)) := (HO.out.cellAt _ (by omega)).trans (mix_get hlt)
      have xf : wr.frozen? ⟨g, k * 2 + 1, none⟩ = false := HO.out.frozenAt _
      have k0 : (0 : Int) ≤ (k : Int) := by omega
      have k1 : (k : Int) < (xs.length : Int) := by omega
      have n1 : ¬ g = w2.heap.size := by omega
      have n2 : ¬ w2.heap.size = g := by omega
      have HW := Lib.hid (HO.out.stored (k * 2 + 1) (.int .i64 (P2 xs k + (z - to))))
      have HM := Lib.hid (mix_set (d := z - to) hlt)
      go_wp2_with fail
      have w1' : IntKind.i64.wrap (z - to) = z - to := IntWalk.i64_in _ (by omega)
      have w2' : IntKind.i64.wrap (P2 xs k + (z - to)) = P2 xs k + (z - to) := IntWalk.i64_in _ (by omega)
      go_region
      clear w1' w2'
      go_wp2_with fail
      have hb1 : w.heap.size + 1 + 1 ≤ w1.heap.size := by simpa using HK1.out.size
      go_roundw
      case rel => exact ⟨k + 1, by omega, by go_num, (HQ.out.setCell (by simp; omega) _).drew, by rw [← HM.out]; exact HW.out.1.drew, by simp [go_sem, *], by simp [go_sem, *], by simp [go_sem, *], by simp [go_sem, *], by simp [go_sem, *]⟩
      case measure => simp [intOf]; omega
    · have e : k = xs.length := by omega
      subst e
      have hO := HO.out
      rw [mix_all] at hO
      have hne : (Value.slice A1 xs.length c1).ownBlock ≠ some w2.heap.size := fun h => by
        have := (HU.out.lt _ h).2
        omega
      have hb1 : w.heap.size + 1 + 1 ≤ w1.heap.size := by simpa using HK1.out.size
      have hb2 : w.heap.size + 1 + 1 ≤ w2.heap.size := by simpa using HK2.out.size
      have hS := ownsRow_setCell_other hO (a := ⟨w2.heap.size, 2, none⟩) hne (.int .i64 to)
      have LS := Lib.hid (pairs_own (v := .slice A1 xs.length c1) (xs := shiftL xs (z - to)) (by rw [shift_len]; exact hS))
      have OS := Lib.hid hS
      have KS := Lib.hid (HQ.out.setCell (p := ⟨w2.heap.size, 2, none⟩) (by simp; omega) (.int .i64 to))
      clear hO hS hne
      cases h3 : gaugeB id nm to (shiftL xs (z - to))
      · have HV := Lib.hid (sz_no (show szOk id nm z xs to = false by simp [szOk, H1.out, H2.out, h3]))
        go_wp2_with fail
        refine (asGauge_any id nm to (.slice A1 xs.length c1) (shiftL xs (z - to)) hs _ (by exact LS.out)).mono ?_
        rintro e w3 ⟨rfl, hk3⟩
        rw [asG_no h3, h3]
        have hk := KS.out.trans hk3
        have OF := Lib.hid (own_kept OS.out hk3)
        clear e0 e1 e2 e3 ef2 a0 a1 a2 a3 b0 b1 b2 b3 af0 af1 af2 af3 bf0 bf1 bf2 bf3 hk3
        have a0 := hk.keep (show ((w.alloc (.cells #[.int .i64 id, .string nm, .int .i64 z, .slice A xs.length c] 26)).alloc (.cells #[.int .i64 0, .string { data := #[] }, .int .i64 0, .slice none 0 0] 26)).cell? ⟨w.heap.size, 0, none⟩ = some (.int .i64 id) by simp [go_sem])
        have af0 := hk.free (show ((w.alloc (.cells #[.int .i64 id, .string nm, .int .i64 z, .slice A xs.length c] 26)).alloc (.cells #[.int .i64 0, .string { data := #[] }, .int .i64 0, .slice none 0 0] 26)).cell? ⟨w.heap.size, 0, none⟩ = some (.int .i64 id) by simp [go_sem]) (by simp [go_sem])
        have a1 := hk.keep (show ((w.alloc (.cells #[.int .i64 id, .string nm, .int .i64 z, .slice A xs.length c] 26)).alloc (.cells #[.int .i64 0, .string { data := #[] }, .int .i64 0, .slice none 0 0] 26)).cell? ⟨w.heap.size, 1, none⟩ = some (.string nm) by simp [go_sem])
        have af1 := hk.free (show ((w.alloc (.cells #[.int .i64 id, .string nm, .int .i64 z, .slice A xs.length c] 26)).alloc (.cells #[.int .i64 0, .string { data := #[] }, .int .i64 0, .slice none 0 0] 26)).cell? ⟨w.heap.size, 1, none⟩ = some (.string nm) by simp [go_sem]) (by simp [go_sem])
        have a2 := hk.keep (show ((w.alloc (.cells #[.int .i64 id, .string nm, .int .i64 z, .slice A xs.length c] 26)).alloc (.cells #[.int .i64 0, .string { data := #[] }, .int .i64 0, .slice none 0 0] 26)).cell? ⟨w.heap.size, 2, none⟩ = some (.int .i64 z) by simp [go_sem])
        have af2 := hk.free (show ((w.alloc (.cells #[.int .i64 id, .string nm, .int .i64 z, .slice A xs.length c] 26)).alloc (.cells #[.int .i64 0, .string { data := #[] }, .int .i64 0, .slice none 0 0] 26)).cell? ⟨w.heap.size, 2, none⟩ = some (.int .i64 z) by simp [go_sem]) (by simp [go_sem])
        have a3 := hk.keep (show ((w.alloc (.cells #[.int .i64 id, .string nm, .int .i64 z, .slice A xs.length c] 26)).alloc (.cells #[.int .i64 0, .string { data := #[] }, .int .i64 0, .slice none 0 0] 26)).cell? ⟨w.heap.size, 3, none⟩ = some (.slice A xs.length c) by simp [go_sem])
        have af3 := hk.free (show ((w.alloc (.cells #[.int .i64 id, .string nm, .int .i64 z, .slice A xs.length c] 26)).alloc (.cells #[.int .i64 0, .string { data := #[] }, .int .i64 0, .slice none 0 0] 26)).cell? ⟨w.heap.size, 3, none⟩ = some (.slice A xs.length c) by simp [go_sem]) (by simp [go_sem])
        have b0 := hk.keep (show ((w.alloc (.cells #[.int .i64 id, .string nm, .int .i64 z, .slice A xs.length c] 26)).alloc (.cells #[.int .i64 0, .string { data := #[] }, .int .i64 0, .slice none 0 0] 26)).cell? ⟨w.heap.size + 1, 0, none⟩ = some (.int .i64 0) by simp [go_sem])
        have bf0 := hk.free (show ((w.alloc (.cells #[.int .i64 id, .string nm, .int .i64 z, .slice A xs.length c] 26)).alloc (.cells #[.int .i64 0, .string { data := #[] }, .int .i64 0, .slice none 0 0] 26)).cell? ⟨w.heap.size + 1, 0, none⟩ = some (.int .i64 0) by simp [go_sem]) (by simp [go_sem])
        have b1 := hk.keep (show ((w.alloc (.cells #[.int .i64 id, .string nm, .int .i64 z, .slice A xs.length c] 26)).alloc (.cells #[.int .i64 0, .string { data := #[] }, .int .i64 0, .slice none 0 0] 26)).cell? ⟨w.heap.size + 1, 1, none⟩ = some (.string { data := #[] }) by simp [go_sem])
        have bf1 := hk.free (show ((w.alloc (.cells #[.int .i64 id, .string nm, .int .i64 z, .slice A xs.length c] 26)).alloc (.cells #[.int .i64 0, .string { data := #[] }, .int .i64 0, .slice none 0 0] 26)).cell? ⟨w.heap.size + 1, 1, none⟩ = some (.string { data := #[] }) by simp [go_sem]) (by simp [go_sem])
        have b2 := hk.keep (show ((w.alloc (.cells #[.int .i64 id, .string nm, .int .i64 z, .slice A xs.length c] 26)).alloc (.cells #[.int .i64 0, .string { data := #[] }, .int .i64 0, .slice none 0 0] 26)).cell? ⟨w.heap.size + 1, 2, none⟩ = some (.int .i64 0) by simp [go_sem])
        have bf2 := hk.free (show ((w.alloc (.cells #[.int .i64 id, .string nm, .int .i64 z, .slice A xs.length c] 26)).alloc (.cells #[.int .i64 0, .string { data := #[] }, .int .i64 0, .slice none 0 0] 26)).cell? ⟨w.heap.size + 1, 2, none⟩ = some (.int .i64 0) by simp [go_sem]) (by simp [go_sem])
        have b3 := hk.keep (show ((w.alloc (.cells #[.int .i64 id, .string nm, .int .i64 z, .slice A xs.length c] 26)).alloc (.cells #[.int .i64 0, .string { data := #[] }, .int .i64 0, .slice none 0 0] 26)).cell? ⟨w.heap.size + 1, 3, none⟩ = some (.slice none 0 0) by simp [go_sem])
        have bf3 := hk.free (show ((w.alloc (.cells #[.int .i64 id, .string nm, .int .i64 z, .slice A xs.length c] 26)).alloc (.cells #[.int .i64 0, .string { data := #[] }, .int .i64 0, .slice none 0 0] 26)).cell? ⟨w.heap.size + 1, 3, none⟩ = some (.slice none 0 0) by simp [go_sem]) (by simp [go_sem])
        have HKF := Lib.hid ((Kept.alloc (Kept.alloc (Kept.refl w) _) _).trans hk)
        clear hk
        go_wp2_with fail
        exact bodyPost_ret (v := .tuple #[noG, .bool false]) (by simp [results, Try.results23, go_sem, noG, *]) rfl ⟨_, HV.out.1, by rw [HV.out.2]; exact World.ownsRow_nil _ _ _ _, ((((HKF.out.setCell (by simp) _).setCell (by simp) _).setCell (by simp) _).setCell (by simp) _)⟩
      · have HV := Lib.hid (sz_yes (u := .slice A1 xs.length c1) (show szOk id nm z xs to = true by simp [szOk, H1.out, H2.out, h3]))
        go_wp2_with fail
        refine (asGauge_any id nm to (.slice A1 xs.length c1) (shiftL xs (z - to)) hs _ (by exact LS.out)).mono ?_
        rintro e w3 ⟨rfl, hk3⟩
        rw [asG_yes h3, h3]
        have hk := KS.out.trans hk3
        have OF := Lib.hid (own_kept OS.out hk3)
        clear e0 e1 e2 e3 ef2 a0 a1 a2 a3 b0 b1 b2 b3 af0 af1 af2 af3 bf0 bf1 bf2 bf3 hk3
        have a0 := hk.keep (show ((w.alloc (.cells #[.int .i64 id, .string nm, .int .i64 z, .slice A xs.length c] 26)).alloc (.cells #[.int .i64 0, .string { data := #[] }, .int .i64 0, .slice none 0 0] 26)).cell? ⟨w.heap.size, 0, none⟩ = some (.int .i64 id) by simp [go_sem])
        have af0 := hk.free (show ((w.alloc (.cells #[.int .i64 id, .string nm, .int .i64 z, .slice A xs.length c] 26)).alloc (.cells #[.int .i64 0, .string { data := #[] }, .int .i64 0, .slice none 0 0] 26)).cell? ⟨w.heap.size, 0, none⟩ = some (.int .i64 id) by simp [go_sem]) (by simp [go_sem])
        have a1 := hk.keep (show ((w.alloc (.cells #[.int .i64 id, .string nm, .int .i64 z, .slice A xs.length c] 26)).alloc (.cells #[.int .i64 0, .string { data := #[] }, .int .i64 0, .slice none 0 0] 26)).cell? ⟨w.heap.size, 1, none⟩ = some (.string nm) by simp [go_sem])
        have af1 := hk.free (show ((w.alloc (.cells #[.int .i64 id, .string nm, .int .i64 z, .slice A xs.length c] 26)).alloc (.cells #[.int .i64 0, .string { data := #[] }, .int .i64 0, .slice none 0 0] 26)).cell? ⟨w.heap.size, 1, none⟩ = some (.string nm) by simp [go_sem]) (by simp [go_sem])
        have a2 := hk.keep (show ((w.alloc (.cells #[.int .i64 id, .string nm, .int .i64 z, .slice A xs.length c] 26)).alloc (.cells #[.int .i64 0, .string { data := #[] }, .int .i64 0, .slice none 0 0] 26)).cell? ⟨w.heap.size, 2, none⟩ = some (.int .i64 z) by simp [go_sem])
        have af2 := hk.free (show ((w.alloc (.cells #[.int .i64 id, .string nm, .int .i64 z, .slice A xs.length c] 26)).alloc (.cells #[.int .i64 0, .string { data := #[] }, .int .i64 0, .slice none 0 0] 26)).cell? ⟨w.heap.size, 2, none⟩ = some (.int .i64 z) by simp [go_sem]) (by simp [go_sem])
        have a3 := hk.keep (show ((w.alloc (.cells #[.int .i64 id, .string nm, .int .i64 z, .slice A xs.length c] 26)).alloc (.cells #[.int .i64 0, .string { data := #[] }, .int .i64 0, .slice none 0 0] 26)).cell? ⟨w.heap.size, 3, none⟩ = some (.slice A xs.length c) by simp [go_sem])
        have af3 := hk.free (show ((w.alloc (.cells #[.int .i64 id, .string nm, .int .i64 z, .slice A xs.length c] 26)).alloc (.cells #[.int .i64 0, .string { data := #[] }, .int .i64 0, .slice none 0 0] 26)).cell? ⟨w.heap.size, 3, none⟩ = some (.slice A xs.length c) by simp [go_sem]) (by simp [go_sem])
        have b0 := hk.keep (show ((w.alloc (.cells #[.int .i64 id, .string nm, .int .i64 z, .slice A xs.length c] 26)).alloc (.cells #[.int .i64 0, .string { data := #[] }, .int .i64 0, .slice none 0 0] 26)).cell? ⟨w.heap.size + 1, 0, none⟩ = some (.int .i64 0) by simp [go_sem])
        have bf0 := hk.free (show ((w.alloc (.cells #[.int .i64 id, .string nm, .int .i64 z, .slice A xs.length c] 26)).alloc (.cells #[.int .i64 0, .string { data := #[] }, .int .i64 0, .slice none 0 0] 26)).cell? ⟨w.heap.size + 1, 0, none⟩ = some (.int .i64 0) by simp [go_sem]) (by simp [go_sem])
        have b1 := hk.keep (show ((w.alloc (.cells #[.int .i64 id, .string nm, .int .i64 z, .slice A xs.length c] 26)).alloc (.cells #[.int .i64 0, .string { data := #[] }, .int .i64 0, .slice none 0 0] 26)).cell? ⟨w.heap.size + 1, 1, none⟩ = some (.string { data := #[] }) by simp [go_sem])
        have bf1 := hk.free (show ((w.alloc (.cells #[.int .i64 id, .string nm, .int .i64 z, .slice A xs.length c] 26)).alloc (.cells #[.int .i64 0, .string { data := #[] }, .int .i64 0, .slice none 0 0] 26)).cell? ⟨w.heap.size + 1, 1, none⟩ = some (.string { data := #[] }) by simp [go_sem]) (by simp [go_sem])
        have b2 := hk.keep (show ((w.alloc (.cells #[.int .i64 id, .string nm, .int .i64 z, .slice A xs.length c] 26)).alloc (.cells #[.int .i64 0, .string { data := #[] }, .int .i64 0, .slice none 0 0] 26)).cell? ⟨w.heap.size + 1, 2, none⟩ = some (.int .i64 0) by simp [go_sem])
        have bf2 := hk.free (show ((w.alloc (.cells #[.int .i64 id, .string nm, .int .i64 z, .slice A xs.length c] 26)).alloc (.cells #[.int .i64 0, .string { data := #[] }, .int .i64 0, .slice none 0 0] 26)).cell? ⟨w.heap.size + 1, 2, none⟩ = some (.int .i64 0) by simp [go_sem]) (by simp [go_sem])
        have b3 := hk.keep (show ((w.alloc (.cells #[.int .i64 id, .string nm, .int .i64 z, .slice A xs.length c] 26)).alloc (.cells #[.int .i64 0, .string { data := #[] }, .int .i64 0, .slice none 0 0] 26)).cell? ⟨w.heap.size + 1, 3, none⟩ = some (.slice none 0 0) by simp [go_sem])
        have bf3 := hk.free (show ((w.alloc (.cells #[.int .i64 id, .string nm, .int .i64 z, .slice A xs.length c] 26)).alloc (.cells #[.int .i64 0, .string { data := #[] }, .int .i64 0, .slice none 0 0] 26)).cell? ⟨w.heap.size + 1, 3, none⟩ = some (.slice none 0 0) by simp [go_sem]) (by simp [go_sem])
        have HKF := Lib.hid ((Kept.alloc (Kept.alloc (Kept.refl w) _) _).trans hk)
        clear hk
        go_wp2_with fail
        exact bodyPost_ret (v := .tuple #[.agg #[.int .i64 id, .string nm, .int .i64 to, .slice A1 xs.length c1], .bool true]) (by simp [results, Try.results23, go_sem, noG, *]) rfl ⟨_, HV.out.1, by rw [HV.out.2]; exact by rw [shift_len]; exact own_base (ownsRow_setCell_below (ownsRow_setCell_below (ownsRow_setCell_below (ownsRow_setCell_below OF.out (by simp; omega) _) (by simp; omega) _) (by simp; omega) _) (by simp; omega) _) (by omega), ((((HKF.out.setCell (by simp) _).setCell (by simp) _).setCell (by simp) _).setCell (by simp) _)⟩
end Go.Proofs.Ytopdnhlolfehcaa

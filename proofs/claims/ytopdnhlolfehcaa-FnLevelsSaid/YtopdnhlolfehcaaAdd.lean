/-
  AddReading: plain values, and the program's contract.
  Conditions: none.
-/
import Derived.Test.YtopdnhlolfehcaaInsert
namespace Go.Proofs.Ytopdnhlolfehcaa
open Go.ChangeShapes Go.WideShapes Go.ChangeAt Go.RowKit
set_option linter.unusedVariables false
set_option linter.unusedSimpArgs false

/-- How many readings are earlier than a time. -/
def atOf : List (Int × Int) → Int → Nat
  | [], _ => 0
  | x :: xs, t => if x.1 < t then atOf xs t + 1 else 0
theorem at_is : ∀ (xs : List (Int × Int)) (t : Int) (k : Nat), k ≤ xs.length → (∀ j, j < k → P1 xs j < t) → (k < xs.length → ¬ P1 xs k < t) → atOf xs t = k
  | [], t, k, h, _, _ => by simp at h; simp [atOf, h]
  | x :: xs, t, 0, _, _, h => by
    have h0 : ¬ x.1 < t := by simpa [P1] using h (by simp)
    simp [atOf, h0]
  | x :: xs, t, k + 1, h, h1, h2 => by
    have h0 : x.1 < t := by simpa [P1] using h1 0 (by omega)
    have ih := at_is xs t k (by simpa using h) (fun j hj => by simpa [P1] using h1 (j + 1) (by omega)) (fun hk => by simpa [P1] using h2 (by simpa using hk))
    simp [atOf, h0, ih]
def adS (xs : List (Int × Int)) (rt : Int) : Bool := decide (atOf xs rt < xs.length) && decide (P1 xs (atOf xs rt) = rt)
/-- The readings with one put in. -/
def adL (xs : List (Int × Int)) (rt rl : Int) : List (Int × Int) := if adS xs rt = true then xs.take (atOf xs rt) ++ [(rt, rl)] ++ xs.drop (atOf xs rt + 1) else xs.take (atOf xs rt) ++ [(rt, rl)] ++ xs.drop (atOf xs rt)
theorem ad_same {xs : List (Int × Int)} {rt rl : Int} {k : Nat} (h : atOf xs rt = k) (hk : k < xs.length) (e : P1 xs k = rt) : adL xs rt rl = xs.take k ++ [(rt, rl)] ++ xs.drop (k + 1) := by
  simp [adL, adS, h, hk, e]
theorem ad_new {xs : List (Int × Int)} {rt rl : Int} {k : Nat} (h : atOf xs rt = k) (e : k < xs.length → ¬ P1 xs k = rt) : adL xs rt rl = xs.take k ++ [(rt, rl)] ++ xs.drop k := by
  have : adS xs rt = false := by
    unfold adS
    rw [h]
    by_cases hk : k < xs.length
    · simp [e hk]
    · simp [hk]
  simp [adL, this, h]
def adOk (id : Int) (nm : ByteArray) (z : Int) (xs : List (Int × Int)) (rt rl : Int) : Bool := gaugeB id nm z xs && gaugeB id nm z (adL xs rt rl)
def adV (id : Int) (nm : ByteArray) (z : Int) (xs : List (Int × Int)) (rt rl : Int) : List (Int × Int) := if adOk id nm z xs rt rl = true then adL xs rt rl else []
theorem ad_no {id : Int} {nm : ByteArray} {z : Int} {xs : List (Int × Int)} {rt rl : Int} (h : adOk id nm z xs rt rl = false) : Ending.returned (.tuple #[noG, .bool false]) = .returned (.tuple #[szG (adOk id nm z xs rt rl) id nm z (.slice none 0 0), .bool (adOk id nm z xs rt rl)]) ∧ adV id nm z xs rt rl = [] := by
  simp [szG, adV, h, noG]
theorem ad_len (xs : List (Int × Int)) (rt rl : Int) : (adL xs rt rl).length ≤ xs.length + 1 := by
  unfold adL
  split <;> simp <;> omega
theorem flat_take (xs : List (Int × Int)) (k : Nat) : (xs.flatMap pairC).take (k * 2) = (xs.take k).flatMap pairC := by
  induction k generalizing xs with
  | zero => simp
  | succ k ih =>
    cases xs with
    | nil => simp
    | cons x xs =>
      rw [show (k + 1) * 2 = k * 2 + 2 by omega]
      simp [List.flatMap_cons, pairC, ih]
theorem flat_drop (xs : List (Int × Int)) (k : Nat) : (xs.flatMap pairC).drop (k * 2) = (xs.drop k).flatMap pairC := by
  induction k generalizing xs with
  | zero => simp
  | succ k ih =>
    cases xs with
    | nil => simp
    | cons x xs =>
      rw [show (k + 1) * 2 = k * 2 + 2 by omega]
      simp [List.flatMap_cons, pairC, ih]
/-- Two stores put a reading in another's place. -/
theorem flat_put {xs : List (Int × Int)} {k : Nat} (hk : k < xs.length) (a b : Int) : ((xs.flatMap pairC).set (k * 2) (.int .i64 a)).set (k * 2 + 1) (.int .i64 b) = (xs.take k ++ [(a, b)] ++ xs.drop (k + 1)).flatMap pairC := by
  have h := setL_eq [.int .i64 a, .int .i64 b] (k * 2) (xs.flatMap pairC) (by rw [flat_len]; simp; omega)
  have h2 : setL (xs.flatMap pairC) (k * 2) [.int .i64 a, .int .i64 b] = ((xs.flatMap pairC).set (k * 2) (.int .i64 a)).set (k * 2 + 1) (.int .i64 b) := rfl
  rw [h2] at h
  rw [h, flat_take, show k * 2 + [Value.int .i64 a, Value.int .i64 b].length = (k + 1) * 2 by simp; omega, flat_drop, List.flatMap_append, List.flatMap_append]
  simp [pairC]
theorem flat_ins (xs : List (Int × Int)) (k : Nat) (a b : Int) : (xs.flatMap pairC).take (k * 2) ++ [.int .i64 a, .int .i64 b] ++ (xs.flatMap pairC).drop (k * 2) = (xs.take k ++ [(a, b)] ++ xs.drop k).flatMap pairC := by
  rw [flat_take, flat_drop, List.flatMap_append, List.flatMap_append]
  simp [pairC]
theorem ins_len {xs : List (Int × Int)} {k : Nat} (hk : k ≤ xs.length) (p : Int × Int) : (xs.take k ++ [p] ++ xs.drop k).length = xs.length + 1 := by
  simp
  omega
theorem put_len {xs : List (Int × Int)} {k : Nat} (hk : k < xs.length) (p : Int × Int) : (xs.take k ++ [p] ++ xs.drop (k + 1)).length = xs.length := by
  simp
  omega
theorem ad_cells {w W : World} {id z rt rl : Int} {nm : ByteArray} {v : Value} (k : Kept (((w.alloc (.cells #[.int .i64 id, .string nm, .int .i64 z, v] 26)).alloc (.cells #[.int .i64 rt, .int .i64 rl] 28)).alloc (.cells #[.int .i64 0, .string { data := #[] }, .int .i64 0, .slice none 0 0] 26)) W) : W.cell? ⟨w.heap.size, 0, none⟩ = some (.int .i64 id) ∧ W.frozen? ⟨w.heap.size, 0, none⟩ = false ∧ W.cell? ⟨w.heap.size, 1, none⟩ = some (.string nm) ∧ W.frozen? ⟨w.heap.size, 1, none⟩ = false ∧ W.cell? ⟨w.heap.size, 2, none⟩ = some (.int .i64 z) ∧ W.frozen? ⟨w.heap.size, 2, none⟩ = false ∧ W.cell? ⟨w.heap.size, 3, none⟩ = some v ∧ W.frozen? ⟨w.heap.size, 3, none⟩ = false ∧ W.cell? ⟨w.heap.size + 1, 0, none⟩ = some (.int .i64 rt) ∧ W.frozen? ⟨w.heap.size + 1, 0, none⟩ = false ∧ W.cell? ⟨w.heap.size + 1, 1, none⟩ = some (.int .i64 rl) ∧ W.frozen? ⟨w.heap.size + 1, 1, none⟩ = false ∧ W.cell? ⟨w.heap.size + 1 + 1, 0, none⟩ = some (.int .i64 0) ∧ W.frozen? ⟨w.heap.size + 1 + 1, 0, none⟩ = false ∧ W.cell? ⟨w.heap.size + 1 + 1, 1, none⟩ = some (.string { data := #[] }) ∧ W.frozen? ⟨w.heap.size + 1 + 1, 1, none⟩ = false ∧ W.cell? ⟨w.heap.size + 1 + 1, 2, none⟩ = some (.int .i64 0) ∧ W.frozen? ⟨w.heap.size + 1 + 1, 2, none⟩ = false ∧ W.cell? ⟨w.heap.size + 1 + 1, 3, none⟩ = some (.slice none 0 0) ∧ W.frozen? ⟨w.heap.size + 1 + 1, 3, none⟩ = false :=
  ⟨k.keep (show (((w.alloc (.cells #[.int .i64 id, .string nm, .int .i64 z, v] 26)).alloc (.cells #[.int .i64 rt, .int .i64 rl] 28)).alloc (.cells #[.int .i64 0, .string { data := #[] }, .int .i64 0, .slice none 0 0] 26)).cell? ⟨w.heap.size, 0, none⟩ = some (.int .i64 id) by simp [go_sem]), k.free (show (((w.alloc (.cells #[.int .i64 id, .string nm, .int .i64 z, v] 26)).alloc (.cells #[.int .i64 rt, .int .i64 rl] 28)).alloc (.cells #[.int .i64 0, .string { data := #[] }, .int .i64 0, .slice none 0 0] 26)).cell? ⟨w.heap.size, 0, none⟩ = some (.int .i64 id) by simp [go_sem]) (by simp [go_sem]), k.keep (show (((w.alloc (.cells #[.int .i64 id, .string nm, .int .i64 z, v] 26)).alloc (.cells #[.int .i64 rt, .int .i64 rl] 28)).alloc (.cells #[.int .i64 0, .string { data := #[] }, .int .i64 0, .slice none 0 0] 26)).cell? ⟨w.heap.size, 1, none⟩ = some (.string nm) by simp [go_sem]), k.free (show (((w.alloc (.cells #[.int .i64 id, .string nm, .int .i64 z, v] 26)).alloc (.cells #[.int .i64 rt, .int .i64 rl] 28)).alloc (.cells #[.int .i64 0, .string { data := #[] }, .int .i64 0, .slice none 0 0] 26)).cell? ⟨w.heap.size, 1, none⟩ = some (.string nm) by simp [go_sem]) (by simp [go_sem]), k.keep (show (((w.alloc (.cells #[.int .i64 id, .string nm, .int .i64 z, v] 26)).alloc (.cells #[.int .i64 rt, .int .i64 rl] 28)).alloc (.cells #[.int .i64 0, .string { data := #[] }, .int .i64 0, .slice none 0 0] 26)).cell? ⟨w.heap.size, 2, none⟩ = some (.int .i64 z) by simp [go_sem]), k.free (show (((w.alloc (.cells #[.int .i64 id, .string nm, .int .i64 z, v] 26)).alloc (.cells #[.int .i64 rt, .int .i64 rl] 28)).alloc (.cells #[.int .i64 0, .string { data := #[] }, .int .i64 0, .slice none 0 0] 26)).cell? ⟨w.heap.size, 2, none⟩ = some (.int .i64 z) by simp [go_sem]) (by simp [go_sem]), k.keep (show (((w.alloc (.cells #[.int .i64 id, .string nm, .int .i64 z, v] 26)).alloc (.cells #[.int .i64 rt, .int .i64 rl] 28)).alloc (.cells #[.int .i64 0, .string { data := #[] }, .int .i64 0, .slice none 0 0] 26)).cell? ⟨w.heap.size, 3, none⟩ = some v by simp [go_sem]), k.free (show (((w.alloc (.cells #[.int .i64 id, .string nm, .int .i64 z, v] 26)).alloc (.cells #[.int .i64 rt, .int .i64 rl] 28)).alloc (.cells #[.int .i64 0, .string { data := #[] }, .int .i64 0, .slice none 0 0] 26)).cell? ⟨w.heap.size, 3, none⟩ = some v by simp [go_sem]) (by simp [go_sem]), k.keep (show (((w.alloc (.cells #[.int .i64 id, .string nm, .int .i64 z, v] 26)).alloc (.cells #[.int .i64 rt, .int .i64 rl] 28)).alloc (.cells #[.int .i64 0, .string { data := #[] }, .int .i64 0, .slice none 0 0] 26)).cell? ⟨w.heap.size + 1, 0, none⟩ = some (.int .i64 rt) by simp [go_sem]), k.free (show (((w.alloc (.cells #[.int .i64 id, .string nm, .int .i64 z, v] 26)).alloc (.cells #[.int .i64 rt, .int .i64 rl] 28)).alloc (.cells #[.int .i64 0, .string { data := #[] }, .int .i64 0, .slice none 0 0] 26)).cell? ⟨w.heap.size + 1, 0, none⟩ = some (.int .i64 rt) by simp [go_sem]) (by simp [go_sem]), k.keep (show (((w.alloc (.cells #[.int .i64 id, .string nm, .int .i64 z, v] 26)).alloc (.cells #[.int .i64 rt, .int .i64 rl] 28)).alloc (.cells #[.int .i64 0, .string { data := #[] }, .int .i64 0, .slice none 0 0] 26)).cell? ⟨w.heap.size + 1, 1, none⟩ = some (.int .i64 rl) by simp [go_sem]), k.free (show (((w.alloc (.cells #[.int .i64 id, .string nm, .int .i64 z, v] 26)).alloc (.cells #[.int .i64 rt, .int .i64 rl] 28)).alloc (.cells #[.int .i64 0, .string { data := #[] }, .int .i64 0, .slice none 0 0] 26)).cell? ⟨w.heap.size + 1, 1, none⟩ = some (.int .i64 rl) by simp [go_sem]) (by simp [go_sem]), k.keep (show (((w.alloc (.cells #[.int .i64 id, .string nm, .int .i64 z, v] 26)).alloc (.cells #[.int .i64 rt, .int .i64 rl] 28)).alloc (.cells #[.int .i64 0, .string { data := #[] }, .int .i64 0, .slice none 0 0] 26)).cell? ⟨w.heap.size + 1 + 1, 0, none⟩ = some (.int .i64 0) by simp [go_sem]), k.free (show (((w.alloc (.cells #[.int .i64 id, .string nm, .int .i64 z, v] 26)).alloc (.cells #[.int .i64 rt, .int .i64 rl] 28)).alloc (.cells #[.int .i64 0, .string { data := #[] }, .int .i64 0, .slice none 0 0] 26)).cell? ⟨w.heap.size + 1 + 1, 0, none⟩ = some (.int .i64 0) by simp [go_sem]) (by simp [go_sem]), k.keep (show (((w.alloc (.cells #[.int .i64 id, .string nm, .int .i64 z, v] 26)).alloc (.cells #[.int .i64 rt, .int .i64 rl] 28)).alloc (.cells #[.int .i64 0, .string { data := #[] }, .int .i64 0, .slice none 0 0] 26)).cell? ⟨w.heap.size + 1 + 1, 1, none⟩ = some (.string { data := #[] }) by simp [go_sem]), k.free (show (((w.alloc (.cells #[.int .i64 id, .string nm, .int .i64 z, v] 26)).alloc (.cells #[.int .i64 rt, .int .i64 rl] 28)).alloc (.cells #[.int .i64 0, .string { data := #[] }, .int .i64 0, .slice none 0 0] 26)).cell? ⟨w.heap.size + 1 + 1, 1, none⟩ = some (.string { data := #[] }) by simp [go_sem]) (by simp [go_sem]), k.keep (show (((w.alloc (.cells #[.int .i64 id, .string nm, .int .i64 z, v] 26)).alloc (.cells #[.int .i64 rt, .int .i64 rl] 28)).alloc (.cells #[.int .i64 0, .string { data := #[] }, .int .i64 0, .slice none 0 0] 26)).cell? ⟨w.heap.size + 1 + 1, 2, none⟩ = some (.int .i64 0) by simp [go_sem]), k.free (show (((w.alloc (.cells #[.int .i64 id, .string nm, .int .i64 z, v] 26)).alloc (.cells #[.int .i64 rt, .int .i64 rl] 28)).alloc (.cells #[.int .i64 0, .string { data := #[] }, .int .i64 0, .slice none 0 0] 26)).cell? ⟨w.heap.size + 1 + 1, 2, none⟩ = some (.int .i64 0) by simp [go_sem]) (by simp [go_sem]), k.keep (show (((w.alloc (.cells #[.int .i64 id, .string nm, .int .i64 z, v] 26)).alloc (.cells #[.int .i64 rt, .int .i64 rl] 28)).alloc (.cells #[.int .i64 0, .string { data := #[] }, .int .i64 0, .slice none 0 0] 26)).cell? ⟨w.heap.size + 1 + 1, 3, none⟩ = some (.slice none 0 0) by simp [go_sem]), k.free (show (((w.alloc (.cells #[.int .i64 id, .string nm, .int .i64 z, v] 26)).alloc (.cells #[.int .i64 rt, .int .i64 rl] 28)).alloc (.cells #[.int .i64 0, .string { data := #[] }, .int .i64 0, .slice none 0 0] 26)).cell? ⟨w.heap.size + 1 + 1, 3, none⟩ = some (.slice none 0 0) by simp [go_sem]) (by simp [go_sem])⟩
/-- asGauge's answer in fields, and the row that goes with it. -/
theorem as_form (id : Int) (nm : ByteArray) (z : Int) (xs : List (Int × Int)) (rt rl : Int) (h1 : gaugeB id nm z xs = true) (A : Option Addr) (n c : Nat) (B : Nat) : ∃ I NM Z A' n' c', asG id nm z (.slice A n c) (adL xs rt rl) = .agg #[.int .i64 I, .string NM, .int .i64 Z, .slice A' n' c'] ∧
    Ending.returned (.tuple #[.agg #[.int .i64 I, .string NM, .int .i64 Z, .slice A' n' c'], .bool (gaugeB id nm z (adL xs rt rl))]) = .returned (.tuple #[szG (adOk id nm z xs rt rl) id nm z (.slice A' n' c'), .bool (adOk id nm z xs rt rl)]) ∧
    ∀ W : World, W.ownsRow B 28 2 (.slice A n c) (adL xs rt rl).length ((adL xs rt rl).flatMap pairC) → W.ownsRow B 28 2 (.slice A' n' c') (adV id nm z xs rt rl).length ((adV id nm z xs rt rl).flatMap pairC) := by
  cases h2 : gaugeB id nm z (adL xs rt rl)
  · have h3 : adOk id nm z xs rt rl = false := by simp [adOk, h2]
    refine ⟨0, { data := #[] }, 0, none, 0, 0, asG_no h2, by simp [szG, h3], fun W _ => ?_⟩
    rw [show adV id nm z xs rt rl = [] by simp [adV, h3]]
    exact World.ownsRow_nil _ _ _ _
  · have h3 : adOk id nm z xs rt rl = true := by simp [adOk, h1, h2]
    refine ⟨id, nm, z, A, n, c, asG_yes h2, by simp [szG, h3], fun W h => ?_⟩
    rw [show adV id nm z xs rt rl = adL xs rt rl by simp [adV, h3]]
    exact h
theorem blk4_grown {W W' : World} {r : Option Nat} {b : Nat} {v0 v1 v2 v3 : Value} (k : W.grownBy W' r) (hb : some b ≠ r) (h : W.cell? ⟨b, 0, none⟩ = some v0 ∧ W.frozen? ⟨b, 0, none⟩ = false ∧ W.cell? ⟨b, 1, none⟩ = some v1 ∧ W.frozen? ⟨b, 1, none⟩ = false ∧ W.cell? ⟨b, 2, none⟩ = some v2 ∧ W.frozen? ⟨b, 2, none⟩ = false ∧ W.cell? ⟨b, 3, none⟩ = some v3 ∧ W.frozen? ⟨b, 3, none⟩ = false) :
    W'.cell? ⟨b, 0, none⟩ = some v0 ∧ W'.frozen? ⟨b, 0, none⟩ = false ∧ W'.cell? ⟨b, 1, none⟩ = some v1 ∧ W'.frozen? ⟨b, 1, none⟩ = false ∧ W'.cell? ⟨b, 2, none⟩ = some v2 ∧ W'.frozen? ⟨b, 2, none⟩ = false ∧ W'.cell? ⟨b, 3, none⟩ = some v3 ∧ W'.frozen? ⟨b, 3, none⟩ = false := by
  obtain ⟨h0, f0, h1, f1, h2, f2, h3, f3⟩ := h
  have hl : b < W.heap.size := by
    have := World.block_lt_of_cell? W _ h0
    simpa using this
  exact ⟨k.cell h0 hb, (k.frozen_far _ hl hb).trans f0, k.cell h1 hb, (k.frozen_far _ hl hb).trans f1, k.cell h2 hb, (k.frozen_far _ hl hb).trans f2, k.cell h3 hb, (k.frozen_far _ hl hb).trans f3⟩
theorem adL_pos (xs : List (Int × Int)) (rt rl : Int) : 0 < (adL xs rt rl).length := by
  unfold adL
  split <;> simp <;> omega
theorem flat_get1 {xs : List (Int × Int)} {k : Nat} (hk : k < xs.length) : (xs.flatMap pairC)[k * 2 + 1]? = some (.int .i64 (P2 xs k)) := by
  have h := flat_drop xs k
  have h2 : (xs.flatMap pairC)[k * 2 + 1]? = ((xs.flatMap pairC).drop (k * 2))[1]? := by simp
  rw [h2, h, List.drop_eq_getElem_cons hk, List.flatMap_cons]
  simp [pairC, P2_at hk]
theorem flat_get0 {xs : List (Int × Int)} {k : Nat} (hk : k < xs.length) : (xs.flatMap pairC)[k * 2]? = some (.int .i64 (P1 xs k)) := by
  have h := flat_drop xs k
  have h2 : (xs.flatMap pairC)[k * 2]? = ((xs.flatMap pairC).drop (k * 2))[0]? := by simp
  rw [h2, h, List.drop_eq_getElem_cons hk, List.flatMap_cons]
  simp [pairC, P1_at hk]
set_option maxRecDepth 100000 in
set_option maxHeartbeats 4000000 in
theorem addReading_any (id : Int) (nm : ByteArray) (z : Int) (v : Value) (xs : List (Int × Int)) (rt rl : Int) (hs : nm.size ≤ maxLen) (w : World) (hL : Lies w 2 pairC v xs) : Calls Try.prog 17 #[.agg #[.int .i64 id, .string nm, .int .i64 z, v], .agg #[.int .i64 rt, .int .i64 rl]] w fun e w' => ∃ u, e = .returned (.tuple #[szG (adOk id nm z xs rt rl) id nm z u, .bool (adOk id nm z xs rt rl)]) ∧ w'.ownsRow w.heap.size 28 2 u (adV id nm z xs rt rl).length ((adV id nm z xs rt rl).flatMap pairC) ∧ Kept w w' := by
  have HL := Lib.hid hL
  obtain ⟨A, c, rfl, hlc, hcm, hA⟩ := lies_pairs hL
  clear hL hA
  have KA0 : Kept w (((w.alloc (.cells #[.int .i64 id, .string nm, .int .i64 z, .slice A xs.length c] 26)).alloc (.cells #[.int .i64 rt, .int .i64 rl] 28)).alloc (.cells #[.int .i64 0, .string { data := #[] }, .int .i64 0, .slice none 0 0] 26)) := Kept.alloc (Kept.alloc (Kept.alloc (Kept.refl w) _) _) _
  have HKA := Lib.hid KA0
  clear KA0
  cases h1 : gaugeB id nm z xs
  · have HV := Lib.hid (ad_no (show adOk id nm z xs rt rl = false by simp [adOk, h1]))
    go_enter Try.func17, Try.ntmps17
    go_wp2_with fail
    refine (isGauge_any _ _ _ _ _ hs _ (by exact HL.out.kept HKA.out)).mono ?_
    rintro e w1 ⟨rfl, hk⟩
    obtain ⟨a0, af0, a1, af1, a2, af2, a3, af3, r0, rf0, r1, rf1, b0, bf0, b1, bf1, b2, bf2, b3, bf3⟩ := ad_cells hk
    have HK := Lib.hid (HKA.out.trans hk)
    clear hk
    rw [h1]
    go_wp2_with fail
    exact bodyPost_ret (v := .tuple #[noG, .bool false]) (by simp [results, Try.results17, go_sem, noG, *]) rfl ⟨_, HV.out.1, by rw [HV.out.2]; exact World.ownsRow_nil _ _ _ _, ((((HK.out.setCell (by simp) _).setCell (by simp) _).setCell (by simp) _).setCell (by simp) _)⟩
  have hgl := (gaugeB_1 h1).2.2.1
  have H1 := Lib.hid h1
  go_enter Try.func17, Try.ntmps17
  go_wp2_with fail
  refine (isGauge_any _ _ _ _ _ hs _ (by exact HL.out.kept HKA.out)).mono ?_
  rintro e w1 ⟨rfl, hk⟩
  obtain ⟨a0, af0, a1, af1, a2, af2, a3, af3, r0, rf0, r1, rf1, b0, bf0, b1, bf1, b2, bf2, b3, bf3⟩ := ad_cells hk
  rw [H1.out]
  have HK1 := Lib.hid hk
  have zb1 : w.heap.size + 1 + 1 + 1 ≤ w1.heap.size := by simpa using hk.size
  clear hk h1
  go_wp2_with fail
  refine (newGauge_any _ _ _ _ xs (by omega) _ (by exact HL.out.kept (HKA.out.trans HK1.out))).mono ?_
  rintro e w2 ⟨u1, rfl, hu1, hk2⟩
  obtain ⟨A1, c1, rfl, hc1, hc2, hg1⟩ := own_form hu1
  have HU := Lib.hid hu1
  have hk := HK1.out.trans hk2
  have HK2 := Lib.hid hk
  have zb2 : w1.heap.size ≤ w2.heap.size := hk2.size
  clear a0 af0 a1 af1 a2 af2 a3 af3 r0 rf0 r1 rf1 b0 bf0 b1 bf1 b2 bf2 b3 bf3 hu1 hk2
  obtain ⟨a0, af0, a1, af1, a2, af2, a3, af3, r0, rf0, r1, rf1, b0, bf0, b1, bf1, b2, bf2, b3, bf3⟩ := ad_cells hk
  clear hk
  go_wp2_with fail
  clear a0 af0 a1 af1 a2 af2 a3 af3 r0 rf0 r1 rf1 b0 bf0 b1 bf1 b2 bf2 b3 bf3
  go_loopw [7] (fun i wr => ∃ k : Nat, k ≤ xs.length ∧ i = .int .i64 (k : Int) ∧ (∀ j, j < k → P1 xs j < rt) ∧ Kept (w2.alloc (.cells #[.int .i64 id, .string nm, .int .i64 z, .slice A1 xs.length c1] 26)) wr) (fun i _ => xs.length - (intOf i).toNat)
  case atStart => exact ⟨0, by omega, rfl, fun j hj => absurd hj (by omega), Kept.refl _⟩
  case round =>
    obtain ⟨k, hk, rfl, hlo, hkw⟩ := hrel
    have HLO := Lib.hid hlo
    have HQ := Lib.hid hkw
    have HWA := Lib.hid ((HK2.out.trans (Kept.alloc (Kept.refl w2) (.cells #[.int .i64 id, .string nm, .int .i64 z, .slice A1 xs.length c1] 26))).trans hkw)
    have HO := Lib.hid (own_kept (HU.out.alloc (.cells #[.int .i64 id, .string nm, .int .i64 z, .slice A1 xs.length c1] 26)) hkw)
    have zr : w2.heap.size + 1 ≤ wr.heap.size := by simpa using hkw.size
    obtain ⟨a0, af0, a1, af1, a2, af2, a3, af3, r0, rf0, r1, rf1, b0, bf0, b1, bf1, b2, bf2, b3, bf3⟩ := ad_cells HWA.out
    obtain ⟨e0, ef0, e1, ef1, e2, ef2, e3, ef3⟩ := blk4 (b := w2.heap.size) (v0 := .int .i64 id) (v1 := .string nm) (v2 := .int .i64 z) (v3 := .slice A1 xs.length c1) hkw (by simp [go_sem])
    clear hkw hlo
    by_cases hkn : k < xs.length
    · obtain ⟨g, rfl, hgl2, hgu⟩ := hg1 (by omega)
      have x0 : wr.cell? ⟨g, k * 2, none⟩ = some (.int .i64 (P1 xs k)) := by
        rw [HO.out.cellAt _ (by omega), flat_get0 hkn]
      have k0 : (0 : Int) ≤ (k : Int) := by omega
      have k1 : (k : Int) < (xs.length : Int) := by omega
      have kd : decide ((k : Int) < (xs.length : Int)) = true := by simp [hkn]
      by_cases hlt : P1 xs k < rt
      · have hd : decide (P1 xs k < rt) = true := by simp [hlt]
        have HX := Lib.hid (upto_succ (p := fun j => P1 xs j < rt) HLO.out hlt)
        clear HO
        go_wp2_with fail
        go_quiet (fail)
        go_wp2_with fail
        go_roundw
        case rel => exact ⟨k + 1, by omega, by go_num, HX.out, by have hq := HQ.out; (repeat (first | exact Kept.refl _ | assumption | refine Kept.alloc ?_ _ | refine Kept.drew ?_ | refine Kept.drewN ?_ _ | refine Kept.setCell ?_ (by first | (simp; done) | (simp; omega) | omega | exact Kept.size (by (repeat (first | exact Kept.refl _ | assumption | refine Kept.alloc ?_ _ | refine Kept.drew ?_ | refine Kept.drewN ?_ _ | refine Kept.trans ?_ (by assumption))))) _ | refine Kept.trans ?_ (by assumption)))⟩
        case measure => simp [intOf]; omega
      · have hd : decide (P1 xs k < rt) = false := by simp [hlt]
        have HAT := Lib.hid (at_is xs rt k hk HLO.out (fun _ => hlt))
        by_cases heq : P1 xs k = rt
        · have hde : (P1 xs k == rt) = true := by simp [heq]
          have x1 : wr.cell? ⟨g, k * 2 + 1, none⟩ = some (.int .i64 (P2 xs k)) := by
            rw [HO.out.cellAt _ (by omega), flat_get1 hkn]
          have xf0 : wr.frozen? ⟨g, k * 2, none⟩ = false := HO.out.frozenAt _
          have xf1 : wr.frozen? ⟨g, k * 2 + 1, none⟩ = false := HO.out.frozenAt _
          have n1 : ¬ g = w2.heap.size := by omega
          have n2 : ¬ w2.heap.size = g := by omega
          have HAD := Lib.hid (ad_same (rl := rl) HAT.out hkn heq)
          have HS : Hid (∀ m, (((wr.drewN m).setCell ⟨g, k * 2, none⟩ (.int .i64 rt)).setCell ⟨g, k * 2 + 1, none⟩ (.int .i64 rl)).ownsRow w1.heap.size 28 2 (.slice (some ⟨g, 0, none⟩) xs.length c1) (adL xs rt rl).length ((adL xs rt rl).flatMap pairC) ∧ Kept (((w.alloc (.cells #[.int .i64 id, .string nm, .int .i64 z, .slice A xs.length c] 26)).alloc (.cells #[.int .i64 rt, .int .i64 rl] 28)).alloc (.cells #[.int .i64 0, .string { data := #[] }, .int .i64 0, .slice none 0 0] 26)) (((wr.drewN m).setCell ⟨g, k * 2, none⟩ (.int .i64 rt)).setCell ⟨g, k * 2 + 1, none⟩ (.int .i64 rl))) := Lib.hid fun m => ⟨by
            rw [HAD.out, put_len hkn, ← flat_put hkn]
            exact ((own_kept HO.out (Kept.drewN (Kept.refl wr) m)).stored _ _).1.stored _ _ |>.1, ((HWA.out.drewN m).setCell (by simp; omega) _).setCell (by simp; omega) _⟩
          obtain ⟨I, NM, Z, A', n', c', q1, q2, q3⟩ := as_form id nm z xs rt rl H1.out (some ⟨g, 0, none⟩) xs.length c1 w1.heap.size
          have Q1 := Lib.hid q1
          have Q2 := Lib.hid q2
          have Q3 := Lib.hid q3
          clear q1 q2 q3 HO HAT HAD HQ
          go_wp2_with fail
          go_quiet (fail)
          go_wp2_with fail
          go_quiet (fail)
          go_wp2_with fail
          refine (asGauge_any id nm z _ (adL xs rt rl) hs _ (pairs_own (HS.out _).1)).mono ?_
          rintro e w5 ⟨rfl, hk5⟩
          have hk := (HS.out _).2.trans hk5
          have OF := Lib.hid (own_kept (HS.out _).1 hk5)
          clear a0 af0 a1 af1 a2 af2 a3 af3 r0 rf0 r1 rf1 b0 bf0 b1 bf1 b2 bf2 b3 bf3 e0 ef0 e1 ef1 e2 ef2 e3 ef3 hk5
          obtain ⟨a0, af0, a1, af1, a2, af2, a3, af3, r0, rf0, r1, rf1, b0, bf0, b1, bf1, b2, bf2, b3, bf3⟩ := ad_cells hk
          have HKF := Lib.hid (HKA.out.trans hk)
          clear hk
          rw [Q1.out]
          go_wp2_with fail
          exact bodyPost_ret (v := .tuple #[.agg #[.int .i64 I, .string NM, .int .i64 Z, .slice A' n' c'], .bool (gaugeB id nm z (adL xs rt rl))]) (by simp [results, Try.results17, go_sem, *]) rfl ⟨_, Q2.out, own_base (ownsRow_setCell_below (ownsRow_setCell_below (ownsRow_setCell_below (ownsRow_setCell_below (Q3.out _ OF.out) (by first | (simp; done) | (simp; omega)) _) (by first | (simp; done) | (simp; omega)) _) (by first | (simp; done) | (simp; omega)) _) (by first | (simp; done) | (simp; omega)) _) (by omega), ((((HKF.out.setCell (by first | (simp; done) | (simp; omega)) _).setCell (by first | (simp; done) | (simp; omega)) _).setCell (by first | (simp; done) | (simp; omega)) _).setCell (by first | (simp; done) | (simp; omega)) _)⟩
        · have hde : (P1 xs k == rt) = false := by simp [heq]
          have HAD := Lib.hid (ad_new (rl := rl) HAT.out (fun _ => heq))
          have hne : some w2.heap.size ≠ (Value.slice (some ⟨g, 0, none⟩) xs.length c1).ownBlock := fun e => by
            have := (HU.out.lt _ e.symm).2
            omega
          have hne2 : some wr.heap.size ≠ (Value.slice (some ⟨g, 0, none⟩) xs.length c1).ownBlock := fun e => by
            have := (HU.out.lt _ e.symm).2
            omega
          have HNE := Lib.hid hne
          have HNE2 := Lib.hid hne2
          have HLOW := Lib.hid (fun q (hq : (Value.slice (some ⟨g, 0, none⟩) xs.length c1).ownBlock = some q) => (HU.out.lt q hq).1)
          have HB6 := Lib.hid (show wr.cell? ⟨w2.heap.size, 0, none⟩ = some (.int .i64 id) ∧ wr.frozen? ⟨w2.heap.size, 0, none⟩ = false ∧ wr.cell? ⟨w2.heap.size, 1, none⟩ = some (.string nm) ∧ wr.frozen? ⟨w2.heap.size, 1, none⟩ = false ∧ wr.cell? ⟨w2.heap.size, 2, none⟩ = some (.int .i64 z) ∧ wr.frozen? ⟨w2.heap.size, 2, none⟩ = false ∧ wr.cell? ⟨w2.heap.size, 3, none⟩ = some (.slice (some ⟨g, 0, none⟩) xs.length c1) ∧ wr.frozen? ⟨w2.heap.size, 3, none⟩ = false from ⟨e0, ef0, e1, ef1, e2, ef2, e3, ef3⟩)
          have HS : Hid (∀ m, ((wr.drewN m).alloc (.cells #[.int .i64 rt, .int .i64 rl] 28)).ownsRow w1.heap.size 28 2 (.slice (some ⟨g, 0, none⟩) xs.length c1) xs.length (xs.flatMap pairC) ∧ Kept (((w.alloc (.cells #[.int .i64 id, .string nm, .int .i64 z, .slice A xs.length c] 26)).alloc (.cells #[.int .i64 rt, .int .i64 rl] 28)).alloc (.cells #[.int .i64 0, .string { data := #[] }, .int .i64 0, .slice none 0 0] 26)) ((wr.drewN m).alloc (.cells #[.int .i64 rt, .int .i64 rl] 28)) ∧ Kept wr ((wr.drewN m).alloc (.cells #[.int .i64 rt, .int .i64 rl] 28)) ∧ ((wr.drewN m).alloc (.cells #[.int .i64 rt, .int .i64 rl] 28)).heap[wr.heap.size]? = some (.cells #[.int .i64 rt, .int .i64 rl] 28 (0, 0))) := Lib.hid fun m => ⟨own_kept HO.out (Kept.alloc (Kept.drewN (Kept.refl wr) m) _), Kept.alloc (HWA.out.drewN m) _, Kept.alloc (Kept.drewN (Kept.refl wr) m) _, heap_alloc_new (wr.drewN m) _⟩
          clear hne hne2 HO HAT HQ
          go_wp2_with fail
          go_quiet (fail)
          go_wp2_with fail
          go_quiet (fail)
          go_wp2_with fail
          refine (insert_any w1.heap.size xs.length k wr.heap.size (.int .i64 rt) (.int .i64 rl) _ (xs.flatMap pairC) _ (by have := (HS.out 0).2.2.1.size; simp at this ⊢; omega) (HS.out _).1 (by omega) (by omega) HNE2.out (HS.out _).2.2.2 (flat_one xs) rfl rfl).mono ?_
          rintro e w4 ⟨u4, rfl, hu4, hg4⟩
          have hl4 : xs.length + 1 = (adL xs rt rl).length := by rw [HAD.out, ins_len (by omega)]
          rw [flat_ins xs k rt rl, ← HAD.out, hl4] at hu4
          obtain ⟨A4, c4, rfl, -, -, hA4⟩ := own_form hu4
          have K4 := Lib.hid ((HS.out _).2.1.grown hg4 (fun q hq => by have := HLOW.out q hq; simp; omega))
          obtain ⟨g0, gf0, g1, gf1, g2, gf2, g3, gf3⟩ := blk4_grown hg4 HNE.out (blk4 (HS.out _).2.2.1 HB6.out)
          have hne4 : (Value.slice A4 (adL xs rt rl).length c4).ownBlock ≠ some w2.heap.size := fun e => by
            have hp := adL_pos xs rt rl
            obtain ⟨q, rfl, -, -⟩ := hA4 hp
            have e2 : q = w2.heap.size := by simpa [Value.ownBlock] using e
            subst e2
            have h5 := hu4.cellAt 1 (by omega)
            rw [show (1 : Nat) = 0 * 2 + 1 from rfl, flat_get1 hp, g1] at h5
            cases h5
          have hO4 := ownsRow_setCell_other hu4 (a := ⟨w2.heap.size, 3, none⟩) hne4 (.slice A4 (adL xs rt rl).length c4)
          have O4 := Lib.hid hO4
          have K5 := Lib.hid (K4.out.setCell (p := ⟨w2.heap.size, 3, none⟩) (by simp; omega) (.slice A4 (adL xs rt rl).length c4))
          obtain ⟨I, NM, Z, A', n', c', q1, q2, q3⟩ := as_form id nm z xs rt rl H1.out A4 (adL xs rt rl).length c4 w1.heap.size
          have Q1 := Lib.hid q1
          have Q2 := Lib.hid q2
          have Q3 := Lib.hid q3
          clear q1 q2 q3 hO4 hu4 hg4 hA4
          clear a0 af0 a1 af1 a2 af2 a3 af3 r0 rf0 r1 rf1 b0 bf0 b1 bf1 b2 bf2 b3 bf3 e0 ef0 e1 ef1 e2 ef2 e3 ef3
          obtain ⟨a0, af0, a1, af1, a2, af2, a3, af3, r0, rf0, r1, rf1, b0, bf0, b1, bf1, b2, bf2, b3, bf3⟩ := ad_cells K4.out
          go_wp2_with fail
          refine (asGauge_any id nm z _ (adL xs rt rl) hs _ (pairs_own O4.out)).mono ?_
          rintro e w5 ⟨rfl, hk5⟩
          have hk := K5.out.trans hk5
          have OF := Lib.hid (own_kept O4.out hk5)
          clear g0 gf0 g1 gf1 g2 gf2 g3 gf3
          clear a0 af0 a1 af1 a2 af2 a3 af3 r0 rf0 r1 rf1 b0 bf0 b1 bf1 b2 bf2 b3 bf3 hk5
          obtain ⟨a0, af0, a1, af1, a2, af2, a3, af3, r0, rf0, r1, rf1, b0, bf0, b1, bf1, b2, bf2, b3, bf3⟩ := ad_cells hk
          have HKF := Lib.hid (HKA.out.trans hk)
          clear hk
          rw [Q1.out]
          go_wp2_with fail
          exact bodyPost_ret (v := .tuple #[.agg #[.int .i64 I, .string NM, .int .i64 Z, .slice A' n' c'], .bool (gaugeB id nm z (adL xs rt rl))]) (by simp [results, Try.results17, go_sem, *]) rfl ⟨_, Q2.out, own_base (ownsRow_setCell_below (ownsRow_setCell_below (ownsRow_setCell_below (ownsRow_setCell_below (Q3.out _ OF.out) (by first | (simp; done) | (simp; omega)) _) (by first | (simp; done) | (simp; omega)) _) (by first | (simp; done) | (simp; omega)) _) (by first | (simp; done) | (simp; omega)) _) (by omega), ((((HKF.out.setCell (by first | (simp; done) | (simp; omega)) _).setCell (by first | (simp; done) | (simp; omega)) _).setCell (by first | (simp; done) | (simp; omega)) _).setCell (by first | (simp; done) | (simp; omega)) _)⟩
    · have e : k = xs.length := by omega
      subst e
      have kd : decide ((xs.length : Int) < (xs.length : Int)) = false := by simp
      have HAT := Lib.hid (at_is xs rt xs.length hk HLO.out (fun h => absurd h (by omega)))
      have HAD := Lib.hid (ad_new (rl := rl) HAT.out (fun h => absurd h (by omega)))
      have hne : some w2.heap.size ≠ (Value.slice (A1) xs.length c1).ownBlock := fun e => by
        have := (HU.out.lt _ e.symm).2
        omega
      have hne2 : some wr.heap.size ≠ (Value.slice (A1) xs.length c1).ownBlock := fun e => by
        have := (HU.out.lt _ e.symm).2
        omega
      have HNE := Lib.hid hne
      have HNE2 := Lib.hid hne2
      have HLOW := Lib.hid (fun q (hq : (Value.slice (A1) xs.length c1).ownBlock = some q) => (HU.out.lt q hq).1)
      have HB6 := Lib.hid (show wr.cell? ⟨w2.heap.size, 0, none⟩ = some (.int .i64 id) ∧ wr.frozen? ⟨w2.heap.size, 0, none⟩ = false ∧ wr.cell? ⟨w2.heap.size, 1, none⟩ = some (.string nm) ∧ wr.frozen? ⟨w2.heap.size, 1, none⟩ = false ∧ wr.cell? ⟨w2.heap.size, 2, none⟩ = some (.int .i64 z) ∧ wr.frozen? ⟨w2.heap.size, 2, none⟩ = false ∧ wr.cell? ⟨w2.heap.size, 3, none⟩ = some (.slice (A1) xs.length c1) ∧ wr.frozen? ⟨w2.heap.size, 3, none⟩ = false from ⟨e0, ef0, e1, ef1, e2, ef2, e3, ef3⟩)
      have HS : Hid (∀ m, ((wr.drewN m).alloc (.cells #[.int .i64 rt, .int .i64 rl] 28)).ownsRow w1.heap.size 28 2 (.slice (A1) xs.length c1) xs.length (xs.flatMap pairC) ∧ Kept (((w.alloc (.cells #[.int .i64 id, .string nm, .int .i64 z, .slice A xs.length c] 26)).alloc (.cells #[.int .i64 rt, .int .i64 rl] 28)).alloc (.cells #[.int .i64 0, .string { data := #[] }, .int .i64 0, .slice none 0 0] 26)) ((wr.drewN m).alloc (.cells #[.int .i64 rt, .int .i64 rl] 28)) ∧ Kept wr ((wr.drewN m).alloc (.cells #[.int .i64 rt, .int .i64 rl] 28)) ∧ ((wr.drewN m).alloc (.cells #[.int .i64 rt, .int .i64 rl] 28)).heap[wr.heap.size]? = some (.cells #[.int .i64 rt, .int .i64 rl] 28 (0, 0))) := Lib.hid fun m => ⟨own_kept HO.out (Kept.alloc (Kept.drewN (Kept.refl wr) m) _), Kept.alloc (HWA.out.drewN m) _, Kept.alloc (Kept.drewN (Kept.refl wr) m) _, heap_alloc_new (wr.drewN m) _⟩
      clear hne hne2 HO HAT HQ
      go_wp2_with fail
      go_quiet (fail)
      go_wp2_with fail
      go_quiet (fail)
      go_wp2_with fail
      refine (insert_any w1.heap.size xs.length xs.length wr.heap.size (.int .i64 rt) (.int .i64 rl) _ (xs.flatMap pairC) _ (by have := (HS.out 0).2.2.1.size; simp at this ⊢; omega) (HS.out _).1 (by omega) (by omega) HNE2.out (HS.out _).2.2.2 (flat_one xs) rfl rfl).mono ?_
      rintro e w4 ⟨u4, rfl, hu4, hg4⟩
      have hl4 : xs.length + 1 = (adL xs rt rl).length := by rw [HAD.out, ins_len (by omega)]
      rw [flat_ins xs xs.length rt rl, ← HAD.out, hl4] at hu4
      obtain ⟨A4, c4, rfl, -, -, hA4⟩ := own_form hu4
      have K4 := Lib.hid ((HS.out _).2.1.grown hg4 (fun q hq => by have := HLOW.out q hq; simp; omega))
      obtain ⟨g0, gf0, g1, gf1, g2, gf2, g3, gf3⟩ := blk4_grown hg4 HNE.out (blk4 (HS.out _).2.2.1 HB6.out)
      have hne4 : (Value.slice A4 (adL xs rt rl).length c4).ownBlock ≠ some w2.heap.size := fun e => by
        have hp := adL_pos xs rt rl
        obtain ⟨q, rfl, -, -⟩ := hA4 hp
        have e2 : q = w2.heap.size := by simpa [Value.ownBlock] using e
        subst e2
        have h5 := hu4.cellAt 1 (by omega)
        rw [show (1 : Nat) = 0 * 2 + 1 from rfl, flat_get1 hp, g1] at h5
        cases h5
      have hO4 := ownsRow_setCell_other hu4 (a := ⟨w2.heap.size, 3, none⟩) hne4 (.slice A4 (adL xs rt rl).length c4)
      have O4 := Lib.hid hO4
      have K5 := Lib.hid (K4.out.setCell (p := ⟨w2.heap.size, 3, none⟩) (by simp; omega) (.slice A4 (adL xs rt rl).length c4))
      obtain ⟨I, NM, Z, A', n', c', q1, q2, q3⟩ := as_form id nm z xs rt rl H1.out A4 (adL xs rt rl).length c4 w1.heap.size
      have Q1 := Lib.hid q1
      have Q2 := Lib.hid q2
      have Q3 := Lib.hid q3
      clear q1 q2 q3 hO4 hu4 hg4 hA4
      clear a0 af0 a1 af1 a2 af2 a3 af3 r0 rf0 r1 rf1 b0 bf0 b1 bf1 b2 bf2 b3 bf3 e0 ef0 e1 ef1 e2 ef2 e3 ef3
      obtain ⟨a0, af0, a1, af1, a2, af2, a3, af3, r0, rf0, r1, rf1, b0, bf0, b1, bf1, b2, bf2, b3, bf3⟩ := ad_cells K4.out
      go_wp2_with fail
      refine (asGauge_any id nm z _ (adL xs rt rl) hs _ (pairs_own O4.out)).mono ?_
      rintro e w5 ⟨rfl, hk5⟩
      have hk := K5.out.trans hk5
      have OF := Lib.hid (own_kept O4.out hk5)
      clear g0 gf0 g1 gf1 g2 gf2 g3 gf3
      clear a0 af0 a1 af1 a2 af2 a3 af3 r0 rf0 r1 rf1 b0 bf0 b1 bf1 b2 bf2 b3 bf3 hk5
      obtain ⟨a0, af0, a1, af1, a2, af2, a3, af3, r0, rf0, r1, rf1, b0, bf0, b1, bf1, b2, bf2, b3, bf3⟩ := ad_cells hk
      have HKF := Lib.hid (HKA.out.trans hk)
      clear hk
      rw [Q1.out]
      go_wp2_with fail
      exact bodyPost_ret (v := .tuple #[.agg #[.int .i64 I, .string NM, .int .i64 Z, .slice A' n' c'], .bool (gaugeB id nm z (adL xs rt rl))]) (by simp [results, Try.results17, go_sem, *]) rfl ⟨_, Q2.out, own_base (ownsRow_setCell_below (ownsRow_setCell_below (ownsRow_setCell_below (ownsRow_setCell_below (Q3.out _ OF.out) (by first | (simp; done) | (simp; omega)) _) (by first | (simp; done) | (simp; omega)) _) (by first | (simp; done) | (simp; omega)) _) (by first | (simp; done) | (simp; omega)) _) (by omega), ((((HKF.out.setCell (by first | (simp; done) | (simp; omega)) _).setCell (by first | (simp; done) | (simp; omega)) _).setCell (by first | (simp; done) | (simp; omega)) _).setCell (by first | (simp; done) | (simp; omega)) _)⟩
end Go.Proofs.Ytopdnhlolfehcaa

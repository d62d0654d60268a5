/-
  Arguments opened: slices of structs within structs, slices of numbers and strings.
  Conditions: none.
-/
import Derived.Test.YtopdnhlolfehcaaOpen
namespace Go.Proofs.Ytopdnhlolfehcaa
open Go.ChangeShapes Go.WideShapes Go.ChangeAt Go.RowKit Go.Joins Go.Deep
set_option linter.unusedVariables false

/-- A cell that holds a slice of structs of two numbers. -/
theorem cell_pairs {H : Type} {enc : TypeId × Value → H} {P : Program} {w : World} {base : Nat} {spare : Nat → Bool} {held : Bool} {t e : TypeId} {f0 f1 : Field} {fuel : Nat} {c : Value} {y : DataW H × List MemPlace}
    (ht : P.underlying t = some (.slice e)) (he : P.underlying e = some (.struct #[f0, f1])) (hone : oneCellFields P #[f0, f1] = true) (hC : P.cellsOf e = 2) (h0 : P.underlying f0.type = some (.int .i64)) (h1 : P.underlying f1.type = some (.int .i64))
    (h : DataW.trod enc P w base spare held fuel t [c] = some y) : ∃ xs : List (Int × Int), Lies w 2 pairC c xs := by
  rcases open_slice_fields ht he hone hC h with ⟨hcs, -⟩ | ⟨a, len, cap, m, D, Pl, hcs, -, hl, hm, hmm, -, hx⟩
  · simp at hcs
    subst hcs
    exact ⟨[], Lies.nil _ _ _⟩
  · simp at hcs
    subst hcs
    have hlm : len ≤ m := by rw [hmm]; split <;> omega
    have each : ∀ i, i < len → ∃ q : Int × Int, w.cell? (a.add (i * 2)) = some (.int .i64 q.1) ∧ w.cell? (a.add (i * 2 + 1)) = some (.int .i64 q.2) := by
      intro i hi
      obtain ⟨ys, n, -, -, -, hf⟩ := hx i (by omega)
      obtain ⟨v0, y0, c0, -, t0⟩ := hf 0 f0 rfl
      obtain ⟨v1, y1, c1, -, t1⟩ := hf 1 f1 rfl
      obtain ⟨x, rfl⟩ := cell_int h0 t0
      obtain ⟨y, rfl⟩ := cell_int h1 t1
      exact ⟨(x, y), c0, c1⟩
    obtain ⟨q, hq⟩ : ∃ q : Nat → Int × Int, ∀ i, i < len → w.cell? (a.add (i * 2)) = some (.int .i64 (q i).1) ∧ w.cell? (a.add (i * 2 + 1)) = some (.int .i64 (q i).2) := by
      refine ⟨fun i => if h : i < len then (each i h).choose else (0, 0), fun i hi => ?_⟩
      simp only [hi, dite_true]
      exact (each i hi).choose_spec
    refine ⟨(List.range len).map q, some a, cap, by simp, by simpa using hl, hm, fun hn => ?_⟩
    simp at hn
    obtain ⟨b, off, spot⟩ := a
    have hspot : spot = none := by simpa [Addr.add] using World.cell?_spot (hq 0 hn).1
    subst hspot
    refine ⟨b, off, rfl, fun i hi j u hu => ?_⟩
    simp at hi
    have h2 := hq i hi
    rw [Go.WideShapes.add_plain, Go.WideShapes.add_plain] at h2
    simp only [List.getElem_map, List.getElem_range] at hu
    match j, hu with
    | 0, hu => simp [pairC] at hu; rw [← hu]; exact h2.1
    | 1, hu => simp [pairC] at hu; rw [← hu]; simpa [Nat.add_assoc] using h2.2
    | j + 2, hu => simp [pairC] at hu
end Go.Proofs.Ytopdnhlolfehcaa

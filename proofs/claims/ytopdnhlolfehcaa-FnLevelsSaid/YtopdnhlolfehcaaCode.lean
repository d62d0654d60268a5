/-
  The code from which a drawn law reads: opened where it comes in; a new cursor; vBig.
  Conditions: none.
-/
import Derived.Test.YtopdnhlolfehcaaDraw
import Derived.ChangeSlices
import Derived.OpenShut
namespace Go.Proofs.Ytopdnhlolfehcaa
open Go.ChangeShapes Go.WideShapes Go.ChangeAt Go.RowKit Go.Joins
set_option linter.unusedVariables false
set_option linter.unusedSimpArgs false

theorem CodeIn.mono {w : World} {g g' : Nat} {A : Option Addr} {len cap : Nat} (h : CodeIn w g A len cap) (q : g ≤ g') : CodeIn w g' A len cap :=
  ⟨h.1, h.2.1, fun h0 => let ⟨b, off, e, hb, hc⟩ := h.2.2 h0; ⟨b, off, e, Nat.lt_of_lt_of_le hb q, hc⟩⟩
/-- The code as it came in. -/
def CodeW (w : World) (v : Value) : Prop := ∃ A len cap, v = .slice A len cap ∧ CodeIn w w.heap.size A len cap
theorem CodeW.kept {w w' : World} {v : Value} (h : CodeW w v) (k : Kept w w') : CodeW w' v := let ⟨A, len, cap, e, hc⟩ := h; ⟨A, len, cap, e, (hc.kept k).mono k.size⟩
theorem Cur.new {W : World} {g : Nat} {A : Option Addr} {len cap : Nat} (hg : W.heap.size = g) (h : CodeIn W g A len cap) (t : TypeId) : Cur (W.alloc (.cells #[.slice A len cap, .int .i64 0, .int .u64 0] t)) g 0 := by
  subst hg
  refine ⟨⟨A, len, cap, ?_, h.kept (Kept.alloc (Kept.refl _) _)⟩, ?_, ⟨0, ?_⟩, ?_, ?_, by omega⟩ <;> simp [go_sem]
theorem CurB.new {W : World} {g : Nat} {A : Option Addr} {len cap : Nat} (hg : W.heap.size = g) (h : CodeIn W g A len cap) (t : TypeId) : CurB (W.alloc (.cells #[.slice A len cap, .int .i64 0, .int .u64 0] t)) g 0 := ⟨0, by omega, Cur.new hg h t⟩
section
variable {H : Type} {enc : TypeId × Value → H} {P : Program} {w : World} {base : Nat} {spare : Nat → Bool} {held : Bool}
/-- A slice of bytes that came in. -/
theorem code_arg {r : Reach} {b0 : Nat} {t e : TypeId} {v : Value} {d : DataW H} {p : List MemPlace} (ht : P.underlying t = some (.slice e)) (he : P.underlying e = some (.int .u8)) (hC : P.cellsOf e = 1)
    (hv : Value.okWide P w r b0 t v) (h : DataW.Trod enc P w base spare held t v d p) : CodeW w v := by
  obtain ⟨a0, len, cap, rfl⟩ := okWide_slice ht hv
  obtain ⟨fuel, hf⟩ := h
  rcases open_ints ht he hC hf with ⟨hcs, -⟩ | ⟨a, len', cap', zs, hcs, -, hl, hm, hz, -, hcell, hwz⟩
  · simp [Value.cells] at hcs
    obtain ⟨rfl, rfl, rfl⟩ := hcs
    exact ⟨none, 0, 0, rfl, Nat.le_refl _, by simp [maxLen], fun h => absurd h (by omega)⟩
  · simp [Value.cells] at hcs
    obtain ⟨rfl, rfl, rfl⟩ := hcs
    have hlz : len ≤ zs.length := by rw [hz]; split <;> omega
    refine ⟨some a, len, cap, rfl, hl, hm, fun h0 => ?_⟩
    obtain ⟨b, off, spot⟩ := a
    have hspot : spot = none := by simpa [Addr.add] using World.cell?_spot (hcell 0 (by omega))
    subst hspot
    refine ⟨b, off, rfl, ?_, fun i hi => ?_⟩
    · have := World.block_lt_of_cell? w _ (hcell 0 (by omega))
      simpa [Addr.add] using this
    · have hb := range_u8 hwz i
      have hc := hcell i (by omega)
      rw [Addr.add_lit] at hc
      refine ⟨zs.getD i 0, ?_, ?_, hc⟩ <;> (rw [List.getD_eq_getElem?_getD]; omega)
end
end Go.Proofs.Ytopdnhlolfehcaa

/-
  Contracts of the draws that choose a number: pick, one, among.
  Conditions: none.
-/
import Derived.Test.YtopdnhlolfehcaaCur
namespace Go.Proofs.Ytopdnhlolfehcaa
open Go.ChangeShapes Go.WideShapes Go.ChangeAt Go.RowKit
set_option linter.unusedVariables false
set_option linter.unusedSimpArgs false

/-- A cursor in block g that has been asked at most k times. -/
def CurB (w : World) (g : Nat) (k : Int) : Prop := ∃ n : Int, n ≤ k ∧ Cur w g n
theorem CurB.kept {w w' : World} {g : Nat} {k : Int} (h : CurB w g k) (q : Kept w w') : CurB w' g k := let ⟨n, h1, h2⟩ := h; ⟨n, h1, h2.kept q⟩
theorem CurB.mono {w : World} {g : Nat} {k k' : Int} (h : CurB w g k) (q : k ≤ k') : CurB w g k' := let ⟨n, h1, h2⟩ := h; ⟨n, by omega, h2⟩
theorem CurB.set {w : World} {g : Nat} {k : Int} (h : CurB w g k) {p : Addr} (hp : g < p.block) (v : Value) : CurB (w.setCell p v) g k := let ⟨n, h1, h2⟩ := h; ⟨n, h1, h2.set hp v⟩
theorem CurB.lt {w : World} {g : Nat} {k : Int} (h : CurB w g k) : g < w.heap.size := let ⟨n, h1, h2⟩ := h; h2.lt
/-- The world has grown, and the cursor in block g has gone on; all else is as it was. -/
structure Stir (g : Nat) (w w' : World) : Prop where
  by_ : w.grownBy w' (some g)
theorem Stir.refl (g : Nat) (w : World) : Stir g w w := ⟨World.grownBy.refl _ _⟩
theorem Stir.trans {g : Nat} {a b c : World} (h : Stir g a b) (k : Stir g b c) : Stir g a c := ⟨grown_trans' h.by_ k.by_⟩
theorem Stir.of {g : Nat} {a b : World} (h : a.grownBy b (some g)) : Stir g a b := ⟨h⟩
theorem Stir.kept {g : Nat} {a b : World} (k : Kept a b) : Stir g a b := ⟨grown_of_kept k⟩
theorem Stir.size {g : Nat} {a b : World} (h : Stir g a b) : a.heap.size ≤ b.heap.size := h.by_.size
theorem Stir.keep {g : Nat} {a b : World} (h : Stir g a b) {p : Addr} {v : Value} (hp : p.block ≠ g) (hc : a.cell? p = some v) : b.cell? p = some v :=
  h.by_.cell hc (by intro e; injection e with e; exact hp e)
theorem Stir.free {g : Nat} {a b : World} (h : Stir g a b) {p : Addr} {v : Value} (hp : p.block ≠ g) (hc : a.cell? p = some v) (hf : a.frozen? p = false) : b.frozen? p = false :=
  (World.frozen?_of_block (h.by_.block p.block (World.block_lt_of_cell? a _ hc) (by intro e; injection e with e; exact hp e))).trans hf
theorem Stir.out {g : Nat} {a b c : World} (k : Kept a b) (h : Stir g b c) (hg : a.heap.size ≤ g) : Kept a c := Kept.of_grown k h.by_ (Or.inr rfl) hg
theorem Stir.alloc {g : Nat} {a b : World} (h : Stir g a b) (o : Obj) : Stir g a (b.alloc o) := h.trans (Stir.kept (Kept.alloc (Kept.refl _) _))
theorem Stir.drewN {g : Nat} {a b : World} (h : Stir g a b) (n : Nat) : Stir g a (b.drewN n) := h.trans (Stir.kept (Kept.drewN (Kept.refl _) _))
theorem Stir.drew {g : Nat} {a b : World} (h : Stir g a b) : Stir g a b.drew := h.trans (Stir.kept (Kept.drew (Kept.refl _)))
theorem Stir.own {g : Nat} {a b : World} (h : Stir g a b) {base size n : Nat} {e : TypeId} {v : Value} {xs : List Value} (ho : a.ownsRow base e size v n xs) (hb : g < base) : b.ownsRow base e size v n xs :=
  ho.kept h.by_ (by
    cases hv : v.ownBlock with
    | none => exact .inl rfl
    | some k =>
      right
      intro e'
      injection e' with e'
      have := (ho.lt k hv).1
      omega)

theorem pmod_bd (x n : Int) (h0 : 0 ≤ x) (h1 : 1 < n) : 0 ≤ x % n ∧ x % n < n :=
  ⟨Int.emod_nonneg _ (by omega), Int.emod_lt_of_pos _ (by omega)⟩
set_option maxHeartbeats 2000000 in
theorem pick_any (g : Nat) (k n : Int) (w : World) (hC : CurB w g k) (hk : k ≤ 900000) (hn : n ≤ 1000000) : Calls Try.prog 68 #[.pointer (some ⟨g, 0, none⟩), .int .i64 n] w fun e w' => ∃ x : Int, e = .returned (.int .i64 x) ∧ (0 ≤ x ∧ x < max n 1) ∧ CurB w' g (k + 2) ∧ Stir g w w' := by
  obtain ⟨c, hc, hC⟩ := hC
  have HC := Lib.hid hC
  clear hC
  by_cases h1 : n ≤ 1
  · go_enter Try.func68, Try.ntmps68
    go_wp2
    go_ret
    exact ⟨0, rfl, by omega, ⟨c, by omega, HC.out⟩, Stir.refl _ _⟩
  · have h1' : 1 < n := by omega
    by_cases h2 : 200 < n
    · go_enter Try.func68, Try.ntmps68
      go_wp2_with fail
      refine (next_any g c _ HC.out (by omega)).mono ?_
      rintro e w1 ⟨x, rfl, ⟨x0, x1⟩, hc1, hg1⟩
      have HC1 := Lib.hid hc1
      have HG1 := Lib.hid (Stir.of hg1)
      clear hc1 hg1
      go_wp2_with fail
      refine (next_any g (c + 1) _ HC1.out (by omega)).mono ?_
      rintro e w2 ⟨y, rfl, ⟨y0, y1⟩, hc2, hg2⟩
      have HC2 := Lib.hid hc2
      have HG2 := Lib.hid (Stir.of hg2)
      clear hc2 hg2
      have hb := pmod_bd (x * 256 + y) n (by omega) h1'
      go_wp2_with fail
      go_ret
      exact ⟨_, rfl, by omega, ⟨c + 1 + 1, by omega, HC2.out⟩, HG1.out.trans HG2.out⟩
    · go_enter Try.func68, Try.ntmps68
      go_wp2_with fail
      refine (next_any g c _ HC.out (by omega)).mono ?_
      rintro e w1 ⟨x, rfl, ⟨x0, x1⟩, hc1, hg1⟩
      have HC1 := Lib.hid hc1
      have HG1 := Lib.hid (Stir.of hg1)
      clear hc1 hg1
      have hb := pmod_bd x n (by omega) h1'
      go_wp2_with fail
      go_ret
      exact ⟨_, rfl, by omega, ⟨c + 1, by omega, HC1.out⟩, HG1.out⟩
theorem one_any (g : Nat) (k n : Int) (w : World) (hC : CurB w g k) (hk : k ≤ 900000) (hn : n ≤ 1000000) : Calls Try.prog 78 #[.pointer (some ⟨g, 0, none⟩), .int .i64 n] w fun e w' => ∃ b : Bool, e = .returned (.bool b) ∧ CurB w' g (k + 2) ∧ Stir g w w' := by
  have HC := Lib.hid hC
  clear hC
  go_enter Try.func78, Try.ntmps78
  go_wp2_with fail
  refine (pick_any g k n _ HC.out hk hn).mono ?_
  rintro e w1 ⟨x, rfl, -, hc1, hg1⟩
  have HC1 := Lib.hid hc1
  have HG1 := Lib.hid hg1
  clear hc1 hg1
  go_wp2_with fail
  go_ret
  exact ⟨_, rfl, HC1.out, HG1.out⟩
/-- A slice of numbers that lies in a block of its own. -/
def NumsIn (w : World) (b : Nat) (xs : List Int) : Prop := ∀ i, i < xs.length → w.cell? ⟨b, i, none⟩ = some (.int .i64 (xs.getD i 0))
theorem NumsIn.kept {w w' : World} {b : Nat} {xs : List Int} (h : NumsIn w b xs) (k : Kept w w') : NumsIn w' b xs := fun i hi => k.keep (h i hi)
theorem NumsIn.stir {g : Nat} {w w' : World} {b : Nat} {xs : List Int} (h : NumsIn w b xs) (k : Stir g w w') (hb : b ≠ g) : NumsIn w' b xs := fun i hi => k.keep hb (h i hi)
theorem NumsIn.lit {w : World} {xs : List Int} {t : TypeId} {n : Nat} {cs : Array Value} (hcs : cs = (xs.map (Value.int .i64)).toArray) (hn : w.heap.size = n) : NumsIn (w.alloc (.cells cs t)) n xs := fun i hi => by
  subst hn
  rw [cell_of_row _ _ i _ t (0, 0) (heap_alloc_new w _), hcs]
  simp [List.getD_eq_getElem?_getD, hi]
theorem NumsIn.new (w : World) (xs : List Int) (t : TypeId) : NumsIn (w.alloc (.cells (xs.map (Value.int .i64)).toArray t)) w.heap.size xs := fun i hi => by
  rw [cell_of_row _ _ i _ t (0, 0) (heap_alloc_new w _)]
  simp [List.getD_eq_getElem?_getD, hi]
theorem among_any (g b c : Nat) (k : Int) (xs : List Int) (w : World) (hC : CurB w g k) (hk : k ≤ 900000) (hL : NumsIn w b xs) (hb : b ≠ g) (h0 : 0 < xs.length) (h1 : xs.length ≤ 1000) : Calls Try.prog 67 #[.pointer (some ⟨g, 0, none⟩), .slice (some ⟨b, 0, none⟩) xs.length c] w fun e w' => ∃ x : Int, e = .returned (.int .i64 x) ∧ x ∈ xs ∧ CurB w' g (k + 2) ∧ Stir g w w' := by
  have HC := Lib.hid hC
  have HL := Lib.hid hL
  clear hC hL
  go_enter Try.func67, Try.ntmps67
  go_wp2_with fail
  refine (pick_any g k _ _ HC.out hk (by omega)).mono ?_
  rintro e w1 ⟨x, rfl, ⟨x0, x1⟩, hc1, hg1⟩
  obtain ⟨i, rfl⟩ : ∃ i : Nat, x = (i : Int) := ⟨x.toNat, by omega⟩
  have hi : i < xs.length := by omega
  have d0 := hg1.keep (p := ⟨b, i, none⟩) hb (HL.out i hi)
  have hm : xs.getD i 0 ∈ xs := by rw [List.getD_eq_getElem?_getD, List.getElem?_eq_getElem hi]; exact List.getElem_mem hi
  generalize xs.getD i 0 = x at d0 hm
  have HM := Lib.hid hm
  have HC1 := Lib.hid hc1
  have HG1 := Lib.hid hg1
  clear hc1 hg1 x1 hm
  go_wp2_with fail
  go_ret
  exact ⟨_, rfl, HM.out, HC1.out, HG1.out⟩
end Go.Proofs.Ytopdnhlolfehcaa

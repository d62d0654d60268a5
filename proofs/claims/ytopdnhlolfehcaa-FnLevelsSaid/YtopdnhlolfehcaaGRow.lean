/-
  The draw of a list of gauges.
  Conditions: none.
-/
import Derived.Test.YtopdnhlolfehcaaCode
import Derived.Test.YtopdnhlolfehcaaShift
import Derived.Test.YtopdnhlolfehcaaAreGauges
import Derived.Laws.IdiomStrings
namespace Go.Proofs.Ytopdnhlolfehcaa
open Go.ChangeShapes Go.WideShapes Go.ChangeAt Go.RowKit
set_option linter.unusedVariables false
set_option linter.unusedSimpArgs false

/-- append(own, list...) where the list is a row of its own. -/
theorem wpList_append_row {P : Program} (w : World) {ops : Array Oper} {rest : List Oper} {o : Oper} {a : Act} {Q : Exit → Act → World → Prop} (hgd : o.guard = none) (s x : Operand) (t : TypeId)
    (ho : o.op = .call { callee := .builtin .append, args := #[s, x], argTypes := #[t, t] })
    (base size : Nat) (e : TypeId) (i : TypeInfo) (z : Value) (bytes : Nat) (ht : P.underlying t = some (.slice e)) (hi : P.info? e = some i) (hz : i.zero = some z)
    (hsize : i.size = size) (hby : i.bytes = bytes) (hzs : z.cells.size = size) (hs0 : 0 < size)
    (v : Value) (n : Nat) (zs : List Value) (hs : a.eval s = v) (hown : w.ownsRow base e size v n zs)
    (u : Value) (m : Nat) (ys : List Value) (base' : Nat) (hx : a.eval x = u) (hu : w.ownsRow base' e size u m ys) (h1 : ∀ y ∈ ys, y.oneCell' = true)
    (h63 : n + m ≤ maxLen) (hbytes : (n + m) * bytes ≤ 140737488355328) (hbase : base ≤ w.heap.size)
    (h : ∀ v' w', w'.ownsRow base e size v' (n + m) (zs ++ ys) → w.grownBy w' v.ownBlock → wpList P ops Q rest (a.put o.dst v') w') : wpList P ops Q (o :: rest) a w := by
  obtain ⟨A, c, rfl, hlc, hcm, hA⟩ := own_form hu
  by_cases h0 : 0 < m
  · obtain ⟨b, rfl, -, -⟩ := hA h0
    refine wpList_append_own_at w hgd s x t ho base e i z size bytes ht hi hz hsize hby hzs hs0 v n zs hs hown ⟨b, 0, none⟩ m c ys hx hu.1 (fun j y hj => ?_) h1 h63 hbytes hbase (fun v' w' h1 h2 _ _ => h v' w' h1 h2)
    have hl := (List.getElem?_eq_some_iff.1 hj).1
    rw [Addr.add_lit, Nat.zero_add, hu.cellAt j (by rw [← hu.1]; exact hl)]
    exact hj
  · obtain rfl : m = 0 := by omega
    have hy : ys = [] := List.length_eq_zero_iff.1 (by rw [hu.1, Nat.zero_mul])
    subst hy
    obtain ⟨B, c', rfl, hle, -, -⟩ := own_form hown
    have hS : Src P i.size t (.slice A 0 c) 0 [] w := by
      cases A with
      | none => exact Src.ofNil w ht c
      | some ad => exact Src.ofSlice w ht ad 0 c [] (by simp) (by simp) (by simp)
    have hr := run_append_nothing w t t o.type e i ht hi B n c' hle _ hS
    refine wpList_plain hgd fun K hK => ?_
    unfold Oper.wp execOp
    simp only [ho, resolve, invoke, builtin, Sem.run_bind, Sem.run_pure, Result.andThen_ok, List.map_toArray, List.map_cons, List.map_nil, hs, hx, hr]
    exact hK _ _ (h _ _ (by simpa using hown) (grown_of_kept (Kept.refl w)))
/-- Two rows of unlike elements lie in unlike blocks. -/
theorem own_unlike {w : World} {b1 b2 s1 s2 n1 n2 : Nat} {e1 e2 : TypeId} {u1 u2 : Value} {x1 x2 : List Value} (he : e1 ≠ e2) (h1 : w.ownsRow b1 e1 s1 u1 n1 x1) (h2 : w.ownsRow b2 e2 s2 u2 n2 x2) : u1.ownBlock = none ∨ u1.ownBlock ≠ u2.ownBlock := by
  rcases h1.2 with ⟨rfl, -⟩ | ⟨g1, c1, cur1, rfl, -, hg1, -⟩
  · exact .inl rfl
  rcases h2.2 with ⟨rfl, -⟩ | ⟨g2, c2, cur2, rfl, -, hg2, -⟩
  · right
    simp [Value.ownBlock]
  · right
    intro e
    simp only [Value.ownBlock, Option.some.injEq] at e
    subst e
    rw [hg1] at hg2
    simp only [Option.some.injEq, Obj.cells.injEq] at hg2
    exact he hg2.2.1
/-- A row of gauges of the call's own, each with its readings. -/
def GRow (w : World) (B : Nat) (v : Value) (gs : List Gz) : Prop := ∃ ys, w.ownsRow B 26 4 v gs.length ys ∧ ∀ i, i < gs.length → ∃ u, RowG ys i (GZ gs i) u ∧ u.oneCell' = true ∧ w.ownsRow B 28 2 u (GZ gs i).xs.length ((GZ gs i).xs.flatMap pairC)
theorem GRow.kept {w w' : World} {B : Nat} {v : Value} {gs : List Gz} (h : GRow w B v gs) (k : Kept w w') : GRow w' B v gs := by
  obtain ⟨ys, ho, hr⟩ := h
  exact ⟨ys, own_kept ho k, fun i hi => let ⟨u, a, b, c⟩ := hr i hi; ⟨u, a, b, own_kept c k⟩⟩
theorem GRow.stir {w w' : World} {g B : Nat} {v : Value} {gs : List Gz} (h : GRow w B v gs) (k : Stir g w w') (hg : g < B) : GRow w' B v gs := by
  obtain ⟨ys, ho, hr⟩ := h
  exact ⟨ys, k.own ho hg, fun i hi => let ⟨u, a, b, c⟩ := hr i hi; ⟨u, a, b, k.own c hg⟩⟩
theorem GRow.lies {w : World} {B : Nat} {u : Value} {gs : List Gz} (h : GRow w B u gs) : GLies w u gs := by
  obtain ⟨ys, ho, hr⟩ := h
  obtain ⟨A, c, rfl, h1, h2, h3⟩ := own_form ho
  refine ⟨A, c, rfl, h1, h2, fun h0 => ?_⟩
  obtain ⟨g, rfl, hg1, hg2⟩ := h3 h0
  refine ⟨g, 0, rfl, fun i hi => ?_⟩
  obtain ⟨v, ⟨y0, y1, y2, y3⟩, -, hv⟩ := hr i hi
  refine ⟨v, ?_, ?_, ?_, ?_, pairs_own hv⟩
  · rw [Nat.zero_add, ho.cellAt _ (by omega)]; exact y0
  · rw [Nat.zero_add, ho.cellAt _ (by omega)]; exact y1
  · rw [Nat.zero_add, ho.cellAt _ (by omega)]; exact y2
  · rw [Nat.zero_add, ho.cellAt _ (by omega)]; exact y3
theorem GRow.form {w : World} {B : Nat} {u : Value} {gs : List Gz} (h : GRow w B u gs) : ∃ A c, u = .slice A gs.length c := by
  obtain ⟨ys, ho, -⟩ := h
  obtain ⟨A, c, rfl, -, -, -⟩ := own_form ho
  exact ⟨A, c, rfl⟩
theorem GRow.lit {w : World} {B : Nat} (hB : B ≤ w.heap.size) : GRow (w.alloc (.cells #[] 26)) B (.slice (some ⟨w.heap.size, 0, none⟩) 0 0) [] :=
  ⟨[], World.ownsRow_lit (e := 26) (size := 4) w #[] 0 hB (by simp [maxLen]) rfl, fun i hi => absurd hi (by simp)⟩
/-- Each cell of a row of gauges is one value. -/
theorem rowG_one {ys : List Value} {gs : List Gz} (hl : ys.length = gs.length * 4) (h : ∀ i, i < gs.length → ∃ u, RowG ys i (GZ gs i) u ∧ u.oneCell' = true) : ∀ y ∈ ys, y.oneCell' = true := by
  intro y hy
  obtain ⟨j, hj, e⟩ := List.getElem_of_mem hy
  obtain ⟨u, ⟨y0, y1, y2, y3⟩, hu⟩ := h (j / 4) (by omega)
  have he : ys[j]? = some y := by rw [List.getElem?_eq_getElem hj, e]
  have h4 : j = j / 4 * 4 ∨ j = j / 4 * 4 + 1 ∨ j = j / 4 * 4 + 2 ∨ j = j / 4 * 4 + 3 := by omega
  rcases h4 with h4 | h4 | h4 | h4
  · rw [← h4, he] at y0; injection y0 with y0; subst y0; rfl
  · rw [← h4, he] at y1; injection y1 with y1; subst y1; rfl
  · rw [← h4, he] at y2; injection y2 with y2; subst y2; rfl
  · rw [← h4, he] at y3; injection y3 with y3; subst y3; exact hu
theorem GZ_left {gs : List Gz} {g : Gz} {i : Nat} (h : i < gs.length) : GZ (gs ++ [g]) i = GZ gs i := by
  simp [GZ, List.getD_eq_getElem?_getD, List.getElem?_append_left h]
theorem GZ_last (gs : List Gz) (g : Gz) : GZ (gs ++ [g]) gs.length = g := by
  simp [GZ, List.getD_eq_getElem?_getD]
/-- A gauge more. -/
theorem GRow.push {w w' : World} {B : Nat} {v v' u : Value} {gs : List Gz} {ys : List Value} (g : Gz) (ho : w.ownsRow B 26 4 v gs.length ys) (hr : ∀ i, i < gs.length → ∃ u, RowG ys i (GZ gs i) u ∧ u.oneCell' = true ∧ w.ownsRow B 28 2 u (GZ gs i).xs.length ((GZ gs i).xs.flatMap pairC))
    (hu : w.ownsRow B 28 2 u g.xs.length (g.xs.flatMap pairC)) (h1 : u.oneCell' = true) (ho' : w'.ownsRow B 26 4 v' (gs.length + 1) (ys ++ [.int .i64 g.id, .string g.nm, .int .i64 g.z, u])) (hg : w.grownBy w' v.ownBlock) : GRow w' B v' (gs ++ [g]) := by
  have hl := ho.1
  have hne : (28 : TypeId) ≠ 26 := by decide
  refine ⟨_, by rw [List.length_append]; exact ho', fun i hi => ?_⟩
  rw [List.length_append] at hi
  by_cases h : i < gs.length
  · obtain ⟨q, ⟨y0, y1, y2, y3⟩, hq, hrow⟩ := hr i h
    rw [GZ_left h]
    refine ⟨q, ⟨?_, ?_, ?_, ?_⟩, hq, hrow.kept hg (own_unlike hne hrow ho)⟩
    · rw [List.getElem?_append_left (by omega)]; exact y0
    · rw [List.getElem?_append_left (by omega)]; exact y1
    · rw [List.getElem?_append_left (by omega)]; exact y2
    · rw [List.getElem?_append_left (by omega)]; exact y3
  · have e : i = gs.length := by simp at hi; omega
    subst e
    rw [GZ_last]
    refine ⟨u, ⟨?_, ?_, ?_, ?_⟩, h1, hu.kept hg (own_unlike hne hu ho)⟩
    · rw [List.getElem?_append_right (by omega), show gs.length * 4 - ys.length = 0 by omega]; rfl
    · rw [List.getElem?_append_right (by omega), show gs.length * 4 + 1 - ys.length = 1 by omega]; rfl
    · rw [List.getElem?_append_right (by omega), show gs.length * 4 + 2 - ys.length = 2 by omega]; rfl
    · rw [List.getElem?_append_right (by omega), show gs.length * 4 + 3 - ys.length = 3 by omega]; rfl
/-- The same list in a row anew. -/
theorem GRow.copy {w w' : World} {B : Nat} {v v' : Value} {gs : List Gz} {ys : List Value} (hv : w.ownsRow B 26 4 v 0 []) (hr : ∀ i, i < gs.length → ∃ u, RowG ys i (GZ gs i) u ∧ u.oneCell' = true ∧ w.ownsRow B 28 2 u (GZ gs i).xs.length ((GZ gs i).xs.flatMap pairC))
    (ho' : w'.ownsRow B 26 4 v' gs.length ys) (hg : w.grownBy w' v.ownBlock) : GRow w' B v' gs :=
  ⟨ys, ho', fun i hi => let ⟨u, a, b, c⟩ := hr i hi; ⟨u, a, b, c.kept hg (own_unlike (by decide) c hv)⟩⟩
/-- Names and readings of a possible size. -/
def GFit (gs : List Gz) : Prop := ∀ i, i < gs.length → (GZ gs i).nm.size ≤ 20 ∧ (GZ gs i).xs.length ≤ 40
theorem GFit.sized {gs : List Gz} (h : GFit gs) : GSized gs := fun i hi => by have := (h i hi).1; unfold maxLen; omega
theorem GFit.push {gs : List Gz} {g : Gz} (h : GFit gs) (h1 : g.nm.size ≤ 20) (h2 : g.xs.length ≤ 40) : GFit (gs ++ [g]) := fun i hi => by
  rw [List.length_append] at hi
  by_cases e : i < gs.length
  · rw [GZ_left e]; exact h i e
  · have : i = gs.length := by simp at hi; omega
    subst this
    rw [GZ_last]
    exact ⟨h1, h2⟩
theorem GFit.nil : GFit [] := fun i hi => absurd hi (by simp)
end Go.Proofs.Ytopdnhlolfehcaa

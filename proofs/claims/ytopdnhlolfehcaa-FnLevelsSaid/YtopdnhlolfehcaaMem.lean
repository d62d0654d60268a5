/-
  Slices in memory: a slice that reads as a list; a slice of the call's own.
  Conditions: none.
-/
import Derived.Test.YtopdnhlolfehcaaNum
namespace Go.Proofs.Ytopdnhlolfehcaa
open Go.ChangeShapes Go.WideShapes Go.ChangeAt Go.RowKit
set_option linter.unusedVariables false

/-- The slice value v holds the elements xs, k cells each, whose cells g tells. -/
def Lies {α : Type} (w : World) (k : Nat) (g : α → List Value) (v : Value) (xs : List α) : Prop :=
  ∃ A c, v = .slice A xs.length c ∧ xs.length ≤ c ∧ c ≤ maxLen ∧ (0 < xs.length → ∃ b off, A = some ⟨b, off, none⟩ ∧ ∀ i (h : i < xs.length) j u, (g xs[i])[j]? = some u → w.cell? ⟨b, off + i * k + j, none⟩ = some u)

section
variable {α : Type} {w w' : World} {k : Nat} {g : α → List Value} {v : Value} {xs : List α}
theorem Lies.kept (h : Lies w k g v xs) (hk : Kept w w') : Lies w' k g v xs := by
  obtain ⟨A, c, e, h1, h2, h3⟩ := h
  refine ⟨A, c, e, h1, h2, fun h0 => ?_⟩
  obtain ⟨b, off, ea, hc⟩ := h3 h0
  exact ⟨b, off, ea, fun i hi j u hu => hk.keep (hc i hi j u hu)⟩
theorem Lies.drew (h : Lies w k g v xs) : Lies w.drew k g v xs := h.kept (Kept.drew (Kept.refl _))
theorem Lies.nil (w : World) (k : Nat) (g : α → List Value) : Lies w k g (.slice none 0 0) [] := ⟨none, 0, rfl, Nat.le_refl _, by simp [maxLen], fun h => absurd h (by simp)⟩
theorem Lies.len (h : Lies w k g v xs) : xs.length ≤ maxLen := by
  obtain ⟨A, c, e, h1, h2, h3⟩ := h
  omega
end

section
variable {w w' : World} {base size n : Nat} {e : TypeId} {v : Value} {xs : List Value}
theorem own_kept (h : w.ownsRow base e size v n xs) (hk : Kept w w') : w'.ownsRow base e size v n xs :=
  h.kept (row := none) ⟨Below.os hk, Below.tape hk, Below.output hk, Below.size hk, fun i hi _ => Below.block hk i hi⟩ (by cases hv : v.ownBlock <;> simp)
theorem own_base {base' : Nat} (h : w.ownsRow base e size v n xs) (hb : base' ≤ base) : w.ownsRow base' e size v n xs := by
  refine ⟨h.1, ?_⟩
  rcases h.2 with h0 | ⟨g, cap, cur, rfl, hg, r⟩
  · exact .inl h0
  · exact .inr ⟨g, cap, cur, rfl, by omega, r⟩
theorem own_form (h : w.ownsRow base e size v n xs) : ∃ A c, v = .slice A n c ∧ n ≤ c ∧ c ≤ maxLen ∧ (0 < n → ∃ g, A = some ⟨g, 0, none⟩ ∧ base ≤ g ∧ g < w.heap.size) := by
  have hl := h.lt
  rcases h.2 with ⟨rfl, rfl⟩ | ⟨g, cap, cur, rfl, hg, hh, hn, hc, _⟩
  · exact ⟨none, 0, rfl, Nat.le_refl _, by simp [maxLen], fun h => absurd h (by simp)⟩
  · exact ⟨_, cap, rfl, hn, hc, fun _ => ⟨g, rfl, hg, (hl g rfl).2⟩⟩
theorem own_cell {g c : Nat} (h : w.ownsRow base e size (.slice (some ⟨g, 0, none⟩) n c) n xs) {j : Nat} (hj : j < n * size) : ∃ u, xs[j]? = some u ∧ w.cell? ⟨g, j, none⟩ = some u ∧ w.frozen? ⟨g, j, none⟩ = false := by
  have hl : j < xs.length := by rw [h.1]; exact hj
  have he : xs[j]? = some xs[j] := List.getElem?_eq_getElem hl
  exact ⟨_, he, (h.cellAt j hj).trans he, h.frozenAt j⟩
theorem Kept.of_grown {g : Nat} {row : Option Nat} {a b c : World} (h : Kept a b) (hg : b.grownBy c row) (hr : row = none ∨ row = some g) (hb : a.heap.size ≤ g) : Kept a c :=
  h.grown hg (fun k hk => by rcases hr with e | e <;> rw [e] at hk <;> simp at hk; omega)
theorem grown_trans' {a b c : World} {row : Option Nat} (h : a.grownBy b row) (k : b.grownBy c row) : a.grownBy c row :=
  ⟨k.os.trans h.os, k.tape.trans h.tape, k.output.trans h.output, Nat.le_trans h.size k.size, fun i hi hn => (k.block i (Nat.lt_of_lt_of_le hi h.size) hn).trans (h.block i hi hn)⟩
theorem grown_kept {a b c : World} {row : Option Nat} (h : a.grownBy b row) (k : Kept b c) : a.grownBy c row :=
  ⟨(Below.os k).trans h.os, (Below.tape k).trans h.tape, (Below.output k).trans h.output, Nat.le_trans h.size k.size, fun i hi hn => (Below.block k i (Nat.lt_of_lt_of_le hi h.size)).trans (h.block i hi hn)⟩
theorem grown_of_kept {a b : World} {row : Option Nat} (k : Kept a b) : a.grownBy b row := ⟨Below.os k, Below.tape k, Below.output k, Below.size k, fun i hi _ => Below.block k i hi⟩

/-- A slice of the call's own reads as the list. -/
theorem Lies.of_own {α : Type} {g : α → List Value} {ys : List α} (hs : ∀ y, (g y).length = size) (h : w.ownsRow base e size v ys.length (ys.flatMap g)) : Lies w size g v ys := by
  obtain ⟨A, c, rfl, h1, h2, h3⟩ := own_form h
  refine ⟨A, c, rfl, h1, h2, fun h0 => ?_⟩
  obtain ⟨b, rfl, _, _⟩ := h3 h0
  refine ⟨b, 0, rfl, fun i hi j u hu => ?_⟩
  have hj : j < size := by rw [← hs ys[i]]; exact (List.getElem?_eq_some_iff.1 hu).1
  have hm : i * size + j < ys.length * size := Nat.lt_of_lt_of_le (by omega : i * size + j < i * size + size) (by rw [← Nat.succ_mul]; exact Nat.mul_le_mul_right _ hi)
  rw [Nat.zero_add, h.cellAt _ hm, ← hu]
  clear h h3 hm
  induction ys generalizing i with
  | nil => simp at hi
  | cons y ys ih =>
    cases i with
    | zero =>
      simp only [Nat.zero_mul, Nat.zero_add, List.flatMap_cons, List.getElem_cons_zero]
      rw [List.getElem?_append_left (by rw [hs]; exact hj)]
    | succ i =>
      rw [List.flatMap_cons, List.getElem?_append_right (by rw [hs, Nat.succ_mul]; omega), hs]
      have := ih (by simp at h1; omega) (by simp at hi; omega) i (by simpa using hi) (by simpa using hu)
      simpa [Nat.succ_mul, Nat.add_sub_cancel, show i * size + size + j - size = i * size + j by omega] using this
end

theorem run_make_rowN {P : Program} (t e : TypeId) (i : TypeInfo) (z : Value) (ht : P.underlying t = some (.slice e)) (hi : P.info? e = some i) (hz : i.zero = some z)
    (kl kc : IntKind) (n c : Nat) (hnc : n ≤ c) (hbytes : i.bytes * c ≤ 281474976710656) (h63 : c ≤ 9223372036854775807) (w : World) :
    (Instr.makeSlice t (.int kl (n : Int)) (.int kc (c : Int))).run P w = .ok (.slice (some ⟨w.heap.size, 0, none⟩) n c) (w.alloc (.cells (madeCells z.cells (c * i.size)) e)) := by
  have hb : (i.bytes : Int) * (c : Int) ≤ 281474976710656 := by
    have h : ((i.bytes * c : Nat) : Int) ≤ 281474976710656 := by omega
    rwa [Int.natCast_mul] at h
  have hr := run_make (P := P) w t e i z ht hi hz kl kc n c (by omega) (by omega) hb (by omega)
  simp only [Int.toNat_natCast] at hr
  exact hr

/-- 'Every index says yes', as a Bool. -/
def allB (n : Nat) (f : Nat → Bool) : Bool := (List.range n).all f
theorem allB_true {n : Nat} {f : Nat → Bool} (h : ∀ i, i < n → f i = true) : allB n f = true := by
  simp only [allB, List.all_eq_true, List.mem_range]
  exact h
theorem allB_false {n : Nat} {f : Nat → Bool} {k : Nat} (hk : k < n) (h : f k = false) : allB n f = false := by
  simp only [allB, List.all_eq_false, List.mem_range]
  exact ⟨k, hk, by simp [h]⟩
theorem allB_at {n : Nat} {f : Nat → Bool} (h : allB n f = true) {k : Nat} (hk : k < n) : f k = true := by
  simp only [allB, List.all_eq_true, List.mem_range] at h
  exact h k hk
theorem upto_succ {k : Nat} {p : Nat → Prop} (h : ∀ i, i < k → p i) (hk : p k) : ∀ i, i < k + 1 → p i := fun i hi => by
  by_cases e : i = k
  · subst e; exact hk
  · exact h i (by omega)

/-- The two numbers of a list's i-th pair. -/
def P1 (xs : List (Int × Int)) (i : Nat) : Int := (xs.getD i (0, 0)).1
def P2 (xs : List (Int × Int)) (i : Nat) : Int := (xs.getD i (0, 0)).2
theorem P1_at {xs : List (Int × Int)} {i : Nat} (h : i < xs.length) : P1 xs i = xs[i].1 := by simp [P1, List.getD_eq_getElem?_getD, h]
theorem P2_at {xs : List (Int × Int)} {i : Nat} (h : i < xs.length) : P2 xs i = xs[i].2 := by simp [P2, List.getD_eq_getElem?_getD, h]

def pairC (p : Int × Int) : List Value := [.int .i64 p.1, .int .i64 p.2]
def intC (p : Int) : List Value := [.int .i64 p]
def strC (p : ByteArray) : List Value := [.string p]
theorem pairs_own {w : World} {base : Nat} {e : TypeId} {v : Value} {xs : List (Int × Int)} (h : w.ownsRow base e 2 v xs.length (xs.flatMap pairC)) : Lies w 2 pairC v xs := Lies.of_own (g := pairC) (fun _ => rfl) h
theorem ints_own {w : World} {base : Nat} {e : TypeId} {v : Value} {xs : List Int} (h : w.ownsRow base e 1 v xs.length (xs.flatMap intC)) : Lies w 1 intC v xs := Lies.of_own (g := intC) (fun _ => rfl) h
/-- A slice of structs of two numbers: its cells. -/
theorem lies_pairs {w : World} {v : Value} {xs : List (Int × Int)} (h : Lies w 2 pairC v xs) : ∃ A c, v = .slice A xs.length c ∧ xs.length ≤ c ∧ c ≤ maxLen ∧ (0 < xs.length → ∃ b off, A = some ⟨b, off, none⟩ ∧
    ∀ i, i < xs.length → w.cell? ⟨b, off + i * 2, none⟩ = some (.int .i64 (P1 xs i)) ∧ w.cell? ⟨b, off + i * 2 + 1, none⟩ = some (.int .i64 (P2 xs i))) := by
  obtain ⟨A, c, e, h1, h2, h3⟩ := h
  refine ⟨A, c, e, h1, h2, fun h0 => ?_⟩
  obtain ⟨b, off, ea, hc⟩ := h3 h0
  refine ⟨b, off, ea, fun i hi => ⟨?_, ?_⟩⟩
  · rw [P1_at hi]; exact hc i hi 0 _ rfl
  · rw [P2_at hi]; exact hc i hi 1 _ rfl
theorem lies_ints {w : World} {v : Value} {xs : List Int} (h : Lies w 1 intC v xs) : ∃ A c, v = .slice A xs.length c ∧ xs.length ≤ c ∧ c ≤ maxLen ∧ (0 < xs.length → ∃ b off, A = some ⟨b, off, none⟩ ∧
    ∀ i, i < xs.length → w.cell? ⟨b, off + i, none⟩ = some (.int .i64 (xs.getD i 0))) := by
  obtain ⟨A, c, e, h1, h2, h3⟩ := h
  refine ⟨A, c, e, h1, h2, fun h0 => ?_⟩
  obtain ⟨b, off, ea, hc⟩ := h3 h0
  refine ⟨b, off, ea, fun i hi => ?_⟩
  have := hc i hi 0 _ rfl
  simpa [List.getD_eq_getElem?_getD, hi] using this
end Go.Proofs.Ytopdnhlolfehcaa

/-
  Contracts of the cursor from which the drawn laws read their choices.
  Conditions: none.
-/
import Derived.Test.YtopdnhlolfehcaaMem
import Derived.BigRegion
namespace Go.Proofs.Ytopdnhlolfehcaa
open Go.ChangeShapes Go.WideShapes Go.ChangeAt Go.RowKit
set_option linter.unusedVariables false
set_option linter.unusedSimpArgs false

/-- A slice of bytes that does not lie in block g. -/
def CodeIn (w : World) (g : Nat) (A : Option Addr) (len cap : Nat) : Prop := len ≤ cap ∧ cap ≤ maxLen ∧ (0 < len → ∃ b off, A = some ⟨b, off, none⟩ ∧ b < g ∧ ∀ i, i < len → ∃ x : Int, 0 ≤ x ∧ x < 256 ∧ w.cell? ⟨b, off + i, none⟩ = some (.int .u8 x))
/-- A cursor lies in block g; it has been asked n times. -/
structure Cur (w : World) (g : Nat) (n : Int) : Prop where
  code : ∃ A len cap, w.cell? ⟨g, 0, none⟩ = some (.slice A len cap) ∧ CodeIn w g A len cap
  at_ : w.cell? ⟨g, 1, none⟩ = some (.int .i64 n)
  seed : ∃ s : Int, w.cell? ⟨g, 2, none⟩ = some (.int .u64 s)
  f1 : w.frozen? ⟨g, 1, none⟩ = false
  f2 : w.frozen? ⟨g, 2, none⟩ = false
  pos : 0 ≤ n
theorem CodeIn.kept {w w' : World} {g : Nat} {A : Option Addr} {len cap : Nat} (h : CodeIn w g A len cap) (k : Kept w w') : CodeIn w' g A len cap := by
  obtain ⟨h1, h2, h3⟩ := h
  refine ⟨h1, h2, fun h0 => ?_⟩
  obtain ⟨b, off, e, hb, hc⟩ := h3 h0
  exact ⟨b, off, e, hb, fun i hi => let ⟨x, x0, x1, hx⟩ := hc i hi; ⟨x, x0, x1, k.keep hx⟩⟩
theorem Cur.kept {w w' : World} {g : Nat} {n : Int} (h : Cur w g n) (k : Kept w w') : Cur w' g n := by
  obtain ⟨⟨A, len, cap, h0, hc⟩, h1, ⟨s, h2⟩, f1, f2, hp⟩ := h
  exact ⟨⟨A, len, cap, k.keep h0, hc.kept k⟩, k.keep h1, ⟨s, k.keep h2⟩, k.free h1 f1, k.free h2 f2, hp⟩
theorem Cur.lt {w : World} {g : Nat} {n : Int} (h : Cur w g n) : g < w.heap.size := by
  have := World.block_lt_of_cell? w _ h.at_
  simpa using this
/-- A store into the cursor's second or third cell leaves the code as it is. -/
theorem CodeIn.set {w : World} {g : Nat} {A : Option Addr} {len cap : Nat} (h : CodeIn w g A len cap) (o : Nat) (v : Value) : CodeIn (w.setCell ⟨g, o, none⟩ v) g A len cap := by
  obtain ⟨h1, h2, h3⟩ := h
  refine ⟨h1, h2, fun h0 => ?_⟩
  obtain ⟨b, off, e, hb, hc⟩ := h3 h0
  refine ⟨b, off, e, hb, fun i hi => ?_⟩
  obtain ⟨x, x0, x1, hx⟩ := hc i hi
  refine ⟨x, x0, x1, ?_⟩
  rw [World.cell?_setCell_other w _ _ _ (fun e => Nat.ne_of_lt hb (by injection e with e1; exact e1.symm))]
  exact hx
theorem CodeIn.drewN {w : World} {g : Nat} {A : Option Addr} {len cap : Nat} (h : CodeIn w g A len cap) (n : Nat) : CodeIn (w.drewN n) g A len cap := h.kept (Kept.drewN (Kept.refl _) n)
theorem grown_set {w : World} {g o : Nat} (v : Value) : w.grownBy (w.setCell ⟨g, o, none⟩ v) (some g) :=
  ⟨rfl, rfl, rfl, by simp, fun k _ hk => heap_setCell_other w ⟨g, o, none⟩ k v (fun e => hk (by rw [e]))⟩
theorem and255 (y : Int) : 0 ≤ bits BinOp.and IntKind.u64 y 255 ∧ bits BinOp.and IntKind.u64 y 255 < 256 := by
  have h : (BitVec.ofInt 64 y &&& BitVec.ofInt 64 255).toNat ≤ 255 := by
    rw [BitVec.toNat_and]
    exact Nat.le_trans Nat.and_le_right (by decide)
  have e : bits BinOp.and IntKind.u64 y 255 = IntKind.u64.wrap (((BitVec.ofInt 64 y &&& BitVec.ofInt 64 255).toNat : Nat) : Int) := rfl
  rw [e]
  generalize (BitVec.ofInt 64 y &&& BitVec.ofInt 64 255).toNat = m at h
  rw [IntWalk.u64_in _ (by omega)]
  omega
theorem grown_drewN (w : World) (n : Nat) (r : Option Nat) : w.grownBy (w.drewN n) r := grown_of_kept (Kept.drewN (Kept.refl w) n)
theorem Cur.step {w : World} {g : Nat} {n : Int} (h : Cur w g n) (a b : Nat) (S : Int) : Cur ((((w.drewN a).setCell ⟨g, 1, none⟩ (.int .i64 (n + 1))).setCell ⟨g, 2, none⟩ (.int .u64 S)).drewN b) g (n + 1) := by
  obtain ⟨⟨A, len, cap, h0, hc⟩, h1, ⟨s, h2⟩, f1, f2, hp⟩ := h
  exact ⟨⟨A, len, cap, by simp [go_sem, *], (((hc.drewN a).set 1 _).set 2 _).drewN b⟩, by simp [go_sem, *], ⟨S, by simp [go_sem, *]⟩, by simp [go_sem, *], by simp [go_sem, *], by omega⟩
theorem grown_step (w : World) (g : Nat) (n : Int) (a b : Nat) (S : Int) : w.grownBy ((((w.drewN a).setCell ⟨g, 1, none⟩ (.int .i64 n)).setCell ⟨g, 2, none⟩ (.int .u64 S)).drewN b) (some g) :=
  grown_trans' (grown_trans' (grown_trans' (grown_drewN w a _) (grown_set _)) (grown_set _)) (grown_drewN _ b _)
/-- A store into a block behind the cursor's. -/
theorem Cur.set {w : World} {g : Nat} {n : Int} (h : Cur w g n) {p : Addr} (hp : g < p.block) (v : Value) : Cur (w.setCell p v) g n := by
  obtain ⟨⟨A, len, cap, h0, hc⟩, h1, ⟨s, h2⟩, f1, f2, hpos⟩ := h
  have hk : ∀ q : Addr, q.block < p.block → (w.setCell p v).heap[q.block]? = w.heap[q.block]? := fun q hq => heap_setCell_other w p q.block v (by omega)
  refine ⟨⟨A, len, cap, ?_, hc.1, hc.2.1, fun hl => ?_⟩, ?_, ⟨s, ?_⟩, ?_, ?_, hpos⟩
  · rw [World.cell?_of_block (w := w) (hk ⟨g, 0, none⟩ hp)]; exact h0
  · obtain ⟨b, off, e, hb, hx⟩ := hc.2.2 hl
    refine ⟨b, off, e, hb, fun i hi => ?_⟩
    obtain ⟨x, x0, x1, hx⟩ := hx i hi
    exact ⟨x, x0, x1, by rw [World.cell?_of_block (w := w) (hk ⟨b, off + i, none⟩ (Nat.lt_trans hb hp))]; exact hx⟩
  · rw [World.cell?_of_block (w := w) (hk ⟨g, 1, none⟩ hp)]; exact h1
  · rw [World.cell?_of_block (w := w) (hk ⟨g, 2, none⟩ hp)]; exact h2
  · rw [World.frozen?_of_block (w := w) (hk ⟨g, 1, none⟩ hp)]; exact f1
  · rw [World.frozen?_of_block (w := w) (hk ⟨g, 2, none⟩ hp)]; exact f2
set_option maxHeartbeats 2000000 in
theorem next_any (g : Nat) (n : Int) (w : World) (hC : Cur w g n) (hn : n ≤ 1000000) : Calls Try.prog 100 #[.pointer (some ⟨g, 0, none⟩)] w fun e w' => ∃ x : Int, e = .returned (.int .i64 x) ∧ (0 ≤ x ∧ x < 256) ∧ Cur w' g (n + 1) ∧ w.grownBy w' (some g) := by
  have HW := Lib.hid hC
  obtain ⟨⟨A, len, cap, h0, hc⟩, h1, ⟨s, h2⟩, f1, f2, hp⟩ := hC
  have hl : len ≤ maxLen := by have := hc.1; have := hc.2.1; omega
  unfold maxLen at hl
  by_cases hlt : n < (len : Int)
  · obtain ⟨m, rfl⟩ : ∃ m : Nat, n = (m : Int) := ⟨n.toNat, by omega⟩
    have HC := Lib.hid hc
    obtain ⟨b, off, rfl, hb0, hx⟩ := hc.2.2 (by omega)
    have hb : b ≠ g := Nat.ne_of_lt hb0
    clear hb0
    obtain ⟨x, x0, x1, hx⟩ := hx m (by omega)
    clear hc
    go_enter Try.func100, Try.ntmps100
    go_wp2_with fail
    go_quiet (fail)
    go_wp2_with fail
    go_quiet (fail)
    go_wp2_with fail
    have k0 : (m : Int) + 1 ≤ (len : Int) := by omega
    go_quiet (fail)
    go_wp2_with fail
    go_ret
    exact ⟨x, rfl, ⟨x0, x1⟩, HW.out.step _ _ _, grown_step _ _ _ _ _ _⟩
  · have h3 : (len : Int) ≤ n := by omega
    have h4 : (len : Int) < n + 1 := by omega
    have HC := Lib.hid hc
    clear hc
    go_enter Try.func100, Try.ntmps100
    go_wp2_with fail
    go_quiet (fail)
    go_wp2_with fail
    go_quiet (fail)
    go_wp2_with fail
    go_ret
    obtain ⟨q0, q1⟩ := and255 (IntKind.u64.wrap (IntKind.u64.wrap (IntKind.u64.wrap (s * 6364136223846793005)) + 103131) / 1099511627776)
    refine ⟨_, rfl, ?_, HW.out.step _ _ _, grown_step _ _ _ _ _ _⟩
    unfold wrap64
    omega
end Go.Proofs.Ytopdnhlolfehcaa

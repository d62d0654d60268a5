/-
  What every text of this seat's proofs leans on: the laws' last step (a walk that ends in true and leaves old memory alone gives the statement), and small words for memory.
  Conditions: none.
-/
import Derived.Test.YtopdnhlolfehcaaRows
import Derived.WalkKit
import Derived.ProofKit
import Derived.WalkLawsBesides
import Derived.WalkSpells
import Derived.Below
import Derived.Carry
import Derived.ChangeSame
import Derived.Lib.Hide
import Derived.OpenShut
import Derived.Lib.SmallJoins
import Derived.Deep.QuietTactic
import Derived.BigQuiet
import Derived.BigGuardPart
import Derived.Outline
import Derived.StillTailTactics
import Derived.Deep.RegionHeld3
import Derived.Deep.RegionWith
import Derived.Deep.RegionLaw
import Derived.Deep.DeepFit
import Derived.Deep.DeepMust
import Derived.ShutString
import Derived.Deep.Draws
import Derived.IntWalk
namespace Go.Proofs.Ytopdnhlolfehcaa
open Go.ChangeShapes Go.WideShapes Go.ChangeAt Go.RowKit

theorem own : ownKnob Try.prog.godebug = none := by kernel_rfl
theorem laidOut : laidOutB Try.prog = true := by kernel_rfl

@[simp, go_sem] theorem nlt2 (n : Nat) : n < n + 1 + 1 := by omega
@[simp, go_sem] theorem nle2 (n : Nat) : n ≤ n + 1 + 1 := by omega
@[simp, go_sem] theorem nne2 (n : Nat) : ¬ n = n + 1 + 1 := by omega
@[simp, go_sem] theorem nen2 (n : Nat) : ¬ n + 1 + 1 = n := by omega
@[simp, go_sem] theorem nlt3 (n : Nat) : n < n + 1 + 1 + 1 := by omega
@[simp, go_sem] theorem nle3 (n : Nat) : n ≤ n + 1 + 1 + 1 := by omega
@[simp, go_sem] theorem nne3 (n : Nat) : ¬ n = n + 1 + 1 + 1 := by omega
@[simp, go_sem] theorem nen3 (n : Nat) : ¬ n + 1 + 1 + 1 = n := by omega
@[simp, go_sem] theorem nlt4 (n : Nat) : n < n + 1 + 1 + 1 + 1 := by omega
@[simp, go_sem] theorem nle4 (n : Nat) : n ≤ n + 1 + 1 + 1 + 1 := by omega
@[simp, go_sem] theorem nne4 (n : Nat) : ¬ n = n + 1 + 1 + 1 + 1 := by omega
@[simp, go_sem] theorem nen4 (n : Nat) : ¬ n + 1 + 1 + 1 + 1 = n := by omega
@[simp, go_sem] theorem nlt5 (n : Nat) : n < n + 1 + 1 + 1 + 1 + 1 := by omega
@[simp, go_sem] theorem nle5 (n : Nat) : n ≤ n + 1 + 1 + 1 + 1 + 1 := by omega
@[simp, go_sem] theorem nne5 (n : Nat) : ¬ n = n + 1 + 1 + 1 + 1 + 1 := by omega
@[simp, go_sem] theorem nen5 (n : Nat) : ¬ n + 1 + 1 + 1 + 1 + 1 = n := by omega
@[simp, go_sem] theorem nlt6 (n : Nat) : n < n + 1 + 1 + 1 + 1 + 1 + 1 := by omega
@[simp, go_sem] theorem nle6 (n : Nat) : n ≤ n + 1 + 1 + 1 + 1 + 1 + 1 := by omega
@[simp, go_sem] theorem nne6 (n : Nat) : ¬ n = n + 1 + 1 + 1 + 1 + 1 + 1 := by omega
@[simp, go_sem] theorem nen6 (n : Nat) : ¬ n + 1 + 1 + 1 + 1 + 1 + 1 = n := by omega
@[simp, go_sem] theorem nlt7 (n : Nat) : n < n + 1 + 1 + 1 + 1 + 1 + 1 + 1 := by omega
@[simp, go_sem] theorem nle7 (n : Nat) : n ≤ n + 1 + 1 + 1 + 1 + 1 + 1 + 1 := by omega
@[simp, go_sem] theorem nne7 (n : Nat) : ¬ n = n + 1 + 1 + 1 + 1 + 1 + 1 + 1 := by omega
@[simp, go_sem] theorem nen7 (n : Nat) : ¬ n + 1 + 1 + 1 + 1 + 1 + 1 + 1 = n := by omega

/-- The world has grown: all that was there is as it was. -/
def Kept (w w' : World) : Prop := Below w.heap.size w w'
@[simp, go_sem] theorem Kept.refl (w : World) : Kept w w := Below.refl _ _
theorem Kept.trans {a b c : World} (h : Kept a b) (k : Kept b c) : Kept a c := Below.trans h (Below.mono k (Below.size h))
@[simp, go_sem] theorem Kept.drew {a b : World} (h : Kept a b) : Kept a b.drew := Below.drew h
@[simp, go_sem] theorem Kept.drewN {a b : World} (h : Kept a b) (n : Nat) : Kept a (b.drewN n) := ⟨Below.os (B := a.heap.size) (w := a) (w' := b) h, Below.tape (B := a.heap.size) (w := a) (w' := b) h, Below.output (B := a.heap.size) (w := a) (w' := b) h, Below.size (B := a.heap.size) (w := a) (w' := b) h, Below.block (B := a.heap.size) (w := a) (w' := b) h⟩
@[simp, go_sem] theorem Kept.alloc {a b : World} (h : Kept a b) (o : Obj) : Kept a (b.alloc o) := Below.alloc h (Below.size h) o
theorem Kept.setCell {a b : World} (h : Kept a b) {p : Addr} (hp : a.heap.size ≤ p.block) (u : Value) : Kept a (b.setCell p u) := Below.setCell h hp u
theorem Kept.size {a b : World} (h : Kept a b) : a.heap.size ≤ b.heap.size := Below.size h
theorem Kept.grown {a b c : World} (h : Kept a b) {row : Option Nat} (hg : b.grownBy c row) (hr : ∀ k, row = some k → a.heap.size ≤ k) : Kept a c := Below.grown h hg (Below.size h) hr
theorem Kept.cells {a b : World} (h : Kept a b) : (∀ k o, k < a.heap.size → b.cell? ⟨k, o, none⟩ = a.cell? ⟨k, o, none⟩) ∧ (∀ k o, k < a.heap.size → b.frozen? ⟨k, o, none⟩ = a.frozen? ⟨k, o, none⟩) :=
  ⟨fun k o hk => Below.cell (p := ⟨k, o, none⟩) h hk, fun k o hk => Below.frozen (p := ⟨k, o, none⟩) h hk⟩
theorem Kept.sz {a b : World} (h : Kept a b) {n : Nat} (hn : n < a.heap.size) : n < b.heap.size := Nat.lt_of_lt_of_le hn (Below.size h)
/-- The same, from the world of a function's first call on. -/
structure From (w w' : World) : Prop where
  kept : Kept w w'
theorem From.start {a b : World} (h : Kept a b) : From a b := ⟨h⟩
theorem From.step {a b c : World} (h : From a b) (k : Kept b c) : From a c := ⟨Kept.trans h.kept k⟩
theorem From.cells {a b : World} (h : From a b) : (∀ k o, k < a.heap.size → b.cell? ⟨k, o, none⟩ = a.cell? ⟨k, o, none⟩) ∧ (∀ k o, k < a.heap.size → b.frozen? ⟨k, o, none⟩ = a.frozen? ⟨k, o, none⟩) := Kept.cells h.kept
/-- The same, from a world whose cells are known. -/
structure Root (w w' : World) : Prop where
  kept : Kept w w'
@[simp, go_sem] theorem Root.refl (w : World) : Root w w := ⟨Kept.refl w⟩
theorem Root.trans {a b c : World} (h : Root a b) (k : Kept b c) : Root a c := ⟨Kept.trans h.kept k⟩
@[simp, go_sem] theorem Root.drew {a b : World} (h : Root a b) : Root a b.drew := ⟨h.kept.drew⟩
@[simp, go_sem] theorem Root.drewN {a b : World} (h : Root a b) (n : Nat) : Root a (b.drewN n) := ⟨h.kept.drewN n⟩
@[simp, go_sem] theorem Root.alloc {a b : World} (h : Root a b) (o : Obj) : Root a (b.alloc o) := ⟨h.kept.alloc o⟩
theorem Root.setCell {a b : World} (h : Root a b) {p : Addr} (hp : a.heap.size ≤ p.block) (u : Value) : Root a (b.setCell p u) := ⟨h.kept.setCell hp u⟩
theorem Root.size {a b : World} (h : Root a b) : a.heap.size ≤ b.heap.size := Below.size h.kept
theorem Kept.keep {a b : World} (h : Kept a b) {p : Addr} {v : Value} (hc : a.cell? p = some v) : b.cell? p = some v := (Below.cell h (World.block_lt_of_cell? a _ hc)).trans hc
theorem Root.keep {a b : World} (h : Root a b) {p : Addr} {v : Value} (hc : a.cell? p = some v) : b.cell? p = some v := Kept.keep h.kept hc
theorem Kept.free {a b : World} (h : Kept a b) {p : Addr} {v : Value} (hc : a.cell? p = some v) (hf : a.frozen? p = false) : b.frozen? p = false := (Below.frozen h (World.block_lt_of_cell? a _ hc)).trans hf

section
variable {H : Type} {enc : TypeId × Value → H} {P : Program}

/-- Every argument reads behind the call as it read before, if below the old heap nothing has turned. -/
theorem trodAll_below (hl : laidOutB P = true) {W W' : World} (hb : Below W.heap.size W W') : ∀ {ts : List TypeId} {vs : List Value} {ds : List (DataW H)} {ps : List MemPlace},
    ts.all (fun t => P.readableRec t && decide (t < P.types.size)) = true →
    DataW.TrodAll enc P W 0 (fun _ => true) true ts vs ds ps → (∀ x ∈ ps, x.block < W.heap.size) → ∀ sp : Nat → Bool, (∀ x ∈ ps, sp x.block = true) → DataW.TrodAll enc P W' 0 sp true ts vs ds ps
  | [], vs, ds, ps, _, h, _, _, _ => by
    obtain ⟨rfl, rfl, rfl⟩ := trodAll_nil h
    exact trodAll_mk0
  | t :: ts, vs, ds, ps, hr, h, hlt, sp, hsp => by
    simp only [List.all_cons, Bool.and_eq_true, decide_eq_true_eq] at hr
    obtain ⟨v, vs', d, ds', p, q, rfl, rfl, rfl, h0, h1⟩ := trodAll_cons h
    exact trodAll_cons_mk (WideElems.Trod_stays hl hr.1.1 hr.1.2 h0 (fun x hx => hb.same (hlt x (List.mem_append_left _ hx))) (fun x hx => hsp x (List.mem_append_left _ hx)))
      (trodAll_below hl hb hr.2 h1 (fun x hx => hlt x (List.mem_append_right _ hx)) sp (fun x hx => hsp x (List.mem_append_right _ hx)))

/-- THE LAWS' LAST STEP: the call returned true, and below the old heap nothing has turned. -/
theorem post_law (hl : laidOutB P = true) {f : Func} {s : ChangeSpec} {b : TypeId} (hbool : P.underlying b = some .bool) (hres : f.resultTypes = #[b])
    (hts : f.params.toList.all (fun t => P.readableRec t && decide (t < P.types.size)) = true) {W W' : World} {args : Array Value} {ds gs : List (DataW H)} {before : List MemPlace}
    (hvars : s.vars = [])
    (hW : DataW.Whole enc P f.params.toList s.vars false W args.toList ds gs before)
    (hspec : (s.fn H (ds ++ gs)).results = [.lit (.bool true)] ∧ (s.fn H (ds ++ gs)).args = ds ∧ (s.fn H (ds ++ gs)).vars = [])
    (hb : Below W.heap.size W W') :
    s.post enc P f false true false false W args (.bool true) W' := by
  have hW0 := hW
  obtain ⟨p, q, hA, hV, hpq, _, _⟩ := hW
  rw [hvars] at hV
  obtain ⟨rfl, rfl⟩ := trodVars_none hV
  have hlt : ∀ x ∈ before, x.block < W.heap.size := fun x hx => hW0.lt x hx
  have hold : ∀ x ∈ before, (fun b => decide (b < W.heap.size)) x.block = true := fun x hx => by simpa using hlt x hx
  have hpb : p = before := by rw [hpq]; simp
  subst hpb
  have hargs := fun sp hsp => trodAll_below hl hb hts hA hlt sp hsp
  have hR : ∀ (b0 : Nat) (sp : Nat → Bool) (hd : Bool), DataW.TrodAll enc P W' b0 sp hd f.resultTypes.toList ((Value.bool true).resultList f.resultTypes.size) (s.fn H (ds ++ [])).results [] := by
    intro b0 sp hd
    rw [hspec.1, hres]
    exact trodAll_cons_mk (shut_bool hbool _) trodAll_mk0
  have hVars : ∀ sp : Nat → Bool, DataW.TrodVars enc P W' sp s.vars (s.fn H (ds ++ [])).vars [] := by
    intro sp
    rw [hspec.2.2, hvars]
    rfl
  refine ⟨ds, [], p, [], p, [], hW0, hR _ _ _, by rw [hspec.2.1]; exact hargs _ hold, hVars _, World.keptBut_mono (fun p hp => ⟨hp, ?_⟩) (hb.frame (· ∈ p)), fun h => by cases h⟩
  exact Or.inr (Or.inl hp)
end
end Go.Proofs.Ytopdnhlolfehcaa

/-
  Contracts of the draws of spots and boxes.
  Conditions: none.
-/
import Derived.Test.YtnkofjfcioaaaaaDraw
import Derived.Maps.AppendAt
namespace Go.Proofs.Ytnkofjfcioaaaaa
open Go.ChangeShapes Go.WideShapes Go.ChangeAt Go.RowKit
set_option linter.unusedVariables false
set_option linter.unusedSimpArgs false

theorem free_of_block {w : World} {b : Nat} {cs : Array Value} {t : TypeId} (h : w.heap[b]? = some (.cells cs t (0, 0))) (j : Nat) : w.frozen? ⟨b, j, none⟩ = false := by
  simp [World.frozen?, h]
/-- The values vs lie in block b, free to be written. -/
def BoxN (w : World) (b : Nat) (vs : List Value) : Prop := ∀ j u, vs[j]? = some u → w.cell? ⟨b, j, none⟩ = some u ∧ w.frozen? ⟨b, j, none⟩ = false
section
variable {w w' : World} {b g : Nat} {vs : List Value}
theorem BoxN.kept (h : BoxN w b vs) (k : Kept w w') : BoxN w' b vs := fun j u hu => ⟨k.keep (h j u hu).1, k.free (h j u hu).1 (h j u hu).2⟩
theorem BoxN.stir (h : BoxN w b vs) (k : Stir g w w') (hb : b ≠ g) : BoxN w' b vs := fun j u hu => ⟨k.keep hb (h j u hu).1, k.free hb (h j u hu).1 (h j u hu).2⟩
theorem BoxN.new (w : World) (vs : List Value) (t : TypeId) : BoxN (w.alloc (.cells vs.toArray t)) w.heap.size vs := fun j u hu => by
  have hh := heap_alloc_new w (.cells vs.toArray t)
  refine ⟨?_, ?_⟩
  · rw [cell_of_row _ _ j _ t (0, 0) hh]
    simpa using hu
  · exact free_of_block hh j
theorem BoxN.c (h : BoxN w b vs) (j : Nat) (u : Value) (hu : vs[j]? = some u) : w.cell? ⟨b, j, none⟩ = some u := (h j u hu).1
theorem BoxN.f (h : BoxN w b vs) (j : Nat) (u : Value) (hu : vs[j]? = some u) : w.frozen? ⟨b, j, none⟩ = false := (h j u hu).2
theorem BoxN.two {v0 v1 : Value} (h : BoxN w b [v0, v1]) : w.cell? ⟨b, 0, none⟩ = some v0 ∧ w.frozen? ⟨b, 0, none⟩ = false ∧ w.cell? ⟨b, 1, none⟩ = some v1 ∧ w.frozen? ⟨b, 1, none⟩ = false :=
  ⟨(h 0 _ rfl).1, (h 0 _ rfl).2, (h 1 _ rfl).1, (h 1 _ rfl).2⟩
theorem BoxN.four {v0 v1 v2 v3 : Value} (h : BoxN w b [v0, v1, v2, v3]) : w.cell? ⟨b, 0, none⟩ = some v0 ∧ w.frozen? ⟨b, 0, none⟩ = false ∧ w.cell? ⟨b, 1, none⟩ = some v1 ∧ w.frozen? ⟨b, 1, none⟩ = false ∧ w.cell? ⟨b, 2, none⟩ = some v2 ∧ w.frozen? ⟨b, 2, none⟩ = false ∧ w.cell? ⟨b, 3, none⟩ = some v3 ∧ w.frozen? ⟨b, 3, none⟩ = false :=
  ⟨(h 0 _ rfl).1, (h 0 _ rfl).2, (h 1 _ rfl).1, (h 1 _ rfl).2, (h 2 _ rfl).1, (h 2 _ rfl).2, (h 3 _ rfl).1, (h 3 _ rfl).2⟩
end
theorem Stir.set {g : Nat} {a b : World} (h : Stir g a b) {p : Addr} (hp : a.heap.size ≤ p.block) (u : Value) : Stir g a (b.setCell p u) :=
  ⟨h.by_.os, h.by_.tape, h.by_.output, by simpa using h.by_.size, fun k hk hg => by
    rw [heap_setCell_other b p k u (by omega)]
    exact h.by_.block k hk hg⟩
theorem BoxN.set {w : World} {b : Nat} {vs : List Value} (h : BoxN w b vs) (i : Nat) (v : Value) : BoxN (w.setCell ⟨b, i, none⟩ v) b (vs.set i v) := fun j u hu => by
  by_cases e : j = i
  · subst e
    have hl : j < vs.length := by
      have := (List.getElem?_eq_some_iff.1 hu).1
      simpa using this
    rw [List.getElem?_set_self hl] at hu
    injection hu with hu
    subst hu
    obtain ⟨h1, h2⟩ := h j vs[j] (List.getElem?_eq_getElem hl)
    exact ⟨by simp [go_sem, *], by simp [go_sem, *]⟩
  · rw [List.getElem?_set_ne (by omega)] at hu
    obtain ⟨h1, h2⟩ := h j u hu
    refine ⟨?_, by simp [go_sem, *]⟩
    rw [World.cell?_setCell_other w _ _ _ (by first | (simp; omega; done) | (intro e2; injection e2 with e3 e4; omega))]
    exact h1
/-- among of a list that was made for it: at the world behind it. -/
theorem CurB.after {w w' : World} {g : Nat} {k : Int} (h : CurB w g k) (q : Kept w w') : CurB w' g k := h.kept q
set_option maxHeartbeats 1000000 in
theorem spot_any (g : Nat) (k : Int) (w : World) (hC : CurB w g k) (hk : k ≤ 800000) : Calls Try.prog 67 #[.pointer (some ⟨g, 0, none⟩)] w fun e w' => ∃ x y : Int, e = .returned (.agg #[.int .i64 x, .int .i64 y]) ∧ CurB w' g (k + 8) ∧ Stir g w w' := by
  have C0 := Lib.hid hC
  have S0 := Lib.hid (Stir.refl g w)
  have hg := hC.lt
  clear hC
  go_enter Try.func67, Try.ntmps67
  go_wp2_with fail
  refine (among_any g _ 7 (k) [0, 10, 20, 30, 50, 100, 1000] _ (by have hq := C0.out; (repeat (first | with_reducible refine CurB.set ?_ (by first | (simp; done) | (simp; omega) | omega) _ | with_reducible refine CurB.kept ?_ (Kept.alloc (Kept.refl _) _) | with_reducible refine CurB.kept ?_ (Kept.drew (Kept.refl _)) | with_reducible refine CurB.kept ?_ (Kept.drewN (Kept.refl _) _) | with_reducible assumption))) (by omega) (by exact NumsIn.lit (by rfl) (by simp)) (by first | (simp; done) | (simp; omega)) (by decide) (by decide)).mono ?_
  rintro e w1 ⟨x1, rfl, hm1, hc1, hs1⟩
  have A1 := Lib.hid (BoxN.stir ((BoxN.new w [.int .i64 0, .int .i64 0] 26).kept (Kept.alloc (Kept.refl _) _)) hs1 (by first | (simp; done) | (simp; omega) | omega))
  have C1 := Lib.hid hc1
  have z1 := hs1.size
  try simp only [World.size_alloc, World.size_setCell, World.size_drew] at z1
  have S1 : Hid (Stir g w w1) := Lib.hid (Stir.trans (by have hq := S0.out; (repeat (first | with_reducible refine Stir.set ?_ (by first | (simp; done) | (simp; omega) | omega) _ | with_reducible refine Stir.alloc ?_ _ | with_reducible refine Stir.drew ?_ | with_reducible refine Stir.drewN ?_ _ | with_reducible assumption | with_reducible exact Stir.refl _ _))) hs1)
  clear hc1 hs1
  go_wp2_with fail
  refine (among_any g _ 7 (k + 2) [0, 10, 20, 40, 60, 100, 1000] _ (by have hq := C1.out; (repeat (first | with_reducible refine CurB.set ?_ (by first | (simp; done) | (simp; omega) | omega) _ | with_reducible refine CurB.kept ?_ (Kept.alloc (Kept.refl _) _) | with_reducible refine CurB.kept ?_ (Kept.drew (Kept.refl _)) | with_reducible refine CurB.kept ?_ (Kept.drewN (Kept.refl _) _) | with_reducible assumption))) (by omega) (by exact NumsIn.lit (by rfl) (by simp)) (by first | (simp; done) | (simp; omega)) (by decide) (by decide)).mono ?_
  rintro e w2 ⟨x2, rfl, hm2, hc2, hs2⟩
  have A2 := Lib.hid (BoxN.stir (A1.out.kept (Kept.alloc (Kept.refl _) _)) hs2 (by first | (simp; done) | (simp; omega) | omega))
  have C2 := Lib.hid hc2
  have z2 := hs2.size
  try simp only [World.size_alloc, World.size_setCell, World.size_drew] at z2
  have S2 : Hid (Stir g w w2) := Lib.hid (Stir.trans (by have hq := S1.out; (repeat (first | with_reducible refine Stir.set ?_ (by first | (simp; done) | (simp; omega) | omega) _ | with_reducible refine Stir.alloc ?_ _ | with_reducible refine Stir.drew ?_ | with_reducible refine Stir.drewN ?_ _ | with_reducible assumption | with_reducible exact Stir.refl _ _))) hs2)
  clear hc2 hs2
  go_wp2_with fail
  refine (one_any g (k + 2 + 2) 48 _ (by have hq := C2.out; (repeat (first | with_reducible refine CurB.set ?_ (by first | (simp; done) | (simp; omega) | omega) _ | with_reducible refine CurB.kept ?_ (Kept.alloc (Kept.refl _) _) | with_reducible refine CurB.kept ?_ (Kept.drew (Kept.refl _)) | with_reducible refine CurB.kept ?_ (Kept.drewN (Kept.refl _) _) | with_reducible assumption))) (by omega) (by omega)).mono ?_
  rintro e w3 ⟨b3, rfl, hc3, hs3⟩
  have A3 := Lib.hid (BoxN.stir (A2.out.kept (Kept.alloc (Kept.refl _) _)) hs3 (by first | (simp; done) | (simp; omega) | omega))
  have P3 := Lib.hid (BoxN.stir (BoxN.new w2 [.int .i64 x1, .int .i64 x2] 26) hs3 (by first | (simp; done) | (simp; omega) | omega))
  have C3 := Lib.hid hc3
  have z3 := hs3.size
  try simp only [World.size_alloc, World.size_setCell, World.size_drew] at z3
  have S3 : Hid (Stir g w w3) := Lib.hid (Stir.trans (by have hq := S2.out; (repeat (first | with_reducible refine Stir.set ?_ (by first | (simp; done) | (simp; omega) | omega) _ | with_reducible refine Stir.alloc ?_ _ | with_reducible refine Stir.drew ?_ | with_reducible refine Stir.drewN ?_ _ | with_reducible assumption | with_reducible exact Stir.refl _ _))) hs3)
  clear hc3 hs3
  cases b3
  · have hz : w.heap.size < w2.heap.size := by omega
    obtain ⟨a0, af0, a1, af1⟩ := (A3.out).two
    obtain ⟨p0, pf0, p1, pf1⟩ := (P3.out).two
    go_wp2_with fail
    exact bodyPost_ret (v := .agg #[.int .i64 x1, .int .i64 x2]) (by simp [results, Try.results67, go_sem, *]) rfl ⟨_, _, rfl, CurB.mono (k := k + 2 + 2 + 2) (by have hq := C3.out; (repeat (first | with_reducible refine CurB.set ?_ (by first | (simp; done) | (simp; omega) | omega) _ | with_reducible refine CurB.kept ?_ (Kept.alloc (Kept.refl _) _) | with_reducible refine CurB.kept ?_ (Kept.drew (Kept.refl _)) | with_reducible refine CurB.kept ?_ (Kept.drewN (Kept.refl _) _) | with_reducible assumption))) (by omega), by have hq := S3.out; (repeat (first | with_reducible refine Stir.set ?_ (by first | (simp; done) | (simp; omega) | omega) _ | with_reducible refine Stir.alloc ?_ _ | with_reducible refine Stir.drew ?_ | with_reducible refine Stir.drewN ?_ _ | with_reducible assumption | with_reducible exact Stir.refl _ _))⟩
  · go_wp2_with fail
    refine (among_any g _ 2 (k + 2 + 2 + 2) [-1, 1001] _ (by have hq := C3.out; (repeat (first | with_reducible refine CurB.set ?_ (by first | (simp; done) | (simp; omega) | omega) _ | with_reducible refine CurB.kept ?_ (Kept.alloc (Kept.refl _) _) | with_reducible refine CurB.kept ?_ (Kept.drew (Kept.refl _)) | with_reducible refine CurB.kept ?_ (Kept.drewN (Kept.refl _) _) | with_reducible assumption))) (by omega) (by exact NumsIn.lit (by rfl) (by simp)) (by first | (simp; done) | (simp; omega)) (by decide) (by decide)).mono ?_
    rintro e w4 ⟨x4, rfl, hm4, hc4, hs4⟩
    have A4 := Lib.hid (BoxN.stir (A3.out.kept (Kept.alloc (Kept.refl _) _)) hs4 (by first | (simp; done) | (simp; omega) | omega))
    have P4 := Lib.hid (BoxN.stir (P3.out.kept (Kept.alloc (Kept.refl _) _)) hs4 (by first | (simp; done) | (simp; omega) | omega))
    have C4 := Lib.hid hc4
    have z4 := hs4.size
    try simp only [World.size_alloc, World.size_setCell, World.size_drew] at z4
    have S4 : Hid (Stir g w w4) := Lib.hid (Stir.trans (by have hq := S3.out; (repeat (first | with_reducible refine Stir.set ?_ (by first | (simp; done) | (simp; omega) | omega) _ | with_reducible refine Stir.alloc ?_ _ | with_reducible refine Stir.drew ?_ | with_reducible refine Stir.drewN ?_ _ | with_reducible assumption | with_reducible exact Stir.refl _ _))) hs4)
    clear hc4 hs4
    have hz : w.heap.size < w2.heap.size := by omega
    obtain ⟨a0, af0, a1, af1⟩ := (A4.out).two
    obtain ⟨p0, pf0, p1, pf1⟩ := (P4.out).two
    go_wp2_with fail
    exact bodyPost_ret (v := .agg #[.int .i64 x4, .int .i64 x2]) (by simp [results, Try.results67, go_sem, *]) rfl ⟨_, _, rfl, CurB.mono (k := k + 2 + 2 + 2 + 2) (by have hq := C4.out; (repeat (first | with_reducible refine CurB.set ?_ (by first | (simp; done) | (simp; omega) | omega) _ | with_reducible refine CurB.kept ?_ (Kept.alloc (Kept.refl _) _) | with_reducible refine CurB.kept ?_ (Kept.drew (Kept.refl _)) | with_reducible refine CurB.kept ?_ (Kept.drewN (Kept.refl _) _) | with_reducible assumption))) (by omega), by have hq := S4.out; (repeat (first | with_reducible refine Stir.set ?_ (by first | (simp; done) | (simp; omega) | omega) _ | with_reducible refine Stir.alloc ?_ _ | with_reducible refine Stir.drew ?_ | with_reducible refine Stir.drewN ?_ _ | with_reducible assumption | with_reducible exact Stir.refl _ _))⟩
set_option maxRecDepth 100000 in
set_option maxHeartbeats 2000000 in
theorem box_any (g : Nat) (k : Int) (w : World) (hC : CurB w g k) (hk : k ≤ 800000) : Calls Try.prog 66 #[.pointer (some ⟨g, 0, none⟩)] w fun e w' => ∃ a b c d : Int, e = .returned (.agg #[.int .i64 a, .int .i64 b, .int .i64 c, .int .i64 d]) ∧ CurB w' g (k + 14) ∧ Stir g w w' := by
  have C0 := Lib.hid hC
  have S0 := Lib.hid (Stir.refl g w)
  have hg := hC.lt
  clear hC
  go_enter Try.func66, Try.ntmps66
  go_wp2_with fail
  refine (among_any g _ 5 (k) [0, 0, 10, 20, 50] _ (by have hq := C0.out; (repeat (first | with_reducible refine CurB.set ?_ (by first | (simp; done) | (simp; omega) | omega) _ | with_reducible refine CurB.kept ?_ (Kept.alloc (Kept.refl _) _) | with_reducible refine CurB.kept ?_ (Kept.drew (Kept.refl _)) | with_reducible refine CurB.kept ?_ (Kept.drewN (Kept.refl _) _) | with_reducible assumption))) (by omega) (by exact NumsIn.lit (by rfl) (by simp)) (by first | (simp; done) | (simp; omega)) (by decide) (by decide)).mono ?_
  rintro e w1 ⟨x1, rfl, hm1, hc1, hs1⟩
  have A1 := Lib.hid (BoxN.stir ((BoxN.new w [.int .i64 0, .int .i64 0, .int .i64 0, .int .i64 0] 33).kept (Kept.alloc (Kept.refl _) _)) hs1 (by first | (simp; done) | (simp; omega) | omega))
  have C1 := Lib.hid hc1
  have z1 := hs1.size
  try simp only [World.size_alloc, World.size_setCell, World.size_drew] at z1
  have S1 : Hid (Stir g w w1) := Lib.hid (Stir.trans (by have hq := S0.out; (repeat (first | with_reducible refine Stir.set ?_ (by first | (simp; done) | (simp; omega) | omega) _ | with_reducible refine Stir.alloc ?_ _ | with_reducible refine Stir.drew ?_ | with_reducible refine Stir.drewN ?_ _ | with_reducible assumption | with_reducible exact Stir.refl _ _))) hs1)
  clear hc1 hs1
  go_wp2_with fail
  refine (among_any g _ 4 (k + 2) [0, 0, 10, 30] _ (by have hq := C1.out; (repeat (first | with_reducible refine CurB.set ?_ (by first | (simp; done) | (simp; omega) | omega) _ | with_reducible refine CurB.kept ?_ (Kept.alloc (Kept.refl _) _) | with_reducible refine CurB.kept ?_ (Kept.drew (Kept.refl _)) | with_reducible refine CurB.kept ?_ (Kept.drewN (Kept.refl _) _) | with_reducible assumption))) (by omega) (by exact NumsIn.lit (by rfl) (by simp)) (by first | (simp; done) | (simp; omega)) (by decide) (by decide)).mono ?_
  rintro e w2 ⟨x2, rfl, hm2, hc2, hs2⟩
  have A2 := Lib.hid (BoxN.stir (A1.out.kept (Kept.alloc (Kept.refl _) _)) hs2 (by first | (simp; done) | (simp; omega) | omega))
  have C2 := Lib.hid hc2
  have z2 := hs2.size
  try simp only [World.size_alloc, World.size_setCell, World.size_drew] at z2
  have S2 : Hid (Stir g w w2) := Lib.hid (Stir.trans (by have hq := S1.out; (repeat (first | with_reducible refine Stir.set ?_ (by first | (simp; done) | (simp; omega) | omega) _ | with_reducible refine Stir.alloc ?_ _ | with_reducible refine Stir.drew ?_ | with_reducible refine Stir.drewN ?_ _ | with_reducible assumption | with_reducible exact Stir.refl _ _))) hs2)
  clear hc2 hs2
  go_wp2_with fail
  have hz : w.heap.size < w2.heap.size := by omega
  have PB2 := Lib.hid (BoxN.new w2 [.int .i64 x1, .int .i64 x2, .int .i64 0, .int .i64 0] 33)
  obtain ⟨p0, pf0, p1, pf1, p2, pf2, p3, pf3⟩ := (PB2.out).four
  refine wp_region_held_drew (S := fun w' => w'.cell? ⟨w2.heap.size, 0, none⟩ = some (.int .i64 x1)) (by kernel_rfl) (by (try dsimp only); exact p0) (fun hHeld => ?_)
  refine wpAnyH_take (i := 0) (v := ?_) rfl (by kernel_rfl) (by kernel_rfl) (by kernel_rfl) (fun _ _ _ h => h) (Or.inl ⟨by kernel_rfl, ?_⟩) (by assumption) ?_
  rotate_left
  focus (intro w hSw; (try dsimp only at hSw); go_simp; (try with_reducible rfl))
  (try simp only [Act.put, List.getElem_toArray, List.getElem_cons_zero, List.getElem_cons_succ, List.setIfInBounds_toArray, List.set_cons_zero, List.set_cons_succ])
  refine wpAnyH_take (i := 1) (v := ?_) rfl (by kernel_rfl) (by kernel_rfl) (by kernel_rfl) (fun _ _ _ h => h) (Or.inl ⟨by kernel_rfl, ?_⟩) (by assumption) ?_
  rotate_left
  focus (intro w hSw; (try dsimp only at hSw); go_simp; (try with_reducible rfl))
  (try simp only [Act.put, List.getElem_toArray, List.getElem_cons_zero, List.getElem_cons_succ, List.setIfInBounds_toArray, List.set_cons_zero, List.set_cons_succ])
  refine wpAnyH_take (i := 2) (v := ?_) rfl (by kernel_rfl) (by kernel_rfl) (by kernel_rfl) (fun _ _ _ h => h) (Or.inl ⟨by kernel_rfl, ?_⟩) (by assumption) ?_
  rotate_left
  focus (intro w hSw; (try dsimp only at hSw); go_simp; (try with_reducible rfl))
  (try simp only [Act.put, List.getElem_toArray, List.getElem_cons_zero, List.getElem_cons_succ, List.setIfInBounds_toArray, List.set_cons_zero, List.set_cons_succ])
  refine wpAnyH_ready (rs := [3]) (by kernel_rfl) (by simp) ?_
  refine AllReadyH.cons rfl (fun K hK => ?_) AllReadyH.nil
  go_simp
  refine hK.out _ _ (by (try dsimp only); exact (Kept.alloc (Kept.refl _) _).keep hHeld) (fun hHeld => ?_)
  clear hK K
  (try simp only [Act.put, List.getElem_toArray, List.getElem_cons_zero, List.getElem_cons_succ, List.setIfInBounds_toArray, List.set_cons_zero, List.set_cons_succ])
  refine wpAnyH_ready (rs := [4]) (by kernel_rfl) (by simp) ?_
  refine AllReadyH.cons rfl (fun K hK => ?_) AllReadyH.nil
  go_simp
  go_at_call 73
  refine (among_any g _ 5 (k + 2 + 2) [0, 10, 40, 100, 500] _ (by have hq := C2.out; (repeat (first | with_reducible refine CurB.set ?_ (by first | (simp; done) | (simp; omega) | omega) _ | with_reducible refine CurB.kept ?_ (Kept.alloc (Kept.refl _) _) | with_reducible refine CurB.kept ?_ (Kept.drew (Kept.refl _)) | with_reducible refine CurB.kept ?_ (Kept.drewN (Kept.refl _) _) | with_reducible assumption))) (by omega) (by exact NumsIn.lit (by rfl) (by simp)) (by first | (simp; done) | (simp; omega)) (by decide) (by decide)).mono ?_
  rintro e w3 ⟨x3, rfl, hm3, hc3, hs3⟩
  have A3 := Lib.hid (BoxN.stir (A2.out.kept ((Kept.alloc (Kept.refl _) _).drew.alloc _)) hs3 (by first | (simp; done) | (simp; omega) | omega))
  have P3 := Lib.hid (BoxN.stir (PB2.out.kept ((Kept.drew (Kept.refl _)).alloc _)) hs3 (by first | (simp; done) | (simp; omega) | omega))
  have C3 := Lib.hid hc3
  have z3 := hs3.size
  try simp only [World.size_alloc, World.size_setCell, World.size_drew] at z3
  have S3 : Hid (Stir g w w3) := Lib.hid (Stir.trans (by have hq := S2.out; (repeat (first | with_reducible refine Stir.set ?_ (by first | (simp; done) | (simp; omega) | omega) _ | with_reducible refine Stir.alloc ?_ _ | with_reducible refine Stir.drew ?_ | with_reducible refine Stir.drewN ?_ _ | with_reducible assumption | with_reducible exact Stir.refl _ _))) hs3)
  clear hc3 hs3
  refine hK.out _ _ (by (try dsimp only); exact P3.out.c 0 _ rfl) (fun hHeld => ?_)
  clear hK K
  (try simp only [Act.put, List.getElem_toArray, List.getElem_cons_zero, List.getElem_cons_succ, List.setIfInBounds_toArray, List.set_cons_zero, List.set_cons_succ])
  refine wpAnyH_take (i := 5) (v := ?_) rfl (by kernel_rfl) (by kernel_rfl) (by kernel_rfl) (fun _ _ _ h => h) (Or.inl ⟨by kernel_rfl, ?_⟩) (by assumption) ?_
  rotate_left
  focus (intro w hSw; (try dsimp only at hSw); go_simp; (try with_reducible rfl))
  (try simp only [Act.put, List.getElem_toArray, List.getElem_cons_zero, List.getElem_cons_succ, List.setIfInBounds_toArray, List.set_cons_zero, List.set_cons_succ])
  refine wpAnyH_take (i := 6) (v := ?_) rfl (by kernel_rfl) (by kernel_rfl) (by kernel_rfl) (fun _ _ _ h => h) (Or.inl ⟨by kernel_rfl, ?_⟩) (by assumption) ?_
  rotate_left
  focus (intro w hSw; (try dsimp only at hSw); go_simp; (try with_reducible rfl))
  (try simp only [Act.put, List.getElem_toArray, List.getElem_cons_zero, List.getElem_cons_succ, List.setIfInBounds_toArray, List.set_cons_zero, List.set_cons_succ])
  obtain ⟨n30, n3f0, n31, n3f1, n32, n3f2, n33, n3f3⟩ := (P3.out).four
  refine wpAnyH_ready (rs := [7]) (by kernel_rfl) (by simp) ?_
  refine AllReadyH.cons rfl (fun K hK => ?_) AllReadyH.nil
  go_simp
  refine hK.out _ _ (by (try dsimp only); (refine Eq.trans (World.cell?_setCell_other _ _ _ _ ?_) hHeld; simp)) (fun hHeld => ?_)
  clear hK K
  (try simp only [Act.put, List.getElem_toArray, List.getElem_cons_zero, List.getElem_cons_succ, List.setIfInBounds_toArray, List.set_cons_zero, List.set_cons_succ])
  refine wpAnyH_done (by kernel_rfl) ?_ _
  have PB3 := (P3.out).set 2 (.int .i64 (IntKind.i64.wrap (x1 + x3)))
  have AA3 := BoxN.stir (A3.out) (show Stir w2.heap.size w3 (w3.setCell ⟨w2.heap.size, 2, none⟩ (.int .i64 (IntKind.i64.wrap (x1 + x3)))) from Stir.of (grown_set _)) (by omega)
  have CC3 := CurB.set C3.out (p := ⟨w2.heap.size, 2, none⟩) (by simp; omega) (.int .i64 (IntKind.i64.wrap (x1 + x3)))
  have SS3 := Stir.set S3.out (p := ⟨w2.heap.size, 2, none⟩) (by simp; omega) (.int .i64 (IntKind.i64.wrap (x1 + x3)))
  have zz3 : w3.heap.size ≤ (w3.setCell ⟨w2.heap.size, 2, none⟩ (.int .i64 (IntKind.i64.wrap (x1 + x3)))).heap.size := by simp
  obtain ⟨W3, hW3⟩ : ∃ W, w3.setCell ⟨w2.heap.size, 2, none⟩ (.int .i64 (IntKind.i64.wrap (x1 + x3))) = W := ⟨_, rfl⟩
  rw [hW3] at PB3 AA3 CC3 SS3 zz3
  rw [hW3]
  clear hW3
  simp only [List.set_cons_zero, List.set_cons_succ] at PB3
  generalize IntKind.i64.wrap (x1 + x3) = y3 at PB3 ⊢
  have PP3 := Lib.hid PB3
  have AP3 := Lib.hid AA3
  have CP3 := Lib.hid CC3
  have SP3 : Hid (Stir g w W3) := Lib.hid SS3
  clear p0 p1 p2 p3 pf0 pf1 pf2 pf3 n30 n31 n32 n33 n3f0 n3f1 n3f2 n3f3 PB3 AA3 CC3 SS3 hHeld
  obtain ⟨p0, pf0, p1, pf1, p2, pf2, p3, pf3⟩ := (PP3.out).four
  go_wp2_with fail
  clear S3 C3 A3 P3
  have S3 := SP3
  refine wp_region_held_drew (S := fun w' => w'.cell? ⟨w2.heap.size, 1, none⟩ = some (.int .i64 x2)) (by kernel_rfl) (by (try dsimp only); exact p1) (fun hHeld => ?_)
  refine wpAnyH_take (i := 0) (v := ?_) rfl (by kernel_rfl) (by kernel_rfl) (by kernel_rfl) (fun _ _ _ h => h) (Or.inl ⟨by kernel_rfl, ?_⟩) (by assumption) ?_
  rotate_left
  focus (intro w hSw; (try dsimp only at hSw); go_simp; (try with_reducible rfl))
  (try simp only [Act.put, List.getElem_toArray, List.getElem_cons_zero, List.getElem_cons_succ, List.setIfInBounds_toArray, List.set_cons_zero, List.set_cons_succ])
  refine wpAnyH_take (i := 1) (v := ?_) rfl (by kernel_rfl) (by kernel_rfl) (by kernel_rfl) (fun _ _ _ h => h) (Or.inl ⟨by kernel_rfl, ?_⟩) (by assumption) ?_
  rotate_left
  focus (intro w hSw; (try dsimp only at hSw); go_simp; (try with_reducible rfl))
  (try simp only [Act.put, List.getElem_toArray, List.getElem_cons_zero, List.getElem_cons_succ, List.setIfInBounds_toArray, List.set_cons_zero, List.set_cons_succ])
  refine wpAnyH_take (i := 2) (v := ?_) rfl (by kernel_rfl) (by kernel_rfl) (by kernel_rfl) (fun _ _ _ h => h) (Or.inl ⟨by kernel_rfl, ?_⟩) (by assumption) ?_
  rotate_left
  focus (intro w hSw; (try dsimp only at hSw); go_simp; (try with_reducible rfl))
  (try simp only [Act.put, List.getElem_toArray, List.getElem_cons_zero, List.getElem_cons_succ, List.setIfInBounds_toArray, List.set_cons_zero, List.set_cons_succ])
  refine wpAnyH_ready (rs := [3]) (by kernel_rfl) (by simp) ?_
  refine AllReadyH.cons rfl (fun K hK => ?_) AllReadyH.nil
  go_simp
  refine hK.out _ _ (by (try dsimp only); exact (Kept.alloc (Kept.refl _) _).keep hHeld) (fun hHeld => ?_)
  clear hK K
  (try simp only [Act.put, List.getElem_toArray, List.getElem_cons_zero, List.getElem_cons_succ, List.setIfInBounds_toArray, List.set_cons_zero, List.set_cons_succ])
  refine wpAnyH_ready (rs := [4]) (by kernel_rfl) (by simp) ?_
  refine AllReadyH.cons rfl (fun K hK => ?_) AllReadyH.nil
  go_simp
  go_at_call 73
  refine (among_any g _ 5 (k + 2 + 2 + 2) [0, 10, 40, 100, 500] _ (by have hq := CP3.out; (repeat (first | with_reducible refine CurB.set ?_ (by first | (simp; done) | (simp; omega) | omega) _ | with_reducible refine CurB.kept ?_ (Kept.alloc (Kept.refl _) _) | with_reducible refine CurB.kept ?_ (Kept.drew (Kept.refl _)) | with_reducible refine CurB.kept ?_ (Kept.drewN (Kept.refl _) _) | with_reducible assumption))) (by omega) (by exact NumsIn.lit (by rfl) (by simp)) (by first | (simp; done) | (simp; omega)) (by decide) (by decide)).mono ?_
  rintro e w4 ⟨x4, rfl, hm4, hc4, hs4⟩
  have A4 := Lib.hid (BoxN.stir (AP3.out.kept ((Kept.drew (Kept.refl _)).alloc _)) hs4 (by first | (simp; done) | (simp; omega) | omega))
  have P4 := Lib.hid (BoxN.stir (PP3.out.kept ((Kept.drew (Kept.refl _)).alloc _)) hs4 (by first | (simp; done) | (simp; omega) | omega))
  have C4 := Lib.hid hc4
  have z4 := hs4.size
  try simp only [World.size_alloc, World.size_setCell, World.size_drew] at z4
  have S4 : Hid (Stir g w w4) := Lib.hid (Stir.trans (by have hq := S3.out; (repeat (first | with_reducible refine Stir.set ?_ (by first | (simp; done) | (simp; omega) | omega) _ | with_reducible refine Stir.alloc ?_ _ | with_reducible refine Stir.drew ?_ | with_reducible refine Stir.drewN ?_ _ | with_reducible assumption | with_reducible exact Stir.refl _ _))) hs4)
  clear hc4 hs4
  refine hK.out _ _ (by (try dsimp only); exact P4.out.c 1 _ rfl) (fun hHeld => ?_)
  clear hK K
  (try simp only [Act.put, List.getElem_toArray, List.getElem_cons_zero, List.getElem_cons_succ, List.setIfInBounds_toArray, List.set_cons_zero, List.set_cons_succ])
  refine wpAnyH_take (i := 5) (v := ?_) rfl (by kernel_rfl) (by kernel_rfl) (by kernel_rfl) (fun _ _ _ h => h) (Or.inl ⟨by kernel_rfl, ?_⟩) (by assumption) ?_
  rotate_left
  focus (intro w hSw; (try dsimp only at hSw); go_simp; (try with_reducible rfl))
  (try simp only [Act.put, List.getElem_toArray, List.getElem_cons_zero, List.getElem_cons_succ, List.setIfInBounds_toArray, List.set_cons_zero, List.set_cons_succ])
  refine wpAnyH_take (i := 6) (v := ?_) rfl (by kernel_rfl) (by kernel_rfl) (by kernel_rfl) (fun _ _ _ h => h) (Or.inl ⟨by kernel_rfl, ?_⟩) (by assumption) ?_
  rotate_left
  focus (intro w hSw; (try dsimp only at hSw); go_simp; (try with_reducible rfl))
  (try simp only [Act.put, List.getElem_toArray, List.getElem_cons_zero, List.getElem_cons_succ, List.setIfInBounds_toArray, List.set_cons_zero, List.set_cons_succ])
  obtain ⟨n40, n4f0, n41, n4f1, n42, n4f2, n43, n4f3⟩ := (P4.out).four
  refine wpAnyH_ready (rs := [7]) (by kernel_rfl) (by simp) ?_
  refine AllReadyH.cons rfl (fun K hK => ?_) AllReadyH.nil
  go_simp
  refine hK.out _ _ (by (try dsimp only); (refine Eq.trans (World.cell?_setCell_other _ _ _ _ ?_) hHeld; simp)) (fun hHeld => ?_)
  clear hK K
  (try simp only [Act.put, List.getElem_toArray, List.getElem_cons_zero, List.getElem_cons_succ, List.setIfInBounds_toArray, List.set_cons_zero, List.set_cons_succ])
  refine wpAnyH_done (by kernel_rfl) ?_ _
  have PB4 := (P4.out).set 3 (.int .i64 (IntKind.i64.wrap (x2 + x4)))
  have AA4 := BoxN.stir (A4.out) (show Stir w2.heap.size w4 (w4.setCell ⟨w2.heap.size, 3, none⟩ (.int .i64 (IntKind.i64.wrap (x2 + x4)))) from Stir.of (grown_set _)) (by omega)
  have CC4 := CurB.set C4.out (p := ⟨w2.heap.size, 3, none⟩) (by simp; omega) (.int .i64 (IntKind.i64.wrap (x2 + x4)))
  have SS4 := Stir.set S4.out (p := ⟨w2.heap.size, 3, none⟩) (by simp; omega) (.int .i64 (IntKind.i64.wrap (x2 + x4)))
  have zz4 : w4.heap.size ≤ (w4.setCell ⟨w2.heap.size, 3, none⟩ (.int .i64 (IntKind.i64.wrap (x2 + x4)))).heap.size := by simp
  obtain ⟨W4, hW4⟩ : ∃ W, w4.setCell ⟨w2.heap.size, 3, none⟩ (.int .i64 (IntKind.i64.wrap (x2 + x4))) = W := ⟨_, rfl⟩
  rw [hW4] at PB4 AA4 CC4 SS4 zz4
  rw [hW4]
  clear hW4
  simp only [List.set_cons_zero, List.set_cons_succ] at PB4
  generalize IntKind.i64.wrap (x2 + x4) = y4 at PB4 ⊢
  have PP4 := Lib.hid PB4
  have AP4 := Lib.hid AA4
  have CP4 := Lib.hid CC4
  have SP4 : Hid (Stir g w W4) := Lib.hid SS4
  clear p0 p1 p2 p3 pf0 pf1 pf2 pf3 n40 n41 n42 n43 n4f0 n4f1 n4f2 n4f3 PB4 AA4 CC4 SS4 hHeld S4 C4 A4 P4
  have S4 := SP4
  obtain ⟨p0, pf0, p1, pf1, p2, pf2, p3, pf3⟩ := (PP4.out).four
  go_wp2_with fail
  refine (pick_any g (k + 2 + 2 + 2 + 2) 24 _ (by have hq := CP4.out; (repeat (first | with_reducible refine CurB.set ?_ (by first | (simp; done) | (simp; omega) | omega) _ | with_reducible refine CurB.kept ?_ (Kept.alloc (Kept.refl _) _) | with_reducible refine CurB.kept ?_ (Kept.drew (Kept.refl _)) | with_reducible refine CurB.kept ?_ (Kept.drewN (Kept.refl _) _) | with_reducible assumption))) (by omega) (by omega)).mono ?_
  rintro e w5 ⟨x5, rfl, -, hc5, hs5⟩
  have A5 := Lib.hid (BoxN.stir (AP4.out) hs5 (by first | (simp; done) | (simp; omega) | omega))
  have P5 := Lib.hid (BoxN.stir (PP4.out) hs5 (by first | (simp; done) | (simp; omega) | omega))
  have C5 := Lib.hid hc5
  have z5 := hs5.size
  try simp only [World.size_alloc, World.size_setCell, World.size_drew] at z5
  have S5 : Hid (Stir g w w5) := Lib.hid (Stir.trans (by have hq := S4.out; (repeat (first | with_reducible refine Stir.set ?_ (by first | (simp; done) | (simp; omega) | omega) _ | with_reducible refine Stir.alloc ?_ _ | with_reducible refine Stir.drew ?_ | with_reducible refine Stir.drewN ?_ _ | with_reducible assumption | with_reducible exact Stir.refl _ _))) hs5)
  clear hc5 hs5
  clear p0 p1 p2 p3 pf0 pf1 pf2 pf3
  by_cases h0 : x5 = 0
  · subst h0
    go_wp2_with fail
    refine (among_any g _ 2 (k + 2 + 2 + 2 + 2 + 2) [-1, 1001] _ (by have hq := C5.out; (repeat (first | with_reducible refine CurB.set ?_ (by first | (simp; done) | (simp; omega) | omega) _ | with_reducible refine CurB.kept ?_ (Kept.alloc (Kept.refl _) _) | with_reducible refine CurB.kept ?_ (Kept.drew (Kept.refl _)) | with_reducible refine CurB.kept ?_ (Kept.drewN (Kept.refl _) _) | with_reducible assumption))) (by omega) (by exact NumsIn.lit (by rfl) (by simp)) (by first | (simp; done) | (simp; omega)) (by decide) (by decide)).mono ?_
    rintro e w6 ⟨x6, rfl, hm6, hc6, hs6⟩
    have A6 := Lib.hid (BoxN.stir (A5.out.kept (Kept.alloc (Kept.refl _) _)) hs6 (by first | (simp; done) | (simp; omega) | omega))
    have P6 := Lib.hid (BoxN.stir (P5.out.kept (Kept.alloc (Kept.refl _) _)) hs6 (by first | (simp; done) | (simp; omega) | omega))
    have C6 := Lib.hid hc6
    have z6 := hs6.size
    try simp only [World.size_alloc, World.size_setCell, World.size_drew] at z6
    have S6 : Hid (Stir g w w6) := Lib.hid (Stir.trans (by have hq := S5.out; (repeat (first | with_reducible refine Stir.set ?_ (by first | (simp; done) | (simp; omega) | omega) _ | with_reducible refine Stir.alloc ?_ _ | with_reducible refine Stir.drew ?_ | with_reducible refine Stir.drewN ?_ _ | with_reducible assumption | with_reducible exact Stir.refl _ _))) hs6)
    clear hc6 hs6
    obtain ⟨a0, af0, a1, af1, a2, af2, a3, af3⟩ := (A6.out).four
    obtain ⟨p0, pf0, p1, pf1, p2, pf2, p3, pf3⟩ := (P6.out).four
    go_wp2_with fail
    exact bodyPost_ret (v := .agg #[.int .i64 x6, .int .i64 x2, .int .i64 y3, .int .i64 y4]) (by simp [results, Try.results66, go_sem, *]) rfl ⟨_, _, _, _, rfl, CurB.mono (k := k + 2 + 2 + 2 + 2 + 2 + 2) (by have hq := C6.out; (repeat (first | with_reducible refine CurB.set ?_ (by first | (simp; done) | (simp; omega) | omega) _ | with_reducible refine CurB.kept ?_ (Kept.alloc (Kept.refl _) _) | with_reducible refine CurB.kept ?_ (Kept.drew (Kept.refl _)) | with_reducible refine CurB.kept ?_ (Kept.drewN (Kept.refl _) _) | with_reducible assumption))) (by omega), by have hq := S6.out; (repeat (first | with_reducible refine Stir.set ?_ (by first | (simp; done) | (simp; omega) | omega) _ | with_reducible refine Stir.alloc ?_ _ | with_reducible refine Stir.drew ?_ | with_reducible refine Stir.drewN ?_ _ | with_reducible assumption | with_reducible exact Stir.refl _ _))⟩
  · by_cases h1 : x5 = 1
    · subst h1
      obtain ⟨a0, af0, a1, af1, a2, af2, a3, af3⟩ := (A5.out).four
      obtain ⟨p0, pf0, p1, pf1, p2, pf2, p3, pf3⟩ := (P5.out).four
      go_wp2_with fail
      exact bodyPost_ret (v := .agg #[.int .i64 x1, .int .i64 x2, .int .i64 y3, .int .i64 (wrap64 (x2 - 1))]) (by simp [results, Try.results66, go_sem, *]) rfl ⟨_, _, _, _, rfl, CurB.mono (k := k + 2 + 2 + 2 + 2 + 2) (by have hq := C5.out; (repeat (first | with_reducible refine CurB.set ?_ (by first | (simp; done) | (simp; omega) | omega) _ | with_reducible refine CurB.kept ?_ (Kept.alloc (Kept.refl _) _) | with_reducible refine CurB.kept ?_ (Kept.drew (Kept.refl _)) | with_reducible refine CurB.kept ?_ (Kept.drewN (Kept.refl _) _) | with_reducible assumption))) (by omega), by have hq := S5.out; (repeat (first | with_reducible refine Stir.set ?_ (by first | (simp; done) | (simp; omega) | omega) _ | with_reducible refine Stir.alloc ?_ _ | with_reducible refine Stir.drew ?_ | with_reducible refine Stir.drewN ?_ _ | with_reducible assumption | with_reducible exact Stir.refl _ _))⟩
    · have h0 : (x5 == 0) = false := by simp [h0]
      have h1 : (x5 == 1) = false := by simp [h1]
      obtain ⟨a0, af0, a1, af1, a2, af2, a3, af3⟩ := (A5.out).four
      obtain ⟨p0, pf0, p1, pf1, p2, pf2, p3, pf3⟩ := (P5.out).four
      go_wp2_with fail
      exact bodyPost_ret (v := .agg #[.int .i64 x1, .int .i64 x2, .int .i64 y3, .int .i64 y4]) (by simp [results, Try.results66, go_sem, *]) rfl ⟨_, _, _, _, rfl, CurB.mono (k := k + 2 + 2 + 2 + 2 + 2) (by have hq := C5.out; (repeat (first | with_reducible refine CurB.set ?_ (by first | (simp; done) | (simp; omega) | omega) _ | with_reducible refine CurB.kept ?_ (Kept.alloc (Kept.refl _) _) | with_reducible refine CurB.kept ?_ (Kept.drew (Kept.refl _)) | with_reducible refine CurB.kept ?_ (Kept.drewN (Kept.refl _) _) | with_reducible assumption))) (by omega), by have hq := S5.out; (repeat (first | with_reducible refine Stir.set ?_ (by first | (simp; done) | (simp; omega) | omega) _ | with_reducible refine Stir.alloc ?_ _ | with_reducible refine Stir.drew ?_ | with_reducible refine Stir.drewN ?_ _ | with_reducible assumption | with_reducible exact Stir.refl _ _))⟩
end Go.Proofs.Ytnkofjfcioaaaaa

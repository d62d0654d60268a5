/-
  Contract of the reference's ShiftZero.
  Conditions: none.
-/
import Derived.Test.YtopdnhlolfehcaaShift2
namespace Go.Proofs.Ytopdnhlolfehcaa
open Go.ChangeShapes Go.WideShapes Go.ChangeAt Go.RowKit
set_option linter.unusedVariables false
set_option linter.unusedSimpArgs false

theorem blk4 {W w' : World} {b : Nat} {v0 v1 v2 v3 : Value} (k : Kept W w') (h : W.cell? ⟨b, 0, none⟩ = some v0 ∧ W.frozen? ⟨b, 0, none⟩ = false ∧ W.cell? ⟨b, 1, none⟩ = some v1 ∧ W.frozen? ⟨b, 1, none⟩ = false ∧ W.cell? ⟨b, 2, none⟩ = some v2 ∧ W.frozen? ⟨b, 2, none⟩ = false ∧ W.cell? ⟨b, 3, none⟩ = some v3 ∧ W.frozen? ⟨b, 3, none⟩ = false) :
    w'.cell? ⟨b, 0, none⟩ = some v0 ∧ w'.frozen? ⟨b, 0, none⟩ = false ∧ w'.cell? ⟨b, 1, none⟩ = some v1 ∧ w'.frozen? ⟨b, 1, none⟩ = false ∧ w'.cell? ⟨b, 2, none⟩ = some v2 ∧ w'.frozen? ⟨b, 2, none⟩ = false ∧ w'.cell? ⟨b, 3, none⟩ = some v3 ∧ w'.frozen? ⟨b, 3, none⟩ = false :=
  let ⟨h0, f0, h1, f1, h2, f2, h3, f3⟩ := h
  ⟨k.keep h0, k.free h0 f0, k.keep h1, k.free h1 f1, k.keep h2, k.free h2 f2, k.keep h3, k.free h3 f3⟩
set_option maxRecDepth 100000 in
set_option maxHeartbeats 4000000 in
theorem sShiftZero_any (id : Int) (nm : ByteArray) (z : Int) (v : Value) (xs : List (Int × Int)) (to : Int) (hs : nm.size ≤ maxLen) (w : World) (hL : Lies w 2 pairC v xs) : Calls Try.prog 24 #[.agg #[.int .i64 id, .string nm, .int .i64 z, v], .int .i64 to] w fun e w' => ∃ u, e = .returned (.tuple #[szG (szOk id nm z xs to) id nm to u, .bool (szOk id nm z xs to)]) ∧ w'.ownsRow w.heap.size 28 2 u (szL id nm z xs to).length ((szL id nm z xs to).flatMap pairC) ∧ Kept w w' := by
  have HL := Lib.hid hL
  obtain ⟨i0, hi0, hz0, hz1, hz2⟩ := info_parts infoReading
  obtain ⟨A, c, rfl, hlc, hcm, hA⟩ := lies_pairs hL
  have HA := Lib.hid hA
  clear hL hA
  cases h1 : gaugeB id nm z xs
  · have HV := Lib.hid (sz_no (show szOk id nm z xs to = false by simp [szOk, h1]))
    go_enter Try.func24, Try.ntmps24
    go_wp2_with fail
    refine (l3One_any _ _ _ _ _ hs _ (by exact HL.out.kept (by (repeat (first | exact Kept.refl _ | assumption | refine Kept.alloc ?_ _ | refine Kept.drew ?_ | refine Kept.drewN ?_ _ | refine Kept.setCell ?_ (by first | (simp; done) | (simp; omega) | omega | exact Kept.size (by (repeat (first | exact Kept.refl _ | assumption | refine Kept.alloc ?_ _ | refine Kept.drew ?_ | refine Kept.drewN ?_ _ | refine Kept.trans ?_ (by assumption))))) _ | refine Kept.trans ?_ (by assumption)))))).mono ?_
    rintro e w1 ⟨rfl, hk⟩
    obtain ⟨a0, af0, a1, af1, a2, af2, a3, af3⟩ := blk4 (b := w.heap.size) (v0 := .int .i64 id) (v1 := .string nm) (v2 := .int .i64 z) (v3 := .slice A xs.length c) (show Kept ((w.alloc (.cells #[.int .i64 id, .string nm, .int .i64 z, .slice A xs.length c] 26)).alloc (.cells #[.int .i64 0, .string { data := #[] }, .int .i64 0, .slice none 0 0] 26)) _ from hk) (by simp [go_sem])
    obtain ⟨b0, bf0, b1, bf1, b2, bf2, b3, bf3⟩ := blk4 (b := w.heap.size + 1) (v0 := .int .i64 0) (v1 := .string { data := #[] }) (v2 := .int .i64 0) (v3 := .slice none 0 0) (show Kept ((w.alloc (.cells #[.int .i64 id, .string nm, .int .i64 z, .slice A xs.length c] 26)).alloc (.cells #[.int .i64 0, .string { data := #[] }, .int .i64 0, .slice none 0 0] 26)) _ from hk) (by simp [go_sem])
    have HK := Lib.hid ((Kept.alloc (Kept.alloc (Kept.refl w) _) _).trans hk)
    clear hk
    rw [h1]
    go_wp2_with fail
    exact bodyPost_ret (v := .tuple #[noG, .bool false]) (by simp [results, Try.results24, go_sem, noG, *]) rfl ⟨_, HV.out.1, by rw [HV.out.2]; exact World.ownsRow_nil _ _ _ _, ((((HK.out.setCell (by simp) _).setCell (by simp) _).setCell (by simp) _).setCell (by simp) _)⟩
  cases h2 : inB to (-1000) 1000
  · have HV := Lib.hid (sz_no (show szOk id nm z xs to = false by simp [szOk, h2]))
    go_enter Try.func24, Try.ntmps24
    go_wp2_with fail
    refine (l3One_any _ _ _ _ _ hs _ (by exact HL.out.kept (by (repeat (first | exact Kept.refl _ | assumption | refine Kept.alloc ?_ _ | refine Kept.drew ?_ | refine Kept.drewN ?_ _ | refine Kept.setCell ?_ (by first | (simp; done) | (simp; omega) | omega | exact Kept.size (by (repeat (first | exact Kept.refl _ | assumption | refine Kept.alloc ?_ _ | refine Kept.drew ?_ | refine Kept.drewN ?_ _ | refine Kept.trans ?_ (by assumption))))) _ | refine Kept.trans ?_ (by assumption)))))).mono ?_
    rintro e w1 ⟨rfl, hk⟩
    obtain ⟨a0, af0, a1, af1, a2, af2, a3, af3⟩ := blk4 (b := w.heap.size) (v0 := .int .i64 id) (v1 := .string nm) (v2 := .int .i64 z) (v3 := .slice A xs.length c) (show Kept ((w.alloc (.cells #[.int .i64 id, .string nm, .int .i64 z, .slice A xs.length c] 26)).alloc (.cells #[.int .i64 0, .string { data := #[] }, .int .i64 0, .slice none 0 0] 26)) _ from hk) (by simp [go_sem])
    obtain ⟨b0, bf0, b1, bf1, b2, bf2, b3, bf3⟩ := blk4 (b := w.heap.size + 1) (v0 := .int .i64 0) (v1 := .string { data := #[] }) (v2 := .int .i64 0) (v3 := .slice none 0 0) (show Kept ((w.alloc (.cells #[.int .i64 id, .string nm, .int .i64 z, .slice A xs.length c] 26)).alloc (.cells #[.int .i64 0, .string { data := #[] }, .int .i64 0, .slice none 0 0] 26)) _ from hk) (by simp [go_sem])
    have HK := Lib.hid ((Kept.alloc (Kept.alloc (Kept.refl w) _) _).trans hk)
    clear hk
    rw [h1]
    go_wp2_with (go_at_call 77; (with_reducible refine (l1In_any _ _ _ _).mono ?_); rintro e w' ⟨rfl, rfl⟩)
    exact bodyPost_ret (v := .tuple #[noG, .bool false]) (by simp [results, Try.results24, go_sem, noG, *]) rfl ⟨_, HV.out.1, by rw [HV.out.2]; exact World.ownsRow_nil _ _ _ _, ((((HK.out.setCell (by simp) _).setCell (by simp) _).setCell (by simp) _).setCell (by simp) _)⟩
  have hgl := (gaugeB_1 h1).2.2.1
  have hz := (gaugeB_1 h1).2.1
  have hto := inB_true.1 h2
  obtain ⟨t1, t2⟩ := hto
  obtain ⟨z1, z2⟩ := hz
  have H1 := Lib.hid h1
  have H2 := Lib.hid h2
  go_enter Try.func24, Try.ntmps24
  go_wp2_with fail
  refine (l3One_any _ _ _ _ _ hs _ (by exact HL.out.kept (by (repeat (first | exact Kept.refl _ | assumption | refine Kept.alloc ?_ _ | refine Kept.drew ?_ | refine Kept.drewN ?_ _ | refine Kept.setCell ?_ (by first | (simp; done) | (simp; omega) | omega | exact Kept.size (by (repeat (first | exact Kept.refl _ | assumption | refine Kept.alloc ?_ _ | refine Kept.drew ?_ | refine Kept.drewN ?_ _ | refine Kept.trans ?_ (by assumption))))) _ | refine Kept.trans ?_ (by assumption)))))).mono ?_
  rintro e w1 ⟨rfl, hk⟩
  obtain ⟨a0, af0, a1, af1, a2, af2, a3, af3⟩ := blk4 (b := w.heap.size) (v0 := .int .i64 id) (v1 := .string nm) (v2 := .int .i64 z) (v3 := .slice A xs.length c) (show Kept ((w.alloc (.cells #[.int .i64 id, .string nm, .int .i64 z, .slice A xs.length c] 26)).alloc (.cells #[.int .i64 0, .string { data := #[] }, .int .i64 0, .slice none 0 0] 26)) _ from hk) (by simp [go_sem])
  obtain ⟨b0, bf0, b1, bf1, b2, bf2, b3, bf3⟩ := blk4 (b := w.heap.size + 1) (v0 := .int .i64 0) (v1 := .string { data := #[] }) (v2 := .int .i64 0) (v3 := .slice none 0 0) (show Kept ((w.alloc (.cells #[.int .i64 id, .string nm, .int .i64 z, .slice A xs.length c] 26)).alloc (.cells #[.int .i64 0, .string { data := #[] }, .int .i64 0, .slice none 0 0] 26)) _ from hk) (by simp [go_sem])
  rw [H1.out]
  have HK1 := Lib.hid hk
  have hb1 : w.heap.size + 1 + 1 ≤ w1.heap.size := by simpa using hk.size
  clear hk
  go_wp2_with (go_at_call 77; (with_reducible refine (l1In_any _ _ _ _).mono ?_); rintro e w' ⟨rfl, rfl⟩)
  clear a0 a1 a2 a3 b0 b1 b2 b3 af0 af1 af2 af3 bf0 bf1 bf2 bf3
  go_loopw [7] (fun i wr => ∃ (k : Nat) (u : Value), k ≤ xs.length ∧ i = .int .i64 (k : Int) ∧ Kept ((w.alloc (.cells #[.int .i64 id, .string nm, .int .i64 z, .slice A xs.length c] 26)).alloc (.cells #[.int .i64 0, .string { data := #[] }, .int .i64 0, .slice none 0 0] 26)) wr ∧ wr.ownsRow (w1.heap.size + 1) 28 2 u k (((shiftL xs (z - to)).take k).flatMap pairC) ∧ (wr.cell? ⟨w1.heap.size, 0, none⟩ = some (.int .i64 id) ∧ wr.cell? ⟨w1.heap.size, 1, none⟩ = some (.string nm) ∧ wr.cell? ⟨w1.heap.size, 2, none⟩ = some (.int .i64 to) ∧ wr.cell? ⟨w1.heap.size, 3, none⟩ = some u ∧ wr.frozen? ⟨w1.heap.size, 3, none⟩ = false)) (fun i _ => xs.length - (intOf i).toNat)
  case atStart => exact ⟨0, .slice none 0 0, by omega, rfl, Kept.alloc HK1.out _, World.ownsRow_nil _ _ _ _, by simp [go_sem], by simp [go_sem], by simp [go_sem], by simp [go_sem], by simp [go_sem]⟩
  case round =>
    obtain ⟨k, u, hk, rfl, hkw, hown, e0, e1, e2, e3, ef3⟩ := hrel
    obtain ⟨A1, c1, rfl, -, -, -⟩ := own_form hown
    have HO := Lib.hid hown
    have HQ := Lib.hid hkw
    obtain ⟨a0, af0, a1, af1, a2, af2, a3, af3⟩ := blk4 (b := w.heap.size) (v0 := .int .i64 id) (v1 := .string nm) (v2 := .int .i64 z) (v3 := .slice A xs.length c) (show Kept ((w.alloc (.cells #[.int .i64 id, .string nm, .int .i64 z, .slice A xs.length c] 26)).alloc (.cells #[.int .i64 0, .string { data := #[] }, .int .i64 0, .slice none 0 0] 26)) _ from hkw) (by simp [go_sem])
    obtain ⟨b0, bf0, b1, bf1, b2, bf2, b3, bf3⟩ := blk4 (b := w.heap.size + 1) (v0 := .int .i64 0) (v1 := .string { data := #[] }) (v2 := .int .i64 0) (v3 := .slice none 0 0) (show Kept ((w.alloc (.cells #[.int .i64 id, .string nm, .int .i64 z, .slice A xs.length c] 26)).alloc (.cells #[.int .i64 0, .string { data := #[] }, .int .i64 0, .slice none 0 0] 26)) _ from hkw) (by simp [go_sem])
    by_cases hlt : k < xs.length
    · obtain ⟨b, off, rfl, hc⟩ := HA.out (by omega)
      obtain ⟨-, ⟨q1, q2⟩, -⟩ := gaugeB_at H1.out hlt
      have hkb := (Kept.alloc (Kept.alloc (Kept.refl w) (Obj.cells #[.int .i64 id, .string nm, .int .i64 z, .slice (some ⟨b, off, none⟩) xs.length c] 26)) (Obj.cells #[.int .i64 0, .string { data := #[] }, .int .i64 0, .slice none 0 0] 26)).trans HQ.out
      have x0 := hkb.keep (hc k hlt).1
      have x1 := hkb.keep (hc k hlt).2
      have hsz := World.block_lt_of_cell? wr _ e0
      simp only [] at hsz
      have k0 : (0 : Int) ≤ (k : Int) := by omega
      have k1 : (k : Int) < (xs.length : Int) := by omega
      have HG := Lib.hid (shift_take (d := z - to) hlt)
      have hn6 : some w1.heap.size ≠ (Value.slice A1 k c1).ownBlock := fun h => by
        have := (hown.lt _ h.symm).1
        omega
      have hbw : b < w.heap.size := by
        have := World.block_lt_of_cell? w _ (hc k hlt).1
        simpa using this
      have HN6 := Lib.hid hn6
      have HN7 := Lib.hid (show some b ≠ (Value.slice A1 k c1).ownBlock from fun h => by
        have := (hown.lt _ h.symm).1
        omega)
      have HN8 := Lib.hid (show some w.heap.size ≠ (Value.slice A1 k c1).ownBlock from fun h => by
        have := (hown.lt _ h.symm).1
        omega)
      have E0 := Lib.hid e0
      have E1 := Lib.hid e1
      have E2 := Lib.hid e2
      clear hkb hc hkw hown hn6 b0 b1 b2 b3 bf0 bf1 bf2 bf3 af0 af1 af2 af3 a0 a1 e0 e1 e2
      go_wp2_with fail
      have y1 : ¬ b = w1.heap.size := by omega
      have y2 : ¬ w.heap.size = w1.heap.size := by omega
      have y3 : ¬ b = wr.heap.size := by omega
      have y4 : ¬ w.heap.size = wr.heap.size := by omega
      have y5 : b < wr.heap.size := by omega
      have y6 : w.heap.size < wr.heap.size := by omega
      have w1' : IntKind.i64.wrap (P2 xs k + z) = P2 xs k + z := IntWalk.i64_in _ (by omega)
      have w2' : IntKind.i64.wrap (P2 xs k + z - to) = P2 xs k + (z - to) := by rw [IntWalk.i64_in _ (by omega)]; omega
      refine wp_region_held_drew (S := fun w' => w'.cell? ⟨w.heap.size, 2, none⟩ = some (.int .i64 z) ∧ w'.cell? ⟨w.heap.size, 3, none⟩ = some (.slice (some ⟨b, off, none⟩) xs.length c) ∧ w'.cell? ⟨b, off + k * 2, none⟩ = some (.int .i64 (P1 xs k)) ∧ w'.cell? ⟨b, off + k * 2 + 1, none⟩ = some (.int .i64 (P2 xs k))) (by kernel_rfl) (by (try dsimp only); exact ⟨a2, a3, x0, x1⟩) (fun hHeld => ?_)
      refine wpAnyH_take (i := 2) (v := ?_) rfl (by kernel_rfl) (by kernel_rfl) (by kernel_rfl) (fun _ _ _ h => h) (Or.inl ⟨by kernel_rfl, ?_⟩) (by assumption) ?_
      rotate_left
      focus (intro w hSw; (try dsimp only at hSw); obtain ⟨s2, s3, sx, sy⟩ := hSw; go_simp; (try with_reducible rfl))
      (try simp only [Act.put, List.getElem_toArray, List.getElem_cons_zero, List.getElem_cons_succ, List.setIfInBounds_toArray, List.set_cons_zero, List.set_cons_succ])
      refine wpAnyH_take (i := 3) (v := ?_) rfl (by kernel_rfl) (by kernel_rfl) (by kernel_rfl) (fun _ _ _ h => h) (Or.inl ⟨by kernel_rfl, ?_⟩) (by assumption) ?_
      rotate_left
      focus (intro w hSw; (try dsimp only at hSw); obtain ⟨s2, s3, sx, sy⟩ := hSw; go_simp; (try with_reducible rfl))
      (try simp only [Act.put, List.getElem_toArray, List.getElem_cons_zero, List.getElem_cons_succ, List.setIfInBounds_toArray, List.set_cons_zero, List.set_cons_succ])
      refine wpAnyH_take (i := 4) (v := ?_) rfl (by kernel_rfl) (by kernel_rfl) (by kernel_rfl) (fun _ _ _ h => h) (Or.inl ⟨by kernel_rfl, ?_⟩) (by assumption) ?_
      rotate_left
      focus (intro w hSw; (try dsimp only at hSw); obtain ⟨s2, s3, sx, sy⟩ := hSw; go_simp; (try with_reducible rfl))
      (try simp only [Act.put, List.getElem_toArray, List.getElem_cons_zero, List.getElem_cons_succ, List.setIfInBounds_toArray, List.set_cons_zero, List.set_cons_succ])
      refine wpAnyH_take (i := 5) (v := ?_) rfl (by kernel_rfl) (by kernel_rfl) (by kernel_rfl) (fun _ _ _ h => h) (Or.inl ⟨by kernel_rfl, ?_⟩) (by assumption) ?_
      rotate_left
      focus (intro w hSw; (try dsimp only at hSw); obtain ⟨s2, s3, sx, sy⟩ := hSw; go_simp; (try with_reducible rfl))
      (try simp only [Act.put, List.getElem_toArray, List.getElem_cons_zero, List.getElem_cons_succ, List.setIfInBounds_toArray, List.set_cons_zero, List.set_cons_succ])
      refine wpAnyH_take (i := 6) (v := ?_) rfl (by kernel_rfl) (by kernel_rfl) (by kernel_rfl) (fun _ _ _ h => h) (Or.inl ⟨by kernel_rfl, ?_⟩) (by assumption) ?_
      rotate_left
      focus (intro w hSw; (try dsimp only at hSw); obtain ⟨s2, s3, sx, sy⟩ := hSw; go_simp; (try with_reducible rfl))
      (try simp only [Act.put, List.getElem_toArray, List.getElem_cons_zero, List.getElem_cons_succ, List.setIfInBounds_toArray, List.set_cons_zero, List.set_cons_succ])
      refine wpAnyH_take (i := 7) (v := ?_) rfl (by kernel_rfl) (by kernel_rfl) (by kernel_rfl) (fun _ _ _ h => h) (Or.inl ⟨by kernel_rfl, ?_⟩) (by assumption) ?_
      rotate_left
      focus (intro w hSw; (try dsimp only at hSw); obtain ⟨s2, s3, sx, sy⟩ := hSw; go_simp; (try with_reducible rfl))
      (try simp only [Act.put, List.getElem_toArray, List.getElem_cons_zero, List.getElem_cons_succ, List.setIfInBounds_toArray, List.set_cons_zero, List.set_cons_succ])
      refine wpAnyH_take (i := 8) (v := ?_) rfl (by kernel_rfl) (by kernel_rfl) (by kernel_rfl) (fun _ _ _ h => h) (Or.inl ⟨by kernel_rfl, ?_⟩) (by assumption) ?_
      rotate_left
      focus (intro w hSw; (try dsimp only at hSw); obtain ⟨s2, s3, sx, sy⟩ := hSw; go_simp; (try with_reducible rfl))
      (try simp only [Act.put, List.getElem_toArray, List.getElem_cons_zero, List.getElem_cons_succ, List.setIfInBounds_toArray, List.set_cons_zero, List.set_cons_succ])
      refine wpAnyH_take (i := 9) (v := ?_) rfl (by kernel_rfl) (by kernel_rfl) (by kernel_rfl) (fun _ _ _ h => h) (Or.inl ⟨by kernel_rfl, ?_⟩) (by assumption) ?_
      rotate_left
      focus (intro w hSw; (try dsimp only at hSw); obtain ⟨s2, s3, sx, sy⟩ := hSw; go_simp; (try with_reducible rfl))
      (try simp only [Act.put, List.getElem_toArray, List.getElem_cons_zero, List.getElem_cons_succ, List.setIfInBounds_toArray, List.set_cons_zero, List.set_cons_succ])
      refine wpAnyH_take (i := 10) (v := ?_) rfl (by kernel_rfl) (by kernel_rfl) (by kernel_rfl) (fun _ _ _ h => h) (Or.inl ⟨by kernel_rfl, ?_⟩) (by assumption) ?_
      rotate_left
      focus (intro w hSw; (try dsimp only at hSw); obtain ⟨s2, s3, sx, sy⟩ := hSw; go_simp; (try with_reducible rfl))
      (try simp only [Act.put, List.getElem_toArray, List.getElem_cons_zero, List.getElem_cons_succ, List.setIfInBounds_toArray, List.set_cons_zero, List.set_cons_succ])
      refine wpAnyH_take (i := 11) (v := ?_) rfl (by kernel_rfl) (by kernel_rfl) (by kernel_rfl) (fun _ _ _ h => h) (Or.inl ⟨by kernel_rfl, ?_⟩) (by assumption) ?_
      rotate_left
      focus (intro w hSw; (try dsimp only at hSw); obtain ⟨s2, s3, sx, sy⟩ := hSw; go_simp; (try with_reducible rfl))
      (try simp only [Act.put, List.getElem_toArray, List.getElem_cons_zero, List.getElem_cons_succ, List.setIfInBounds_toArray, List.set_cons_zero, List.set_cons_succ])
      refine wpAnyH_take (i := 12) (v := ?_) rfl (by kernel_rfl) (by kernel_rfl) (by kernel_rfl) (fun _ _ _ h => h) (Or.inl ⟨by kernel_rfl, ?_⟩) (by assumption) ?_
      rotate_left
      focus (intro w hSw; (try dsimp only at hSw); obtain ⟨s2, s3, sx, sy⟩ := hSw; go_simp; (try with_reducible rfl))
      (try simp only [Act.put, List.getElem_toArray, List.getElem_cons_zero, List.getElem_cons_succ, List.setIfInBounds_toArray, List.set_cons_zero, List.set_cons_succ])
      refine wpAnyH_take (i := 13) (v := ?_) rfl (by kernel_rfl) (by kernel_rfl) (by kernel_rfl) (fun _ _ _ h => h) (Or.inl ⟨by kernel_rfl, ?_⟩) (by assumption) ?_
      rotate_left
      focus (intro w hSw; (try dsimp only at hSw); obtain ⟨s2, s3, sx, sy⟩ := hSw; go_simp; (try with_reducible rfl))
      (try simp only [Act.put, List.getElem_toArray, List.getElem_cons_zero, List.getElem_cons_succ, List.setIfInBounds_toArray, List.set_cons_zero, List.set_cons_succ])
      refine wpAnyH_take (i := 14) (v := ?_) rfl (by kernel_rfl) (by kernel_rfl) (by kernel_rfl) (fun _ _ _ h => h) (Or.inl ⟨by kernel_rfl, ?_⟩) (by assumption) ?_
      rotate_left
      focus (intro w hSw; (try dsimp only at hSw); obtain ⟨s2, s3, sx, sy⟩ := hSw; go_simp; (try with_reducible rfl))
      (try simp only [Act.put, List.getElem_toArray, List.getElem_cons_zero, List.getElem_cons_succ, List.setIfInBounds_toArray, List.set_cons_zero, List.set_cons_succ])
      refine wpAnyH_take (i := 15) (v := ?_) rfl (by kernel_rfl) (by kernel_rfl) (by kernel_rfl) (fun _ _ _ h => h) (Or.inl ⟨by kernel_rfl, ?_⟩) (by assumption) ?_
      rotate_left
      focus (intro w hSw; (try dsimp only at hSw); obtain ⟨s2, s3, sx, sy⟩ := hSw; go_simp; (try with_reducible rfl))
      (try simp only [Act.put, List.getElem_toArray, List.getElem_cons_zero, List.getElem_cons_succ, List.setIfInBounds_toArray, List.set_cons_zero, List.set_cons_succ])
      refine wpAnyH_take (i := 16) (v := ?_) rfl (by kernel_rfl) (by kernel_rfl) (by kernel_rfl) (fun _ _ _ h => h) (Or.inl ⟨by kernel_rfl, ?_⟩) (by assumption) ?_
      rotate_left
      focus (intro w hSw; (try dsimp only at hSw); obtain ⟨s2, s3, sx, sy⟩ := hSw; go_simp; (try with_reducible rfl))
      (try simp only [Act.put, List.getElem_toArray, List.getElem_cons_zero, List.getElem_cons_succ, List.setIfInBounds_toArray, List.set_cons_zero, List.set_cons_succ])
      refine wpAnyH_take (i := 17) (v := ?_) rfl (by kernel_rfl) (by kernel_rfl) (by kernel_rfl) (fun _ _ _ h => h) (Or.inl ⟨by kernel_rfl, ?_⟩) (by assumption) ?_
      rotate_left
      focus (intro w hSw; (try dsimp only at hSw); obtain ⟨s2, s3, sx, sy⟩ := hSw; go_simp; (try with_reducible rfl))
      (try simp only [Act.put, List.getElem_toArray, List.getElem_cons_zero, List.getElem_cons_succ, List.setIfInBounds_toArray, List.set_cons_zero, List.set_cons_succ])
      refine wpAnyH_take (i := 18) (v := ?_) rfl (by kernel_rfl) (by kernel_rfl) (by kernel_rfl) (fun _ _ _ h => h) (Or.inl ⟨by kernel_rfl, ?_⟩) (by assumption) ?_
      rotate_left
      focus (intro w hSw; (try dsimp only at hSw); obtain ⟨s2, s3, sx, sy⟩ := hSw; go_simp; (try with_reducible rfl))
      (try simp only [Act.put, List.getElem_toArray, List.getElem_cons_zero, List.getElem_cons_succ, List.setIfInBounds_toArray, List.set_cons_zero, List.set_cons_succ])
      refine wpAnyH_take (i := 19) (v := ?_) rfl (by kernel_rfl) (by kernel_rfl) (by kernel_rfl) (fun _ _ _ h => h) (Or.inl ⟨by kernel_rfl, ?_⟩) (by assumption) ?_
      rotate_left
      focus (intro w hSw; (try dsimp only at hSw); obtain ⟨s2, s3, sx, sy⟩ := hSw; go_simp; (try with_reducible rfl))
      (try simp only [Act.put, List.getElem_toArray, List.getElem_cons_zero, List.getElem_cons_succ, List.setIfInBounds_toArray, List.set_cons_zero, List.set_cons_succ])
      refine wpAnyH_take (i := 0) (v := ?_) rfl (by kernel_rfl) (by kernel_rfl) (by kernel_rfl) (fun _ _ _ h => h) (Or.inl ⟨by kernel_rfl, ?_⟩) (by assumption) ?_
      rotate_left
      focus (intro w hSw; (try dsimp only at hSw); obtain ⟨s2, s3, sx, sy⟩ := hSw; go_simp; (try with_reducible rfl))
      (try simp only [Act.put, List.getElem_toArray, List.getElem_cons_zero, List.getElem_cons_succ, List.setIfInBounds_toArray, List.set_cons_zero, List.set_cons_succ])
      clear w1' w2'
      refine wpAnyH_ready (rs := [1, 20]) (by kernel_rfl) (by simp) ?_
      refine AllReadyH.cons rfl (fun K hK => ?_) (AllReadyH.cons rfl (fun K hK => ?_) (AllReadyH.nil))
      · go_simp
        refine hK.out _ _ (by (try dsimp only); exact hHeld) (fun hHeld => ?_)
        clear hK K
        (try simp only [Act.put, List.getElem_toArray, List.getElem_cons_zero, List.getElem_cons_succ, List.setIfInBounds_toArray, List.set_cons_zero, List.set_cons_succ])
        refine wpAnyH_ready (rs := [20]) (by kernel_rfl) (by simp) ?_
        refine AllReadyH.cons rfl (fun K hK => ?_) AllReadyH.nil
        go_simp
        refine hK.out _ _ (by (try dsimp only); exact ⟨(Kept.drew (Kept.alloc (Kept.refl wr) _)).keep a2, (Kept.drew (Kept.alloc (Kept.refl wr) _)).keep a3, (Kept.drew (Kept.alloc (Kept.refl wr) _)).keep x0, (Kept.drew (Kept.alloc (Kept.refl wr) _)).keep x1⟩) (fun hHeld => ?_)
        clear hK K
        (try simp only [Act.put, List.getElem_toArray, List.getElem_cons_zero, List.getElem_cons_succ, List.setIfInBounds_toArray, List.set_cons_zero, List.set_cons_succ])
        refine wpAnyH_ready (rs := [21]) (by kernel_rfl) (by simp) ?_
        refine AllReadyH.cons rfl (fun K hK => ?_) AllReadyH.nil
        refine step_append_lies _ (by rfl) _ _ _ (by rfl) (w1.heap.size + 1) 28 i0 _ 2 16 Try.underlying24 hi0 hz0 hz1 hz2 rfl (by omega) _ k _ (by rfl) ((HO.out.alloc _).drew) ⟨wr.heap.size, 0, none⟩ 1 1 [.int .i64 (P1 xs k), .int .i64 (P2 xs k + (z - to))] (by rfl) (by rfl) (World.news_of_block (cs := #[.int .i64 (P1 xs k), .int .i64 (P2 xs k + (z - to))]) (t := 28) (fr := (0, 0)) (heap_alloc_new wr _)) (by simp [Value.oneCell']) (by omega) (by unfold maxLen; omega) (by omega) (by simp; omega) (wr.heap.size + 1) (by simp) ?_
        intro gg cap wn hown1 hgrow1 hat hlt1
        have n3 := (hgrow1.cell_far ⟨w1.heap.size, 3, none⟩ (by simp; omega) HN6.out).trans ((Kept.drew (Kept.alloc (Kept.refl wr) _)).keep e3)
        have nf3 := (hgrow1.frozen_far ⟨w1.heap.size, 3, none⟩ (by simp; omega) HN6.out).trans ((Kept.drew (Kept.alloc (Kept.refl wr) _)).free e3 ef3)
        refine hK.out _ _ (by (try dsimp only); exact ⟨(hgrow1.cell_far _ (by simp; omega) HN8.out).trans hHeld.1, (hgrow1.cell_far _ (by simp; omega) HN8.out).trans hHeld.2.1, (hgrow1.cell_far _ (by simp; omega) HN7.out).trans hHeld.2.2.1, (hgrow1.cell_far _ (by simp; omega) HN7.out).trans hHeld.2.2.2⟩) (fun hHeld => ?_)
        clear hK K
        (try simp only [Act.put, List.getElem_toArray, List.getElem_cons_zero, List.getElem_cons_succ, List.setIfInBounds_toArray, List.set_cons_zero, List.set_cons_succ])
        refine wpAnyH_ready (rs := [22]) (by kernel_rfl) (by simp) ?_
        refine AllReadyH.cons rfl (fun K hK => ?_) AllReadyH.nil
        go_simp
        refine hK.out _ _ (by (try dsimp only); exact hHeld) (fun hHeld => ?_)
        clear hK K
        (try simp only [Act.put, List.getElem_toArray, List.getElem_cons_zero, List.getElem_cons_succ, List.setIfInBounds_toArray, List.set_cons_zero, List.set_cons_succ])
        refine wpAnyH_ready (rs := [23]) (by kernel_rfl) (by simp) ?_
        refine AllReadyH.cons rfl (fun K hK => ?_) AllReadyH.nil
        go_simp
        refine hK.out _ _ (by (try dsimp only); exact ⟨(World.cell?_setCell_other wn _ _ _ (by first | (simp; done) | (simp; omega))).trans hHeld.1, (World.cell?_setCell_other wn _ _ _ (by first | (simp; done) | (simp; omega))).trans hHeld.2.1, (World.cell?_setCell_other wn _ _ _ (by first | (simp; done) | (simp; omega))).trans hHeld.2.2.1, (World.cell?_setCell_other wn _ _ _ (by first | (simp; done) | (simp; omega))).trans hHeld.2.2.2⟩) (fun hHeld => ?_)
        clear hK K
        (try simp only [Act.put, List.getElem_toArray, List.getElem_cons_zero, List.getElem_cons_succ, List.setIfInBounds_toArray, List.set_cons_zero, List.set_cons_succ])
        refine wpAnyH_done (by kernel_rfl) ?_ _
        go_wp2_with fail
        have m0 := (hgrow1.cell_far ⟨w1.heap.size, 0, none⟩ (by simp; omega) HN6.out).trans ((Kept.drew (Kept.alloc (Kept.refl wr) _)).keep E0.out)
        have m1 := (hgrow1.cell_far ⟨w1.heap.size, 1, none⟩ (by simp; omega) HN6.out).trans ((Kept.drew (Kept.alloc (Kept.refl wr) _)).keep E1.out)
        have m2 := (hgrow1.cell_far ⟨w1.heap.size, 2, none⟩ (by simp; omega) HN6.out).trans ((Kept.drew (Kept.alloc (Kept.refl wr) _)).keep E2.out)
        have KW : Kept ((w.alloc (.cells #[.int .i64 id, .string nm, .int .i64 z, .slice (some ⟨b, off, none⟩) xs.length c] 26)).alloc (.cells #[.int .i64 0, .string { data := #[] }, .int .i64 0, .slice none 0 0] 26)) wn := Kept.of_own HQ.out (own_base HO.out (by simp; omega)) hgrow1 (by (repeat (first | exact Kept.refl _ | assumption | refine Kept.alloc ?_ _ | refine Kept.drew ?_ | refine Kept.drewN ?_ _ | refine Kept.setCell ?_ (by first | (simp; done) | (simp; omega) | omega | exact Kept.size (by (repeat (first | exact Kept.refl _ | assumption | refine Kept.alloc ?_ _ | refine Kept.drew ?_ | refine Kept.drewN ?_ _ | refine Kept.trans ?_ (by assumption))))) _ | refine Kept.trans ?_ (by assumption))))
        go_roundw
        case rel => exact ⟨k + 1, .slice (some ⟨gg, 0, none⟩) (k + 1) cap, by omega, by go_num, KW.setCell (by simp; omega) _, by rw [HG.out, List.flatMap_append]; exact ownsRow_setCell_below hown1 (by simp) _, by simp [go_sem, *], by simp [go_sem, *], by simp [go_sem, *], by simp [go_sem, *], by simp [go_sem, *]⟩
        case measure => simp [intOf]; omega
      · go_simp
        refine hK.out _ _ (by (try dsimp only); exact ⟨(Kept.drew (Kept.alloc (Kept.refl wr) _)).keep a2, (Kept.drew (Kept.alloc (Kept.refl wr) _)).keep a3, (Kept.drew (Kept.alloc (Kept.refl wr) _)).keep x0, (Kept.drew (Kept.alloc (Kept.refl wr) _)).keep x1⟩) (fun hHeld => ?_)
        clear hK K
        (try simp only [Act.put, List.getElem_toArray, List.getElem_cons_zero, List.getElem_cons_succ, List.setIfInBounds_toArray, List.set_cons_zero, List.set_cons_succ])
        refine wpAnyH_ready (rs := [1]) (by kernel_rfl) (by simp) ?_
        refine AllReadyH.cons rfl (fun K hK => ?_) AllReadyH.nil
        go_simp
        refine hK.out _ _ (by (try dsimp only); exact hHeld) (fun hHeld => ?_)
        clear hK K
        (try simp only [Act.put, List.getElem_toArray, List.getElem_cons_zero, List.getElem_cons_succ, List.setIfInBounds_toArray, List.set_cons_zero, List.set_cons_succ])
        refine wpAnyH_ready (rs := [21]) (by kernel_rfl) (by simp) ?_
        refine AllReadyH.cons rfl (fun K hK => ?_) AllReadyH.nil
        refine step_append_lies _ (by rfl) _ _ _ (by rfl) (w1.heap.size + 1) 28 i0 _ 2 16 Try.underlying24 hi0 hz0 hz1 hz2 rfl (by omega) _ k _ (by rfl) ((HO.out.alloc _).drew) ⟨wr.heap.size, 0, none⟩ 1 1 [.int .i64 (P1 xs k), .int .i64 (P2 xs k + (z - to))] (by rfl) (by rfl) (World.news_of_block (cs := #[.int .i64 (P1 xs k), .int .i64 (P2 xs k + (z - to))]) (t := 28) (fr := (0, 0)) (heap_alloc_new wr _)) (by simp [Value.oneCell']) (by omega) (by unfold maxLen; omega) (by omega) (by simp; omega) (wr.heap.size + 1) (by simp) ?_
        intro gg cap wn hown1 hgrow1 hat hlt1
        have n3 := (hgrow1.cell_far ⟨w1.heap.size, 3, none⟩ (by simp; omega) HN6.out).trans ((Kept.drew (Kept.alloc (Kept.refl wr) _)).keep e3)
        have nf3 := (hgrow1.frozen_far ⟨w1.heap.size, 3, none⟩ (by simp; omega) HN6.out).trans ((Kept.drew (Kept.alloc (Kept.refl wr) _)).free e3 ef3)
        refine hK.out _ _ (by (try dsimp only); exact ⟨(hgrow1.cell_far _ (by simp; omega) HN8.out).trans hHeld.1, (hgrow1.cell_far _ (by simp; omega) HN8.out).trans hHeld.2.1, (hgrow1.cell_far _ (by simp; omega) HN7.out).trans hHeld.2.2.1, (hgrow1.cell_far _ (by simp; omega) HN7.out).trans hHeld.2.2.2⟩) (fun hHeld => ?_)
        clear hK K
        (try simp only [Act.put, List.getElem_toArray, List.getElem_cons_zero, List.getElem_cons_succ, List.setIfInBounds_toArray, List.set_cons_zero, List.set_cons_succ])
        refine wpAnyH_ready (rs := [22]) (by kernel_rfl) (by simp) ?_
        refine AllReadyH.cons rfl (fun K hK => ?_) AllReadyH.nil
        go_simp
        refine hK.out _ _ (by (try dsimp only); exact hHeld) (fun hHeld => ?_)
        clear hK K
        (try simp only [Act.put, List.getElem_toArray, List.getElem_cons_zero, List.getElem_cons_succ, List.setIfInBounds_toArray, List.set_cons_zero, List.set_cons_succ])
        refine wpAnyH_ready (rs := [23]) (by kernel_rfl) (by simp) ?_
        refine AllReadyH.cons rfl (fun K hK => ?_) AllReadyH.nil
        go_simp
        refine hK.out _ _ (by (try dsimp only); exact ⟨(World.cell?_setCell_other wn _ _ _ (by first | (simp; done) | (simp; omega))).trans hHeld.1, (World.cell?_setCell_other wn _ _ _ (by first | (simp; done) | (simp; omega))).trans hHeld.2.1, (World.cell?_setCell_other wn _ _ _ (by first | (simp; done) | (simp; omega))).trans hHeld.2.2.1, (World.cell?_setCell_other wn _ _ _ (by first | (simp; done) | (simp; omega))).trans hHeld.2.2.2⟩) (fun hHeld => ?_)
        clear hK K
        (try simp only [Act.put, List.getElem_toArray, List.getElem_cons_zero, List.getElem_cons_succ, List.setIfInBounds_toArray, List.set_cons_zero, List.set_cons_succ])
        refine wpAnyH_done (by kernel_rfl) ?_ _
        go_wp2_with fail
        have m0 := (hgrow1.cell_far ⟨w1.heap.size, 0, none⟩ (by simp; omega) HN6.out).trans ((Kept.drew (Kept.alloc (Kept.refl wr) _)).keep E0.out)
        have m1 := (hgrow1.cell_far ⟨w1.heap.size, 1, none⟩ (by simp; omega) HN6.out).trans ((Kept.drew (Kept.alloc (Kept.refl wr) _)).keep E1.out)
        have m2 := (hgrow1.cell_far ⟨w1.heap.size, 2, none⟩ (by simp; omega) HN6.out).trans ((Kept.drew (Kept.alloc (Kept.refl wr) _)).keep E2.out)
        have KW : Kept ((w.alloc (.cells #[.int .i64 id, .string nm, .int .i64 z, .slice (some ⟨b, off, none⟩) xs.length c] 26)).alloc (.cells #[.int .i64 0, .string { data := #[] }, .int .i64 0, .slice none 0 0] 26)) wn := Kept.of_own HQ.out (own_base HO.out (by simp; omega)) hgrow1 (by (repeat (first | exact Kept.refl _ | assumption | refine Kept.alloc ?_ _ | refine Kept.drew ?_ | refine Kept.drewN ?_ _ | refine Kept.setCell ?_ (by first | (simp; done) | (simp; omega) | omega | exact Kept.size (by (repeat (first | exact Kept.refl _ | assumption | refine Kept.alloc ?_ _ | refine Kept.drew ?_ | refine Kept.drewN ?_ _ | refine Kept.trans ?_ (by assumption))))) _ | refine Kept.trans ?_ (by assumption))))
        go_roundw
        case rel => exact ⟨k + 1, .slice (some ⟨gg, 0, none⟩) (k + 1) cap, by omega, by go_num, KW.setCell (by simp; omega) _, by rw [HG.out, List.flatMap_append]; exact ownsRow_setCell_below hown1 (by simp) _, by simp [go_sem, *], by simp [go_sem, *], by simp [go_sem, *], by simp [go_sem, *], by simp [go_sem, *]⟩
        case measure => simp [intOf]; omega
    · have e : k = xs.length := by omega
      subst e
      have hO := HO.out
      rw [show (shiftL xs (z - to)).take xs.length = shiftL xs (z - to) by rw [← shift_len xs (z - to), List.take_length]] at hO
      have LS := Lib.hid (pairs_own (v := .slice A1 xs.length c1) (xs := shiftL xs (z - to)) (by rw [shift_len]; exact hO))
      have OS := Lib.hid hO
      clear hO hown hkw
      cases h3 : gaugeB id nm to (shiftL xs (z - to))
      · have HV := Lib.hid (sz_no (show szOk id nm z xs to = false by simp [szOk, H1.out, H2.out, h3]))
        go_wp2_with fail
        refine (l3One_any id nm to (.slice A1 xs.length c1) (shiftL xs (z - to)) hs _ (by exact LS.out)).mono ?_
        rintro e w3 ⟨rfl, hk3⟩
        rw [h3]
        have hk := HQ.out.trans hk3
        have OF := Lib.hid (own_kept OS.out hk3)
        have e0' := hk3.keep e0
        have e1' := hk3.keep e1
        have e2' := hk3.keep e2
        have e3' := hk3.keep e3
        clear e0 e1 e2 e3 ef3 a0 a1 a2 a3 b0 b1 b2 b3 af0 af1 af2 af3 bf0 bf1 bf2 bf3 hk3
        obtain ⟨a0, af0, a1, af1, a2, af2, a3, af3⟩ := blk4 (b := w.heap.size) (v0 := .int .i64 id) (v1 := .string nm) (v2 := .int .i64 z) (v3 := .slice A xs.length c) (show Kept ((w.alloc (.cells #[.int .i64 id, .string nm, .int .i64 z, .slice A xs.length c] 26)).alloc (.cells #[.int .i64 0, .string { data := #[] }, .int .i64 0, .slice none 0 0] 26)) _ from hk) (by simp [go_sem])
        obtain ⟨b0, bf0, b1, bf1, b2, bf2, b3, bf3⟩ := blk4 (b := w.heap.size + 1) (v0 := .int .i64 0) (v1 := .string { data := #[] }) (v2 := .int .i64 0) (v3 := .slice none 0 0) (show Kept ((w.alloc (.cells #[.int .i64 id, .string nm, .int .i64 z, .slice A xs.length c] 26)).alloc (.cells #[.int .i64 0, .string { data := #[] }, .int .i64 0, .slice none 0 0] 26)) _ from hk) (by simp [go_sem])
        have HKF := Lib.hid ((Kept.alloc (Kept.alloc (Kept.refl w) _) _).trans hk)
        clear hk
        go_wp2_with fail
        exact bodyPost_ret (v := .tuple #[noG, .bool false]) (by simp [results, Try.results24, go_sem, noG, *]) rfl ⟨_, HV.out.1, by rw [HV.out.2]; exact World.ownsRow_nil _ _ _ _, ((((HKF.out.setCell (by simp) _).setCell (by simp) _).setCell (by simp) _).setCell (by simp) _)⟩
      · have HV := Lib.hid (sz_yes (u := .slice A1 xs.length c1) (show szOk id nm z xs to = true by simp [szOk, H1.out, H2.out, h3]))
        go_wp2_with fail
        refine (l3One_any id nm to (.slice A1 xs.length c1) (shiftL xs (z - to)) hs _ (by exact LS.out)).mono ?_
        rintro e w3 ⟨rfl, hk3⟩
        rw [h3]
        have hk := HQ.out.trans hk3
        have OF := Lib.hid (own_kept OS.out hk3)
        have e0' := hk3.keep e0
        have e1' := hk3.keep e1
        have e2' := hk3.keep e2
        have e3' := hk3.keep e3
        clear e0 e1 e2 e3 ef3 a0 a1 a2 a3 b0 b1 b2 b3 af0 af1 af2 af3 bf0 bf1 bf2 bf3 hk3
        obtain ⟨a0, af0, a1, af1, a2, af2, a3, af3⟩ := blk4 (b := w.heap.size) (v0 := .int .i64 id) (v1 := .string nm) (v2 := .int .i64 z) (v3 := .slice A xs.length c) (show Kept ((w.alloc (.cells #[.int .i64 id, .string nm, .int .i64 z, .slice A xs.length c] 26)).alloc (.cells #[.int .i64 0, .string { data := #[] }, .int .i64 0, .slice none 0 0] 26)) _ from hk) (by simp [go_sem])
        obtain ⟨b0, bf0, b1, bf1, b2, bf2, b3, bf3⟩ := blk4 (b := w.heap.size + 1) (v0 := .int .i64 0) (v1 := .string { data := #[] }) (v2 := .int .i64 0) (v3 := .slice none 0 0) (show Kept ((w.alloc (.cells #[.int .i64 id, .string nm, .int .i64 z, .slice A xs.length c] 26)).alloc (.cells #[.int .i64 0, .string { data := #[] }, .int .i64 0, .slice none 0 0] 26)) _ from hk) (by simp [go_sem])
        have HKF := Lib.hid ((Kept.alloc (Kept.alloc (Kept.refl w) _) _).trans hk)
        clear hk
        go_wp2_with fail
        exact bodyPost_ret (v := .tuple #[.agg #[.int .i64 id, .string nm, .int .i64 to, .slice A1 xs.length c1], .bool true]) (by simp [results, Try.results24, go_sem, noG, *]) rfl ⟨_, HV.out.1, by rw [HV.out.2]; exact by rw [shift_len]; exact own_base (ownsRow_setCell_below (ownsRow_setCell_below (ownsRow_setCell_below (ownsRow_setCell_below OF.out (by simp; omega) _) (by simp; omega) _) (by simp; omega) _) (by simp; omega) _) (by omega), ((((HKF.out.setCell (by simp) _).setCell (by simp) _).setCell (by simp) _).setCell (by simp) _)⟩
end Go.Proofs.Ytopdnhlolfehcaa

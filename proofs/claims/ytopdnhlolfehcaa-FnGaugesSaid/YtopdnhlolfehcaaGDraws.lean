/-
  The draws of a gauge and a thing beside it.
  Conditions: none.
-/
import Derived.Test.YtopdnhlolfehcaaGDraw
namespace Go.Proofs.Ytopdnhlolfehcaa
open Go.ChangeShapes Go.WideShapes Go.ChangeAt Go.RowKit
set_option linter.unusedVariables false
set_option linter.unusedSimpArgs false

theorem among_pre (g b c n : Nat) (k : Int) (xs : List Int) (w : World) (hC : CurB w g k) (hk : k ≤ 900000) (hL : NumsIn w b xs) (hb : b ≠ g) (h0 : 0 < n) (hn : n ≤ xs.length) (h1 : xs.length ≤ 1000) : Calls Try.prog 67 #[.pointer (some ⟨g, 0, none⟩), .slice (some ⟨b, 0, none⟩) n c] w fun e w' => ∃ x : Int, e = .returned (.int .i64 x) ∧ CurB w' g (k + 2) ∧ Stir g w w' := by
  have hl : (xs.take n).length = n := by rw [List.length_take]; omega
  have h := among_any g b c k (xs.take n) w hC hk (fun i hi => by
    rw [hl] at hi
    have h2 := hL i (by omega)
    rw [h2]
    simp [List.getD_eq_getElem?_getD, List.getElem?_take, hi]) hb (by omega) (by omega)
  rw [hl] at h
  refine h.mono ?_
  rintro e w' ⟨x, rfl, -, h2, h3⟩
  exact ⟨x, rfl, h2, h3⟩
theorem blk2_keep {W W' : World} {b : Nat} {v0 v1 : Value} (k : Kept W W') (h : W.cell? ⟨b, 0, none⟩ = some v0 ∧ W.frozen? ⟨b, 0, none⟩ = false ∧ W.cell? ⟨b, 1, none⟩ = some v1 ∧ W.frozen? ⟨b, 1, none⟩ = false) : W'.cell? ⟨b, 0, none⟩ = some v0 ∧ W'.frozen? ⟨b, 0, none⟩ = false ∧ W'.cell? ⟨b, 1, none⟩ = some v1 ∧ W'.frozen? ⟨b, 1, none⟩ = false :=
  let ⟨h0, f0, h1, f1⟩ := h
  ⟨k.keep h0, k.free h0 f0, k.keep h1, k.free h1 f1⟩
theorem blk2_stir {g : Nat} {W W' : World} {b : Nat} {v0 v1 : Value} (k : Stir g W W') (hb : b ≠ g) (h : W.cell? ⟨b, 0, none⟩ = some v0 ∧ W.frozen? ⟨b, 0, none⟩ = false ∧ W.cell? ⟨b, 1, none⟩ = some v1 ∧ W.frozen? ⟨b, 1, none⟩ = false) : W'.cell? ⟨b, 0, none⟩ = some v0 ∧ W'.frozen? ⟨b, 0, none⟩ = false ∧ W'.cell? ⟨b, 1, none⟩ = some v1 ∧ W'.frozen? ⟨b, 1, none⟩ = false :=
  let ⟨h0, f0, h1, f1⟩ := h
  ⟨k.keep hb h0, k.free hb h0 f0, k.keep hb h1, k.free hb h1 f1⟩
set_option maxRecDepth 100000 in
set_option maxHeartbeats 8000000 in
theorem drawShiftZero_any (v : Value) (w : World) (hc : CodeW w v) : Calls Try.prog 22 #[v] w fun e w' => ∃ (i z : Int) (nm : ByteArray) (u : Value) (xs : List (Int × Int)) (t : Int), e = .returned (.tuple #[.agg #[.int .i64 i, .string nm, .int .i64 z, u], .int .i64 t]) ∧ nm.size ≤ 20 ∧ xs.length ≤ 40 ∧ Lies w' 2 pairC u xs ∧ Kept w w' := by
  obtain ⟨A0, len, cap, rfl, hc⟩ := hc
  have HC := Lib.hid hc
  clear hc
  go_enter Try.func22, Try.ntmps22
  have C0 := Lib.hid (CurB.new (W := (w.alloc (.cells #[.int .i64 0, .string { data := #[] }, .int .i64 0, .slice none 0 0] 26))) (g := w.heap.size + 1) (by simp) ((HC.out.kept (Kept.alloc (Kept.refl w) _)).mono (by simp)) 84)
  have K0 : Hid (Kept w ((w.alloc (.cells #[.int .i64 0, .string { data := #[] }, .int .i64 0, .slice none 0 0] 26)).alloc (.cells #[.slice A0 len cap, .int .i64 0, .int .u64 0] 84))) := Lib.hid (Kept.alloc (Kept.alloc (Kept.refl w) _) _)
  have Z0 := Lib.hid (show ((w.alloc (.cells #[.int .i64 0, .string { data := #[] }, .int .i64 0, .slice none 0 0] 26)).alloc (.cells #[.slice A0 len cap, .int .i64 0, .int .u64 0] 84)).cell? ⟨w.heap.size, 0, none⟩ = some (.int .i64 0) ∧ ((w.alloc (.cells #[.int .i64 0, .string { data := #[] }, .int .i64 0, .slice none 0 0] 26)).alloc (.cells #[.slice A0 len cap, .int .i64 0, .int .u64 0] 84)).frozen? ⟨w.heap.size, 0, none⟩ = false ∧ ((w.alloc (.cells #[.int .i64 0, .string { data := #[] }, .int .i64 0, .slice none 0 0] 26)).alloc (.cells #[.slice A0 len cap, .int .i64 0, .int .u64 0] 84)).cell? ⟨w.heap.size, 1, none⟩ = some (.string { data := #[] }) ∧ ((w.alloc (.cells #[.int .i64 0, .string { data := #[] }, .int .i64 0, .slice none 0 0] 26)).alloc (.cells #[.slice A0 len cap, .int .i64 0, .int .u64 0] 84)).frozen? ⟨w.heap.size, 1, none⟩ = false ∧ ((w.alloc (.cells #[.int .i64 0, .string { data := #[] }, .int .i64 0, .slice none 0 0] 26)).alloc (.cells #[.slice A0 len cap, .int .i64 0, .int .u64 0] 84)).cell? ⟨w.heap.size, 2, none⟩ = some (.int .i64 0) ∧ ((w.alloc (.cells #[.int .i64 0, .string { data := #[] }, .int .i64 0, .slice none 0 0] 26)).alloc (.cells #[.slice A0 len cap, .int .i64 0, .int .u64 0] 84)).frozen? ⟨w.heap.size, 2, none⟩ = false ∧ ((w.alloc (.cells #[.int .i64 0, .string { data := #[] }, .int .i64 0, .slice none 0 0] 26)).alloc (.cells #[.slice A0 len cap, .int .i64 0, .int .u64 0] 84)).cell? ⟨w.heap.size, 3, none⟩ = some (.slice none 0 0) ∧ ((w.alloc (.cells #[.int .i64 0, .string { data := #[] }, .int .i64 0, .slice none 0 0] 26)).alloc (.cells #[.slice A0 len cap, .int .i64 0, .int .u64 0] 84)).frozen? ⟨w.heap.size, 3, none⟩ = false by simp [go_sem])
  go_wp2_with fail
  refine (gauge_any (w.heap.size + 1) 0 5 _ C0.out (by omega)).mono ?_
  rintro e w1 ⟨i, z, nm, u, xs, rfl, hnm, hxl, ho, hc1, hs1⟩
  obtain ⟨A, c, rfl, hlc, hcm, hA⟩ := own_form ho
  obtain ⟨gc, hgc⟩ : ∃ x, x = w.heap.size + 1 := ⟨_, rfl⟩
  rw [← hgc] at hc1 hs1 C0
  simp only [← hgc]
  have zb : w.heap.size < gc := by omega
  have hsz := hs1.size
  simp only [World.size_alloc] at hsz
  have hgl : gc < w1.heap.size := by omega
  have GT : Hid (Kept w1 (w1.alloc (.cells #[.int .i64 i, .string nm, .int .i64 z, .slice A xs.length c] 26))) := Lib.hid (Kept.alloc (Kept.refl _) _)
  have EU := Lib.hid (show (w1.alloc (.cells #[.int .i64 i, .string nm, .int .i64 z, .slice A xs.length c] 26)).cell? ⟨w1.heap.size, 0, none⟩ = some (.int .i64 i) ∧ (w1.alloc (.cells #[.int .i64 i, .string nm, .int .i64 z, .slice A xs.length c] 26)).frozen? ⟨w1.heap.size, 0, none⟩ = false ∧ (w1.alloc (.cells #[.int .i64 i, .string nm, .int .i64 z, .slice A xs.length c] 26)).cell? ⟨w1.heap.size, 1, none⟩ = some (.string nm) ∧ (w1.alloc (.cells #[.int .i64 i, .string nm, .int .i64 z, .slice A xs.length c] 26)).frozen? ⟨w1.heap.size, 1, none⟩ = false ∧ (w1.alloc (.cells #[.int .i64 i, .string nm, .int .i64 z, .slice A xs.length c] 26)).cell? ⟨w1.heap.size, 2, none⟩ = some (.int .i64 z) ∧ (w1.alloc (.cells #[.int .i64 i, .string nm, .int .i64 z, .slice A xs.length c] 26)).frozen? ⟨w1.heap.size, 2, none⟩ = false ∧ (w1.alloc (.cells #[.int .i64 i, .string nm, .int .i64 z, .slice A xs.length c] 26)).cell? ⟨w1.heap.size, 3, none⟩ = some (.slice A xs.length c) ∧ (w1.alloc (.cells #[.int .i64 i, .string nm, .int .i64 z, .slice A xs.length c] 26)).frozen? ⟨w1.heap.size, 3, none⟩ = false by simp [go_sem])
  have OU := Lib.hid (own_kept ho GT.out)
  have hog : gc < ((w.alloc (.cells #[.int .i64 0, .string { data := #[] }, .int .i64 0, .slice none 0 0] 26)).alloc (.cells #[.slice A0 len cap, .int .i64 0, .int .u64 0] 84)).heap.size := by simp; omega
  have CU := Lib.hid (hc1.kept GT.out)
  have KU := Lib.hid ((Stir.out K0.out hs1 (by omega)).trans GT.out)
  have ZU := Lib.hid (blk4 GT.out (blk4_stir hs1 (by omega) Z0.out))
  have h5g : w1.heap.size ≠ gc := by omega
  have h5w : w.heap.size < w1.heap.size := by omega
  have hob : w.heap.size < ((w.alloc (.cells #[.int .i64 0, .string { data := #[] }, .int .i64 0, .slice none 0 0] 26)).alloc (.cells #[.slice A0 len cap, .int .i64 0, .int .u64 0] 84)).heap.size := by simp
  clear ho hc1 hs1 C0 K0 Z0 
  go_upto_region 3 with fail
  generalize w1.alloc (.cells #[.int .i64 i, .string nm, .int .i64 z, .slice A xs.length c] 26) = V at *
  generalize w1.heap.size = b5 at *
  generalize ((w.alloc (.cells #[.int .i64 0, .string { data := #[] }, .int .i64 0, .slice none 0 0] 26)).alloc (.cells #[.slice A0 len cap, .int .i64 0, .int .u64 0] 84)).heap.size = B at *
  clear hgc hsz GT HC
  refine wp_region_held_drew (S := fun w' => w'.cell? ⟨b5, 0, none⟩ = some (.int .i64 i) ∧ w'.frozen? ⟨b5, 0, none⟩ = false ∧ w'.cell? ⟨b5, 1, none⟩ = some (.string nm) ∧ w'.frozen? ⟨b5, 1, none⟩ = false ∧ w'.cell? ⟨b5, 2, none⟩ = some (.int .i64 z) ∧ w'.frozen? ⟨b5, 2, none⟩ = false ∧ w'.cell? ⟨b5, 3, none⟩ = some (.slice A xs.length c) ∧ w'.frozen? ⟨b5, 3, none⟩ = false) (by kernel_rfl) (by (try dsimp only); exact blk4 (Kept.drew (Kept.refl V)) EU.out) (fun hHeld => ?_)
  refine wpAnyH_take (i := 0) (v := ?_) rfl (by kernel_rfl) (by kernel_rfl) (by kernel_rfl) (fun _ _ _ h => h) (Or.inl ⟨by kernel_rfl, ?_⟩) (by assumption) ?_
  rotate_left
  focus (intro w' hSw; (try dsimp only at hSw); obtain ⟨s0, sf0, s1, sf1, s2, sf2, s3, sf3⟩ := hSw; go_simp; (try with_reducible rfl))
  (try simp only [Act.put, List.getElem_toArray, List.getElem_cons_zero, List.getElem_cons_succ, List.setIfInBounds_toArray, List.set_cons_zero, List.set_cons_succ])
  refine wpAnyH_take (i := 1) (v := ?_) rfl (by kernel_rfl) (by kernel_rfl) (by kernel_rfl) (fun _ _ _ h => h) (Or.inl ⟨by kernel_rfl, ?_⟩) (by assumption) ?_
  rotate_left
  focus (intro w' hSw; (try dsimp only at hSw); obtain ⟨s0, sf0, s1, sf1, s2, sf2, s3, sf3⟩ := hSw; go_simp; (try with_reducible rfl))
  (try simp only [Act.put, List.getElem_toArray, List.getElem_cons_zero, List.getElem_cons_succ, List.setIfInBounds_toArray, List.set_cons_zero, List.set_cons_succ])
  refine wpAnyH_take (i := 3) (v := ?_) rfl (by kernel_rfl) (by kernel_rfl) (by kernel_rfl) (fun _ _ _ h => h) (Or.inl ⟨by kernel_rfl, ?_⟩) (by assumption) ?_
  rotate_left
  focus (intro w' hSw; (try dsimp only at hSw); obtain ⟨s0, sf0, s1, sf1, s2, sf2, s3, sf3⟩ := hSw; go_simp; (try with_reducible rfl))
  (try simp only [Act.put, List.getElem_toArray, List.getElem_cons_zero, List.getElem_cons_succ, List.setIfInBounds_toArray, List.set_cons_zero, List.set_cons_succ])
  have kd : Kept V V.drew := Kept.drew (Kept.refl _)
  have E0 := Lib.hid (blk4 kd EU.out)
  have O0 := Lib.hid (own_kept OU.out kd)
  have C0 := Lib.hid (CU.out.kept kd)
  have K0 := Lib.hid (KU.out.trans kd)
  have Z0 := Lib.hid (blk4 kd ZU.out)
  clear kd
  generalize V.drew = p0 at *
  refine wpAnyH_ready (rs := [2, 4]) (by kernel_rfl) (by simp) ?_
  refine AllReadyH.cons rfl (fun K hK => ?_) (AllReadyH.cons rfl (fun K hK => ?_) (AllReadyH.nil))
  · skip
    go_simp
    have ka : Kept p0 (p0.alloc (.cells #[.int .i64 0, .int .i64 (-100), .int .i64 40, .int .i64 1000, .int .i64 (-1000), .int .i64 (-1001), .int .i64 1001] 3)) := Kept.alloc (Kept.refl _) _
    have E1 := Lib.hid (blk4 ka E0.out)
    refine hK.out _ _ (by (try dsimp only); exact E1.out) (fun hHeld => ?_)
    clear hK K
    (try simp only [Act.put, List.getElem_toArray, List.getElem_cons_zero, List.getElem_cons_succ, List.setIfInBounds_toArray, List.set_cons_zero, List.set_cons_succ])
    have O1 := Lib.hid (own_kept O0.out ka)
    have C1 := Lib.hid (C0.out.kept ka)
    have K1 := Lib.hid (K0.out.trans ka)
    have Z1 := Lib.hid (blk4 ka Z0.out)
    have NI2_1 := Lib.hid (NumsIn.lit (w := p0) (xs := [0, -100, 40, 1000, -1000, -1001, 1001]) (t := 3) (n := p0.heap.size) (cs := #[.int .i64 0, .int .i64 (-100), .int .i64 40, .int .i64 1000, .int .i64 (-1000), .int .i64 (-1001), .int .i64 1001]) (by rfl) rfl)
    have hg1 : p0.heap.size ≠ gc := fun e => by have := C0.out.lt; omega
    clear ka
    generalize p0.alloc (.cells #[.int .i64 0, .int .i64 (-100), .int .i64 40, .int .i64 1000, .int .i64 (-1000), .int .i64 (-1001), .int .i64 1001] 3) = p1 at *
    refine wpAnyH_ready (rs := [4]) (by kernel_rfl) (by simp) ?_
    refine AllReadyH.cons rfl (fun K hK => ?_) (AllReadyH.nil)
    go_simp
    go_at_call 68
    refine (pick_any gc (0 + 200) 24 _ C1.out (by omega) (by omega)).mono ?_
    rintro e p2 ⟨v4, rfl, ⟨va4, vb4⟩, hc2, hs2⟩
    obtain ⟨y4, hy4, hz4⟩ : ∃ y : Nat, v4 / 11 = (y : Int) ∧ y ≤ 2 := ⟨(v4 / 11).toNat, by omega, by omega⟩
    have ht4 : v4.tdiv 11 = (y4 : Int) := by rw [Int.tdiv_eq_ediv_of_nonneg (by omega)]; exact hy4
    have hw4 : IntKind.i64.wrap (y4 : Int) = (y4 : Int) := by rw [IntKind.wrap_i64]; omega
    have hv4 : IntKind.i64.wrap (5 + (y4 : Int)) = 5 + (y4 : Int) := by rw [IntKind.wrap_i64]; omega
    have ha4 : (0 : Int) ≤ 5 + (y4 : Int) := by omega
    have hb4 : 5 + (y4 : Int) ≤ 7 := by omega
    have hn4 : (5 + (y4 : Int)).toNat = 5 + y4 := by omega
    (try go_wp2_with fail)
    have E2 := Lib.hid (blk4_stir hs2 h5g E1.out)
    refine hK.out _ _ (by (try dsimp only); exact E2.out) (fun hHeld => ?_)
    clear hK K
    (try simp only [Act.put, List.getElem_toArray, List.getElem_cons_zero, List.getElem_cons_succ, List.setIfInBounds_toArray, List.set_cons_zero, List.set_cons_succ])
    have O2 := Lib.hid (hs2.own O1.out hog)
    have C2 := Lib.hid hc2
    have K2 := Lib.hid (Stir.out K1.out hs2 (by omega))
    have Z2 := Lib.hid (blk4_stir hs2 (by omega) Z1.out)
    have NI2_2 := Lib.hid (NI2_1.out.stir hs2 hg1)
    clear hc2 hs2
    refine wpAnyH_take (i := 5) (v := ?_) rfl (by kernel_rfl) (by kernel_rfl) (by kernel_rfl) (fun _ _ _ h => h) (Or.inl ⟨by kernel_rfl, ?_⟩) (by assumption) ?_
    rotate_left
    focus (intro w' hSw; (try dsimp only at hSw); obtain ⟨s0, sf0, s1, sf1, s2, sf2, s3, sf3⟩ := hSw; go_simp; (try with_reducible rfl))
    (try simp only [Act.put, List.getElem_toArray, List.getElem_cons_zero, List.getElem_cons_succ, List.setIfInBounds_toArray, List.set_cons_zero, List.set_cons_succ])
    refine wpAnyH_take (i := 6) (v := ?_) rfl (by kernel_rfl) (by kernel_rfl) (by kernel_rfl) (fun _ _ _ h => h) (Or.inl ⟨by kernel_rfl, ?_⟩) (by assumption) ?_
    rotate_left
    focus (intro w' hSw; (try dsimp only at hSw); obtain ⟨s0, sf0, s1, sf1, s2, sf2, s3, sf3⟩ := hSw; go_simp; (try with_reducible rfl))
    (try simp only [Act.put, List.getElem_toArray, List.getElem_cons_zero, List.getElem_cons_succ, List.setIfInBounds_toArray, List.set_cons_zero, List.set_cons_succ])
    refine wpAnyH_take (i := 7) (v := ?_) rfl (by kernel_rfl) (by kernel_rfl) (by kernel_rfl) (fun _ _ _ h => h) (Or.inl ⟨by kernel_rfl, ?_⟩) (by assumption) ?_
    rotate_left
    focus (intro w' hSw; (try dsimp only at hSw); obtain ⟨s0, sf0, s1, sf1, s2, sf2, s3, sf3⟩ := hSw; go_simp; (try with_reducible rfl))
    (try simp only [Act.put, List.getElem_toArray, List.getElem_cons_zero, List.getElem_cons_succ, List.setIfInBounds_toArray, List.set_cons_zero, List.set_cons_succ])
    refine wpAnyH_ready (rs := [8]) (by kernel_rfl) (by simp) ?_
    refine AllReadyH.cons rfl (fun K hK => ?_) (AllReadyH.nil)
    go_simp
    go_at_call 67
    refine (among_pre gc _ _ (5 + y4) ((0 + 200) + 2) [0, -100, 40, 1000, -1000, -1001, 1001] _ C2.out (by omega) NI2_2.out hg1 (by omega) (by first | (simp; done) | (simp; omega)) (by decide)).mono ?_
    rintro e p3 ⟨v8, rfl, hc3, hs3⟩
    (try go_wp2_with fail)
    have E3 := Lib.hid (blk4_stir hs3 h5g E2.out)
    refine hK.out _ _ (by (try dsimp only); exact E3.out) (fun hHeld => ?_)
    clear hK K
    (try simp only [Act.put, List.getElem_toArray, List.getElem_cons_zero, List.getElem_cons_succ, List.setIfInBounds_toArray, List.set_cons_zero, List.set_cons_succ])
    have O3 := Lib.hid (hs3.own O2.out hog)
    have C3 := Lib.hid hc3
    have K3 := Lib.hid (Stir.out K2.out hs3 (by omega))
    have Z3 := Lib.hid (blk4_stir hs3 (by omega) Z2.out)
    have NI2_3 := Lib.hid (NI2_2.out.stir hs3 hg1)
    clear hc3 hs3
    refine wpAnyH_ready (rs := [9]) (by kernel_rfl) (by simp) ?_
    refine AllReadyH.cons rfl (fun K hK => ?_) (AllReadyH.nil)
    obtain ⟨q0, f0, q1, f1, q2, f2, q3, f3⟩ := Z3.out
    go_simp
    have E4 := Lib.hid ((blk4_set ⟨w.heap.size, 3, none⟩ (by simp; omega) (.slice A xs.length c) (blk4_set ⟨w.heap.size, 2, none⟩ (by simp; omega) (.int .i64 z) (blk4_set ⟨w.heap.size, 1, none⟩ (by simp; omega) (.string nm) (blk4_set ⟨w.heap.size, 0, none⟩ (by simp; omega) (.int .i64 i) E3.out)))))
    have K4 := Lib.hid ((Kept.setCell (Kept.setCell (Kept.setCell (Kept.setCell K3.out (p := ⟨w.heap.size, 0, none⟩) (by first | (simp; done) | (simp; omega)) (.int .i64 i)) (p := ⟨w.heap.size, 1, none⟩) (by first | (simp; done) | (simp; omega)) (.string nm)) (p := ⟨w.heap.size, 2, none⟩) (by first | (simp; done) | (simp; omega)) (.int .i64 z)) (p := ⟨w.heap.size, 3, none⟩) (by first | (simp; done) | (simp; omega)) (.slice A xs.length c)))
    have O4 := Lib.hid ((ownsRow_setCell_below (ownsRow_setCell_below (ownsRow_setCell_below (ownsRow_setCell_below O3.out (a := ⟨w.heap.size, 0, none⟩) (by simp; omega) (.int .i64 i)) (a := ⟨w.heap.size, 1, none⟩) (by simp; omega) (.string nm)) (a := ⟨w.heap.size, 2, none⟩) (by simp; omega) (.int .i64 z)) (a := ⟨w.heap.size, 3, none⟩) (by simp; omega) (.slice A xs.length c)))
    have X4 := Lib.hid (show ((((p3.setCell ⟨w.heap.size, 0, none⟩ (.int .i64 i)).setCell ⟨w.heap.size, 1, none⟩ (.string nm)).setCell ⟨w.heap.size, 2, none⟩ (.int .i64 z)).setCell ⟨w.heap.size, 3, none⟩ (.slice A xs.length c)).cell? ⟨w.heap.size, 0, none⟩ = some (.int .i64 i) ∧ ((((p3.setCell ⟨w.heap.size, 0, none⟩ (.int .i64 i)).setCell ⟨w.heap.size, 1, none⟩ (.string nm)).setCell ⟨w.heap.size, 2, none⟩ (.int .i64 z)).setCell ⟨w.heap.size, 3, none⟩ (.slice A xs.length c)).frozen? ⟨w.heap.size, 0, none⟩ = false ∧ ((((p3.setCell ⟨w.heap.size, 0, none⟩ (.int .i64 i)).setCell ⟨w.heap.size, 1, none⟩ (.string nm)).setCell ⟨w.heap.size, 2, none⟩ (.int .i64 z)).setCell ⟨w.heap.size, 3, none⟩ (.slice A xs.length c)).cell? ⟨w.heap.size, 1, none⟩ = some (.string nm) ∧ ((((p3.setCell ⟨w.heap.size, 0, none⟩ (.int .i64 i)).setCell ⟨w.heap.size, 1, none⟩ (.string nm)).setCell ⟨w.heap.size, 2, none⟩ (.int .i64 z)).setCell ⟨w.heap.size, 3, none⟩ (.slice A xs.length c)).frozen? ⟨w.heap.size, 1, none⟩ = false ∧ ((((p3.setCell ⟨w.heap.size, 0, none⟩ (.int .i64 i)).setCell ⟨w.heap.size, 1, none⟩ (.string nm)).setCell ⟨w.heap.size, 2, none⟩ (.int .i64 z)).setCell ⟨w.heap.size, 3, none⟩ (.slice A xs.length c)).cell? ⟨w.heap.size, 2, none⟩ = some (.int .i64 z) ∧ ((((p3.setCell ⟨w.heap.size, 0, none⟩ (.int .i64 i)).setCell ⟨w.heap.size, 1, none⟩ (.string nm)).setCell ⟨w.heap.size, 2, none⟩ (.int .i64 z)).setCell ⟨w.heap.size, 3, none⟩ (.slice A xs.length c)).frozen? ⟨w.heap.size, 2, none⟩ = false ∧ ((((p3.setCell ⟨w.heap.size, 0, none⟩ (.int .i64 i)).setCell ⟨w.heap.size, 1, none⟩ (.string nm)).setCell ⟨w.heap.size, 2, none⟩ (.int .i64 z)).setCell ⟨w.heap.size, 3, none⟩ (.slice A xs.length c)).cell? ⟨w.heap.size, 3, none⟩ = some (.slice A xs.length c) ∧ ((((p3.setCell ⟨w.heap.size, 0, none⟩ (.int .i64 i)).setCell ⟨w.heap.size, 1, none⟩ (.string nm)).setCell ⟨w.heap.size, 2, none⟩ (.int .i64 z)).setCell ⟨w.heap.size, 3, none⟩ (.slice A xs.length c)).frozen? ⟨w.heap.size, 3, none⟩ = false by simp [go_sem, *])
    refine hK.out _ _ (by (try dsimp only); exact E4.out) (fun hHeld => ?_)
    clear hK K
    (try simp only [Act.put, List.getElem_toArray, List.getElem_cons_zero, List.getElem_cons_succ, List.setIfInBounds_toArray, List.set_cons_zero, List.set_cons_succ])
    clear q0 f0 q1 f1 q2 f2 q3 f3
    generalize ((((p3.setCell ⟨w.heap.size, 0, none⟩ (.int .i64 i)).setCell ⟨w.heap.size, 1, none⟩ (.string nm)).setCell ⟨w.heap.size, 2, none⟩ (.int .i64 z)).setCell ⟨w.heap.size, 3, none⟩ (.slice A xs.length c)) = p4 at *
    refine wpAnyH_ready (rs := [10]) (by kernel_rfl) (by simp) ?_
    refine AllReadyH.cons rfl (fun K hK => ?_) (AllReadyH.nil)
    go_simp
    refine hK.out _ _ (by (try dsimp only); exact hHeld) (fun hHeld => ?_)
    clear hK K
    (try simp only [Act.put, List.getElem_toArray, List.getElem_cons_zero, List.getElem_cons_succ, List.setIfInBounds_toArray, List.set_cons_zero, List.set_cons_succ])
    refine wpAnyH_done (by kernel_rfl) ?_ _
    go_wp2_with fail
    obtain ⟨x0, l0, x1, l1, x2, l2, x3, l3⟩ := X4.out
    exact bodyPost_ret (v := .tuple #[.agg #[.int .i64 i, .string nm, .int .i64 z, .slice A xs.length c], .int .i64 v8]) (by simp [results, Try.results22, go_sem, *]) rfl ⟨i, z, nm, _, xs, _, rfl, hnm, hxl, pairs_own O4.out, K4.out⟩
  · skip
    go_simp
    go_at_call 68
    refine (pick_any gc (0 + 200) 24 _ C0.out (by omega) (by omega)).mono ?_
    rintro e p6 ⟨v4, rfl, ⟨va4, vb4⟩, hc6, hs6⟩
    obtain ⟨y4, hy4, hz4⟩ : ∃ y : Nat, v4 / 11 = (y : Int) ∧ y ≤ 2 := ⟨(v4 / 11).toNat, by omega, by omega⟩
    have ht4 : v4.tdiv 11 = (y4 : Int) := by rw [Int.tdiv_eq_ediv_of_nonneg (by omega)]; exact hy4
    have hw4 : IntKind.i64.wrap (y4 : Int) = (y4 : Int) := by rw [IntKind.wrap_i64]; omega
    have hv4 : IntKind.i64.wrap (5 + (y4 : Int)) = 5 + (y4 : Int) := by rw [IntKind.wrap_i64]; omega
    have ha4 : (0 : Int) ≤ 5 + (y4 : Int) := by omega
    have hb4 : 5 + (y4 : Int) ≤ 7 := by omega
    have hn4 : (5 + (y4 : Int)).toNat = 5 + y4 := by omega
    (try go_wp2_with fail)
    have E6 := Lib.hid (blk4_stir hs6 h5g E0.out)
    refine hK.out _ _ (by (try dsimp only); exact E6.out) (fun hHeld => ?_)
    clear hK K
    (try simp only [Act.put, List.getElem_toArray, List.getElem_cons_zero, List.getElem_cons_succ, List.setIfInBounds_toArray, List.set_cons_zero, List.set_cons_succ])
    have O6 := Lib.hid (hs6.own O0.out hog)
    have C6 := Lib.hid hc6
    have K6 := Lib.hid (Stir.out K0.out hs6 (by omega))
    have Z6 := Lib.hid (blk4_stir hs6 (by omega) Z0.out)
    clear hc6 hs6
    refine wpAnyH_take (i := 5) (v := ?_) rfl (by kernel_rfl) (by kernel_rfl) (by kernel_rfl) (fun _ _ _ h => h) (Or.inl ⟨by kernel_rfl, ?_⟩) (by assumption) ?_
    rotate_left
    focus (intro w' hSw; (try dsimp only at hSw); obtain ⟨s0, sf0, s1, sf1, s2, sf2, s3, sf3⟩ := hSw; go_simp; (try with_reducible rfl))
    (try simp only [Act.put, List.getElem_toArray, List.getElem_cons_zero, List.getElem_cons_succ, List.setIfInBounds_toArray, List.set_cons_zero, List.set_cons_succ])
    refine wpAnyH_take (i := 6) (v := ?_) rfl (by kernel_rfl) (by kernel_rfl) (by kernel_rfl) (fun _ _ _ h => h) (Or.inl ⟨by kernel_rfl, ?_⟩) (by assumption) ?_
    rotate_left
    focus (intro w' hSw; (try dsimp only at hSw); obtain ⟨s0, sf0, s1, sf1, s2, sf2, s3, sf3⟩ := hSw; go_simp; (try with_reducible rfl))
    (try simp only [Act.put, List.getElem_toArray, List.getElem_cons_zero, List.getElem_cons_succ, List.setIfInBounds_toArray, List.set_cons_zero, List.set_cons_succ])
    refine wpAnyH_ready (rs := [2]) (by kernel_rfl) (by simp) ?_
    refine AllReadyH.cons rfl (fun K hK => ?_) (AllReadyH.nil)
    go_simp
    have ka : Kept p6 (p6.alloc (.cells #[.int .i64 0, .int .i64 (-100), .int .i64 40, .int .i64 1000, .int .i64 (-1000), .int .i64 (-1001), .int .i64 1001] 3)) := Kept.alloc (Kept.refl _) _
    have E7 := Lib.hid (blk4 ka E6.out)
    refine hK.out _ _ (by (try dsimp only); exact E7.out) (fun hHeld => ?_)
    clear hK K
    (try simp only [Act.put, List.getElem_toArray, List.getElem_cons_zero, List.getElem_cons_succ, List.setIfInBounds_toArray, List.set_cons_zero, List.set_cons_succ])
    have O7 := Lib.hid (own_kept O6.out ka)
    have C7 := Lib.hid (C6.out.kept ka)
    have K7 := Lib.hid (K6.out.trans ka)
    have Z7 := Lib.hid (blk4 ka Z6.out)
    have NI2_7 := Lib.hid (NumsIn.lit (w := p6) (xs := [0, -100, 40, 1000, -1000, -1001, 1001]) (t := 3) (n := p6.heap.size) (cs := #[.int .i64 0, .int .i64 (-100), .int .i64 40, .int .i64 1000, .int .i64 (-1000), .int .i64 (-1001), .int .i64 1001]) (by rfl) rfl)
    have hg7 : p6.heap.size ≠ gc := fun e => by have := C6.out.lt; omega
    clear ka
    generalize p6.alloc (.cells #[.int .i64 0, .int .i64 (-100), .int .i64 40, .int .i64 1000, .int .i64 (-1000), .int .i64 (-1001), .int .i64 1001] 3) = p7 at *
    refine wpAnyH_take (i := 7) (v := ?_) rfl (by kernel_rfl) (by kernel_rfl) (by kernel_rfl) (fun _ _ _ h => h) (Or.inl ⟨by kernel_rfl, ?_⟩) (by assumption) ?_
    rotate_left
    focus (intro w' hSw; (try dsimp only at hSw); obtain ⟨s0, sf0, s1, sf1, s2, sf2, s3, sf3⟩ := hSw; go_simp; (try with_reducible rfl))
    (try simp only [Act.put, List.getElem_toArray, List.getElem_cons_zero, List.getElem_cons_succ, List.setIfInBounds_toArray, List.set_cons_zero, List.set_cons_succ])
    refine wpAnyH_ready (rs := [8]) (by kernel_rfl) (by simp) ?_
    refine AllReadyH.cons rfl (fun K hK => ?_) (AllReadyH.nil)
    go_simp
    go_at_call 67
    refine (among_pre gc _ _ (5 + y4) ((0 + 200) + 2) [0, -100, 40, 1000, -1000, -1001, 1001] _ C7.out (by omega) NI2_7.out hg7 (by omega) (by first | (simp; done) | (simp; omega)) (by decide)).mono ?_
    rintro e p8 ⟨v8, rfl, hc8, hs8⟩
    (try go_wp2_with fail)
    have E8 := Lib.hid (blk4_stir hs8 h5g E7.out)
    refine hK.out _ _ (by (try dsimp only); exact E8.out) (fun hHeld => ?_)
    clear hK K
    (try simp only [Act.put, List.getElem_toArray, List.getElem_cons_zero, List.getElem_cons_succ, List.setIfInBounds_toArray, List.set_cons_zero, List.set_cons_succ])
    have O8 := Lib.hid (hs8.own O7.out hog)
    have C8 := Lib.hid hc8
    have K8 := Lib.hid (Stir.out K7.out hs8 (by omega))
    have Z8 := Lib.hid (blk4_stir hs8 (by omega) Z7.out)
    have NI2_8 := Lib.hid (NI2_7.out.stir hs8 hg7)
    clear hc8 hs8
    refine wpAnyH_ready (rs := [9]) (by kernel_rfl) (by simp) ?_
    refine AllReadyH.cons rfl (fun K hK => ?_) (AllReadyH.nil)
    obtain ⟨q0, f0, q1, f1, q2, f2, q3, f3⟩ := Z8.out
    go_simp
    have E9 := Lib.hid ((blk4_set ⟨w.heap.size, 3, none⟩ (by simp; omega) (.slice A xs.length c) (blk4_set ⟨w.heap.size, 2, none⟩ (by simp; omega) (.int .i64 z) (blk4_set ⟨w.heap.size, 1, none⟩ (by simp; omega) (.string nm) (blk4_set ⟨w.heap.size, 0, none⟩ (by simp; omega) (.int .i64 i) E8.out)))))
    have K9 := Lib.hid ((Kept.setCell (Kept.setCell (Kept.setCell (Kept.setCell K8.out (p := ⟨w.heap.size, 0, none⟩) (by first | (simp; done) | (simp; omega)) (.int .i64 i)) (p := ⟨w.heap.size, 1, none⟩) (by first | (simp; done) | (simp; omega)) (.string nm)) (p := ⟨w.heap.size, 2, none⟩) (by first | (simp; done) | (simp; omega)) (.int .i64 z)) (p := ⟨w.heap.size, 3, none⟩) (by first | (simp; done) | (simp; omega)) (.slice A xs.length c)))
    have O9 := Lib.hid ((ownsRow_setCell_below (ownsRow_setCell_below (ownsRow_setCell_below (ownsRow_setCell_below O8.out (a := ⟨w.heap.size, 0, none⟩) (by simp; omega) (.int .i64 i)) (a := ⟨w.heap.size, 1, none⟩) (by simp; omega) (.string nm)) (a := ⟨w.heap.size, 2, none⟩) (by simp; omega) (.int .i64 z)) (a := ⟨w.heap.size, 3, none⟩) (by simp; omega) (.slice A xs.length c)))
    have X9 := Lib.hid (show ((((p8.setCell ⟨w.heap.size, 0, none⟩ (.int .i64 i)).setCell ⟨w.heap.size, 1, none⟩ (.string nm)).setCell ⟨w.heap.size, 2, none⟩ (.int .i64 z)).setCell ⟨w.heap.size, 3, none⟩ (.slice A xs.length c)).cell? ⟨w.heap.size, 0, none⟩ = some (.int .i64 i) ∧ ((((p8.setCell ⟨w.heap.size, 0, none⟩ (.int .i64 i)).setCell ⟨w.heap.size, 1, none⟩ (.string nm)).setCell ⟨w.heap.size, 2, none⟩ (.int .i64 z)).setCell ⟨w.heap.size, 3, none⟩ (.slice A xs.length c)).frozen? ⟨w.heap.size, 0, none⟩ = false ∧ ((((p8.setCell ⟨w.heap.size, 0, none⟩ (.int .i64 i)).setCell ⟨w.heap.size, 1, none⟩ (.string nm)).setCell ⟨w.heap.size, 2, none⟩ (.int .i64 z)).setCell ⟨w.heap.size, 3, none⟩ (.slice A xs.length c)).cell? ⟨w.heap.size, 1, none⟩ = some (.string nm) ∧ ((((p8.setCell ⟨w.heap.size, 0, none⟩ (.int .i64 i)).setCell ⟨w.heap.size, 1, none⟩ (.string nm)).setCell ⟨w.heap.size, 2, none⟩ (.int .i64 z)).setCell ⟨w.heap.size, 3, none⟩ (.slice A xs.length c)).frozen? ⟨w.heap.size, 1, none⟩ = false ∧ ((((p8.setCell ⟨w.heap.size, 0, none⟩ (.int .i64 i)).setCell ⟨w.heap.size, 1, none⟩ (.string nm)).setCell ⟨w.heap.size, 2, none⟩ (.int .i64 z)).setCell ⟨w.heap.size, 3, none⟩ (.slice A xs.length c)).cell? ⟨w.heap.size, 2, none⟩ = some (.int .i64 z) ∧ ((((p8.setCell ⟨w.heap.size, 0, none⟩ (.int .i64 i)).setCell ⟨w.heap.size, 1, none⟩ (.string nm)).setCell ⟨w.heap.size, 2, none⟩ (.int .i64 z)).setCell ⟨w.heap.size, 3, none⟩ (.slice A xs.length c)).frozen? ⟨w.heap.size, 2, none⟩ = false ∧ ((((p8.setCell ⟨w.heap.size, 0, none⟩ (.int .i64 i)).setCell ⟨w.heap.size, 1, none⟩ (.string nm)).setCell ⟨w.heap.size, 2, none⟩ (.int .i64 z)).setCell ⟨w.heap.size, 3, none⟩ (.slice A xs.length c)).cell? ⟨w.heap.size, 3, none⟩ = some (.slice A xs.length c) ∧ ((((p8.setCell ⟨w.heap.size, 0, none⟩ (.int .i64 i)).setCell ⟨w.heap.size, 1, none⟩ (.string nm)).setCell ⟨w.heap.size, 2, none⟩ (.int .i64 z)).setCell ⟨w.heap.size, 3, none⟩ (.slice A xs.length c)).frozen? ⟨w.heap.size, 3, none⟩ = false by simp [go_sem, *])
    refine hK.out _ _ (by (try dsimp only); exact E9.out) (fun hHeld => ?_)
    clear hK K
    (try simp only [Act.put, List.getElem_toArray, List.getElem_cons_zero, List.getElem_cons_succ, List.setIfInBounds_toArray, List.set_cons_zero, List.set_cons_succ])
    clear q0 f0 q1 f1 q2 f2 q3 f3
    generalize ((((p8.setCell ⟨w.heap.size, 0, none⟩ (.int .i64 i)).setCell ⟨w.heap.size, 1, none⟩ (.string nm)).setCell ⟨w.heap.size, 2, none⟩ (.int .i64 z)).setCell ⟨w.heap.size, 3, none⟩ (.slice A xs.length c)) = p9 at *
    refine wpAnyH_ready (rs := [10]) (by kernel_rfl) (by simp) ?_
    refine AllReadyH.cons rfl (fun K hK => ?_) (AllReadyH.nil)
    go_simp
    refine hK.out _ _ (by (try dsimp only); exact hHeld) (fun hHeld => ?_)
    clear hK K
    (try simp only [Act.put, List.getElem_toArray, List.getElem_cons_zero, List.getElem_cons_succ, List.setIfInBounds_toArray, List.set_cons_zero, List.set_cons_succ])
    refine wpAnyH_done (by kernel_rfl) ?_ _
    go_wp2_with fail
    obtain ⟨x0, l0, x1, l1, x2, l2, x3, l3⟩ := X9.out
    exact bodyPost_ret (v := .tuple #[.agg #[.int .i64 i, .string nm, .int .i64 z, .slice A xs.length c], .int .i64 v8]) (by simp [results, Try.results22, go_sem, *]) rfl ⟨i, z, nm, _, xs, _, rfl, hnm, hxl, pairs_own O9.out, K9.out⟩
set_option maxRecDepth 100000 in
set_option maxHeartbeats 8000000 in
theorem drawGapsOf_any (v : Value) (w : World) (hc : CodeW w v) : Calls Try.prog 25 #[v] w fun e w' => ∃ (i z : Int) (nm : ByteArray) (u : Value) (xs : List (Int × Int)) (t : Int), e = .returned (.tuple #[.agg #[.int .i64 i, .string nm, .int .i64 z, u], .int .i64 t]) ∧ nm.size ≤ 20 ∧ xs.length ≤ 40 ∧ Lies w' 2 pairC u xs ∧ Kept w w' := by
  obtain ⟨A0, len, cap, rfl, hc⟩ := hc
  have HC := Lib.hid hc
  clear hc
  go_enter Try.func25, Try.ntmps25
  have C0 := Lib.hid (CurB.new (W := (w.alloc (.cells #[.int .i64 0, .string { data := #[] }, .int .i64 0, .slice none 0 0] 26))) (g := w.heap.size + 1) (by simp) ((HC.out.kept (Kept.alloc (Kept.refl w) _)).mono (by simp)) 84)
  have K0 : Hid (Kept w ((w.alloc (.cells #[.int .i64 0, .string { data := #[] }, .int .i64 0, .slice none 0 0] 26)).alloc (.cells #[.slice A0 len cap, .int .i64 0, .int .u64 0] 84))) := Lib.hid (Kept.alloc (Kept.alloc (Kept.refl w) _) _)
  have Z0 := Lib.hid (show ((w.alloc (.cells #[.int .i64 0, .string { data := #[] }, .int .i64 0, .slice none 0 0] 26)).alloc (.cells #[.slice A0 len cap, .int .i64 0, .int .u64 0] 84)).cell? ⟨w.heap.size, 0, none⟩ = some (.int .i64 0) ∧ ((w.alloc (.cells #[.int .i64 0, .string { data := #[] }, .int .i64 0, .slice none 0 0] 26)).alloc (.cells #[.slice A0 len cap, .int .i64 0, .int .u64 0] 84)).frozen? ⟨w.heap.size, 0, none⟩ = false ∧ ((w.alloc (.cells #[.int .i64 0, .string { data := #[] }, .int .i64 0, .slice none 0 0] 26)).alloc (.cells #[.slice A0 len cap, .int .i64 0, .int .u64 0] 84)).cell? ⟨w.heap.size, 1, none⟩ = some (.string { data := #[] }) ∧ ((w.alloc (.cells #[.int .i64 0, .string { data := #[] }, .int .i64 0, .slice none 0 0] 26)).alloc (.cells #[.slice A0 len cap, .int .i64 0, .int .u64 0] 84)).frozen? ⟨w.heap.size, 1, none⟩ = false ∧ ((w.alloc (.cells #[.int .i64 0, .string { data := #[] }, .int .i64 0, .slice none 0 0] 26)).alloc (.cells #[.slice A0 len cap, .int .i64 0, .int .u64 0] 84)).cell? ⟨w.heap.size, 2, none⟩ = some (.int .i64 0) ∧ ((w.alloc (.cells #[.int .i64 0, .string { data := #[] }, .int .i64 0, .slice none 0 0] 26)).alloc (.cells #[.slice A0 len cap, .int .i64 0, .int .u64 0] 84)).frozen? ⟨w.heap.size, 2, none⟩ = false ∧ ((w.alloc (.cells #[.int .i64 0, .string { data := #[] }, .int .i64 0, .slice none 0 0] 26)).alloc (.cells #[.slice A0 len cap, .int .i64 0, .int .u64 0] 84)).cell? ⟨w.heap.size, 3, none⟩ = some (.slice none 0 0) ∧ ((w.alloc (.cells #[.int .i64 0, .string { data := #[] }, .int .i64 0, .slice none 0 0] 26)).alloc (.cells #[.slice A0 len cap, .int .i64 0, .int .u64 0] 84)).frozen? ⟨w.heap.size, 3, none⟩ = false by simp [go_sem])
  go_wp2_with fail
  refine (gauge_any (w.heap.size + 1) 0 5 _ C0.out (by omega)).mono ?_
  rintro e w1 ⟨i, z, nm, u, xs, rfl, hnm, hxl, ho, hc1, hs1⟩
  obtain ⟨A, c, rfl, hlc, hcm, hA⟩ := own_form ho
  obtain ⟨gc, hgc⟩ : ∃ x, x = w.heap.size + 1 := ⟨_, rfl⟩
  rw [← hgc] at hc1 hs1 C0
  simp only [← hgc]
  have zb : w.heap.size < gc := by omega
  have hsz := hs1.size
  simp only [World.size_alloc] at hsz
  have hgl : gc < w1.heap.size := by omega
  have GT : Hid (Kept w1 (w1.alloc (.cells #[.int .i64 i, .string nm, .int .i64 z, .slice A xs.length c] 26))) := Lib.hid (Kept.alloc (Kept.refl _) _)
  have EU := Lib.hid (show (w1.alloc (.cells #[.int .i64 i, .string nm, .int .i64 z, .slice A xs.length c] 26)).cell? ⟨w1.heap.size, 0, none⟩ = some (.int .i64 i) ∧ (w1.alloc (.cells #[.int .i64 i, .string nm, .int .i64 z, .slice A xs.length c] 26)).frozen? ⟨w1.heap.size, 0, none⟩ = false ∧ (w1.alloc (.cells #[.int .i64 i, .string nm, .int .i64 z, .slice A xs.length c] 26)).cell? ⟨w1.heap.size, 1, none⟩ = some (.string nm) ∧ (w1.alloc (.cells #[.int .i64 i, .string nm, .int .i64 z, .slice A xs.length c] 26)).frozen? ⟨w1.heap.size, 1, none⟩ = false ∧ (w1.alloc (.cells #[.int .i64 i, .string nm, .int .i64 z, .slice A xs.length c] 26)).cell? ⟨w1.heap.size, 2, none⟩ = some (.int .i64 z) ∧ (w1.alloc (.cells #[.int .i64 i, .string nm, .int .i64 z, .slice A xs.length c] 26)).frozen? ⟨w1.heap.size, 2, none⟩ = false ∧ (w1.alloc (.cells #[.int .i64 i, .string nm, .int .i64 z, .slice A xs.length c] 26)).cell? ⟨w1.heap.size, 3, none⟩ = some (.slice A xs.length c) ∧ (w1.alloc (.cells #[.int .i64 i, .string nm, .int .i64 z, .slice A xs.length c] 26)).frozen? ⟨w1.heap.size, 3, none⟩ = false by simp [go_sem])
  have OU := Lib.hid (own_kept ho GT.out)
  have hog : gc < ((w.alloc (.cells #[.int .i64 0, .string { data := #[] }, .int .i64 0, .slice none 0 0] 26)).alloc (.cells #[.slice A0 len cap, .int .i64 0, .int .u64 0] 84)).heap.size := by simp; omega
  have CU := Lib.hid (hc1.kept GT.out)
  have KU := Lib.hid ((Stir.out K0.out hs1 (by omega)).trans GT.out)
  have ZU := Lib.hid (blk4 GT.out (blk4_stir hs1 (by omega) Z0.out))
  have h5g : w1.heap.size ≠ gc := by omega
  have h5w : w.heap.size < w1.heap.size := by omega
  have hob : w.heap.size < ((w.alloc (.cells #[.int .i64 0, .string { data := #[] }, .int .i64 0, .slice none 0 0] 26)).alloc (.cells #[.slice A0 len cap, .int .i64 0, .int .u64 0] 84)).heap.size := by simp
  clear ho hc1 hs1 C0 K0 Z0 
  go_upto_region 3 with fail
  generalize w1.alloc (.cells #[.int .i64 i, .string nm, .int .i64 z, .slice A xs.length c] 26) = V at *
  generalize w1.heap.size = b5 at *
  generalize ((w.alloc (.cells #[.int .i64 0, .string { data := #[] }, .int .i64 0, .slice none 0 0] 26)).alloc (.cells #[.slice A0 len cap, .int .i64 0, .int .u64 0] 84)).heap.size = B at *
  clear hgc hsz GT HC
  refine wp_region_held_drew (S := fun w' => w'.cell? ⟨b5, 0, none⟩ = some (.int .i64 i) ∧ w'.frozen? ⟨b5, 0, none⟩ = false ∧ w'.cell? ⟨b5, 1, none⟩ = some (.string nm) ∧ w'.frozen? ⟨b5, 1, none⟩ = false ∧ w'.cell? ⟨b5, 2, none⟩ = some (.int .i64 z) ∧ w'.frozen? ⟨b5, 2, none⟩ = false ∧ w'.cell? ⟨b5, 3, none⟩ = some (.slice A xs.length c) ∧ w'.frozen? ⟨b5, 3, none⟩ = false) (by kernel_rfl) (by (try dsimp only); exact blk4 (Kept.drew (Kept.refl V)) EU.out) (fun hHeld => ?_)
  refine wpAnyH_take (i := 0) (v := ?_) rfl (by kernel_rfl) (by kernel_rfl) (by kernel_rfl) (fun _ _ _ h => h) (Or.inl ⟨by kernel_rfl, ?_⟩) (by assumption) ?_
  rotate_left
  focus (intro w' hSw; (try dsimp only at hSw); obtain ⟨s0, sf0, s1, sf1, s2, sf2, s3, sf3⟩ := hSw; go_simp; (try with_reducible rfl))
  (try simp only [Act.put, List.getElem_toArray, List.getElem_cons_zero, List.getElem_cons_succ, List.setIfInBounds_toArray, List.set_cons_zero, List.set_cons_succ])
  refine wpAnyH_take (i := 1) (v := ?_) rfl (by kernel_rfl) (by kernel_rfl) (by kernel_rfl) (fun _ _ _ h => h) (Or.inl ⟨by kernel_rfl, ?_⟩) (by assumption) ?_
  rotate_left
  focus (intro w' hSw; (try dsimp only at hSw); obtain ⟨s0, sf0, s1, sf1, s2, sf2, s3, sf3⟩ := hSw; go_simp; (try with_reducible rfl))
  (try simp only [Act.put, List.getElem_toArray, List.getElem_cons_zero, List.getElem_cons_succ, List.setIfInBounds_toArray, List.set_cons_zero, List.set_cons_succ])
  refine wpAnyH_take (i := 3) (v := ?_) rfl (by kernel_rfl) (by kernel_rfl) (by kernel_rfl) (fun _ _ _ h => h) (Or.inl ⟨by kernel_rfl, ?_⟩) (by assumption) ?_
  rotate_left
  focus (intro w' hSw; (try dsimp only at hSw); obtain ⟨s0, sf0, s1, sf1, s2, sf2, s3, sf3⟩ := hSw; go_simp; (try with_reducible rfl))
  (try simp only [Act.put, List.getElem_toArray, List.getElem_cons_zero, List.getElem_cons_succ, List.setIfInBounds_toArray, List.set_cons_zero, List.set_cons_succ])
  have kd : Kept V V.drew := Kept.drew (Kept.refl _)
  have E0 := Lib.hid (blk4 kd EU.out)
  have O0 := Lib.hid (own_kept OU.out kd)
  have C0 := Lib.hid (CU.out.kept kd)
  have K0 := Lib.hid (KU.out.trans kd)
  have Z0 := Lib.hid (blk4 kd ZU.out)
  clear kd
  generalize V.drew = p0 at *
  refine wpAnyH_ready (rs := [2, 4]) (by kernel_rfl) (by simp) ?_
  refine AllReadyH.cons rfl (fun K hK => ?_) (AllReadyH.cons rfl (fun K hK => ?_) (AllReadyH.nil))
  · skip
    go_simp
    have ka : Kept p0 (p0.alloc (.cells #[.int .i64 1, .int .i64 10, .int .i64 19, .int .i64 20, .int .i64 60, .int .i64 10000, .int .i64 0, .int .i64 10001] 3)) := Kept.alloc (Kept.refl _) _
    have E1 := Lib.hid (blk4 ka E0.out)
    refine hK.out _ _ (by (try dsimp only); exact E1.out) (fun hHeld => ?_)
    clear hK K
    (try simp only [Act.put, List.getElem_toArray, List.getElem_cons_zero, List.getElem_cons_succ, List.setIfInBounds_toArray, List.set_cons_zero, List.set_cons_succ])
    have O1 := Lib.hid (own_kept O0.out ka)
    have C1 := Lib.hid (C0.out.kept ka)
    have K1 := Lib.hid (K0.out.trans ka)
    have Z1 := Lib.hid (blk4 ka Z0.out)
    have NI2_1 := Lib.hid (NumsIn.lit (w := p0) (xs := [1, 10, 19, 20, 60, 10000, 0, 10001]) (t := 3) (n := p0.heap.size) (cs := #[.int .i64 1, .int .i64 10, .int .i64 19, .int .i64 20, .int .i64 60, .int .i64 10000, .int .i64 0, .int .i64 10001]) (by rfl) rfl)
    have hg1 : p0.heap.size ≠ gc := fun e => by have := C0.out.lt; omega
    clear ka
    generalize p0.alloc (.cells #[.int .i64 1, .int .i64 10, .int .i64 19, .int .i64 20, .int .i64 60, .int .i64 10000, .int .i64 0, .int .i64 10001] 3) = p1 at *
    refine wpAnyH_ready (rs := [4]) (by kernel_rfl) (by simp) ?_
    refine AllReadyH.cons rfl (fun K hK => ?_) (AllReadyH.nil)
    go_simp
    go_at_call 68
    refine (pick_any gc (0 + 200) 24 _ C1.out (by omega) (by omega)).mono ?_
    rintro e p2 ⟨v4, rfl, ⟨va4, vb4⟩, hc2, hs2⟩
    obtain ⟨y4, hy4, hz4⟩ : ∃ y : Nat, v4 / 11 = (y : Int) ∧ y ≤ 2 := ⟨(v4 / 11).toNat, by omega, by omega⟩
    have ht4 : v4.tdiv 11 = (y4 : Int) := by rw [Int.tdiv_eq_ediv_of_nonneg (by omega)]; exact hy4
    have hw4 : IntKind.i64.wrap (y4 : Int) = (y4 : Int) := by rw [IntKind.wrap_i64]; omega
    have hv4 : IntKind.i64.wrap (6 + (y4 : Int)) = 6 + (y4 : Int) := by rw [IntKind.wrap_i64]; omega
    have ha4 : (0 : Int) ≤ 6 + (y4 : Int) := by omega
    have hb4 : 6 + (y4 : Int) ≤ 8 := by omega
    have hn4 : (6 + (y4 : Int)).toNat = 6 + y4 := by omega
    (try go_wp2_with fail)
    have E2 := Lib.hid (blk4_stir hs2 h5g E1.out)
    refine hK.out _ _ (by (try dsimp only); exact E2.out) (fun hHeld => ?_)
    clear hK K
    (try simp only [Act.put, List.getElem_toArray, List.getElem_cons_zero, List.getElem_cons_succ, List.setIfInBounds_toArray, List.set_cons_zero, List.set_cons_succ])
    have O2 := Lib.hid (hs2.own O1.out hog)
    have C2 := Lib.hid hc2
    have K2 := Lib.hid (Stir.out K1.out hs2 (by omega))
    have Z2 := Lib.hid (blk4_stir hs2 (by omega) Z1.out)
    have NI2_2 := Lib.hid (NI2_1.out.stir hs2 hg1)
    clear hc2 hs2
    refine wpAnyH_take (i := 5) (v := ?_) rfl (by kernel_rfl) (by kernel_rfl) (by kernel_rfl) (fun _ _ _ h => h) (Or.inl ⟨by kernel_rfl, ?_⟩) (by assumption) ?_
    rotate_left
    focus (intro w' hSw; (try dsimp only at hSw); obtain ⟨s0, sf0, s1, sf1, s2, sf2, s3, sf3⟩ := hSw; go_simp; (try with_reducible rfl))
    (try simp only [Act.put, List.getElem_toArray, List.getElem_cons_zero, List.getElem_cons_succ, List.setIfInBounds_toArray, List.set_cons_zero, List.set_cons_succ])
    refine wpAnyH_take (i := 6) (v := ?_) rfl (by kernel_rfl) (by kernel_rfl) (by kernel_rfl) (fun _ _ _ h => h) (Or.inl ⟨by kernel_rfl, ?_⟩) (by assumption) ?_
    rotate_left
    focus (intro w' hSw; (try dsimp only at hSw); obtain ⟨s0, sf0, s1, sf1, s2, sf2, s3, sf3⟩ := hSw; go_simp; (try with_reducible rfl))
    (try simp only [Act.put, List.getElem_toArray, List.getElem_cons_zero, List.getElem_cons_succ, List.setIfInBounds_toArray, List.set_cons_zero, List.set_cons_succ])
    refine wpAnyH_take (i := 7) (v := ?_) rfl (by kernel_rfl) (by kernel_rfl) (by kernel_rfl) (fun _ _ _ h => h) (Or.inl ⟨by kernel_rfl, ?_⟩) (by assumption) ?_
    rotate_left
    focus (intro w' hSw; (try dsimp only at hSw); obtain ⟨s0, sf0, s1, sf1, s2, sf2, s3, sf3⟩ := hSw; go_simp; (try with_reducible rfl))
    (try simp only [Act.put, List.getElem_toArray, List.getElem_cons_zero, List.getElem_cons_succ, List.setIfInBounds_toArray, List.set_cons_zero, List.set_cons_succ])
    refine wpAnyH_ready (rs := [8]) (by kernel_rfl) (by simp) ?_
    refine AllReadyH.cons rfl (fun K hK => ?_) (AllReadyH.nil)
    go_simp
    go_at_call 67
    refine (among_pre gc _ _ (6 + y4) ((0 + 200) + 2) [1, 10, 19, 20, 60, 10000, 0, 10001] _ C2.out (by omega) NI2_2.out hg1 (by omega) (by first | (simp; done) | (simp; omega)) (by decide)).mono ?_
    rintro e p3 ⟨v8, rfl, hc3, hs3⟩
    (try go_wp2_with fail)
    have E3 := Lib.hid (blk4_stir hs3 h5g E2.out)
    refine hK.out _ _ (by (try dsimp only); exact E3.out) (fun hHeld => ?_)
    clear hK K
    (try simp only [Act.put, List.getElem_toArray, List.getElem_cons_zero, List.getElem_cons_succ, List.setIfInBounds_toArray, List.set_cons_zero, List.set_cons_succ])
    have O3 := Lib.hid (hs3.own O2.out hog)
    have C3 := Lib.hid hc3
    have K3 := Lib.hid (Stir.out K2.out hs3 (by omega))
    have Z3 := Lib.hid (blk4_stir hs3 (by omega) Z2.out)
    have NI2_3 := Lib.hid (NI2_2.out.stir hs3 hg1)
    clear hc3 hs3
    refine wpAnyH_ready (rs := [9]) (by kernel_rfl) (by simp) ?_
    refine AllReadyH.cons rfl (fun K hK => ?_) (AllReadyH.nil)
    obtain ⟨q0, f0, q1, f1, q2, f2, q3, f3⟩ := Z3.out
    go_simp
    have E4 := Lib.hid ((blk4_set ⟨w.heap.size, 3, none⟩ (by simp; omega) (.slice A xs.length c) (blk4_set ⟨w.heap.size, 2, none⟩ (by simp; omega) (.int .i64 z) (blk4_set ⟨w.heap.size, 1, none⟩ (by simp; omega) (.string nm) (blk4_set ⟨w.heap.size, 0, none⟩ (by simp; omega) (.int .i64 i) E3.out)))))
    have K4 := Lib.hid ((Kept.setCell (Kept.setCell (Kept.setCell (Kept.setCell K3.out (p := ⟨w.heap.size, 0, none⟩) (by first | (simp; done) | (simp; omega)) (.int .i64 i)) (p := ⟨w.heap.size, 1, none⟩) (by first | (simp; done) | (simp; omega)) (.string nm)) (p := ⟨w.heap.size, 2, none⟩) (by first | (simp; done) | (simp; omega)) (.int .i64 z)) (p := ⟨w.heap.size, 3, none⟩) (by first | (simp; done) | (simp; omega)) (.slice A xs.length c)))
    have O4 := Lib.hid ((ownsRow_setCell_below (ownsRow_setCell_below (ownsRow_setCell_below (ownsRow_setCell_below O3.out (a := ⟨w.heap.size, 0, none⟩) (by simp; omega) (.int .i64 i)) (a := ⟨w.heap.size, 1, none⟩) (by simp; omega) (.string nm)) (a := ⟨w.heap.size, 2, none⟩) (by simp; omega) (.int .i64 z)) (a := ⟨w.heap.size, 3, none⟩) (by simp; omega) (.slice A xs.length c)))
    have X4 := Lib.hid (show ((((p3.setCell ⟨w.heap.size, 0, none⟩ (.int .i64 i)).setCell ⟨w.heap.size, 1, none⟩ (.string nm)).setCell ⟨w.heap.size, 2, none⟩ (.int .i64 z)).setCell ⟨w.heap.size, 3, none⟩ (.slice A xs.length c)).cell? ⟨w.heap.size, 0, none⟩ = some (.int .i64 i) ∧ ((((p3.setCell ⟨w.heap.size, 0, none⟩ (.int .i64 i)).setCell ⟨w.heap.size, 1, none⟩ (.string nm)).setCell ⟨w.heap.size, 2, none⟩ (.int .i64 z)).setCell ⟨w.heap.size, 3, none⟩ (.slice A xs.length c)).frozen? ⟨w.heap.size, 0, none⟩ = false ∧ ((((p3.setCell ⟨w.heap.size, 0, none⟩ (.int .i64 i)).setCell ⟨w.heap.size, 1, none⟩ (.string nm)).setCell ⟨w.heap.size, 2, none⟩ (.int .i64 z)).setCell ⟨w.heap.size, 3, none⟩ (.slice A xs.length c)).cell? ⟨w.heap.size, 1, none⟩ = some (.string nm) ∧ ((((p3.setCell ⟨w.heap.size, 0, none⟩ (.int .i64 i)).setCell ⟨w.heap.size, 1, none⟩ (.string nm)).setCell ⟨w.heap.size, 2, none⟩ (.int .i64 z)).setCell ⟨w.heap.size, 3, none⟩ (.slice A xs.length c)).frozen? ⟨w.heap.size, 1, none⟩ = false ∧ ((((p3.setCell ⟨w.heap.size, 0, none⟩ (.int .i64 i)).setCell ⟨w.heap.size, 1, none⟩ (.string nm)).setCell ⟨w.heap.size, 2, none⟩ (.int .i64 z)).setCell ⟨w.heap.size, 3, none⟩ (.slice A xs.length c)).cell? ⟨w.heap.size, 2, none⟩ = some (.int .i64 z) ∧ ((((p3.setCell ⟨w.heap.size, 0, none⟩ (.int .i64 i)).setCell ⟨w.heap.size, 1, none⟩ (.string nm)).setCell ⟨w.heap.size, 2, none⟩ (.int .i64 z)).setCell ⟨w.heap.size, 3, none⟩ (.slice A xs.length c)).frozen? ⟨w.heap.size, 2, none⟩ = false ∧ ((((p3.setCell ⟨w.heap.size, 0, none⟩ (.int .i64 i)).setCell ⟨w.heap.size, 1, none⟩ (.string nm)).setCell ⟨w.heap.size, 2, none⟩ (.int .i64 z)).setCell ⟨w.heap.size, 3, none⟩ (.slice A xs.length c)).cell? ⟨w.heap.size, 3, none⟩ = some (.slice A xs.length c) ∧ ((((p3.setCell ⟨w.heap.size, 0, none⟩ (.int .i64 i)).setCell ⟨w.heap.size, 1, none⟩ (.string nm)).setCell ⟨w.heap.size, 2, none⟩ (.int .i64 z)).setCell ⟨w.heap.size, 3, none⟩ (.slice A xs.length c)).frozen? ⟨w.heap.size, 3, none⟩ = false by simp [go_sem, *])
    refine hK.out _ _ (by (try dsimp only); exact E4.out) (fun hHeld => ?_)
    clear hK K
    (try simp only [Act.put, List.getElem_toArray, List.getElem_cons_zero, List.getElem_cons_succ, List.setIfInBounds_toArray, List.set_cons_zero, List.set_cons_succ])
    clear q0 f0 q1 f1 q2 f2 q3 f3
    generalize ((((p3.setCell ⟨w.heap.size, 0, none⟩ (.int .i64 i)).setCell ⟨w.heap.size, 1, none⟩ (.string nm)).setCell ⟨w.heap.size, 2, none⟩ (.int .i64 z)).setCell ⟨w.heap.size, 3, none⟩ (.slice A xs.length c)) = p4 at *
    refine wpAnyH_ready (rs := [10]) (by kernel_rfl) (by simp) ?_
    refine AllReadyH.cons rfl (fun K hK => ?_) (AllReadyH.nil)
    go_simp
    refine hK.out _ _ (by (try dsimp only); exact hHeld) (fun hHeld => ?_)
    clear hK K
    (try simp only [Act.put, List.getElem_toArray, List.getElem_cons_zero, List.getElem_cons_succ, List.setIfInBounds_toArray, List.set_cons_zero, List.set_cons_succ])
    refine wpAnyH_done (by kernel_rfl) ?_ _
    go_wp2_with fail
    obtain ⟨x0, l0, x1, l1, x2, l2, x3, l3⟩ := X4.out
    exact bodyPost_ret (v := .tuple #[.agg #[.int .i64 i, .string nm, .int .i64 z, .slice A xs.length c], .int .i64 v8]) (by simp [results, Try.results25, go_sem, *]) rfl ⟨i, z, nm, _, xs, _, rfl, hnm, hxl, pairs_own O4.out, K4.out⟩
  · skip
    go_simp
    go_at_call 68
    refine (pick_any gc (0 + 200) 24 _ C0.out (by omega) (by omega)).mono ?_
    rintro e p6 ⟨v4, rfl, ⟨va4, vb4⟩, hc6, hs6⟩
    obtain ⟨y4, hy4, hz4⟩ : ∃ y : Nat, v4 / 11 = (y : Int) ∧ y ≤ 2 := ⟨(v4 / 11).toNat, by omega, by omega⟩
    have ht4 : v4.tdiv 11 = (y4 : Int) := by rw [Int.tdiv_eq_ediv_of_nonneg (by omega)]; exact hy4
    have hw4 : IntKind.i64.wrap (y4 : Int) = (y4 : Int) := by rw [IntKind.wrap_i64]; omega
    have hv4 : IntKind.i64.wrap (6 + (y4 : Int)) = 6 + (y4 : Int) := by rw [IntKind.wrap_i64]; omega
    have ha4 : (0 : Int) ≤ 6 + (y4 : Int) := by omega
    have hb4 : 6 + (y4 : Int) ≤ 8 := by omega
    have hn4 : (6 + (y4 : Int)).toNat = 6 + y4 := by omega
    (try go_wp2_with fail)
    have E6 := Lib.hid (blk4_stir hs6 h5g E0.out)
    refine hK.out _ _ (by (try dsimp only); exact E6.out) (fun hHeld => ?_)
    clear hK K
    (try simp only [Act.put, List.getElem_toArray, List.getElem_cons_zero, List.getElem_cons_succ, List.setIfInBounds_toArray, List.set_cons_zero, List.set_cons_succ])
    have O6 := Lib.hid (hs6.own O0.out hog)
    have C6 := Lib.hid hc6
    have K6 := Lib.hid (Stir.out K0.out hs6 (by omega))
    have Z6 := Lib.hid (blk4_stir hs6 (by omega) Z0.out)
    clear hc6 hs6
    refine wpAnyH_take (i := 5) (v := ?_) rfl (by kernel_rfl) (by kernel_rfl) (by kernel_rfl) (fun _ _ _ h => h) (Or.inl ⟨by kernel_rfl, ?_⟩) (by assumption) ?_
    rotate_left
    focus (intro w' hSw; (try dsimp only at hSw); obtain ⟨s0, sf0, s1, sf1, s2, sf2, s3, sf3⟩ := hSw; go_simp; (try with_reducible rfl))
    (try simp only [Act.put, List.getElem_toArray, List.getElem_cons_zero, List.getElem_cons_succ, List.setIfInBounds_toArray, List.set_cons_zero, List.set_cons_succ])
    refine wpAnyH_take (i := 6) (v := ?_) rfl (by kernel_rfl) (by kernel_rfl) (by kernel_rfl) (fun _ _ _ h => h) (Or.inl ⟨by kernel_rfl, ?_⟩) (by assumption) ?_
    rotate_left
    focus (intro w' hSw; (try dsimp only at hSw); obtain ⟨s0, sf0, s1, sf1, s2, sf2, s3, sf3⟩ := hSw; go_simp; (try with_reducible rfl))
    (try simp only [Act.put, List.getElem_toArray, List.getElem_cons_zero, List.getElem_cons_succ, List.setIfInBounds_toArray, List.set_cons_zero, List.set_cons_succ])
    refine wpAnyH_ready (rs := [2]) (by kernel_rfl) (by simp) ?_
    refine AllReadyH.cons rfl (fun K hK => ?_) (AllReadyH.nil)
    go_simp
    have ka : Kept p6 (p6.alloc (.cells #[.int .i64 1, .int .i64 10, .int .i64 19, .int .i64 20, .int .i64 60, .int .i64 10000, .int .i64 0, .int .i64 10001] 3)) := Kept.alloc (Kept.refl _) _
    have E7 := Lib.hid (blk4 ka E6.out)
    refine hK.out _ _ (by (try dsimp only); exact E7.out) (fun hHeld => ?_)
    clear hK K
    (try simp only [Act.put, List.getElem_toArray, List.getElem_cons_zero, List.getElem_cons_succ, List.setIfInBounds_toArray, List.set_cons_zero, List.set_cons_succ])
    have O7 := Lib.hid (own_kept O6.out ka)
    have C7 := Lib.hid (C6.out.kept ka)
    have K7 := Lib.hid (K6.out.trans ka)
    have Z7 := Lib.hid (blk4 ka Z6.out)
    have NI2_7 := Lib.hid (NumsIn.lit (w := p6) (xs := [1, 10, 19, 20, 60, 10000, 0, 10001]) (t := 3) (n := p6.heap.size) (cs := #[.int .i64 1, .int .i64 10, .int .i64 19, .int .i64 20, .int .i64 60, .int .i64 10000, .int .i64 0, .int .i64 10001]) (by rfl) rfl)
    have hg7 : p6.heap.size ≠ gc := fun e => by have := C6.out.lt; omega
    clear ka
    generalize p6.alloc (.cells #[.int .i64 1, .int .i64 10, .int .i64 19, .int .i64 20, .int .i64 60, .int .i64 10000, .int .i64 0, .int .i64 10001] 3) = p7 at *
    refine wpAnyH_take (i := 7) (v := ?_) rfl (by kernel_rfl) (by kernel_rfl) (by kernel_rfl) (fun _ _ _ h => h) (Or.inl ⟨by kernel_rfl, ?_⟩) (by assumption) ?_
    rotate_left
    focus (intro w' hSw; (try dsimp only at hSw); obtain ⟨s0, sf0, s1, sf1, s2, sf2, s3, sf3⟩ := hSw; go_simp; (try with_reducible rfl))
    (try simp only [Act.put, List.getElem_toArray, List.getElem_cons_zero, List.getElem_cons_succ, List.setIfInBounds_toArray, List.set_cons_zero, List.set_cons_succ])
    refine wpAnyH_ready (rs := [8]) (by kernel_rfl) (by simp) ?_
    refine AllReadyH.cons rfl (fun K hK => ?_) (AllReadyH.nil)
    go_simp
    go_at_call 67
    refine (among_pre gc _ _ (6 + y4) ((0 + 200) + 2) [1, 10, 19, 20, 60, 10000, 0, 10001] _ C7.out (by omega) NI2_7.out hg7 (by omega) (by first | (simp; done) | (simp; omega)) (by decide)).mono ?_
    rintro e p8 ⟨v8, rfl, hc8, hs8⟩
    (try go_wp2_with fail)
    have E8 := Lib.hid (blk4_stir hs8 h5g E7.out)
    refine hK.out _ _ (by (try dsimp only); exact E8.out) (fun hHeld => ?_)
    clear hK K
    (try simp only [Act.put, List.getElem_toArray, List.getElem_cons_zero, List.getElem_cons_succ, List.setIfInBounds_toArray, List.set_cons_zero, List.set_cons_succ])
    have O8 := Lib.hid (hs8.own O7.out hog)
    have C8 := Lib.hid hc8
    have K8 := Lib.hid (Stir.out K7.out hs8 (by omega))
    have Z8 := Lib.hid (blk4_stir hs8 (by omega) Z7.out)
    have NI2_8 := Lib.hid (NI2_7.out.stir hs8 hg7)
    clear hc8 hs8
    refine wpAnyH_ready (rs := [9]) (by kernel_rfl) (by simp) ?_
    refine AllReadyH.cons rfl (fun K hK => ?_) (AllReadyH.nil)
    obtain ⟨q0, f0, q1, f1, q2, f2, q3, f3⟩ := Z8.out
    go_simp
    have E9 := Lib.hid ((blk4_set ⟨w.heap.size, 3, none⟩ (by simp; omega) (.slice A xs.length c) (blk4_set ⟨w.heap.size, 2, none⟩ (by simp; omega) (.int .i64 z) (blk4_set ⟨w.heap.size, 1, none⟩ (by simp; omega) (.string nm) (blk4_set ⟨w.heap.size, 0, none⟩ (by simp; omega) (.int .i64 i) E8.out)))))
    have K9 := Lib.hid ((Kept.setCell (Kept.setCell (Kept.setCell (Kept.setCell K8.out (p := ⟨w.heap.size, 0, none⟩) (by first | (simp; done) | (simp; omega)) (.int .i64 i)) (p := ⟨w.heap.size, 1, none⟩) (by first | (simp; done) | (simp; omega)) (.string nm)) (p := ⟨w.heap.size, 2, none⟩) (by first | (simp; done) | (simp; omega)) (.int .i64 z)) (p := ⟨w.heap.size, 3, none⟩) (by first | (simp; done) | (simp; omega)) (.slice A xs.length c)))
    have O9 := Lib.hid ((ownsRow_setCell_below (ownsRow_setCell_below (ownsRow_setCell_below (ownsRow_setCell_below O8.out (a := ⟨w.heap.size, 0, none⟩) (by simp; omega) (.int .i64 i)) (a := ⟨w.heap.size, 1, none⟩) (by simp; omega) (.string nm)) (a := ⟨w.heap.size, 2, none⟩) (by simp; omega) (.int .i64 z)) (a := ⟨w.heap.size, 3, none⟩) (by simp; omega) (.slice A xs.length c)))
    have X9 := Lib.hid (show ((((p8.setCell ⟨w.heap.size, 0, none⟩ (.int .i64 i)).setCell ⟨w.heap.size, 1, none⟩ (.string nm)).setCell ⟨w.heap.size, 2, none⟩ (.int .i64 z)).setCell ⟨w.heap.size, 3, none⟩ (.slice A xs.length c)).cell? ⟨w.heap.size, 0, none⟩ = some (.int .i64 i) ∧ ((((p8.setCell ⟨w.heap.size, 0, none⟩ (.int .i64 i)).setCell ⟨w.heap.size, 1, none⟩ (.string nm)).setCell ⟨w.heap.size, 2, none⟩ (.int .i64 z)).setCell ⟨w.heap.size, 3, none⟩ (.slice A xs.length c)).frozen? ⟨w.heap.size, 0, none⟩ = false ∧ ((((p8.setCell ⟨w.heap.size, 0, none⟩ (.int .i64 i)).setCell ⟨w.heap.size, 1, none⟩ (.string nm)).setCell ⟨w.heap.size, 2, none⟩ (.int .i64 z)).setCell ⟨w.heap.size, 3, none⟩ (.slice A xs.length c)).cell? ⟨w.heap.size, 1, none⟩ = some (.string nm) ∧ ((((p8.setCell ⟨w.heap.size, 0, none⟩ (.int .i64 i)).setCell ⟨w.heap.size, 1, none⟩ (.string nm)).setCell ⟨w.heap.size, 2, none⟩ (.int .i64 z)).setCell ⟨w.heap.size, 3, none⟩ (.slice A xs.length c)).frozen? ⟨w.heap.size, 1, none⟩ = false ∧ ((((p8.setCell ⟨w.heap.size, 0, none⟩ (.int .i64 i)).setCell ⟨w.heap.size, 1, none⟩ (.string nm)).setCell ⟨w.heap.size, 2, none⟩ (.int .i64 z)).setCell ⟨w.heap.size, 3, none⟩ (.slice A xs.length c)).cell? ⟨w.heap.size, 2, none⟩ = some (.int .i64 z) ∧ ((((p8.setCell ⟨w.heap.size, 0, none⟩ (.int .i64 i)).setCell ⟨w.heap.size, 1, none⟩ (.string nm)).setCell ⟨w.heap.size, 2, none⟩ (.int .i64 z)).setCell ⟨w.heap.size, 3, none⟩ (.slice A xs.length c)).frozen? ⟨w.heap.size, 2, none⟩ = false ∧ ((((p8.setCell ⟨w.heap.size, 0, none⟩ (.int .i64 i)).setCell ⟨w.heap.size, 1, none⟩ (.string nm)).setCell ⟨w.heap.size, 2, none⟩ (.int .i64 z)).setCell ⟨w.heap.size, 3, none⟩ (.slice A xs.length c)).cell? ⟨w.heap.size, 3, none⟩ = some (.slice A xs.length c) ∧ ((((p8.setCell ⟨w.heap.size, 0, none⟩ (.int .i64 i)).setCell ⟨w.heap.size, 1, none⟩ (.string nm)).setCell ⟨w.heap.size, 2, none⟩ (.int .i64 z)).setCell ⟨w.heap.size, 3, none⟩ (.slice A xs.length c)).frozen? ⟨w.heap.size, 3, none⟩ = false by simp [go_sem, *])
    refine hK.out _ _ (by (try dsimp only); exact E9.out) (fun hHeld => ?_)
    clear hK K
    (try simp only [Act.put, List.getElem_toArray, List.getElem_cons_zero, List.getElem_cons_succ, List.setIfInBounds_toArray, List.set_cons_zero, List.set_cons_succ])
    clear q0 f0 q1 f1 q2 f2 q3 f3
    generalize ((((p8.setCell ⟨w.heap.size, 0, none⟩ (.int .i64 i)).setCell ⟨w.heap.size, 1, none⟩ (.string nm)).setCell ⟨w.heap.size, 2, none⟩ (.int .i64 z)).setCell ⟨w.heap.size, 3, none⟩ (.slice A xs.length c)) = p9 at *
    refine wpAnyH_ready (rs := [10]) (by kernel_rfl) (by simp) ?_
    refine AllReadyH.cons rfl (fun K hK => ?_) (AllReadyH.nil)
    go_simp
    refine hK.out _ _ (by (try dsimp only); exact hHeld) (fun hHeld => ?_)
    clear hK K
    (try simp only [Act.put, List.getElem_toArray, List.getElem_cons_zero, List.getElem_cons_succ, List.setIfInBounds_toArray, List.set_cons_zero, List.set_cons_succ])
    refine wpAnyH_done (by kernel_rfl) ?_ _
    go_wp2_with fail
    obtain ⟨x0, l0, x1, l1, x2, l2, x3, l3⟩ := X9.out
    exact bodyPost_ret (v := .tuple #[.agg #[.int .i64 i, .string nm, .int .i64 z, .slice A xs.length c], .int .i64 v8]) (by simp [results, Try.results25, go_sem, *]) rfl ⟨i, z, nm, _, xs, _, rfl, hnm, hxl, pairs_own O9.out, K9.out⟩
set_option maxRecDepth 100000 in
set_option maxHeartbeats 8000000 in
theorem drawHeightOf_any (v : Value) (w : World) (hc : CodeW w v) : Calls Try.prog 29 #[v] w fun e w' => ∃ (i z : Int) (nm : ByteArray) (u : Value) (xs : List (Int × Int)) (t : Int), e = .returned (.tuple #[.agg #[.int .i64 i, .string nm, .int .i64 z, u], .int .i64 t]) ∧ nm.size ≤ 20 ∧ xs.length ≤ 40 ∧ Lies w' 2 pairC u xs ∧ Kept w w' := by
  obtain ⟨A0, len, cap, rfl, hc⟩ := hc
  have HC := Lib.hid hc
  clear hc
  go_enter Try.func29, Try.ntmps29
  have C0 := Lib.hid (CurB.new (W := (w.alloc (.cells #[.int .i64 0, .string { data := #[] }, .int .i64 0, .slice none 0 0] 26))) (g := w.heap.size + 1) (by simp) ((HC.out.kept (Kept.alloc (Kept.refl w) _)).mono (by simp)) 84)
  have K0 : Hid (Kept w ((w.alloc (.cells #[.int .i64 0, .string { data := #[] }, .int .i64 0, .slice none 0 0] 26)).alloc (.cells #[.slice A0 len cap, .int .i64 0, .int .u64 0] 84))) := Lib.hid (Kept.alloc (Kept.alloc (Kept.refl w) _) _)
  have Z0 := Lib.hid (show ((w.alloc (.cells #[.int .i64 0, .string { data := #[] }, .int .i64 0, .slice none 0 0] 26)).alloc (.cells #[.slice A0 len cap, .int .i64 0, .int .u64 0] 84)).cell? ⟨w.heap.size, 0, none⟩ = some (.int .i64 0) ∧ ((w.alloc (.cells #[.int .i64 0, .string { data := #[] }, .int .i64 0, .slice none 0 0] 26)).alloc (.cells #[.slice A0 len cap, .int .i64 0, .int .u64 0] 84)).frozen? ⟨w.heap.size, 0, none⟩ = false ∧ ((w.alloc (.cells #[.int .i64 0, .string { data := #[] }, .int .i64 0, .slice none 0 0] 26)).alloc (.cells #[.slice A0 len cap, .int .i64 0, .int .u64 0] 84)).cell? ⟨w.heap.size, 1, none⟩ = some (.string { data := #[] }) ∧ ((w.alloc (.cells #[.int .i64 0, .string { data := #[] }, .int .i64 0, .slice none 0 0] 26)).alloc (.cells #[.slice A0 len cap, .int .i64 0, .int .u64 0] 84)).frozen? ⟨w.heap.size, 1, none⟩ = false ∧ ((w.alloc (.cells #[.int .i64 0, .string { data := #[] }, .int .i64 0, .slice none 0 0] 26)).alloc (.cells #[.slice A0 len cap, .int .i64 0, .int .u64 0] 84)).cell? ⟨w.heap.size, 2, none⟩ = some (.int .i64 0) ∧ ((w.alloc (.cells #[.int .i64 0, .string { data := #[] }, .int .i64 0, .slice none 0 0] 26)).alloc (.cells #[.slice A0 len cap, .int .i64 0, .int .u64 0] 84)).frozen? ⟨w.heap.size, 2, none⟩ = false ∧ ((w.alloc (.cells #[.int .i64 0, .string { data := #[] }, .int .i64 0, .slice none 0 0] 26)).alloc (.cells #[.slice A0 len cap, .int .i64 0, .int .u64 0] 84)).cell? ⟨w.heap.size, 3, none⟩ = some (.slice none 0 0) ∧ ((w.alloc (.cells #[.int .i64 0, .string { data := #[] }, .int .i64 0, .slice none 0 0] 26)).alloc (.cells #[.slice A0 len cap, .int .i64 0, .int .u64 0] 84)).frozen? ⟨w.heap.size, 3, none⟩ = false by simp [go_sem])
  go_wp2_with fail
  refine (gauge_any (w.heap.size + 1) 0 5 _ C0.out (by omega)).mono ?_
  rintro e w1 ⟨i, z, nm, u, xs, rfl, hnm, hxl, ho, hc1, hs1⟩
  obtain ⟨A, c, rfl, hlc, hcm, hA⟩ := own_form ho
  have HA := Lib.hid (fun h => (hA h).imp fun g h2 => h2.1)
  obtain ⟨gc, hgc⟩ : ∃ x, x = w.heap.size + 1 := ⟨_, rfl⟩
  rw [← hgc] at hc1 hs1 C0
  simp only [← hgc]
  have zb : w.heap.size < gc := by omega
  have hsz := hs1.size
  simp only [World.size_alloc] at hsz
  have hgl : gc < w1.heap.size := by omega
  have GT : Hid (Kept w1 (w1.alloc (.cells #[.int .i64 i, .string nm, .int .i64 z, .slice A xs.length c] 26))) := Lib.hid (Kept.alloc (Kept.refl _) _)
  have EU := Lib.hid (show (w1.alloc (.cells #[.int .i64 i, .string nm, .int .i64 z, .slice A xs.length c] 26)).cell? ⟨w1.heap.size, 0, none⟩ = some (.int .i64 i) ∧ (w1.alloc (.cells #[.int .i64 i, .string nm, .int .i64 z, .slice A xs.length c] 26)).frozen? ⟨w1.heap.size, 0, none⟩ = false ∧ (w1.alloc (.cells #[.int .i64 i, .string nm, .int .i64 z, .slice A xs.length c] 26)).cell? ⟨w1.heap.size, 1, none⟩ = some (.string nm) ∧ (w1.alloc (.cells #[.int .i64 i, .string nm, .int .i64 z, .slice A xs.length c] 26)).frozen? ⟨w1.heap.size, 1, none⟩ = false ∧ (w1.alloc (.cells #[.int .i64 i, .string nm, .int .i64 z, .slice A xs.length c] 26)).cell? ⟨w1.heap.size, 2, none⟩ = some (.int .i64 z) ∧ (w1.alloc (.cells #[.int .i64 i, .string nm, .int .i64 z, .slice A xs.length c] 26)).frozen? ⟨w1.heap.size, 2, none⟩ = false ∧ (w1.alloc (.cells #[.int .i64 i, .string nm, .int .i64 z, .slice A xs.length c] 26)).cell? ⟨w1.heap.size, 3, none⟩ = some (.slice A xs.length c) ∧ (w1.alloc (.cells #[.int .i64 i, .string nm, .int .i64 z, .slice A xs.length c] 26)).frozen? ⟨w1.heap.size, 3, none⟩ = false by simp [go_sem])
  have OU := Lib.hid (own_kept ho GT.out)
  have hog : gc < ((w.alloc (.cells #[.int .i64 0, .string { data := #[] }, .int .i64 0, .slice none 0 0] 26)).alloc (.cells #[.slice A0 len cap, .int .i64 0, .int .u64 0] 84)).heap.size := by simp; omega
  have CU := Lib.hid (hc1.kept GT.out)
  have KU := Lib.hid ((Stir.out K0.out hs1 (by omega)).trans GT.out)
  have ZU := Lib.hid (blk4 GT.out (blk4_stir hs1 (by omega) Z0.out))
  have h5g : w1.heap.size ≠ gc := by omega
  have h5w : w.heap.size < w1.heap.size := by omega
  have hob : w.heap.size < ((w.alloc (.cells #[.int .i64 0, .string { data := #[] }, .int .i64 0, .slice none 0 0] 26)).alloc (.cells #[.slice A0 len cap, .int .i64 0, .int .u64 0] 84)).heap.size := by simp
  clear ho hc1 hs1 C0 K0 Z0 
  go_upto_region 3 with fail
  generalize w1.alloc (.cells #[.int .i64 i, .string nm, .int .i64 z, .slice A xs.length c] 26) = V at *
  generalize w1.heap.size = b5 at *
  generalize ((w.alloc (.cells #[.int .i64 0, .string { data := #[] }, .int .i64 0, .slice none 0 0] 26)).alloc (.cells #[.slice A0 len cap, .int .i64 0, .int .u64 0] 84)).heap.size = B at *
  clear hgc hsz GT HC
  obtain ⟨q0, f0, q1, f1, q2, f2, q3, f3⟩ := EU.out
  by_cases hxp : 0 < xs.length
  · have x1 : (0 : Int) < (xs.length : Int) := by omega
    have x1d : decide ((0 : Int) < (xs.length : Int)) = true := by simp; omega
    obtain ⟨ga, rfl⟩ := HA.out hxp
    go_wp2_with fail
    refine (one_any gc (0 + 200) 4 _ CU.out (by omega) (by omega)).mono ?_
    rintro e V1 ⟨bb, rfl, hc2, hs2⟩
    have EU1 := Lib.hid (blk4_stir hs2 h5g EU.out)
    have OU1 := Lib.hid (hs2.own OU.out hog)
    have CU1 := Lib.hid hc2
    have KU1 := Lib.hid (Stir.out KU.out hs2 (by omega))
    have ZU1 := Lib.hid (blk4_stir hs2 (by omega) ZU.out)
    clear hc2 hs2 EU OU CU KU ZU q0 f0 q1 f1 q2 f2 q3 f3
    obtain ⟨q0, f0, q1, f1, q2, f2, q3, f3⟩ := EU1.out
    cases bb
    · go_wp2_with fail
      clear q0 f0 q1 f1 q2 f2 q3 f3
      refine wp_region_held_drew (S := fun w' => w'.cell? ⟨b5, 0, none⟩ = some (.int .i64 i) ∧ w'.frozen? ⟨b5, 0, none⟩ = false ∧ w'.cell? ⟨b5, 1, none⟩ = some (.string nm) ∧ w'.frozen? ⟨b5, 1, none⟩ = false ∧ w'.cell? ⟨b5, 2, none⟩ = some (.int .i64 z) ∧ w'.frozen? ⟨b5, 2, none⟩ = false ∧ w'.cell? ⟨b5, 3, none⟩ = some (.slice (some ⟨ga, 0, none⟩) xs.length c) ∧ w'.frozen? ⟨b5, 3, none⟩ = false) (by kernel_rfl) (by (try dsimp only); exact blk4 (Kept.drew (Kept.refl V1)) EU1.out) (fun hHeld => ?_)
      refine wpAnyH_take (i := 0) (v := ?_) rfl (by kernel_rfl) (by kernel_rfl) (by kernel_rfl) (fun _ _ _ h => h) (Or.inl ⟨by kernel_rfl, ?_⟩) (by assumption) ?_
      rotate_left
      focus (intro w' hSw; (try dsimp only at hSw); obtain ⟨s0, sf0, s1, sf1, s2, sf2, s3, sf3⟩ := hSw; go_simp; (try with_reducible rfl))
      (try simp only [Act.put, List.getElem_toArray, List.getElem_cons_zero, List.getElem_cons_succ, List.setIfInBounds_toArray, List.set_cons_zero, List.set_cons_succ])
      refine wpAnyH_take (i := 1) (v := ?_) rfl (by kernel_rfl) (by kernel_rfl) (by kernel_rfl) (fun _ _ _ h => h) (Or.inl ⟨by kernel_rfl, ?_⟩) (by assumption) ?_
      rotate_left
      focus (intro w' hSw; (try dsimp only at hSw); obtain ⟨s0, sf0, s1, sf1, s2, sf2, s3, sf3⟩ := hSw; go_simp; (try with_reducible rfl))
      (try simp only [Act.put, List.getElem_toArray, List.getElem_cons_zero, List.getElem_cons_succ, List.setIfInBounds_toArray, List.set_cons_zero, List.set_cons_succ])
      refine wpAnyH_take (i := 2) (v := ?_) rfl (by kernel_rfl) (by kernel_rfl) (by kernel_rfl) (fun _ _ _ h => h) (Or.inl ⟨by kernel_rfl, ?_⟩) (by assumption) ?_
      rotate_left
      focus (intro w' hSw; (try dsimp only at hSw); obtain ⟨s0, sf0, s1, sf1, s2, sf2, s3, sf3⟩ := hSw; go_simp; (try with_reducible rfl))
      (try simp only [Act.put, List.getElem_toArray, List.getElem_cons_zero, List.getElem_cons_succ, List.setIfInBounds_toArray, List.set_cons_zero, List.set_cons_succ])
      refine wpAnyH_take (i := 3) (v := ?_) rfl (by kernel_rfl) (by kernel_rfl) (by kernel_rfl) (fun _ _ _ h => h) (Or.inl ⟨by kernel_rfl, ?_⟩) (by assumption) ?_
      rotate_left
      focus (intro w' hSw; (try dsimp only at hSw); obtain ⟨s0, sf0, s1, sf1, s2, sf2, s3, sf3⟩ := hSw; go_simp; (try with_reducible rfl))
      (try simp only [Act.put, List.getElem_toArray, List.getElem_cons_zero, List.getElem_cons_succ, List.setIfInBounds_toArray, List.set_cons_zero, List.set_cons_succ])
      refine wpAnyH_take (i := 4) (v := ?_) rfl (by kernel_rfl) (by kernel_rfl) (by kernel_rfl) (fun _ _ _ h => h) (Or.inl ⟨by kernel_rfl, ?_⟩) (by assumption) ?_
      rotate_left
      focus (intro w' hSw; (try dsimp only at hSw); obtain ⟨s0, sf0, s1, sf1, s2, sf2, s3, sf3⟩ := hSw; go_simp; (try with_reducible rfl))
      (try simp only [Act.put, List.getElem_toArray, List.getElem_cons_zero, List.getElem_cons_succ, List.setIfInBounds_toArray, List.set_cons_zero, List.set_cons_succ])
      refine wpAnyH_take (i := 5) (v := ?_) rfl (by kernel_rfl) (by kernel_rfl) (by kernel_rfl) (fun _ _ _ h => h) (Or.inl ⟨by kernel_rfl, ?_⟩) (by assumption) ?_
      rotate_left
      focus (intro w' hSw; (try dsimp only at hSw); obtain ⟨s0, sf0, s1, sf1, s2, sf2, s3, sf3⟩ := hSw; go_simp; (try with_reducible rfl))
      (try simp only [Act.put, List.getElem_toArray, List.getElem_cons_zero, List.getElem_cons_succ, List.setIfInBounds_toArray, List.set_cons_zero, List.set_cons_succ])
      refine wpAnyH_take (i := 6) (v := ?_) rfl (by kernel_rfl) (by kernel_rfl) (by kernel_rfl) (fun _ _ _ h => h) (Or.inl ⟨by kernel_rfl, ?_⟩) (by assumption) ?_
      rotate_left
      focus (intro w' hSw; (try dsimp only at hSw); obtain ⟨s0, sf0, s1, sf1, s2, sf2, s3, sf3⟩ := hSw; go_simp; (try with_reducible rfl))
      (try simp only [Act.put, List.getElem_toArray, List.getElem_cons_zero, List.getElem_cons_succ, List.setIfInBounds_toArray, List.set_cons_zero, List.set_cons_succ])
      have kd : Kept V1 V1.drew := Kept.drew (Kept.refl _)
      have E0 := Lib.hid (blk4 kd EU1.out)
      have O0 := Lib.hid (own_kept OU1.out kd)
      have C0 := Lib.hid (CU1.out.kept kd)
      have K0 := Lib.hid (KU1.out.trans kd)
      have Z0 := Lib.hid (blk4 kd ZU1.out)
      clear kd
      generalize V1.drew = p0 at *
      refine wpAnyH_ready (rs := [7]) (by kernel_rfl) (by simp) ?_
      refine AllReadyH.cons rfl (fun K hK => ?_) (AllReadyH.nil)
      go_simp
      go_at_call 68
      refine (pick_any gc (0 + 200 + 2) (xs.length : Int) _ C0.out (by omega) (by omega)).mono ?_
      rintro e p1 ⟨v7, rfl, ⟨va7, vb7⟩, hc1, hs1⟩
      obtain ⟨j, rfl⟩ : ∃ j : Nat, v7 = (j : Int) := ⟨v7.toNat, by omega⟩
      have hj : j < xs.length := by omega
      have j0 : (0 : Int) ≤ (j : Int) := by omega
      have j1 : (j : Int) < (xs.length : Int) := by omega
      (try go_wp2_with fail)
      have E1 := Lib.hid (blk4_stir hs1 h5g E0.out)
      refine hK.out _ _ (by (try dsimp only); exact E1.out) (fun hHeld => ?_)
      clear hK K
      (try simp only [Act.put, List.getElem_toArray, List.getElem_cons_zero, List.getElem_cons_succ, List.setIfInBounds_toArray, List.set_cons_zero, List.set_cons_succ])
      have O1 := Lib.hid (hs1.own O0.out hog)
      have C1 := Lib.hid hc1
      have K1 := Lib.hid (Stir.out K0.out hs1 (by omega))
      have Z1 := Lib.hid (blk4_stir hs1 (by omega) Z0.out)
      clear hc1 hs1
      refine wpAnyH_take (i := 8) (v := ?_) rfl (by kernel_rfl) (by kernel_rfl) (by kernel_rfl) (fun _ _ _ h => h) (Or.inl ⟨by kernel_rfl, ?_⟩) (by assumption) ?_
      rotate_left
      focus (intro w' hSw; (try dsimp only at hSw); obtain ⟨s0, sf0, s1, sf1, s2, sf2, s3, sf3⟩ := hSw; go_simp; (try with_reducible rfl))
      (try simp only [Act.put, List.getElem_toArray, List.getElem_cons_zero, List.getElem_cons_succ, List.setIfInBounds_toArray, List.set_cons_zero, List.set_cons_succ])
      refine wpAnyH_take (i := 9) (v := ?_) rfl (by kernel_rfl) (by kernel_rfl) (by kernel_rfl) (fun _ _ _ h => h) (Or.inl ⟨by kernel_rfl, ?_⟩) (by assumption) ?_
      rotate_left
      focus (intro w' hSw; (try dsimp only at hSw); obtain ⟨s0, sf0, s1, sf1, s2, sf2, s3, sf3⟩ := hSw; go_simp; (try with_reducible rfl))
      (try simp only [Act.put, List.getElem_toArray, List.getElem_cons_zero, List.getElem_cons_succ, List.setIfInBounds_toArray, List.set_cons_zero, List.set_cons_succ])
      refine wpAnyH_ready (rs := [10, 11]) (by kernel_rfl) (by simp) ?_
      refine AllReadyH.cons rfl (fun K hK => ?_) (AllReadyH.cons rfl (fun K hK => ?_) (AllReadyH.nil))
      · skip
        have hx0 : p1.cell? ⟨ga, j * 2, none⟩ = some (.int .i64 (P1 xs j)) := by rw [O1.out.cellAt _ (by omega), flat_get0 hj]
        go_simp
        refine hK.out _ _ (by (try dsimp only); exact hHeld) (fun hHeld => ?_)
        clear hK K
        (try simp only [Act.put, List.getElem_toArray, List.getElem_cons_zero, List.getElem_cons_succ, List.setIfInBounds_toArray, List.set_cons_zero, List.set_cons_succ])
        refine wpAnyH_ready (rs := [11]) (by kernel_rfl) (by simp) ?_
        refine AllReadyH.cons rfl (fun K hK => ?_) (AllReadyH.nil)
        obtain ⟨q0, f0, q1, f1, q2, f2, q3, f3⟩ := Z1.out
        go_simp
        have E3 := Lib.hid ((blk4_set ⟨w.heap.size, 3, none⟩ (by simp; omega) (.slice (some ⟨ga, 0, none⟩) xs.length c) (blk4_set ⟨w.heap.size, 2, none⟩ (by simp; omega) (.int .i64 z) (blk4_set ⟨w.heap.size, 1, none⟩ (by simp; omega) (.string nm) (blk4_set ⟨w.heap.size, 0, none⟩ (by simp; omega) (.int .i64 i) E1.out)))))
        have K3 := Lib.hid ((Kept.setCell (Kept.setCell (Kept.setCell (Kept.setCell K1.out (p := ⟨w.heap.size, 0, none⟩) (by first | (simp; done) | (simp; omega)) (.int .i64 i)) (p := ⟨w.heap.size, 1, none⟩) (by first | (simp; done) | (simp; omega)) (.string nm)) (p := ⟨w.heap.size, 2, none⟩) (by first | (simp; done) | (simp; omega)) (.int .i64 z)) (p := ⟨w.heap.size, 3, none⟩) (by first | (simp; done) | (simp; omega)) (.slice (some ⟨ga, 0, none⟩) xs.length c)))
        have O3 := Lib.hid ((ownsRow_setCell_below (ownsRow_setCell_below (ownsRow_setCell_below (ownsRow_setCell_below O1.out (a := ⟨w.heap.size, 0, none⟩) (by simp; omega) (.int .i64 i)) (a := ⟨w.heap.size, 1, none⟩) (by simp; omega) (.string nm)) (a := ⟨w.heap.size, 2, none⟩) (by simp; omega) (.int .i64 z)) (a := ⟨w.heap.size, 3, none⟩) (by simp; omega) (.slice (some ⟨ga, 0, none⟩) xs.length c)))
        have X3 := Lib.hid (show ((((p1.setCell ⟨w.heap.size, 0, none⟩ (.int .i64 i)).setCell ⟨w.heap.size, 1, none⟩ (.string nm)).setCell ⟨w.heap.size, 2, none⟩ (.int .i64 z)).setCell ⟨w.heap.size, 3, none⟩ (.slice (some ⟨ga, 0, none⟩) xs.length c)).cell? ⟨w.heap.size, 0, none⟩ = some (.int .i64 i) ∧ ((((p1.setCell ⟨w.heap.size, 0, none⟩ (.int .i64 i)).setCell ⟨w.heap.size, 1, none⟩ (.string nm)).setCell ⟨w.heap.size, 2, none⟩ (.int .i64 z)).setCell ⟨w.heap.size, 3, none⟩ (.slice (some ⟨ga, 0, none⟩) xs.length c)).frozen? ⟨w.heap.size, 0, none⟩ = false ∧ ((((p1.setCell ⟨w.heap.size, 0, none⟩ (.int .i64 i)).setCell ⟨w.heap.size, 1, none⟩ (.string nm)).setCell ⟨w.heap.size, 2, none⟩ (.int .i64 z)).setCell ⟨w.heap.size, 3, none⟩ (.slice (some ⟨ga, 0, none⟩) xs.length c)).cell? ⟨w.heap.size, 1, none⟩ = some (.string nm) ∧ ((((p1.setCell ⟨w.heap.size, 0, none⟩ (.int .i64 i)).setCell ⟨w.heap.size, 1, none⟩ (.string nm)).setCell ⟨w.heap.size, 2, none⟩ (.int .i64 z)).setCell ⟨w.heap.size, 3, none⟩ (.slice (some ⟨ga, 0, none⟩) xs.length c)).frozen? ⟨w.heap.size, 1, none⟩ = false ∧ ((((p1.setCell ⟨w.heap.size, 0, none⟩ (.int .i64 i)).setCell ⟨w.heap.size, 1, none⟩ (.string nm)).setCell ⟨w.heap.size, 2, none⟩ (.int .i64 z)).setCell ⟨w.heap.size, 3, none⟩ (.slice (some ⟨ga, 0, none⟩) xs.length c)).cell? ⟨w.heap.size, 2, none⟩ = some (.int .i64 z) ∧ ((((p1.setCell ⟨w.heap.size, 0, none⟩ (.int .i64 i)).setCell ⟨w.heap.size, 1, none⟩ (.string nm)).setCell ⟨w.heap.size, 2, none⟩ (.int .i64 z)).setCell ⟨w.heap.size, 3, none⟩ (.slice (some ⟨ga, 0, none⟩) xs.length c)).frozen? ⟨w.heap.size, 2, none⟩ = false ∧ ((((p1.setCell ⟨w.heap.size, 0, none⟩ (.int .i64 i)).setCell ⟨w.heap.size, 1, none⟩ (.string nm)).setCell ⟨w.heap.size, 2, none⟩ (.int .i64 z)).setCell ⟨w.heap.size, 3, none⟩ (.slice (some ⟨ga, 0, none⟩) xs.length c)).cell? ⟨w.heap.size, 3, none⟩ = some (.slice (some ⟨ga, 0, none⟩) xs.length c) ∧ ((((p1.setCell ⟨w.heap.size, 0, none⟩ (.int .i64 i)).setCell ⟨w.heap.size, 1, none⟩ (.string nm)).setCell ⟨w.heap.size, 2, none⟩ (.int .i64 z)).setCell ⟨w.heap.size, 3, none⟩ (.slice (some ⟨ga, 0, none⟩) xs.length c)).frozen? ⟨w.heap.size, 3, none⟩ = false by simp [go_sem, *])
        refine hK.out _ _ (by (try dsimp only); exact E3.out) (fun hHeld => ?_)
        clear hK K
        (try simp only [Act.put, List.getElem_toArray, List.getElem_cons_zero, List.getElem_cons_succ, List.setIfInBounds_toArray, List.set_cons_zero, List.set_cons_succ])
        clear q0 f0 q1 f1 q2 f2 q3 f3
        generalize ((((p1.setCell ⟨w.heap.size, 0, none⟩ (.int .i64 i)).setCell ⟨w.heap.size, 1, none⟩ (.string nm)).setCell ⟨w.heap.size, 2, none⟩ (.int .i64 z)).setCell ⟨w.heap.size, 3, none⟩ (.slice (some ⟨ga, 0, none⟩) xs.length c)) = p3 at *
        refine wpAnyH_ready (rs := [12]) (by kernel_rfl) (by simp) ?_
        refine AllReadyH.cons rfl (fun K hK => ?_) (AllReadyH.nil)
        go_simp
        refine hK.out _ _ (by (try dsimp only); exact hHeld) (fun hHeld => ?_)
        clear hK K
        (try simp only [Act.put, List.getElem_toArray, List.getElem_cons_zero, List.getElem_cons_succ, List.setIfInBounds_toArray, List.set_cons_zero, List.set_cons_succ])
        refine wpAnyH_done (by kernel_rfl) ?_ _
        go_wp2_with fail
        obtain ⟨x0, l0, x1, l1, x2, l2, x3, l3⟩ := X3.out
        exact bodyPost_ret (v := .tuple #[.agg #[.int .i64 i, .string nm, .int .i64 z, .slice (some ⟨ga, 0, none⟩) xs.length c], .int .i64 (P1 xs j)]) (by simp [results, Try.results29, go_sem, *]) rfl ⟨i, z, nm, _, xs, _, rfl, hnm, hxl, pairs_own O3.out, K3.out⟩
      · skip
        obtain ⟨q0, f0, q1, f1, q2, f2, q3, f3⟩ := Z1.out
        go_simp
        have E5 := Lib.hid ((blk4_set ⟨w.heap.size, 3, none⟩ (by simp; omega) (.slice (some ⟨ga, 0, none⟩) xs.length c) (blk4_set ⟨w.heap.size, 2, none⟩ (by simp; omega) (.int .i64 z) (blk4_set ⟨w.heap.size, 1, none⟩ (by simp; omega) (.string nm) (blk4_set ⟨w.heap.size, 0, none⟩ (by simp; omega) (.int .i64 i) E1.out)))))
        have K5 := Lib.hid ((Kept.setCell (Kept.setCell (Kept.setCell (Kept.setCell K1.out (p := ⟨w.heap.size, 0, none⟩) (by first | (simp; done) | (simp; omega)) (.int .i64 i)) (p := ⟨w.heap.size, 1, none⟩) (by first | (simp; done) | (simp; omega)) (.string nm)) (p := ⟨w.heap.size, 2, none⟩) (by first | (simp; done) | (simp; omega)) (.int .i64 z)) (p := ⟨w.heap.size, 3, none⟩) (by first | (simp; done) | (simp; omega)) (.slice (some ⟨ga, 0, none⟩) xs.length c)))
        have O5 := Lib.hid ((ownsRow_setCell_below (ownsRow_setCell_below (ownsRow_setCell_below (ownsRow_setCell_below O1.out (a := ⟨w.heap.size, 0, none⟩) (by simp; omega) (.int .i64 i)) (a := ⟨w.heap.size, 1, none⟩) (by simp; omega) (.string nm)) (a := ⟨w.heap.size, 2, none⟩) (by simp; omega) (.int .i64 z)) (a := ⟨w.heap.size, 3, none⟩) (by simp; omega) (.slice (some ⟨ga, 0, none⟩) xs.length c)))
        have X5 := Lib.hid (show ((((p1.setCell ⟨w.heap.size, 0, none⟩ (.int .i64 i)).setCell ⟨w.heap.size, 1, none⟩ (.string nm)).setCell ⟨w.heap.size, 2, none⟩ (.int .i64 z)).setCell ⟨w.heap.size, 3, none⟩ (.slice (some ⟨ga, 0, none⟩) xs.length c)).cell? ⟨w.heap.size, 0, none⟩ = some (.int .i64 i) ∧ ((((p1.setCell ⟨w.heap.size, 0, none⟩ (.int .i64 i)).setCell ⟨w.heap.size, 1, none⟩ (.string nm)).setCell ⟨w.heap.size, 2, none⟩ (.int .i64 z)).setCell ⟨w.heap.size, 3, none⟩ (.slice (some ⟨ga, 0, none⟩) xs.length c)).frozen? ⟨w.heap.size, 0, none⟩ = false ∧ ((((p1.setCell ⟨w.heap.size, 0, none⟩ (.int .i64 i)).setCell ⟨w.heap.size, 1, none⟩ (.string nm)).setCell ⟨w.heap.size, 2, none⟩ (.int .i64 z)).setCell ⟨w.heap.size, 3, none⟩ (.slice (some ⟨ga, 0, none⟩) xs.length c)).cell? ⟨w.heap.size, 1, none⟩ = some (.string nm) ∧ ((((p1.setCell ⟨w.heap.size, 0, none⟩ (.int .i64 i)).setCell ⟨w.heap.size, 1, none⟩ (.string nm)).setCell ⟨w.heap.size, 2, none⟩ (.int .i64 z)).setCell ⟨w.heap.size, 3, none⟩ (.slice (some ⟨ga, 0, none⟩) xs.length c)).frozen? ⟨w.heap.size, 1, none⟩ = false ∧ ((((p1.setCell ⟨w.heap.size, 0, none⟩ (.int .i64 i)).setCell ⟨w.heap.size, 1, none⟩ (.string nm)).setCell ⟨w.heap.size, 2, none⟩ (.int .i64 z)).setCell ⟨w.heap.size, 3, none⟩ (.slice (some ⟨ga, 0, none⟩) xs.length c)).cell? ⟨w.heap.size, 2, none⟩ = some (.int .i64 z) ∧ ((((p1.setCell ⟨w.heap.size, 0, none⟩ (.int .i64 i)).setCell ⟨w.heap.size, 1, none⟩ (.string nm)).setCell ⟨w.heap.size, 2, none⟩ (.int .i64 z)).setCell ⟨w.heap.size, 3, none⟩ (.slice (some ⟨ga, 0, none⟩) xs.length c)).frozen? ⟨w.heap.size, 2, none⟩ = false ∧ ((((p1.setCell ⟨w.heap.size, 0, none⟩ (.int .i64 i)).setCell ⟨w.heap.size, 1, none⟩ (.string nm)).setCell ⟨w.heap.size, 2, none⟩ (.int .i64 z)).setCell ⟨w.heap.size, 3, none⟩ (.slice (some ⟨ga, 0, none⟩) xs.length c)).cell? ⟨w.heap.size, 3, none⟩ = some (.slice (some ⟨ga, 0, none⟩) xs.length c) ∧ ((((p1.setCell ⟨w.heap.size, 0, none⟩ (.int .i64 i)).setCell ⟨w.heap.size, 1, none⟩ (.string nm)).setCell ⟨w.heap.size, 2, none⟩ (.int .i64 z)).setCell ⟨w.heap.size, 3, none⟩ (.slice (some ⟨ga, 0, none⟩) xs.length c)).frozen? ⟨w.heap.size, 3, none⟩ = false by simp [go_sem, *])
        refine hK.out _ _ (by (try dsimp only); exact E5.out) (fun hHeld => ?_)
        clear hK K
        (try simp only [Act.put, List.getElem_toArray, List.getElem_cons_zero, List.getElem_cons_succ, List.setIfInBounds_toArray, List.set_cons_zero, List.set_cons_succ])
        clear q0 f0 q1 f1 q2 f2 q3 f3
        generalize ((((p1.setCell ⟨w.heap.size, 0, none⟩ (.int .i64 i)).setCell ⟨w.heap.size, 1, none⟩ (.string nm)).setCell ⟨w.heap.size, 2, none⟩ (.int .i64 z)).setCell ⟨w.heap.size, 3, none⟩ (.slice (some ⟨ga, 0, none⟩) xs.length c)) = p5 at *
        refine wpAnyH_ready (rs := [10]) (by kernel_rfl) (by simp) ?_
        refine AllReadyH.cons rfl (fun K hK => ?_) (AllReadyH.nil)
        have hx0 : p5.cell? ⟨ga, j * 2, none⟩ = some (.int .i64 (P1 xs j)) := by rw [O5.out.cellAt _ (by omega), flat_get0 hj]
        go_simp
        refine hK.out _ _ (by (try dsimp only); exact hHeld) (fun hHeld => ?_)
        clear hK K
        (try simp only [Act.put, List.getElem_toArray, List.getElem_cons_zero, List.getElem_cons_succ, List.setIfInBounds_toArray, List.set_cons_zero, List.set_cons_succ])
        refine wpAnyH_ready (rs := [12]) (by kernel_rfl) (by simp) ?_
        refine AllReadyH.cons rfl (fun K hK => ?_) (AllReadyH.nil)
        go_simp
        refine hK.out _ _ (by (try dsimp only); exact hHeld) (fun hHeld => ?_)
        clear hK K
        (try simp only [Act.put, List.getElem_toArray, List.getElem_cons_zero, List.getElem_cons_succ, List.setIfInBounds_toArray, List.set_cons_zero, List.set_cons_succ])
        refine wpAnyH_done (by kernel_rfl) ?_ _
        go_wp2_with fail
        obtain ⟨x0, l0, x1, l1, x2, l2, x3, l3⟩ := X5.out
        exact bodyPost_ret (v := .tuple #[.agg #[.int .i64 i, .string nm, .int .i64 z, .slice (some ⟨ga, 0, none⟩) xs.length c], .int .i64 (P1 xs j)]) (by simp [results, Try.results29, go_sem, *]) rfl ⟨i, z, nm, _, xs, _, rfl, hnm, hxl, pairs_own O5.out, K5.out⟩
    · go_wp2_with fail
      clear q0 f0 q1 f1 q2 f2 q3 f3
      obtain ⟨K5, hK5⟩ : ∃ K5 : Int, K5 = 0 + 200 + 2 := ⟨_, rfl⟩
      rw [← hK5] at CU1
      refine wp_region_held_drew (S := fun w' => w'.cell? ⟨b5, 0, none⟩ = some (.int .i64 i) ∧ w'.frozen? ⟨b5, 0, none⟩ = false ∧ w'.cell? ⟨b5, 1, none⟩ = some (.string nm) ∧ w'.frozen? ⟨b5, 1, none⟩ = false ∧ w'.cell? ⟨b5, 2, none⟩ = some (.int .i64 z) ∧ w'.frozen? ⟨b5, 2, none⟩ = false ∧ w'.cell? ⟨b5, 3, none⟩ = some (.slice (some ⟨ga, 0, none⟩) xs.length c) ∧ w'.frozen? ⟨b5, 3, none⟩ = false) (by kernel_rfl) (by (try dsimp only); exact blk4 (Kept.drew (Kept.refl V1)) EU1.out) (fun hHeld => ?_)
      refine wpAnyH_take (i := 0) (v := ?_) rfl (by kernel_rfl) (by kernel_rfl) (by kernel_rfl) (fun _ _ _ h => h) (Or.inl ⟨by kernel_rfl, ?_⟩) (by assumption) ?_
      rotate_left
      focus (intro w' hSw; (try dsimp only at hSw); obtain ⟨s0, sf0, s1, sf1, s2, sf2, s3, sf3⟩ := hSw; go_simp; (try with_reducible rfl))
      (try simp only [Act.put, List.getElem_toArray, List.getElem_cons_zero, List.getElem_cons_succ, List.setIfInBounds_toArray, List.set_cons_zero, List.set_cons_succ])
      refine wpAnyH_take (i := 1) (v := ?_) rfl (by kernel_rfl) (by kernel_rfl) (by kernel_rfl) (fun _ _ _ h => h) (Or.inl ⟨by kernel_rfl, ?_⟩) (by assumption) ?_
      rotate_left
      focus (intro w' hSw; (try dsimp only at hSw); obtain ⟨s0, sf0, s1, sf1, s2, sf2, s3, sf3⟩ := hSw; go_simp; (try with_reducible rfl))
      (try simp only [Act.put, List.getElem_toArray, List.getElem_cons_zero, List.getElem_cons_succ, List.setIfInBounds_toArray, List.set_cons_zero, List.set_cons_succ])
      have kd : Kept V1 V1.drew := Kept.drew (Kept.refl _)
      have E0 := Lib.hid (blk4 kd EU1.out)
      have O0 := Lib.hid (own_kept OU1.out kd)
      have C0 := Lib.hid (CU1.out.kept kd)
      have K0 := Lib.hid (KU1.out.trans kd)
      have Z0 := Lib.hid (blk4 kd ZU1.out)
      clear kd
      generalize V1.drew = p0 at *
      refine wpAnyH_ready (rs := [2]) (by kernel_rfl) (by simp) ?_
      refine AllReadyH.cons rfl (fun K hK => ?_) (AllReadyH.nil)
      go_simp
      have ka : Kept p0 (p0.alloc (.cells #[.int .i64 0, .int .i64 5, .int .i64 (-1)] 3)) := Kept.alloc (Kept.refl _) _
      have E1 := Lib.hid (blk4 ka E0.out)
      refine hK.out _ _ (by (try dsimp only); exact E1.out) (fun hHeld => ?_)
      clear hK K
      (try simp only [Act.put, List.getElem_toArray, List.getElem_cons_zero, List.getElem_cons_succ, List.setIfInBounds_toArray, List.set_cons_zero, List.set_cons_succ])
      have O1 := Lib.hid (own_kept O0.out ka)
      have C1 := Lib.hid (C0.out.kept ka)
      have K1 := Lib.hid (K0.out.trans ka)
      have Z1 := Lib.hid (blk4 ka Z0.out)
      have NI2_1 := Lib.hid (NumsIn.lit (w := p0) (xs := [0, 5, -1]) (t := 3) (n := p0.heap.size) (cs := #[.int .i64 0, .int .i64 5, .int .i64 (-1)]) (by rfl) rfl)
      have hg1 : p0.heap.size ≠ gc := fun e => by have := C0.out.lt; omega
      clear ka
      generalize p0.alloc (.cells #[.int .i64 0, .int .i64 5, .int .i64 (-1)] 3) = p1 at *
      refine wpAnyH_ready (rs := [3]) (by kernel_rfl) (by simp) ?_
      refine AllReadyH.cons rfl (fun K hK => ?_) (AllReadyH.nil)
      go_simp
      go_at_call 67
      refine (among_pre gc _ _ (3) K5 [0, 5, -1] _ C1.out (by omega) NI2_1.out hg1 (by omega) (by first | (simp; done) | (simp; omega)) (by decide)).mono ?_
      rintro e p2 ⟨v3, rfl, hc2, hs2⟩
      (try go_wp2_with fail)
      have E2 := Lib.hid (blk4_stir hs2 h5g E1.out)
      refine hK.out _ _ (by (try dsimp only); exact E2.out) (fun hHeld => ?_)
      clear hK K
      (try simp only [Act.put, List.getElem_toArray, List.getElem_cons_zero, List.getElem_cons_succ, List.setIfInBounds_toArray, List.set_cons_zero, List.set_cons_succ])
      have O2 := Lib.hid (hs2.own O1.out hog)
      have C2 := Lib.hid hc2
      have K2 := Lib.hid (Stir.out K1.out hs2 (by omega))
      have Z2 := Lib.hid (blk4_stir hs2 (by omega) Z1.out)
      have NI2_2 := Lib.hid (NI2_1.out.stir hs2 hg1)
      clear hc2 hs2
      refine wpAnyH_ready (rs := [4]) (by kernel_rfl) (by simp) ?_
      refine AllReadyH.cons rfl (fun K hK => ?_) (AllReadyH.nil)
      obtain ⟨q0, f0, q1, f1, q2, f2, q3, f3⟩ := Z2.out
      go_simp
      have E3 := Lib.hid ((blk4_set ⟨w.heap.size, 3, none⟩ (by simp; omega) (.slice (some ⟨ga, 0, none⟩) xs.length c) (blk4_set ⟨w.heap.size, 2, none⟩ (by simp; omega) (.int .i64 z) (blk4_set ⟨w.heap.size, 1, none⟩ (by simp; omega) (.string nm) (blk4_set ⟨w.heap.size, 0, none⟩ (by simp; omega) (.int .i64 i) E2.out)))))
      have K3 := Lib.hid ((Kept.setCell (Kept.setCell (Kept.setCell (Kept.setCell K2.out (p := ⟨w.heap.size, 0, none⟩) (by first | (simp; done) | (simp; omega)) (.int .i64 i)) (p := ⟨w.heap.size, 1, none⟩) (by first | (simp; done) | (simp; omega)) (.string nm)) (p := ⟨w.heap.size, 2, none⟩) (by first | (simp; done) | (simp; omega)) (.int .i64 z)) (p := ⟨w.heap.size, 3, none⟩) (by first | (simp; done) | (simp; omega)) (.slice (some ⟨ga, 0, none⟩) xs.length c)))
      have O3 := Lib.hid ((ownsRow_setCell_below (ownsRow_setCell_below (ownsRow_setCell_below (ownsRow_setCell_below O2.out (a := ⟨w.heap.size, 0, none⟩) (by simp; omega) (.int .i64 i)) (a := ⟨w.heap.size, 1, none⟩) (by simp; omega) (.string nm)) (a := ⟨w.heap.size, 2, none⟩) (by simp; omega) (.int .i64 z)) (a := ⟨w.heap.size, 3, none⟩) (by simp; omega) (.slice (some ⟨ga, 0, none⟩) xs.length c)))
      have X3 := Lib.hid (show ((((p2.setCell ⟨w.heap.size, 0, none⟩ (.int .i64 i)).setCell ⟨w.heap.size, 1, none⟩ (.string nm)).setCell ⟨w.heap.size, 2, none⟩ (.int .i64 z)).setCell ⟨w.heap.size, 3, none⟩ (.slice (some ⟨ga, 0, none⟩) xs.length c)).cell? ⟨w.heap.size, 0, none⟩ = some (.int .i64 i) ∧ ((((p2.setCell ⟨w.heap.size, 0, none⟩ (.int .i64 i)).setCell ⟨w.heap.size, 1, none⟩ (.string nm)).setCell ⟨w.heap.size, 2, none⟩ (.int .i64 z)).setCell ⟨w.heap.size, 3, none⟩ (.slice (some ⟨ga, 0, none⟩) xs.length c)).frozen? ⟨w.heap.size, 0, none⟩ = false ∧ ((((p2.setCell ⟨w.heap.size, 0, none⟩ (.int .i64 i)).setCell ⟨w.heap.size, 1, none⟩ (.string nm)).setCell ⟨w.heap.size, 2, none⟩ (.int .i64 z)).setCell ⟨w.heap.size, 3, none⟩ (.slice (some ⟨ga, 0, none⟩) xs.length c)).cell? ⟨w.heap.size, 1, none⟩ = some (.string nm) ∧ ((((p2.setCell ⟨w.heap.size, 0, none⟩ (.int .i64 i)).setCell ⟨w.heap.size, 1, none⟩ (.string nm)).setCell ⟨w.heap.size, 2, none⟩ (.int .i64 z)).setCell ⟨w.heap.size, 3, none⟩ (.slice (some ⟨ga, 0, none⟩) xs.length c)).frozen? ⟨w.heap.size, 1, none⟩ = false ∧ ((((p2.setCell ⟨w.heap.size, 0, none⟩ (.int .i64 i)).setCell ⟨w.heap.size, 1, none⟩ (.string nm)).setCell ⟨w.heap.size, 2, none⟩ (.int .i64 z)).setCell ⟨w.heap.size, 3, none⟩ (.slice (some ⟨ga, 0, none⟩) xs.length c)).cell? ⟨w.heap.size, 2, none⟩ = some (.int .i64 z) ∧ ((((p2.setCell ⟨w.heap.size, 0, none⟩ (.int .i64 i)).setCell ⟨w.heap.size, 1, none⟩ (.string nm)).setCell ⟨w.heap.size, 2, none⟩ (.int .i64 z)).setCell ⟨w.heap.size, 3, none⟩ (.slice (some ⟨ga, 0, none⟩) xs.length c)).frozen? ⟨w.heap.size, 2, none⟩ = false ∧ ((((p2.setCell ⟨w.heap.size, 0, none⟩ (.int .i64 i)).setCell ⟨w.heap.size, 1, none⟩ (.string nm)).setCell ⟨w.heap.size, 2, none⟩ (.int .i64 z)).setCell ⟨w.heap.size, 3, none⟩ (.slice (some ⟨ga, 0, none⟩) xs.length c)).cell? ⟨w.heap.size, 3, none⟩ = some (.slice (some ⟨ga, 0, none⟩) xs.length c) ∧ ((((p2.setCell ⟨w.heap.size, 0, none⟩ (.int .i64 i)).setCell ⟨w.heap.size, 1, none⟩ (.string nm)).setCell ⟨w.heap.size, 2, none⟩ (.int .i64 z)).setCell ⟨w.heap.size, 3, none⟩ (.slice (some ⟨ga, 0, none⟩) xs.length c)).frozen? ⟨w.heap.size, 3, none⟩ = false by simp [go_sem, *])
      refine hK.out _ _ (by (try dsimp only); exact E3.out) (fun hHeld => ?_)
      clear hK K
      (try simp only [Act.put, List.getElem_toArray, List.getElem_cons_zero, List.getElem_cons_succ, List.setIfInBounds_toArray, List.set_cons_zero, List.set_cons_succ])
      clear q0 f0 q1 f1 q2 f2 q3 f3
      generalize ((((p2.setCell ⟨w.heap.size, 0, none⟩ (.int .i64 i)).setCell ⟨w.heap.size, 1, none⟩ (.string nm)).setCell ⟨w.heap.size, 2, none⟩ (.int .i64 z)).setCell ⟨w.heap.size, 3, none⟩ (.slice (some ⟨ga, 0, none⟩) xs.length c)) = p3 at *
      refine wpAnyH_ready (rs := [5]) (by kernel_rfl) (by simp) ?_
      refine AllReadyH.cons rfl (fun K hK => ?_) (AllReadyH.nil)
      go_simp
      refine hK.out _ _ (by (try dsimp only); exact hHeld) (fun hHeld => ?_)
      clear hK K
      (try simp only [Act.put, List.getElem_toArray, List.getElem_cons_zero, List.getElem_cons_succ, List.setIfInBounds_toArray, List.set_cons_zero, List.set_cons_succ])
      refine wpAnyH_done (by kernel_rfl) ?_ _
      go_wp2_with fail
      obtain ⟨x0, l0, x1, l1, x2, l2, x3, l3⟩ := X3.out
      exact bodyPost_ret (v := .tuple #[.agg #[.int .i64 i, .string nm, .int .i64 z, .slice (some ⟨ga, 0, none⟩) xs.length c], .int .i64 v3]) (by simp [results, Try.results29, go_sem, *]) rfl ⟨i, z, nm, _, xs, _, rfl, hnm, hxl, pairs_own O3.out, K3.out⟩
  · have x1 : ¬ ((0 : Int) < (xs.length : Int)) := by omega
    have x1d : decide ((0 : Int) < (xs.length : Int)) = false := decide_eq_false x1
    go_wp2_with fail
    clear q0 f0 q1 f1 q2 f2 q3 f3
    obtain ⟨K5, hK5⟩ : ∃ K5 : Int, K5 = 0 + 200 := ⟨_, rfl⟩
    rw [← hK5] at CU
    refine wp_region_held_drew (S := fun w' => w'.cell? ⟨b5, 0, none⟩ = some (.int .i64 i) ∧ w'.frozen? ⟨b5, 0, none⟩ = false ∧ w'.cell? ⟨b5, 1, none⟩ = some (.string nm) ∧ w'.frozen? ⟨b5, 1, none⟩ = false ∧ w'.cell? ⟨b5, 2, none⟩ = some (.int .i64 z) ∧ w'.frozen? ⟨b5, 2, none⟩ = false ∧ w'.cell? ⟨b5, 3, none⟩ = some (.slice A xs.length c) ∧ w'.frozen? ⟨b5, 3, none⟩ = false) (by kernel_rfl) (by (try dsimp only); exact blk4 (Kept.drew (Kept.refl V)) EU.out) (fun hHeld => ?_)
    refine wpAnyH_take (i := 0) (v := ?_) rfl (by kernel_rfl) (by kernel_rfl) (by kernel_rfl) (fun _ _ _ h => h) (Or.inl ⟨by kernel_rfl, ?_⟩) (by assumption) ?_
    rotate_left
    focus (intro w' hSw; (try dsimp only at hSw); obtain ⟨s0, sf0, s1, sf1, s2, sf2, s3, sf3⟩ := hSw; go_simp; (try with_reducible rfl))
    (try simp only [Act.put, List.getElem_toArray, List.getElem_cons_zero, List.getElem_cons_succ, List.setIfInBounds_toArray, List.set_cons_zero, List.set_cons_succ])
    refine wpAnyH_take (i := 1) (v := ?_) rfl (by kernel_rfl) (by kernel_rfl) (by kernel_rfl) (fun _ _ _ h => h) (Or.inl ⟨by kernel_rfl, ?_⟩) (by assumption) ?_
    rotate_left
    focus (intro w' hSw; (try dsimp only at hSw); obtain ⟨s0, sf0, s1, sf1, s2, sf2, s3, sf3⟩ := hSw; go_simp; (try with_reducible rfl))
    (try simp only [Act.put, List.getElem_toArray, List.getElem_cons_zero, List.getElem_cons_succ, List.setIfInBounds_toArray, List.set_cons_zero, List.set_cons_succ])
    have kd : Kept V V.drew := Kept.drew (Kept.refl _)
    have E0 := Lib.hid (blk4 kd EU.out)
    have O0 := Lib.hid (own_kept OU.out kd)
    have C0 := Lib.hid (CU.out.kept kd)
    have K0 := Lib.hid (KU.out.trans kd)
    have Z0 := Lib.hid (blk4 kd ZU.out)
    clear kd
    generalize V.drew = p0 at *
    refine wpAnyH_ready (rs := [2]) (by kernel_rfl) (by simp) ?_
    refine AllReadyH.cons rfl (fun K hK => ?_) (AllReadyH.nil)
    go_simp
    have ka : Kept p0 (p0.alloc (.cells #[.int .i64 0, .int .i64 5, .int .i64 (-1)] 3)) := Kept.alloc (Kept.refl _) _
    have E1 := Lib.hid (blk4 ka E0.out)
    refine hK.out _ _ (by (try dsimp only); exact E1.out) (fun hHeld => ?_)
    clear hK K
    (try simp only [Act.put, List.getElem_toArray, List.getElem_cons_zero, List.getElem_cons_succ, List.setIfInBounds_toArray, List.set_cons_zero, List.set_cons_succ])
    have O1 := Lib.hid (own_kept O0.out ka)
    have C1 := Lib.hid (C0.out.kept ka)
    have K1 := Lib.hid (K0.out.trans ka)
    have Z1 := Lib.hid (blk4 ka Z0.out)
    have NI2_1 := Lib.hid (NumsIn.lit (w := p0) (xs := [0, 5, -1]) (t := 3) (n := p0.heap.size) (cs := #[.int .i64 0, .int .i64 5, .int .i64 (-1)]) (by rfl) rfl)
    have hg1 : p0.heap.size ≠ gc := fun e => by have := C0.out.lt; omega
    clear ka
    generalize p0.alloc (.cells #[.int .i64 0, .int .i64 5, .int .i64 (-1)] 3) = p1 at *
    refine wpAnyH_ready (rs := [3]) (by kernel_rfl) (by simp) ?_
    refine AllReadyH.cons rfl (fun K hK => ?_) (AllReadyH.nil)
    go_simp
    go_at_call 67
    refine (among_pre gc _ _ (3) K5 [0, 5, -1] _ C1.out (by omega) NI2_1.out hg1 (by omega) (by first | (simp; done) | (simp; omega)) (by decide)).mono ?_
    rintro e p2 ⟨v3, rfl, hc2, hs2⟩
    (try go_wp2_with fail)
    have E2 := Lib.hid (blk4_stir hs2 h5g E1.out)
    refine hK.out _ _ (by (try dsimp only); exact E2.out) (fun hHeld => ?_)
    clear hK K
    (try simp only [Act.put, List.getElem_toArray, List.getElem_cons_zero, List.getElem_cons_succ, List.setIfInBounds_toArray, List.set_cons_zero, List.set_cons_succ])
    have O2 := Lib.hid (hs2.own O1.out hog)
    have C2 := Lib.hid hc2
    have K2 := Lib.hid (Stir.out K1.out hs2 (by omega))
    have Z2 := Lib.hid (blk4_stir hs2 (by omega) Z1.out)
    have NI2_2 := Lib.hid (NI2_1.out.stir hs2 hg1)
    clear hc2 hs2
    refine wpAnyH_ready (rs := [4]) (by kernel_rfl) (by simp) ?_
    refine AllReadyH.cons rfl (fun K hK => ?_) (AllReadyH.nil)
    obtain ⟨q0, f0, q1, f1, q2, f2, q3, f3⟩ := Z2.out
    go_simp
    have E3 := Lib.hid ((blk4_set ⟨w.heap.size, 3, none⟩ (by simp; omega) (.slice A xs.length c) (blk4_set ⟨w.heap.size, 2, none⟩ (by simp; omega) (.int .i64 z) (blk4_set ⟨w.heap.size, 1, none⟩ (by simp; omega) (.string nm) (blk4_set ⟨w.heap.size, 0, none⟩ (by simp; omega) (.int .i64 i) E2.out)))))
    have K3 := Lib.hid ((Kept.setCell (Kept.setCell (Kept.setCell (Kept.setCell K2.out (p := ⟨w.heap.size, 0, none⟩) (by first | (simp; done) | (simp; omega)) (.int .i64 i)) (p := ⟨w.heap.size, 1, none⟩) (by first | (simp; done) | (simp; omega)) (.string nm)) (p := ⟨w.heap.size, 2, none⟩) (by first | (simp; done) | (simp; omega)) (.int .i64 z)) (p := ⟨w.heap.size, 3, none⟩) (by first | (simp; done) | (simp; omega)) (.slice A xs.length c)))
    have O3 := Lib.hid ((ownsRow_setCell_below (ownsRow_setCell_below (ownsRow_setCell_below (ownsRow_setCell_below O2.out (a := ⟨w.heap.size, 0, none⟩) (by simp; omega) (.int .i64 i)) (a := ⟨w.heap.size, 1, none⟩) (by simp; omega) (.string nm)) (a := ⟨w.heap.size, 2, none⟩) (by simp; omega) (.int .i64 z)) (a := ⟨w.heap.size, 3, none⟩) (by simp; omega) (.slice A xs.length c)))
    have X3 := Lib.hid (show ((((p2.setCell ⟨w.heap.size, 0, none⟩ (.int .i64 i)).setCell ⟨w.heap.size, 1, none⟩ (.string nm)).setCell ⟨w.heap.size, 2, none⟩ (.int .i64 z)).setCell ⟨w.heap.size, 3, none⟩ (.slice A xs.length c)).cell? ⟨w.heap.size, 0, none⟩ = some (.int .i64 i) ∧ ((((p2.setCell ⟨w.heap.size, 0, none⟩ (.int .i64 i)).setCell ⟨w.heap.size, 1, none⟩ (.string nm)).setCell ⟨w.heap.size, 2, none⟩ (.int .i64 z)).setCell ⟨w.heap.size, 3, none⟩ (.slice A xs.length c)).frozen? ⟨w.heap.size, 0, none⟩ = false ∧ ((((p2.setCell ⟨w.heap.size, 0, none⟩ (.int .i64 i)).setCell ⟨w.heap.size, 1, none⟩ (.string nm)).setCell ⟨w.heap.size, 2, none⟩ (.int .i64 z)).setCell ⟨w.heap.size, 3, none⟩ (.slice A xs.length c)).cell? ⟨w.heap.size, 1, none⟩ = some (.string nm) ∧ ((((p2.setCell ⟨w.heap.size, 0, none⟩ (.int .i64 i)).setCell ⟨w.heap.size, 1, none⟩ (.string nm)).setCell ⟨w.heap.size, 2, none⟩ (.int .i64 z)).setCell ⟨w.heap.size, 3, none⟩ (.slice A xs.length c)).frozen? ⟨w.heap.size, 1, none⟩ = false ∧ ((((p2.setCell ⟨w.heap.size, 0, none⟩ (.int .i64 i)).setCell ⟨w.heap.size, 1, none⟩ (.string nm)).setCell ⟨w.heap.size, 2, none⟩ (.int .i64 z)).setCell ⟨w.heap.size, 3, none⟩ (.slice A xs.length c)).cell? ⟨w.heap.size, 2, none⟩ = some (.int .i64 z) ∧ ((((p2.setCell ⟨w.heap.size, 0, none⟩ (.int .i64 i)).setCell ⟨w.heap.size, 1, none⟩ (.string nm)).setCell ⟨w.heap.size, 2, none⟩ (.int .i64 z)).setCell ⟨w.heap.size, 3, none⟩ (.slice A xs.length c)).frozen? ⟨w.heap.size, 2, none⟩ = false ∧ ((((p2.setCell ⟨w.heap.size, 0, none⟩ (.int .i64 i)).setCell ⟨w.heap.size, 1, none⟩ (.string nm)).setCell ⟨w.heap.size, 2, none⟩ (.int .i64 z)).setCell ⟨w.heap.size, 3, none⟩ (.slice A xs.length c)).cell? ⟨w.heap.size, 3, none⟩ = some (.slice A xs.length c) ∧ ((((p2.setCell ⟨w.heap.size, 0, none⟩ (.int .i64 i)).setCell ⟨w.heap.size, 1, none⟩ (.string nm)).setCell ⟨w.heap.size, 2, none⟩ (.int .i64 z)).setCell ⟨w.heap.size, 3, none⟩ (.slice A xs.length c)).frozen? ⟨w.heap.size, 3, none⟩ = false by simp [go_sem, *])
    refine hK.out _ _ (by (try dsimp only); exact E3.out) (fun hHeld => ?_)
    clear hK K
    (try simp only [Act.put, List.getElem_toArray, List.getElem_cons_zero, List.getElem_cons_succ, List.setIfInBounds_toArray, List.set_cons_zero, List.set_cons_succ])
    clear q0 f0 q1 f1 q2 f2 q3 f3
    generalize ((((p2.setCell ⟨w.heap.size, 0, none⟩ (.int .i64 i)).setCell ⟨w.heap.size, 1, none⟩ (.string nm)).setCell ⟨w.heap.size, 2, none⟩ (.int .i64 z)).setCell ⟨w.heap.size, 3, none⟩ (.slice A xs.length c)) = p3 at *
    refine wpAnyH_ready (rs := [5]) (by kernel_rfl) (by simp) ?_
    refine AllReadyH.cons rfl (fun K hK => ?_) (AllReadyH.nil)
    go_simp
    refine hK.out _ _ (by (try dsimp only); exact hHeld) (fun hHeld => ?_)
    clear hK K
    (try simp only [Act.put, List.getElem_toArray, List.getElem_cons_zero, List.getElem_cons_succ, List.setIfInBounds_toArray, List.set_cons_zero, List.set_cons_succ])
    refine wpAnyH_done (by kernel_rfl) ?_ _
    go_wp2_with fail
    obtain ⟨x0, l0, x1, l1, x2, l2, x3, l3⟩ := X3.out
    exact bodyPost_ret (v := .tuple #[.agg #[.int .i64 i, .string nm, .int .i64 z, .slice A xs.length c], .int .i64 v3]) (by simp [results, Try.results29, go_sem, *]) rfl ⟨i, z, nm, _, xs, _, rfl, hnm, hxl, pairs_own O3.out, K3.out⟩
end Go.Proofs.Ytopdnhlolfehcaa

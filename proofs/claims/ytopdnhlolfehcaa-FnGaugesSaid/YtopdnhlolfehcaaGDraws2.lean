/-
  The draw of a gauge and a reading.
  Conditions: none.
-/
import Derived.Test.YtopdnhlolfehcaaGDraws
namespace Go.Proofs.Ytopdnhlolfehcaa
open Go.ChangeShapes Go.WideShapes Go.ChangeAt Go.RowKit
set_option linter.unusedVariables false
set_option linter.unusedSimpArgs false
set_option maxRecDepth 100000 in
set_option maxHeartbeats 8000000 in
theorem drawAddReading_any (v : Value) (w : World) (hc : CodeW w v) : Calls Try.prog 16 #[v] w fun e w' => ∃ (i z : Int) (nm : ByteArray) (u : Value) (xs : List (Int × Int)) (rt rl : Int), e = .returned (.tuple #[.agg #[.int .i64 i, .string nm, .int .i64 z, u], .agg #[.int .i64 rt, .int .i64 rl]]) ∧ nm.size ≤ 20 ∧ xs.length ≤ 40 ∧ Lies w' 2 pairC u xs ∧ Kept w w' := by
  obtain ⟨A0, len, cap, rfl, hc⟩ := hc
  have HC := Lib.hid hc
  clear hc
  go_enter Try.func16, Try.ntmps16
  have C0 := Lib.hid (CurB.new (W := ((w.alloc (.cells #[.int .i64 0, .string { data := #[] }, .int .i64 0, .slice none 0 0] 26)).alloc (.cells #[.int .i64 0, .int .i64 0] 28))) (g := w.heap.size + 1 + 1) (by simp) ((HC.out.kept (Kept.alloc (Kept.alloc (Kept.refl w) _) _)).mono (by simp)) 84)
  have K0 : Hid (Kept w (((w.alloc (.cells #[.int .i64 0, .string { data := #[] }, .int .i64 0, .slice none 0 0] 26)).alloc (.cells #[.int .i64 0, .int .i64 0] 28)).alloc (.cells #[.slice A0 len cap, .int .i64 0, .int .u64 0] 84))) := Lib.hid (Kept.alloc (Kept.alloc (Kept.alloc (Kept.refl w) _) _) _)
  have Z0 := Lib.hid (show (((w.alloc (.cells #[.int .i64 0, .string { data := #[] }, .int .i64 0, .slice none 0 0] 26)).alloc (.cells #[.int .i64 0, .int .i64 0] 28)).alloc (.cells #[.slice A0 len cap, .int .i64 0, .int .u64 0] 84)).cell? ⟨w.heap.size, 0, none⟩ = some (.int .i64 0) ∧ (((w.alloc (.cells #[.int .i64 0, .string { data := #[] }, .int .i64 0, .slice none 0 0] 26)).alloc (.cells #[.int .i64 0, .int .i64 0] 28)).alloc (.cells #[.slice A0 len cap, .int .i64 0, .int .u64 0] 84)).frozen? ⟨w.heap.size, 0, none⟩ = false ∧ (((w.alloc (.cells #[.int .i64 0, .string { data := #[] }, .int .i64 0, .slice none 0 0] 26)).alloc (.cells #[.int .i64 0, .int .i64 0] 28)).alloc (.cells #[.slice A0 len cap, .int .i64 0, .int .u64 0] 84)).cell? ⟨w.heap.size, 1, none⟩ = some (.string { data := #[] }) ∧ (((w.alloc (.cells #[.int .i64 0, .string { data := #[] }, .int .i64 0, .slice none 0 0] 26)).alloc (.cells #[.int .i64 0, .int .i64 0] 28)).alloc (.cells #[.slice A0 len cap, .int .i64 0, .int .u64 0] 84)).frozen? ⟨w.heap.size, 1, none⟩ = false ∧ (((w.alloc (.cells #[.int .i64 0, .string { data := #[] }, .int .i64 0, .slice none 0 0] 26)).alloc (.cells #[.int .i64 0, .int .i64 0] 28)).alloc (.cells #[.slice A0 len cap, .int .i64 0, .int .u64 0] 84)).cell? ⟨w.heap.size, 2, none⟩ = some (.int .i64 0) ∧ (((w.alloc (.cells #[.int .i64 0, .string { data := #[] }, .int .i64 0, .slice none 0 0] 26)).alloc (.cells #[.int .i64 0, .int .i64 0] 28)).alloc (.cells #[.slice A0 len cap, .int .i64 0, .int .u64 0] 84)).frozen? ⟨w.heap.size, 2, none⟩ = false ∧ (((w.alloc (.cells #[.int .i64 0, .string { data := #[] }, .int .i64 0, .slice none 0 0] 26)).alloc (.cells #[.int .i64 0, .int .i64 0] 28)).alloc (.cells #[.slice A0 len cap, .int .i64 0, .int .u64 0] 84)).cell? ⟨w.heap.size, 3, none⟩ = some (.slice none 0 0) ∧ (((w.alloc (.cells #[.int .i64 0, .string { data := #[] }, .int .i64 0, .slice none 0 0] 26)).alloc (.cells #[.int .i64 0, .int .i64 0] 28)).alloc (.cells #[.slice A0 len cap, .int .i64 0, .int .u64 0] 84)).frozen? ⟨w.heap.size, 3, none⟩ = false by simp [go_sem])
  have Y0 := Lib.hid (show (((w.alloc (.cells #[.int .i64 0, .string { data := #[] }, .int .i64 0, .slice none 0 0] 26)).alloc (.cells #[.int .i64 0, .int .i64 0] 28)).alloc (.cells #[.slice A0 len cap, .int .i64 0, .int .u64 0] 84)).cell? ⟨w.heap.size + 1, 0, none⟩ = some (.int .i64 0) ∧ (((w.alloc (.cells #[.int .i64 0, .string { data := #[] }, .int .i64 0, .slice none 0 0] 26)).alloc (.cells #[.int .i64 0, .int .i64 0] 28)).alloc (.cells #[.slice A0 len cap, .int .i64 0, .int .u64 0] 84)).frozen? ⟨w.heap.size + 1, 0, none⟩ = false ∧ (((w.alloc (.cells #[.int .i64 0, .string { data := #[] }, .int .i64 0, .slice none 0 0] 26)).alloc (.cells #[.int .i64 0, .int .i64 0] 28)).alloc (.cells #[.slice A0 len cap, .int .i64 0, .int .u64 0] 84)).cell? ⟨w.heap.size + 1, 1, none⟩ = some (.int .i64 0) ∧ (((w.alloc (.cells #[.int .i64 0, .string { data := #[] }, .int .i64 0, .slice none 0 0] 26)).alloc (.cells #[.int .i64 0, .int .i64 0] 28)).alloc (.cells #[.slice A0 len cap, .int .i64 0, .int .u64 0] 84)).frozen? ⟨w.heap.size + 1, 1, none⟩ = false by simp [go_sem])
  go_wp2_with fail
  refine (gauge_any (w.heap.size + 1 + 1) 0 5 _ C0.out (by omega)).mono ?_
  rintro e w1 ⟨i, z, nm, u, xs, rfl, hnm, hxl, ho, hc1, hs1⟩
  obtain ⟨A, c, rfl, hlc, hcm, hA⟩ := own_form ho
  obtain ⟨gc, hgc⟩ : ∃ x, x = w.heap.size + 1 + 1 := ⟨_, rfl⟩
  rw [← hgc] at hc1 hs1 C0
  simp only [← hgc]
  have zb : w.heap.size + 1 < gc := by omega
  have hsz := hs1.size
  simp only [World.size_alloc] at hsz
  have hgl : gc < w1.heap.size := by omega
  have GT : Hid (Kept w1 (w1.alloc (.cells #[.int .i64 i, .string nm, .int .i64 z, .slice A xs.length c] 26))) := Lib.hid (Kept.alloc (Kept.refl _) _)
  have EU := Lib.hid (show (w1.alloc (.cells #[.int .i64 i, .string nm, .int .i64 z, .slice A xs.length c] 26)).cell? ⟨w1.heap.size, 0, none⟩ = some (.int .i64 i) ∧ (w1.alloc (.cells #[.int .i64 i, .string nm, .int .i64 z, .slice A xs.length c] 26)).frozen? ⟨w1.heap.size, 0, none⟩ = false ∧ (w1.alloc (.cells #[.int .i64 i, .string nm, .int .i64 z, .slice A xs.length c] 26)).cell? ⟨w1.heap.size, 1, none⟩ = some (.string nm) ∧ (w1.alloc (.cells #[.int .i64 i, .string nm, .int .i64 z, .slice A xs.length c] 26)).frozen? ⟨w1.heap.size, 1, none⟩ = false ∧ (w1.alloc (.cells #[.int .i64 i, .string nm, .int .i64 z, .slice A xs.length c] 26)).cell? ⟨w1.heap.size, 2, none⟩ = some (.int .i64 z) ∧ (w1.alloc (.cells #[.int .i64 i, .string nm, .int .i64 z, .slice A xs.length c] 26)).frozen? ⟨w1.heap.size, 2, none⟩ = false ∧ (w1.alloc (.cells #[.int .i64 i, .string nm, .int .i64 z, .slice A xs.length c] 26)).cell? ⟨w1.heap.size, 3, none⟩ = some (.slice A xs.length c) ∧ (w1.alloc (.cells #[.int .i64 i, .string nm, .int .i64 z, .slice A xs.length c] 26)).frozen? ⟨w1.heap.size, 3, none⟩ = false by simp [go_sem])
  have OU := Lib.hid (own_kept ho GT.out)
  have hog : gc < (((w.alloc (.cells #[.int .i64 0, .string { data := #[] }, .int .i64 0, .slice none 0 0] 26)).alloc (.cells #[.int .i64 0, .int .i64 0] 28)).alloc (.cells #[.slice A0 len cap, .int .i64 0, .int .u64 0] 84)).heap.size := by simp; omega
  have CU := Lib.hid (hc1.kept GT.out)
  have KU := Lib.hid ((Stir.out K0.out hs1 (by omega)).trans GT.out)
  have ZU := Lib.hid (blk4 GT.out (blk4_stir hs1 (by omega) Z0.out))
  have YU := Lib.hid (blk2_keep GT.out (blk2_stir hs1 (by omega) Y0.out))
  have h5g : w1.heap.size ≠ gc := by omega
  have h5w : w.heap.size + 1 < w1.heap.size := by omega
  have hob : w.heap.size + 1 < (((w.alloc (.cells #[.int .i64 0, .string { data := #[] }, .int .i64 0, .slice none 0 0] 26)).alloc (.cells #[.int .i64 0, .int .i64 0] 28)).alloc (.cells #[.slice A0 len cap, .int .i64 0, .int .u64 0] 84)).heap.size := by simp
  clear ho hc1 hs1 C0 K0 Z0 Y0
  go_upto_region 3 with fail
  generalize w1.alloc (.cells #[.int .i64 i, .string nm, .int .i64 z, .slice A xs.length c] 26) = V at *
  generalize w1.heap.size = b5 at *
  generalize (((w.alloc (.cells #[.int .i64 0, .string { data := #[] }, .int .i64 0, .slice none 0 0] 26)).alloc (.cells #[.int .i64 0, .int .i64 0] 28)).alloc (.cells #[.slice A0 len cap, .int .i64 0, .int .u64 0] 84)).heap.size = B at *
  clear hgc hsz GT HC
  refine wp_region_held_drew (S := fun w' => w'.cell? ⟨b5, 0, none⟩ = some (.int .i64 i) ∧ w'.frozen? ⟨b5, 0, none⟩ = false ∧ w'.cell? ⟨b5, 1, none⟩ = some (.string nm) ∧ w'.frozen? ⟨b5, 1, none⟩ = false ∧ w'.cell? ⟨b5, 2, none⟩ = some (.int .i64 z) ∧ w'.frozen? ⟨b5, 2, none⟩ = false ∧ w'.cell? ⟨b5, 3, none⟩ = some (.slice A xs.length c) ∧ w'.frozen? ⟨b5, 3, none⟩ = false) (by kernel_rfl) (by (try dsimp only); exact blk4 (Kept.drew (Kept.refl V)) EU.out) (fun hHeld => ?_)
  refine wpAnyH_take (i := 0) (v := ?_) rfl (by kernel_rfl) (by kernel_rfl) (by kernel_rfl) (fun _ _ _ h => h) (Or.inl ⟨by kernel_rfl, ?_⟩) (by assumption) ?_
  rotate_left
  focus (intro w' hSw; (try dsimp only at hSw); obtain ⟨s0, sf0, s1, sf1, s2, sf2, s3, sf3⟩ := hSw; go_simp; (try with_reducible rfl))
  (try simp only [Act.put, List.getElem_toArray, List.getElem_cons_zero, List.getElem_cons_succ, List.setIfInBounds_toArray, List.set_cons_zero, List.set_cons_succ])
  refine wpAnyH_take (i := 1) (v := ?_) rfl (by kernel_rfl) (by kernel_rfl) (by kernel_rfl) (fun _ _ _ h => h) (Or.inl ⟨by kernel_rfl, ?_⟩) (by assumption) ?_
  rotate_left
  focus (intro w' hSw; (try dsimp only at hSw); obtain ⟨s0, sf0, s1, sf1, s2, sf2, s3, sf3⟩ := hSw; go_simp; (try with_reducible rfl))
  (try simp only [Act.put, List.getElem_toArray, List.getElem_cons_zero, List.getElem_cons_succ, List.setIfInBounds_toArray, List.set_cons_zero, List.set_cons_succ])
  refine wpAnyH_take (i := 3) (v := ?_) rfl (by kernel_rfl) (by kernel_rfl) (by kernel_rfl) (fun _ _ _ h => h) (Or.inl ⟨by kernel_rfl, ?_⟩) (by assumption) ?_
  rotate_left
  focus (intro w' hSw; (try dsimp only at hSw); obtain ⟨s0, sf0, s1, sf1, s2, sf2, s3, sf3⟩ := hSw; go_simp; (try with_reducible rfl))
  (try simp only [Act.put, List.getElem_toArray, List.getElem_cons_zero, List.getElem_cons_succ, List.setIfInBounds_toArray, List.set_cons_zero, List.set_cons_succ])
  refine wpAnyH_take (i := 9) (v := ?_) rfl (by kernel_rfl) (by kernel_rfl) (by kernel_rfl) (fun _ _ _ h => h) (Or.inl ⟨by kernel_rfl, ?_⟩) (by assumption) ?_
  rotate_left
  focus (intro w' hSw; (try dsimp only at hSw); obtain ⟨s0, sf0, s1, sf1, s2, sf2, s3, sf3⟩ := hSw; go_simp; (try with_reducible rfl))
  (try simp only [Act.put, List.getElem_toArray, List.getElem_cons_zero, List.getElem_cons_succ, List.setIfInBounds_toArray, List.set_cons_zero, List.set_cons_succ])
  refine wpAnyH_take (i := 11) (v := ?_) rfl (by kernel_rfl) (by kernel_rfl) (by kernel_rfl) (fun _ _ _ h => h) (Or.inl ⟨by kernel_rfl, ?_⟩) (by assumption) ?_
  rotate_left
  focus (intro w' hSw; (try dsimp only at hSw); obtain ⟨s0, sf0, s1, sf1, s2, sf2, s3, sf3⟩ := hSw; go_simp; (try with_reducible rfl))
  (try simp only [Act.put, List.getElem_toArray, List.getElem_cons_zero, List.getElem_cons_succ, List.setIfInBounds_toArray, List.set_cons_zero, List.set_cons_succ])
  have kd : Kept V V.drew := Kept.drew (Kept.refl _)
  have E0 := Lib.hid (blk4 kd EU.out)
  have O0 := Lib.hid (own_kept OU.out kd)
  have C0 := Lib.hid (CU.out.kept kd)
  have K0 := Lib.hid (KU.out.trans kd)
  have Z0 := Lib.hid (blk4 kd ZU.out)
  have Y0 := Lib.hid (blk2_keep kd YU.out)
  clear kd
  generalize V.drew = p0 at *
  refine wpAnyH_ready (rs := [2, 4, 10]) (by kernel_rfl) (by simp) ?_
  refine AllReadyH.cons rfl (fun K hK => ?_) (AllReadyH.cons rfl (fun K hK => ?_) (AllReadyH.cons rfl (fun K hK => ?_) (AllReadyH.nil)))
  · skip
    go_simp
    have ka : Kept p0 (p0.alloc (.cells #[.int .i64 0, .int .i64 10, .int .i64 15, .int .i64 20, .int .i64 620, .int .i64 10000, .int .i64 (-1), .int .i64 10001] 3)) := Kept.alloc (Kept.refl _) _
    have E1 := Lib.hid (blk4 ka E0.out)
    refine hK.out _ _ (by (try dsimp only); exact E1.out) (fun hHeld => ?_)
    clear hK K
    (try simp only [Act.put, List.getElem_toArray, List.getElem_cons_zero, List.getElem_cons_succ, List.setIfInBounds_toArray, List.set_cons_zero, List.set_cons_succ])
    have O1 := Lib.hid (own_kept O0.out ka)
    have C1 := Lib.hid (C0.out.kept ka)
    have K1 := Lib.hid (K0.out.trans ka)
    have Z1 := Lib.hid (blk4 ka Z0.out)
    have Y1 := Lib.hid (blk2_keep ka Y0.out)
    have NI2_1 := Lib.hid (NumsIn.lit (w := p0) (xs := [0, 10, 15, 20, 620, 10000, -1, 10001]) (t := 3) (n := p0.heap.size) (cs := #[.int .i64 0, .int .i64 10, .int .i64 15, .int .i64 20, .int .i64 620, .int .i64 10000, .int .i64 (-1), .int .i64 10001]) (by rfl) rfl)
    have hg1 : p0.heap.size ≠ gc := fun e => by have := C0.out.lt; omega
    clear ka
    generalize p0.alloc (.cells #[.int .i64 0, .int .i64 10, .int .i64 15, .int .i64 20, .int .i64 620, .int .i64 10000, .int .i64 (-1), .int .i64 10001] 3) = p1 at *
    refine wpAnyH_ready (rs := [4, 10]) (by kernel_rfl) (by simp) ?_
    refine AllReadyH.cons rfl (fun K hK => ?_) (AllReadyH.cons rfl (fun K hK => ?_) (AllReadyH.nil))
    · skip
      go_simp
      go_at_call 68
      refine (pick_any gc (0 + 200) 24 _ C1.out (by omega) (by omega)).mono ?_
      rintro e p2 ⟨v4, rfl, ⟨va4, vb4⟩, hc2, hs2⟩
      obtain ⟨y4, hy4, hz4⟩ : ∃ y : Nat, v4 / 11 = (y : Int) ∧ y ≤ 2 := ⟨(v4 / 11).toNat, by omega, by omega⟩
      have ht4 : v4.tdiv 11 = (y4 : Int) := by rw [Int.tdiv_eq_ediv_of_nonneg (by omega)]; exact hy4
      have hw4 : IntKind.i64.wrap (y4 : Int) = (y4 : Int) := by rw [IntKind.wrap_i64]; omega
      have hv4 : IntKind.i64.wrap (6 + (y4 : Int)) = 6 + (y4 : Int) := by rw [IntKind.wrap_i64]; omega
      have ha4 : (0 : Int) ≤ 6 + (y4 : Int) := by omega
      have hb4 : 6 + (y4 : Int) ≤ 8 := by omega
      have hn4 : (6 + (y4 : Int)).toNat = 6 + y4 := by omega
      (try go_wp2_with fail)
      have E2 := Lib.hid (blk4_stir hs2 h5g E1.out)
      refine hK.out _ _ (by (try dsimp only); exact E2.out) (fun hHeld => ?_)
      clear hK K
      (try simp only [Act.put, List.getElem_toArray, List.getElem_cons_zero, List.getElem_cons_succ, List.setIfInBounds_toArray, List.set_cons_zero, List.set_cons_succ])
      have O2 := Lib.hid (hs2.own O1.out hog)
      have C2 := Lib.hid hc2
      have K2 := Lib.hid (Stir.out K1.out hs2 (by omega))
      have Z2 := Lib.hid (blk4_stir hs2 (by omega) Z1.out)
      have Y2 := Lib.hid (blk2_stir hs2 (by omega) Y1.out)
      have NI2_2 := Lib.hid (NI2_1.out.stir hs2 hg1)
      clear hc2 hs2
      refine wpAnyH_take (i := 5) (v := ?_) rfl (by kernel_rfl) (by kernel_rfl) (by kernel_rfl) (fun _ _ _ h => h) (Or.inl ⟨by kernel_rfl, ?_⟩) (by assumption) ?_
      rotate_left
      focus (intro w' hSw; (try dsimp only at hSw); obtain ⟨s0, sf0, s1, sf1, s2, sf2, s3, sf3⟩ := hSw; go_simp; (try with_reducible rfl))
      (try simp only [Act.put, List.getElem_toArray, List.getElem_cons_zero, List.getElem_cons_succ, List.setIfInBounds_toArray, List.set_cons_zero, List.set_cons_succ])
      refine wpAnyH_take (i := 6) (v := ?_) rfl (by kernel_rfl) (by kernel_rfl) (by kernel_rfl) (fun _ _ _ h => h) (Or.inl ⟨by kernel_rfl, ?_⟩) (by assumption) ?_
      rotate_left
      focus (intro w' hSw; (try dsimp only at hSw); obtain ⟨s0, sf0, s1, sf1, s2, sf2, s3, sf3⟩ := hSw; go_simp; (try with_reducible rfl))
      (try simp only [Act.put, List.getElem_toArray, List.getElem_cons_zero, List.getElem_cons_succ, List.setIfInBounds_toArray, List.set_cons_zero, List.set_cons_succ])
      refine wpAnyH_take (i := 7) (v := ?_) rfl (by kernel_rfl) (by kernel_rfl) (by kernel_rfl) (fun _ _ _ h => h) (Or.inl ⟨by kernel_rfl, ?_⟩) (by assumption) ?_
      rotate_left
      focus (intro w' hSw; (try dsimp only at hSw); obtain ⟨s0, sf0, s1, sf1, s2, sf2, s3, sf3⟩ := hSw; go_simp; (try with_reducible rfl))
      (try simp only [Act.put, List.getElem_toArray, List.getElem_cons_zero, List.getElem_cons_succ, List.setIfInBounds_toArray, List.set_cons_zero, List.set_cons_succ])
      refine wpAnyH_ready (rs := [8, 10]) (by kernel_rfl) (by simp) ?_
      refine AllReadyH.cons rfl (fun K hK => ?_) (AllReadyH.cons rfl (fun K hK => ?_) (AllReadyH.nil))
      · skip
        go_simp
        go_at_call 67
        refine (among_pre gc _ _ (6 + y4) ((0 + 200) + 2) [0, 10, 15, 20, 620, 10000, -1, 10001] _ C2.out (by omega) NI2_2.out hg1 (by omega) (by first | (simp; done) | (simp; omega)) (by decide)).mono ?_
        rintro e p3 ⟨v8, rfl, hc3, hs3⟩
        (try go_wp2_with fail)
        have E3 := Lib.hid (blk4_stir hs3 h5g E2.out)
        refine hK.out _ _ (by (try dsimp only); exact E3.out) (fun hHeld => ?_)
        clear hK K
        (try simp only [Act.put, List.getElem_toArray, List.getElem_cons_zero, List.getElem_cons_succ, List.setIfInBounds_toArray, List.set_cons_zero, List.set_cons_succ])
        have O3 := Lib.hid (hs3.own O2.out hog)
        have C3 := Lib.hid hc3
        have K3 := Lib.hid (Stir.out K2.out hs3 (by omega))
        have Z3 := Lib.hid (blk4_stir hs3 (by omega) Z2.out)
        have Y3 := Lib.hid (blk2_stir hs3 (by omega) Y2.out)
        have NI2_3 := Lib.hid (NI2_2.out.stir hs3 hg1)
        clear hc3 hs3
        refine wpAnyH_ready (rs := [10, 12]) (by kernel_rfl) (by simp) ?_
        refine AllReadyH.cons rfl (fun K hK => ?_) (AllReadyH.cons rfl (fun K hK => ?_) (AllReadyH.nil))
        · skip
          go_simp
          have ka : Kept p3 (p3.alloc (.cells #[.int .i64 (-500), .int .i64 77, .int .i64 2000, .int .i64 (-501), .int .i64 2001] 3)) := Kept.alloc (Kept.refl _) _
          have E4 := Lib.hid (blk4 ka E3.out)
          refine hK.out _ _ (by (try dsimp only); exact E4.out) (fun hHeld => ?_)
          clear hK K
          (try simp only [Act.put, List.getElem_toArray, List.getElem_cons_zero, List.getElem_cons_succ, List.setIfInBounds_toArray, List.set_cons_zero, List.set_cons_succ])
          have O4 := Lib.hid (own_kept O3.out ka)
          have C4 := Lib.hid (C3.out.kept ka)
          have K4 := Lib.hid (K3.out.trans ka)
          have Z4 := Lib.hid (blk4 ka Z3.out)
          have Y4 := Lib.hid (blk2_keep ka Y3.out)
          have NI2_4 := Lib.hid (NI2_3.out.kept ka)
          have NI10_4 := Lib.hid (NumsIn.lit (w := p3) (xs := [-500, 77, 2000, -501, 2001]) (t := 3) (n := p3.heap.size) (cs := #[.int .i64 (-500), .int .i64 77, .int .i64 2000, .int .i64 (-501), .int .i64 2001]) (by rfl) rfl)
          have hg4 : p3.heap.size ≠ gc := fun e => by have := C3.out.lt; omega
          clear ka
          generalize p3.alloc (.cells #[.int .i64 (-500), .int .i64 77, .int .i64 2000, .int .i64 (-501), .int .i64 2001] 3) = p4 at *
          refine wpAnyH_ready (rs := [12]) (by kernel_rfl) (by simp) ?_
          refine AllReadyH.cons rfl (fun K hK => ?_) (AllReadyH.nil)
          go_simp
          go_at_call 68
          refine (pick_any gc (((0 + 200) + 2) + 2) 24 _ C4.out (by omega) (by omega)).mono ?_
          rintro e p5 ⟨v12, rfl, ⟨va12, vb12⟩, hc5, hs5⟩
          obtain ⟨y12, hy12, hz12⟩ : ∃ y : Nat, v12 / 11 = (y : Int) ∧ y ≤ 2 := ⟨(v12 / 11).toNat, by omega, by omega⟩
          have ht12 : v12.tdiv 11 = (y12 : Int) := by rw [Int.tdiv_eq_ediv_of_nonneg (by omega)]; exact hy12
          have hw12 : IntKind.i64.wrap (y12 : Int) = (y12 : Int) := by rw [IntKind.wrap_i64]; omega
          have hv12 : IntKind.i64.wrap (3 + (y12 : Int)) = 3 + (y12 : Int) := by rw [IntKind.wrap_i64]; omega
          have ha12 : (0 : Int) ≤ 3 + (y12 : Int) := by omega
          have hb12 : 3 + (y12 : Int) ≤ 5 := by omega
          have hn12 : (3 + (y12 : Int)).toNat = 3 + y12 := by omega
          (try go_wp2_with fail)
          have E5 := Lib.hid (blk4_stir hs5 h5g E4.out)
          refine hK.out _ _ (by (try dsimp only); exact E5.out) (fun hHeld => ?_)
          clear hK K
          (try simp only [Act.put, List.getElem_toArray, List.getElem_cons_zero, List.getElem_cons_succ, List.setIfInBounds_toArray, List.set_cons_zero, List.set_cons_succ])
          have O5 := Lib.hid (hs5.own O4.out hog)
          have C5 := Lib.hid hc5
          have K5 := Lib.hid (Stir.out K4.out hs5 (by omega))
          have Z5 := Lib.hid (blk4_stir hs5 (by omega) Z4.out)
          have Y5 := Lib.hid (blk2_stir hs5 (by omega) Y4.out)
          have NI2_5 := Lib.hid (NI2_4.out.stir hs5 hg1)
          have NI10_5 := Lib.hid (NI10_4.out.stir hs5 hg4)
          clear hc5 hs5
          refine wpAnyH_take (i := 13) (v := ?_) rfl (by kernel_rfl) (by kernel_rfl) (by kernel_rfl) (fun _ _ _ h => h) (Or.inl ⟨by kernel_rfl, ?_⟩) (by assumption) ?_
          rotate_left
          focus (intro w' hSw; (try dsimp only at hSw); obtain ⟨s0, sf0, s1, sf1, s2, sf2, s3, sf3⟩ := hSw; go_simp; (try with_reducible rfl))
          (try simp only [Act.put, List.getElem_toArray, List.getElem_cons_zero, List.getElem_cons_succ, List.setIfInBounds_toArray, List.set_cons_zero, List.set_cons_succ])
          refine wpAnyH_take (i := 14) (v := ?_) rfl (by kernel_rfl) (by kernel_rfl) (by kernel_rfl) (fun _ _ _ h => h) (Or.inl ⟨by kernel_rfl, ?_⟩) (by assumption) ?_
          rotate_left
          focus (intro w' hSw; (try dsimp only at hSw); obtain ⟨s0, sf0, s1, sf1, s2, sf2, s3, sf3⟩ := hSw; go_simp; (try with_reducible rfl))
          (try simp only [Act.put, List.getElem_toArray, List.getElem_cons_zero, List.getElem_cons_succ, List.setIfInBounds_toArray, List.set_cons_zero, List.set_cons_succ])
          refine wpAnyH_take (i := 15) (v := ?_) rfl (by kernel_rfl) (by kernel_rfl) (by kernel_rfl) (fun _ _ _ h => h) (Or.inl ⟨by kernel_rfl, ?_⟩) (by assumption) ?_
          rotate_left
          focus (intro w' hSw; (try dsimp only at hSw); obtain ⟨s0, sf0, s1, sf1, s2, sf2, s3, sf3⟩ := hSw; go_simp; (try with_reducible rfl))
          (try simp only [Act.put, List.getElem_toArray, List.getElem_cons_zero, List.getElem_cons_succ, List.setIfInBounds_toArray, List.set_cons_zero, List.set_cons_succ])
          refine wpAnyH_ready (rs := [16]) (by kernel_rfl) (by simp) ?_
          refine AllReadyH.cons rfl (fun K hK => ?_) (AllReadyH.nil)
          go_simp
          go_at_call 67
          refine (among_pre gc _ _ (3 + y12) ((((0 + 200) + 2) + 2) + 2) [-500, 77, 2000, -501, 2001] _ C5.out (by omega) NI10_5.out hg4 (by omega) (by first | (simp; done) | (simp; omega)) (by decide)).mono ?_
          rintro e p6 ⟨v16, rfl, hc6, hs6⟩
          (try go_wp2_with fail)
          have E6 := Lib.hid (blk4_stir hs6 h5g E5.out)
          refine hK.out _ _ (by (try dsimp only); exact E6.out) (fun hHeld => ?_)
          clear hK K
          (try simp only [Act.put, List.getElem_toArray, List.getElem_cons_zero, List.getElem_cons_succ, List.setIfInBounds_toArray, List.set_cons_zero, List.set_cons_succ])
          have O6 := Lib.hid (hs6.own O5.out hog)
          have C6 := Lib.hid hc6
          have K6 := Lib.hid (Stir.out K5.out hs6 (by omega))
          have Z6 := Lib.hid (blk4_stir hs6 (by omega) Z5.out)
          have Y6 := Lib.hid (blk2_stir hs6 (by omega) Y5.out)
          have NI2_6 := Lib.hid (NI2_5.out.stir hs6 hg1)
          have NI10_6 := Lib.hid (NI10_5.out.stir hs6 hg4)
          clear hc6 hs6
          refine wpAnyH_take (i := 17) (v := ?_) rfl (by kernel_rfl) (by kernel_rfl) (by kernel_rfl) (fun _ _ _ h => h) (Or.inl ⟨by kernel_rfl, ?_⟩) (by assumption) ?_
          rotate_left
          focus (intro w' hSw; (try dsimp only at hSw); obtain ⟨s0, sf0, s1, sf1, s2, sf2, s3, sf3⟩ := hSw; go_simp; (try with_reducible rfl))
          (try simp only [Act.put, List.getElem_toArray, List.getElem_cons_zero, List.getElem_cons_succ, List.setIfInBounds_toArray, List.set_cons_zero, List.set_cons_succ])
          refine wpAnyH_ready (rs := [18]) (by kernel_rfl) (by simp) ?_
          refine AllReadyH.cons rfl (fun K hK => ?_) (AllReadyH.nil)
          obtain ⟨q0, f0, q1, f1, q2, f2, q3, f3⟩ := Z6.out
          go_simp
          have E7 := Lib.hid ((blk4_set ⟨w.heap.size, 3, none⟩ (by simp; omega) (.slice A xs.length c) (blk4_set ⟨w.heap.size, 2, none⟩ (by simp; omega) (.int .i64 z) (blk4_set ⟨w.heap.size, 1, none⟩ (by simp; omega) (.string nm) (blk4_set ⟨w.heap.size, 0, none⟩ (by simp; omega) (.int .i64 i) E6.out)))))
          have K7 := Lib.hid ((Kept.setCell (Kept.setCell (Kept.setCell (Kept.setCell K6.out (p := ⟨w.heap.size, 0, none⟩) (by first | (simp; done) | (simp; omega)) (.int .i64 i)) (p := ⟨w.heap.size, 1, none⟩) (by first | (simp; done) | (simp; omega)) (.string nm)) (p := ⟨w.heap.size, 2, none⟩) (by first | (simp; done) | (simp; omega)) (.int .i64 z)) (p := ⟨w.heap.size, 3, none⟩) (by first | (simp; done) | (simp; omega)) (.slice A xs.length c)))
          have O7 := Lib.hid ((ownsRow_setCell_below (ownsRow_setCell_below (ownsRow_setCell_below (ownsRow_setCell_below O6.out (a := ⟨w.heap.size, 0, none⟩) (by simp; omega) (.int .i64 i)) (a := ⟨w.heap.size, 1, none⟩) (by simp; omega) (.string nm)) (a := ⟨w.heap.size, 2, none⟩) (by simp; omega) (.int .i64 z)) (a := ⟨w.heap.size, 3, none⟩) (by simp; omega) (.slice A xs.length c)))
          have X7 := Lib.hid (show ((((p6.setCell ⟨w.heap.size, 0, none⟩ (.int .i64 i)).setCell ⟨w.heap.size, 1, none⟩ (.string nm)).setCell ⟨w.heap.size, 2, none⟩ (.int .i64 z)).setCell ⟨w.heap.size, 3, none⟩ (.slice A xs.length c)).cell? ⟨w.heap.size, 0, none⟩ = some (.int .i64 i) ∧ ((((p6.setCell ⟨w.heap.size, 0, none⟩ (.int .i64 i)).setCell ⟨w.heap.size, 1, none⟩ (.string nm)).setCell ⟨w.heap.size, 2, none⟩ (.int .i64 z)).setCell ⟨w.heap.size, 3, none⟩ (.slice A xs.length c)).frozen? ⟨w.heap.size, 0, none⟩ = false ∧ ((((p6.setCell ⟨w.heap.size, 0, none⟩ (.int .i64 i)).setCell ⟨w.heap.size, 1, none⟩ (.string nm)).setCell ⟨w.heap.size, 2, none⟩ (.int .i64 z)).setCell ⟨w.heap.size, 3, none⟩ (.slice A xs.length c)).cell? ⟨w.heap.size, 1, none⟩ = some (.string nm) ∧ ((((p6.setCell ⟨w.heap.size, 0, none⟩ (.int .i64 i)).setCell ⟨w.heap.size, 1, none⟩ (.string nm)).setCell ⟨w.heap.size, 2, none⟩ (.int .i64 z)).setCell ⟨w.heap.size, 3, none⟩ (.slice A xs.length c)).frozen? ⟨w.heap.size, 1, none⟩ = false ∧ ((((p6.setCell ⟨w.heap.size, 0, none⟩ (.int .i64 i)).setCell ⟨w.heap.size, 1, none⟩ (.string nm)).setCell ⟨w.heap.size, 2, none⟩ (.int .i64 z)).setCell ⟨w.heap.size, 3, none⟩ (.slice A xs.length c)).cell? ⟨w.heap.size, 2, none⟩ = some (.int .i64 z) ∧ ((((p6.setCell ⟨w.heap.size, 0, none⟩ (.int .i64 i)).setCell ⟨w.heap.size, 1, none⟩ (.string nm)).setCell ⟨w.heap.size, 2, none⟩ (.int .i64 z)).setCell ⟨w.heap.size, 3, none⟩ (.slice A xs.length c)).frozen? ⟨w.heap.size, 2, none⟩ = false ∧ ((((p6.setCell ⟨w.heap.size, 0, none⟩ (.int .i64 i)).setCell ⟨w.heap.size, 1, none⟩ (.string nm)).setCell ⟨w.heap.size, 2, none⟩ (.int .i64 z)).setCell ⟨w.heap.size, 3, none⟩ (.slice A xs.length c)).cell? ⟨w.heap.size, 3, none⟩ = some (.slice A xs.length c) ∧ ((((p6.setCell ⟨w.heap.size, 0, none⟩ (.int .i64 i)).setCell ⟨w.heap.size, 1, none⟩ (.string nm)).setCell ⟨w.heap.size, 2, none⟩ (.int .i64 z)).setCell ⟨w.heap.size, 3, none⟩ (.slice A xs.length c)).frozen? ⟨w.heap.size, 3, none⟩ = false by simp [go_sem, *])
          have Y7 := Lib.hid (show ((((p6.setCell ⟨w.heap.size, 0, none⟩ (.int .i64 i)).setCell ⟨w.heap.size, 1, none⟩ (.string nm)).setCell ⟨w.heap.size, 2, none⟩ (.int .i64 z)).setCell ⟨w.heap.size, 3, none⟩ (.slice A xs.length c)).cell? ⟨w.heap.size + 1, 0, none⟩ = some (.int .i64 0) ∧ ((((p6.setCell ⟨w.heap.size, 0, none⟩ (.int .i64 i)).setCell ⟨w.heap.size, 1, none⟩ (.string nm)).setCell ⟨w.heap.size, 2, none⟩ (.int .i64 z)).setCell ⟨w.heap.size, 3, none⟩ (.slice A xs.length c)).frozen? ⟨w.heap.size + 1, 0, none⟩ = false ∧ ((((p6.setCell ⟨w.heap.size, 0, none⟩ (.int .i64 i)).setCell ⟨w.heap.size, 1, none⟩ (.string nm)).setCell ⟨w.heap.size, 2, none⟩ (.int .i64 z)).setCell ⟨w.heap.size, 3, none⟩ (.slice A xs.length c)).cell? ⟨w.heap.size + 1, 1, none⟩ = some (.int .i64 0) ∧ ((((p6.setCell ⟨w.heap.size, 0, none⟩ (.int .i64 i)).setCell ⟨w.heap.size, 1, none⟩ (.string nm)).setCell ⟨w.heap.size, 2, none⟩ (.int .i64 z)).setCell ⟨w.heap.size, 3, none⟩ (.slice A xs.length c)).frozen? ⟨w.heap.size + 1, 1, none⟩ = false by obtain ⟨y0, g0, y1, g1⟩ := Y6.out; simp [go_sem, *])
          refine hK.out _ _ (by (try dsimp only); exact E7.out) (fun hHeld => ?_)
          clear hK K
          (try simp only [Act.put, List.getElem_toArray, List.getElem_cons_zero, List.getElem_cons_succ, List.setIfInBounds_toArray, List.set_cons_zero, List.set_cons_succ])
          clear q0 f0 q1 f1 q2 f2 q3 f3
          generalize ((((p6.setCell ⟨w.heap.size, 0, none⟩ (.int .i64 i)).setCell ⟨w.heap.size, 1, none⟩ (.string nm)).setCell ⟨w.heap.size, 2, none⟩ (.int .i64 z)).setCell ⟨w.heap.size, 3, none⟩ (.slice A xs.length c)) = p7 at *
          refine wpAnyH_ready (rs := [19]) (by kernel_rfl) (by simp) ?_
          refine AllReadyH.cons rfl (fun K hK => ?_) (AllReadyH.nil)
          obtain ⟨q0, f0, q1, f1⟩ := Y7.out
          go_simp
          have E8 := Lib.hid ((blk4_set ⟨w.heap.size + 1, 1, none⟩ (by simp; omega) (.int .i64 v16) (blk4_set ⟨w.heap.size + 1, 0, none⟩ (by simp; omega) (.int .i64 v8) E7.out)))
          have K8 := Lib.hid ((Kept.setCell (Kept.setCell K7.out (p := ⟨w.heap.size + 1, 0, none⟩) (by first | (simp; done) | (simp; omega)) (.int .i64 v8)) (p := ⟨w.heap.size + 1, 1, none⟩) (by first | (simp; done) | (simp; omega)) (.int .i64 v16)))
          have O8 := Lib.hid ((ownsRow_setCell_below (ownsRow_setCell_below O7.out (a := ⟨w.heap.size + 1, 0, none⟩) (by simp; omega) (.int .i64 v8)) (a := ⟨w.heap.size + 1, 1, none⟩) (by simp; omega) (.int .i64 v16)))
          have X8 := Lib.hid (show ((p7.setCell ⟨w.heap.size + 1, 0, none⟩ (.int .i64 v8)).setCell ⟨w.heap.size + 1, 1, none⟩ (.int .i64 v16)).cell? ⟨w.heap.size, 0, none⟩ = some (.int .i64 i) ∧ ((p7.setCell ⟨w.heap.size + 1, 0, none⟩ (.int .i64 v8)).setCell ⟨w.heap.size + 1, 1, none⟩ (.int .i64 v16)).frozen? ⟨w.heap.size, 0, none⟩ = false ∧ ((p7.setCell ⟨w.heap.size + 1, 0, none⟩ (.int .i64 v8)).setCell ⟨w.heap.size + 1, 1, none⟩ (.int .i64 v16)).cell? ⟨w.heap.size, 1, none⟩ = some (.string nm) ∧ ((p7.setCell ⟨w.heap.size + 1, 0, none⟩ (.int .i64 v8)).setCell ⟨w.heap.size + 1, 1, none⟩ (.int .i64 v16)).frozen? ⟨w.heap.size, 1, none⟩ = false ∧ ((p7.setCell ⟨w.heap.size + 1, 0, none⟩ (.int .i64 v8)).setCell ⟨w.heap.size + 1, 1, none⟩ (.int .i64 v16)).cell? ⟨w.heap.size, 2, none⟩ = some (.int .i64 z) ∧ ((p7.setCell ⟨w.heap.size + 1, 0, none⟩ (.int .i64 v8)).setCell ⟨w.heap.size + 1, 1, none⟩ (.int .i64 v16)).frozen? ⟨w.heap.size, 2, none⟩ = false ∧ ((p7.setCell ⟨w.heap.size + 1, 0, none⟩ (.int .i64 v8)).setCell ⟨w.heap.size + 1, 1, none⟩ (.int .i64 v16)).cell? ⟨w.heap.size, 3, none⟩ = some (.slice A xs.length c) ∧ ((p7.setCell ⟨w.heap.size + 1, 0, none⟩ (.int .i64 v8)).setCell ⟨w.heap.size + 1, 1, none⟩ (.int .i64 v16)).frozen? ⟨w.heap.size, 3, none⟩ = false by obtain ⟨y0, g0, y1, g1, y2, g2, y3, g3⟩ := X7.out; simp [go_sem, *])
          have Y8 := Lib.hid (show ((p7.setCell ⟨w.heap.size + 1, 0, none⟩ (.int .i64 v8)).setCell ⟨w.heap.size + 1, 1, none⟩ (.int .i64 v16)).cell? ⟨w.heap.size + 1, 0, none⟩ = some (.int .i64 v8) ∧ ((p7.setCell ⟨w.heap.size + 1, 0, none⟩ (.int .i64 v8)).setCell ⟨w.heap.size + 1, 1, none⟩ (.int .i64 v16)).frozen? ⟨w.heap.size + 1, 0, none⟩ = false ∧ ((p7.setCell ⟨w.heap.size + 1, 0, none⟩ (.int .i64 v8)).setCell ⟨w.heap.size + 1, 1, none⟩ (.int .i64 v16)).cell? ⟨w.heap.size + 1, 1, none⟩ = some (.int .i64 v16) ∧ ((p7.setCell ⟨w.heap.size + 1, 0, none⟩ (.int .i64 v8)).setCell ⟨w.heap.size + 1, 1, none⟩ (.int .i64 v16)).frozen? ⟨w.heap.size + 1, 1, none⟩ = false by simp [go_sem, *])
          refine hK.out _ _ (by (try dsimp only); exact E8.out) (fun hHeld => ?_)
          clear hK K
          (try simp only [Act.put, List.getElem_toArray, List.getElem_cons_zero, List.getElem_cons_succ, List.setIfInBounds_toArray, List.set_cons_zero, List.set_cons_succ])
          clear q0 f0 q1 f1
          generalize ((p7.setCell ⟨w.heap.size + 1, 0, none⟩ (.int .i64 v8)).setCell ⟨w.heap.size + 1, 1, none⟩ (.int .i64 v16)) = p8 at *
          refine wpAnyH_done (by kernel_rfl) ?_ _
          go_wp2_with fail
          obtain ⟨x0, l0, x1, l1, x2, l2, x3, l3⟩ := X8.out
          obtain ⟨y0, g0, y1, g1⟩ := Y8.out
          exact bodyPost_ret (v := .tuple #[.agg #[.int .i64 i, .string nm, .int .i64 z, .slice A xs.length c], .agg #[.int .i64 v8, .int .i64 v16]]) (by simp [results, Try.results16, go_sem, *]) rfl ⟨i, z, nm, _, xs, _, _, rfl, hnm, hxl, pairs_own O8.out, K8.out⟩
        · skip
          go_simp
          go_at_call 68
          refine (pick_any gc (((0 + 200) + 2) + 2) 24 _ C3.out (by omega) (by omega)).mono ?_
          rintro e p9 ⟨v12, rfl, ⟨va12, vb12⟩, hc9, hs9⟩
          obtain ⟨y12, hy12, hz12⟩ : ∃ y : Nat, v12 / 11 = (y : Int) ∧ y ≤ 2 := ⟨(v12 / 11).toNat, by omega, by omega⟩
          have ht12 : v12.tdiv 11 = (y12 : Int) := by rw [Int.tdiv_eq_ediv_of_nonneg (by omega)]; exact hy12
          have hw12 : IntKind.i64.wrap (y12 : Int) = (y12 : Int) := by rw [IntKind.wrap_i64]; omega
          have hv12 : IntKind.i64.wrap (3 + (y12 : Int)) = 3 + (y12 : Int) := by rw [IntKind.wrap_i64]; omega
          have ha12 : (0 : Int) ≤ 3 + (y12 : Int) := by omega
          have hb12 : 3 + (y12 : Int) ≤ 5 := by omega
          have hn12 : (3 + (y12 : Int)).toNat = 3 + y12 := by omega
          (try go_wp2_with fail)
          have E9 := Lib.hid (blk4_stir hs9 h5g E3.out)
          refine hK.out _ _ (by (try dsimp only); exact E9.out) (fun hHeld => ?_)
          clear hK K
          (try simp only [Act.put, List.getElem_toArray, List.getElem_cons_zero, List.getElem_cons_succ, List.setIfInBounds_toArray, List.set_cons_zero, List.set_cons_succ])
          have O9 := Lib.hid (hs9.own O3.out hog)
          have C9 := Lib.hid hc9
          have K9 := Lib.hid (Stir.out K3.out hs9 (by omega))
          have Z9 := Lib.hid (blk4_stir hs9 (by omega) Z3.out)
          have Y9 := Lib.hid (blk2_stir hs9 (by omega) Y3.out)
          have NI2_9 := Lib.hid (NI2_3.out.stir hs9 hg1)
          clear hc9 hs9
          refine wpAnyH_take (i := 13) (v := ?_) rfl (by kernel_rfl) (by kernel_rfl) (by kernel_rfl) (fun _ _ _ h => h) (Or.inl ⟨by kernel_rfl, ?_⟩) (by assumption) ?_
          rotate_left
          focus (intro w' hSw; (try dsimp only at hSw); obtain ⟨s0, sf0, s1, sf1, s2, sf2, s3, sf3⟩ := hSw; go_simp; (try with_reducible rfl))
          (try simp only [Act.put, List.getElem_toArray, List.getElem_cons_zero, List.getElem_cons_succ, List.setIfInBounds_toArray, List.set_cons_zero, List.set_cons_succ])
          refine wpAnyH_take (i := 14) (v := ?_) rfl (by kernel_rfl) (by kernel_rfl) (by kernel_rfl) (fun _ _ _ h => h) (Or.inl ⟨by kernel_rfl, ?_⟩) (by assumption) ?_
          rotate_left
          focus (intro w' hSw; (try dsimp only at hSw); obtain ⟨s0, sf0, s1, sf1, s2, sf2, s3, sf3⟩ := hSw; go_simp; (try with_reducible rfl))
          (try simp only [Act.put, List.getElem_toArray, List.getElem_cons_zero, List.getElem_cons_succ, List.setIfInBounds_toArray, List.set_cons_zero, List.set_cons_succ])
          refine wpAnyH_ready (rs := [10]) (by kernel_rfl) (by simp) ?_
          refine AllReadyH.cons rfl (fun K hK => ?_) (AllReadyH.nil)
          go_simp
          have ka : Kept p9 (p9.alloc (.cells #[.int .i64 (-500), .int .i64 77, .int .i64 2000, .int .i64 (-501), .int .i64 2001] 3)) := Kept.alloc (Kept.refl _) _
          have E10 := Lib.hid (blk4 ka E9.out)
          refine hK.out _ _ (by (try dsimp only); exact E10.out) (fun hHeld => ?_)
          clear hK K
          (try simp only [Act.put, List.getElem_toArray, List.getElem_cons_zero, List.getElem_cons_succ, List.setIfInBounds_toArray, List.set_cons_zero, List.set_cons_succ])
          have O10 := Lib.hid (own_kept O9.out ka)
          have C10 := Lib.hid (C9.out.kept ka)
          have K10 := Lib.hid (K9.out.trans ka)
          have Z10 := Lib.hid (blk4 ka Z9.out)
          have Y10 := Lib.hid (blk2_keep ka Y9.out)
          have NI2_10 := Lib.hid (NI2_9.out.kept ka)
          have NI10_10 := Lib.hid (NumsIn.lit (w := p9) (xs := [-500, 77, 2000, -501, 2001]) (t := 3) (n := p9.heap.size) (cs := #[.int .i64 (-500), .int .i64 77, .int .i64 2000, .int .i64 (-501), .int .i64 2001]) (by rfl) rfl)
          have hg10 : p9.heap.size ≠ gc := fun e => by have := C9.out.lt; omega
          clear ka
          generalize p9.alloc (.cells #[.int .i64 (-500), .int .i64 77, .int .i64 2000, .int .i64 (-501), .int .i64 2001] 3) = p10 at *
          refine wpAnyH_take (i := 15) (v := ?_) rfl (by kernel_rfl) (by kernel_rfl) (by kernel_rfl) (fun _ _ _ h => h) (Or.inl ⟨by kernel_rfl, ?_⟩) (by assumption) ?_
          rotate_left
          focus (intro w' hSw; (try dsimp only at hSw); obtain ⟨s0, sf0, s1, sf1, s2, sf2, s3, sf3⟩ := hSw; go_simp; (try with_reducible rfl))
          (try simp only [Act.put, List.getElem_toArray, List.getElem_cons_zero, List.getElem_cons_succ, List.setIfInBounds_toArray, List.set_cons_zero, List.set_cons_succ])
          refine wpAnyH_ready (rs := [16]) (by kernel_rfl) (by simp) ?_
          refine AllReadyH.cons rfl (fun K hK => ?_) (AllReadyH.nil)
          go_simp
          go_at_call 67
          refine (among_pre gc _ _ (3 + y12) ((((0 + 200) + 2) + 2) + 2) [-500, 77, 2000, -501, 2001] _ C10.out (by omega) NI10_10.out hg10 (by omega) (by first | (simp; done) | (simp; omega)) (by decide)).mono ?_
          rintro e p11 ⟨v16, rfl, hc11, hs11⟩
          (try go_wp2_with fail)
          have E11 := Lib.hid (blk4_stir hs11 h5g E10.out)
          refine hK.out _ _ (by (try dsimp only); exact E11.out) (fun hHeld => ?_)
          clear hK K
          (try simp only [Act.put, List.getElem_toArray, List.getElem_cons_zero, List.getElem_cons_succ, List.setIfInBounds_toArray, List.set_cons_zero, List.set_cons_succ])
          have O11 := Lib.hid (hs11.own O10.out hog)
          have C11 := Lib.hid hc11
          have K11 := Lib.hid (Stir.out K10.out hs11 (by omega))
          have Z11 := Lib.hid (blk4_stir hs11 (by omega) Z10.out)
          have Y11 := Lib.hid (blk2_stir hs11 (by omega) Y10.out)
          have NI2_11 := Lib.hid (NI2_10.out.stir hs11 hg1)
          have NI10_11 := Lib.hid (NI10_10.out.stir hs11 hg10)
          clear hc11 hs11
          refine wpAnyH_take (i := 17) (v := ?_) rfl (by kernel_rfl) (by kernel_rfl) (by kernel_rfl) (fun _ _ _ h => h) (Or.inl ⟨by kernel_rfl, ?_⟩) (by assumption) ?_
          rotate_left
          focus (intro w' hSw; (try dsimp only at hSw); obtain ⟨s0, sf0, s1, sf1, s2, sf2, s3, sf3⟩ := hSw; go_simp; (try with_reducible rfl))
          (try simp only [Act.put, List.getElem_toArray, List.getElem_cons_zero, List.getElem_cons_succ, List.setIfInBounds_toArray, List.set_cons_zero, List.set_cons_succ])
          refine wpAnyH_ready (rs := [18]) (by kernel_rfl) (by simp) ?_
          refine AllReadyH.cons rfl (fun K hK => ?_) (AllReadyH.nil)
          obtain ⟨q0, f0, q1, f1, q2, f2, q3, f3⟩ := Z11.out
          go_simp
          have E12 := Lib.hid ((blk4_set ⟨w.heap.size, 3, none⟩ (by simp; omega) (.slice A xs.length c) (blk4_set ⟨w.heap.size, 2, none⟩ (by simp; omega) (.int .i64 z) (blk4_set ⟨w.heap.size, 1, none⟩ (by simp; omega) (.string nm) (blk4_set ⟨w.heap.size, 0, none⟩ (by simp; omega) (.int .i64 i) E11.out)))))
          have K12 := Lib.hid ((Kept.setCell (Kept.setCell (Kept.setCell (Kept.setCell K11.out (p := ⟨w.heap.size, 0, none⟩) (by first | (simp; done) | (simp; omega)) (.int .i64 i)) (p := ⟨w.heap.size, 1, none⟩) (by first | (simp; done) | (simp; omega)) (.string nm)) (p := ⟨w.heap.size, 2, none⟩) (by first | (simp; done) | (simp; omega)) (.int .i64 z)) (p := ⟨w.heap.size, 3, none⟩) (by first | (simp; done) | (simp; omega)) (.slice A xs.length c)))
          have O12 := Lib.hid ((ownsRow_setCell_below (ownsRow_setCell_below (ownsRow_setCell_below (ownsRow_setCell_below O11.out (a := ⟨w.heap.size, 0, none⟩) (by simp; omega) (.int .i64 i)) (a := ⟨w.heap.size, 1, none⟩) (by simp; omega) (.string nm)) (a := ⟨w.heap.size, 2, none⟩) (by simp; omega) (.int .i64 z)) (a := ⟨w.heap.size, 3, none⟩) (by simp; omega) (.slice A xs.length c)))
          have X12 := Lib.hid (show ((((p11.setCell ⟨w.heap.size, 0, none⟩ (.int .i64 i)).setCell ⟨w.heap.size, 1, none⟩ (.string nm)).setCell ⟨w.heap.size, 2, none⟩ (.int .i64 z)).setCell ⟨w.heap.size, 3, none⟩ (.slice A xs.length c)).cell? ⟨w.heap.size, 0, none⟩ = some (.int .i64 i) ∧ ((((p11.setCell ⟨w.heap.size, 0, none⟩ (.int .i64 i)).setCell ⟨w.heap.size, 1, none⟩ (.string nm)).setCell ⟨w.heap.size, 2, none⟩ (.int .i64 z)).setCell ⟨w.heap.size, 3, none⟩ (.slice A xs.length c)).frozen? ⟨w.heap.size, 0, none⟩ = false ∧ ((((p11.setCell ⟨w.heap.size, 0, none⟩ (.int .i64 i)).setCell ⟨w.heap.size, 1, none⟩ (.string nm)).setCell ⟨w.heap.size, 2, none⟩ (.int .i64 z)).setCell ⟨w.heap.size, 3, none⟩ (.slice A xs.length c)).cell? ⟨w.heap.size, 1, none⟩ = some (.string nm) ∧ ((((p11.setCell ⟨w.heap.size, 0, none⟩ (.int .i64 i)).setCell ⟨w.heap.size, 1, none⟩ (.string nm)).setCell ⟨w.heap.size, 2, none⟩ (.int .i64 z)).setCell ⟨w.heap.size, 3, none⟩ (.slice A xs.length c)).frozen? ⟨w.heap.size, 1, none⟩ = false ∧ ((((p11.setCell ⟨w.heap.size, 0, none⟩ (.int .i64 i)).setCell ⟨w.heap.size, 1, none⟩ (.string nm)).setCell ⟨w.heap.size, 2, none⟩ (.int .i64 z)).setCell ⟨w.heap.size, 3, none⟩ (.slice A xs.length c)).cell? ⟨w.heap.size, 2, none⟩ = some (.int .i64 z) ∧ ((((p11.setCell ⟨w.heap.size, 0, none⟩ (.int .i64 i)).setCell ⟨w.heap.size, 1, none⟩ (.string nm)).setCell ⟨w.heap.size, 2, none⟩ (.int .i64 z)).setCell ⟨w.heap.size, 3, none⟩ (.slice A xs.length c)).frozen? ⟨w.heap.size, 2, none⟩ = false ∧ ((((p11.setCell ⟨w.heap.size, 0, none⟩ (.int .i64 i)).setCell ⟨w.heap.size, 1, none⟩ (.string nm)).setCell ⟨w.heap.size, 2, none⟩ (.int .i64 z)).setCell ⟨w.heap.size, 3, none⟩ (.slice A xs.length c)).cell? ⟨w.heap.size, 3, none⟩ = some (.slice A xs.length c) ∧ ((((p11.setCell ⟨w.heap.size, 0, none⟩ (.int .i64 i)).setCell ⟨w.heap.size, 1, none⟩ (.string nm)).setCell ⟨w.heap.size, 2, none⟩ (.int .i64 z)).setCell ⟨w.heap.size, 3, none⟩ (.slice A xs.length c)).frozen? ⟨w.heap.size, 3, none⟩ = false by simp [go_sem, *])
          have Y12 := Lib.hid (show ((((p11.setCell ⟨w.heap.size, 0, none⟩ (.int .i64 i)).setCell ⟨w.heap.size, 1, none⟩ (.string nm)).setCell ⟨w.heap.size, 2, none⟩ (.int .i64 z)).setCell ⟨w.heap.size, 3, none⟩ (.slice A xs.length c)).cell? ⟨w.heap.size + 1, 0, none⟩ = some (.int .i64 0) ∧ ((((p11.setCell ⟨w.heap.size, 0, none⟩ (.int .i64 i)).setCell ⟨w.heap.size, 1, none⟩ (.string nm)).setCell ⟨w.heap.size, 2, none⟩ (.int .i64 z)).setCell ⟨w.heap.size, 3, none⟩ (.slice A xs.length c)).frozen? ⟨w.heap.size + 1, 0, none⟩ = false ∧ ((((p11.setCell ⟨w.heap.size, 0, none⟩ (.int .i64 i)).setCell ⟨w.heap.size, 1, none⟩ (.string nm)).setCell ⟨w.heap.size, 2, none⟩ (.int .i64 z)).setCell ⟨w.heap.size, 3, none⟩ (.slice A xs.length c)).cell? ⟨w.heap.size + 1, 1, none⟩ = some (.int .i64 0) ∧ ((((p11.setCell ⟨w.heap.size, 0, none⟩ (.int .i64 i)).setCell ⟨w.heap.size, 1, none⟩ (.string nm)).setCell ⟨w.heap.size, 2, none⟩ (.int .i64 z)).setCell ⟨w.heap.size, 3, none⟩ (.slice A xs.length c)).frozen? ⟨w.heap.size + 1, 1, none⟩ = false by obtain ⟨y0, g0, y1, g1⟩ := Y11.out; simp [go_sem, *])
          refine hK.out _ _ (by (try dsimp only); exact E12.out) (fun hHeld => ?_)
          clear hK K
          (try simp only [Act.put, List.getElem_toArray, List.getElem_cons_zero, List.getElem_cons_succ, List.setIfInBounds_toArray, List.set_cons_zero, List.set_cons_succ])
          clear q0 f0 q1 f1 q2 f2 q3 f3
          generalize ((((p11.setCell ⟨w.heap.size, 0, none⟩ (.int .i64 i)).setCell ⟨w.heap.size, 1, none⟩ (.string nm)).setCell ⟨w.heap.size, 2, none⟩ (.int .i64 z)).setCell ⟨w.heap.size, 3, none⟩ (.slice A xs.length c)) = p12 at *
          refine wpAnyH_ready (rs := [19]) (by kernel_rfl) (by simp) ?_
          refine AllReadyH.cons rfl (fun K hK => ?_) (AllReadyH.nil)
          obtain ⟨q0, f0, q1, f1⟩ := Y12.out
          go_simp
          have E13 := Lib.hid ((blk4_set ⟨w.heap.size + 1, 1, none⟩ (by simp; omega) (.int .i64 v16) (blk4_set ⟨w.heap.size + 1, 0, none⟩ (by simp; omega) (.int .i64 v8) E12.out)))
          have K13 := Lib.hid ((Kept.setCell (Kept.setCell K12.out (p := ⟨w.heap.size + 1, 0, none⟩) (by first | (simp; done) | (simp; omega)) (.int .i64 v8)) (p := ⟨w.heap.size + 1, 1, none⟩) (by first | (simp; done) | (simp; omega)) (.int .i64 v16)))
          have O13 := Lib.hid ((ownsRow_setCell_below (ownsRow_setCell_below O12.out (a := ⟨w.heap.size + 1, 0, none⟩) (by simp; omega) (.int .i64 v8)) (a := ⟨w.heap.size + 1, 1, none⟩) (by simp; omega) (.int .i64 v16)))
          have X13 := Lib.hid (show ((p12.setCell ⟨w.heap.size + 1, 0, none⟩ (.int .i64 v8)).setCell ⟨w.heap.size + 1, 1, none⟩ (.int .i64 v16)).cell? ⟨w.heap.size, 0, none⟩ = some (.int .i64 i) ∧ ((p12.setCell ⟨w.heap.size + 1, 0, none⟩ (.int .i64 v8)).setCell ⟨w.heap.size + 1, 1, none⟩ (.int .i64 v16)).frozen? ⟨w.heap.size, 0, none⟩ = false ∧ ((p12.setCell ⟨w.heap.size + 1, 0, none⟩ (.int .i64 v8)).setCell ⟨w.heap.size + 1, 1, none⟩ (.int .i64 v16)).cell? ⟨w.heap.size, 1, none⟩ = some (.string nm) ∧ ((p12.setCell ⟨w.heap.size + 1, 0, none⟩ (.int .i64 v8)).setCell ⟨w.heap.size + 1, 1, none⟩ (.int .i64 v16)).frozen? ⟨w.heap.size, 1, none⟩ = false ∧ ((p12.setCell ⟨w.heap.size + 1, 0, none⟩ (.int .i64 v8)).setCell ⟨w.heap.size + 1, 1, none⟩ (.int .i64 v16)).cell? ⟨w.heap.size, 2, none⟩ = some (.int .i64 z) ∧ ((p12.setCell ⟨w.heap.size + 1, 0, none⟩ (.int .i64 v8)).setCell ⟨w.heap.size + 1, 1, none⟩ (.int .i64 v16)).frozen? ⟨w.heap.size, 2, none⟩ = false ∧ ((p12.setCell ⟨w.heap.size + 1, 0, none⟩ (.int .i64 v8)).setCell ⟨w.heap.size + 1, 1, none⟩ (.int .i64 v16)).cell? ⟨w.heap.size, 3, none⟩ = some (.slice A xs.length c) ∧ ((p12.setCell ⟨w.heap.size + 1, 0, none⟩ (.int .i64 v8)).setCell ⟨w.heap.size + 1, 1, none⟩ (.int .i64 v16)).frozen? ⟨w.heap.size, 3, none⟩ = false by obtain ⟨y0, g0, y1, g1, y2, g2, y3, g3⟩ := X12.out; simp [go_sem, *])
          have Y13 := Lib.hid (show ((p12.setCell ⟨w.heap.size + 1, 0, none⟩ (.int .i64 v8)).setCell ⟨w.heap.size + 1, 1, none⟩ (.int .i64 v16)).cell? ⟨w.heap.size + 1, 0, none⟩ = some (.int .i64 v8) ∧ ((p12.setCell ⟨w.heap.size + 1, 0, none⟩ (.int .i64 v8)).setCell ⟨w.heap.size + 1, 1, none⟩ (.int .i64 v16)).frozen? ⟨w.heap.size + 1, 0, none⟩ = false ∧ ((p12.setCell ⟨w.heap.size + 1, 0, none⟩ (.int .i64 v8)).setCell ⟨w.heap.size + 1, 1, none⟩ (.int .i64 v16)).cell? ⟨w.heap.size + 1, 1, none⟩ = some (.int .i64 v16) ∧ ((p12.setCell ⟨w.heap.size + 1, 0, none⟩ (.int .i64 v8)).setCell ⟨w.heap.size + 1, 1, none⟩ (.int .i64 v16)).frozen? ⟨w.heap.size + 1, 1, none⟩ = false by simp [go_sem, *])
          refine hK.out _ _ (by (try dsimp only); exact E13.out) (fun hHeld => ?_)
          clear hK K
          (try simp only [Act.put, List.getElem_toArray, List.getElem_cons_zero, List.getElem_cons_succ, List.setIfInBounds_toArray, List.set_cons_zero, List.set_cons_succ])
          clear q0 f0 q1 f1
          generalize ((p12.setCell ⟨w.heap.size + 1, 0, none⟩ (.int .i64 v8)).setCell ⟨w.heap.size + 1, 1, none⟩ (.int .i64 v16)) = p13 at *
          refine wpAnyH_done (by kernel_rfl) ?_ _
          go_wp2_with fail
          obtain ⟨x0, l0, x1, l1, x2, l2, x3, l3⟩ := X13.out
          obtain ⟨y0, g0, y1, g1⟩ := Y13.out
          exact bodyPost_ret (v := .tuple #[.agg #[.int .i64 i, .string nm, .int .i64 z, .slice A xs.length c], .agg #[.int .i64 v8, .int .i64 v16]]) (by simp [results, Try.results16, go_sem, *]) rfl ⟨i, z, nm, _, xs, _, _, rfl, hnm, hxl, pairs_own O13.out, K13.out⟩
      · skip
        go_simp
        have ka : Kept p2 (p2.alloc (.cells #[.int .i64 (-500), .int .i64 77, .int .i64 2000, .int .i64 (-501), .int .i64 2001] 3)) := Kept.alloc (Kept.refl _) _
        have E14 := Lib.hid (blk4 ka E2.out)
        refine hK.out _ _ (by (try dsimp only); exact E14.out) (fun hHeld => ?_)
        clear hK K
        (try simp only [Act.put, List.getElem_toArray, List.getElem_cons_zero, List.getElem_cons_succ, List.setIfInBounds_toArray, List.set_cons_zero, List.set_cons_succ])
        have O14 := Lib.hid (own_kept O2.out ka)
        have C14 := Lib.hid (C2.out.kept ka)
        have K14 := Lib.hid (K2.out.trans ka)
        have Z14 := Lib.hid (blk4 ka Z2.out)
        have Y14 := Lib.hid (blk2_keep ka Y2.out)
        have NI2_14 := Lib.hid (NI2_2.out.kept ka)
        have NI10_14 := Lib.hid (NumsIn.lit (w := p2) (xs := [-500, 77, 2000, -501, 2001]) (t := 3) (n := p2.heap.size) (cs := #[.int .i64 (-500), .int .i64 77, .int .i64 2000, .int .i64 (-501), .int .i64 2001]) (by rfl) rfl)
        have hg14 : p2.heap.size ≠ gc := fun e => by have := C2.out.lt; omega
        clear ka
        generalize p2.alloc (.cells #[.int .i64 (-500), .int .i64 77, .int .i64 2000, .int .i64 (-501), .int .i64 2001] 3) = p14 at *
        refine wpAnyH_ready (rs := [8]) (by kernel_rfl) (by simp) ?_
        refine AllReadyH.cons rfl (fun K hK => ?_) (AllReadyH.nil)
        go_simp
        go_at_call 67
        refine (among_pre gc _ _ (6 + y4) ((0 + 200) + 2) [0, 10, 15, 20, 620, 10000, -1, 10001] _ C14.out (by omega) NI2_14.out hg1 (by omega) (by first | (simp; done) | (simp; omega)) (by decide)).mono ?_
        rintro e p15 ⟨v8, rfl, hc15, hs15⟩
        (try go_wp2_with fail)
        have E15 := Lib.hid (blk4_stir hs15 h5g E14.out)
        refine hK.out _ _ (by (try dsimp only); exact E15.out) (fun hHeld => ?_)
        clear hK K
        (try simp only [Act.put, List.getElem_toArray, List.getElem_cons_zero, List.getElem_cons_succ, List.setIfInBounds_toArray, List.set_cons_zero, List.set_cons_succ])
        have O15 := Lib.hid (hs15.own O14.out hog)
        have C15 := Lib.hid hc15
        have K15 := Lib.hid (Stir.out K14.out hs15 (by omega))
        have Z15 := Lib.hid (blk4_stir hs15 (by omega) Z14.out)
        have Y15 := Lib.hid (blk2_stir hs15 (by omega) Y14.out)
        have NI2_15 := Lib.hid (NI2_14.out.stir hs15 hg1)
        have NI10_15 := Lib.hid (NI10_14.out.stir hs15 hg14)
        clear hc15 hs15
        refine wpAnyH_ready (rs := [12]) (by kernel_rfl) (by simp) ?_
        refine AllReadyH.cons rfl (fun K hK => ?_) (AllReadyH.nil)
        go_simp
        go_at_call 68
        refine (pick_any gc (((0 + 200) + 2) + 2) 24 _ C15.out (by omega) (by omega)).mono ?_
        rintro e p16 ⟨v12, rfl, ⟨va12, vb12⟩, hc16, hs16⟩
        obtain ⟨y12, hy12, hz12⟩ : ∃ y : Nat, v12 / 11 = (y : Int) ∧ y ≤ 2 := ⟨(v12 / 11).toNat, by omega, by omega⟩
        have ht12 : v12.tdiv 11 = (y12 : Int) := by rw [Int.tdiv_eq_ediv_of_nonneg (by omega)]; exact hy12
        have hw12 : IntKind.i64.wrap (y12 : Int) = (y12 : Int) := by rw [IntKind.wrap_i64]; omega
        have hv12 : IntKind.i64.wrap (3 + (y12 : Int)) = 3 + (y12 : Int) := by rw [IntKind.wrap_i64]; omega
        have ha12 : (0 : Int) ≤ 3 + (y12 : Int) := by omega
        have hb12 : 3 + (y12 : Int) ≤ 5 := by omega
        have hn12 : (3 + (y12 : Int)).toNat = 3 + y12 := by omega
        (try go_wp2_with fail)
        have E16 := Lib.hid (blk4_stir hs16 h5g E15.out)
        refine hK.out _ _ (by (try dsimp only); exact E16.out) (fun hHeld => ?_)
        clear hK K
        (try simp only [Act.put, List.getElem_toArray, List.getElem_cons_zero, List.getElem_cons_succ, List.setIfInBounds_toArray, List.set_cons_zero, List.set_cons_succ])
        have O16 := Lib.hid (hs16.own O15.out hog)
        have C16 := Lib.hid hc16
        have K16 := Lib.hid (Stir.out K15.out hs16 (by omega))
        have Z16 := Lib.hid (blk4_stir hs16 (by omega) Z15.out)
        have Y16 := Lib.hid (blk2_stir hs16 (by omega) Y15.out)
        have NI2_16 := Lib.hid (NI2_15.out.stir hs16 hg1)
        have NI10_16 := Lib.hid (NI10_15.out.stir hs16 hg14)
        clear hc16 hs16
        refine wpAnyH_take (i := 13) (v := ?_) rfl (by kernel_rfl) (by kernel_rfl) (by kernel_rfl) (fun _ _ _ h => h) (Or.inl ⟨by kernel_rfl, ?_⟩) (by assumption) ?_
        rotate_left
        focus (intro w' hSw; (try dsimp only at hSw); obtain ⟨s0, sf0, s1, sf1, s2, sf2, s3, sf3⟩ := hSw; go_simp; (try with_reducible rfl))
        (try simp only [Act.put, List.getElem_toArray, List.getElem_cons_zero, List.getElem_cons_succ, List.setIfInBounds_toArray, List.set_cons_zero, List.set_cons_succ])
        refine wpAnyH_take (i := 14) (v := ?_) rfl (by kernel_rfl) (by kernel_rfl) (by kernel_rfl) (fun _ _ _ h => h) (Or.inl ⟨by kernel_rfl, ?_⟩) (by assumption) ?_
        rotate_left
        focus (intro w' hSw; (try dsimp only at hSw); obtain ⟨s0, sf0, s1, sf1, s2, sf2, s3, sf3⟩ := hSw; go_simp; (try with_reducible rfl))
        (try simp only [Act.put, List.getElem_toArray, List.getElem_cons_zero, List.getElem_cons_succ, List.setIfInBounds_toArray, List.set_cons_zero, List.set_cons_succ])
        refine wpAnyH_take (i := 15) (v := ?_) rfl (by kernel_rfl) (by kernel_rfl) (by kernel_rfl) (fun _ _ _ h => h) (Or.inl ⟨by kernel_rfl, ?_⟩) (by assumption) ?_
        rotate_left
        focus (intro w' hSw; (try dsimp only at hSw); obtain ⟨s0, sf0, s1, sf1, s2, sf2, s3, sf3⟩ := hSw; go_simp; (try with_reducible rfl))
        (try simp only [Act.put, List.getElem_toArray, List.getElem_cons_zero, List.getElem_cons_succ, List.setIfInBounds_toArray, List.set_cons_zero, List.set_cons_succ])
        refine wpAnyH_ready (rs := [16]) (by kernel_rfl) (by simp) ?_
        refine AllReadyH.cons rfl (fun K hK => ?_) (AllReadyH.nil)
        go_simp
        go_at_call 67
        refine (among_pre gc _ _ (3 + y12) ((((0 + 200) + 2) + 2) + 2) [-500, 77, 2000, -501, 2001] _ C16.out (by omega) NI10_16.out hg14 (by omega) (by first | (simp; done) | (simp; omega)) (by decide)).mono ?_
        rintro e p17 ⟨v16, rfl, hc17, hs17⟩
        (try go_wp2_with fail)
        have E17 := Lib.hid (blk4_stir hs17 h5g E16.out)
        refine hK.out _ _ (by (try dsimp only); exact E17.out) (fun hHeld => ?_)
        clear hK K
        (try simp only [Act.put, List.getElem_toArray, List.getElem_cons_zero, List.getElem_cons_succ, List.setIfInBounds_toArray, List.set_cons_zero, List.set_cons_succ])
        have O17 := Lib.hid (hs17.own O16.out hog)
        have C17 := Lib.hid hc17
        have K17 := Lib.hid (Stir.out K16.out hs17 (by omega))
        have Z17 := Lib.hid (blk4_stir hs17 (by omega) Z16.out)
        have Y17 := Lib.hid (blk2_stir hs17 (by omega) Y16.out)
        have NI2_17 := Lib.hid (NI2_16.out.stir hs17 hg1)
        have NI10_17 := Lib.hid (NI10_16.out.stir hs17 hg14)
        clear hc17 hs17
        refine wpAnyH_take (i := 17) (v := ?_) rfl (by kernel_rfl) (by kernel_rfl) (by kernel_rfl) (fun _ _ _ h => h) (Or.inl ⟨by kernel_rfl, ?_⟩) (by assumption) ?_
        rotate_left
        focus (intro w' hSw; (try dsimp only at hSw); obtain ⟨s0, sf0, s1, sf1, s2, sf2, s3, sf3⟩ := hSw; go_simp; (try with_reducible rfl))
        (try simp only [Act.put, List.getElem_toArray, List.getElem_cons_zero, List.getElem_cons_succ, List.setIfInBounds_toArray, List.set_cons_zero, List.set_cons_succ])
        refine wpAnyH_ready (rs := [18]) (by kernel_rfl) (by simp) ?_
        refine AllReadyH.cons rfl (fun K hK => ?_) (AllReadyH.nil)
        obtain ⟨q0, f0, q1, f1, q2, f2, q3, f3⟩ := Z17.out
        go_simp
        have E18 := Lib.hid ((blk4_set ⟨w.heap.size, 3, none⟩ (by simp; omega) (.slice A xs.length c) (blk4_set ⟨w.heap.size, 2, none⟩ (by simp; omega) (.int .i64 z) (blk4_set ⟨w.heap.size, 1, none⟩ (by simp; omega) (.string nm) (blk4_set ⟨w.heap.size, 0, none⟩ (by simp; omega) (.int .i64 i) E17.out)))))
        have K18 := Lib.hid ((Kept.setCell (Kept.setCell (Kept.setCell (Kept.setCell K17.out (p := ⟨w.heap.size, 0, none⟩) (by first | (simp; done) | (simp; omega)) (.int .i64 i)) (p := ⟨w.heap.size, 1, none⟩) (by first | (simp; done) | (simp; omega)) (.string nm)) (p := ⟨w.heap.size, 2, none⟩) (by first | (simp; done) | (simp; omega)) (.int .i64 z)) (p := ⟨w.heap.size, 3, none⟩) (by first | (simp; done) | (simp; omega)) (.slice A xs.length c)))
        have O18 := Lib.hid ((ownsRow_setCell_below (ownsRow_setCell_below (ownsRow_setCell_below (ownsRow_setCell_below O17.out (a := ⟨w.heap.size, 0, none⟩) (by simp; omega) (.int .i64 i)) (a := ⟨w.heap.size, 1, none⟩) (by simp; omega) (.string nm)) (a := ⟨w.heap.size, 2, none⟩) (by simp; omega) (.int .i64 z)) (a := ⟨w.heap.size, 3, none⟩) (by simp; omega) (.slice A xs.length c)))
        have X18 := Lib.hid (show ((((p17.setCell ⟨w.heap.size, 0, none⟩ (.int .i64 i)).setCell ⟨w.heap.size, 1, none⟩ (.string nm)).setCell ⟨w.heap.size, 2, none⟩ (.int .i64 z)).setCell ⟨w.heap.size, 3, none⟩ (.slice A xs.length c)).cell? ⟨w.heap.size, 0, none⟩ = some (.int .i64 i) ∧ ((((p17.setCell ⟨w.heap.size, 0, none⟩ (.int .i64 i)).setCell ⟨w.heap.size, 1, none⟩ (.string nm)).setCell ⟨w.heap.size, 2, none⟩ (.int .i64 z)).setCell ⟨w.heap.size, 3, none⟩ (.slice A xs.length c)).frozen? ⟨w.heap.size, 0, none⟩ = false ∧ ((((p17.setCell ⟨w.heap.size, 0, none⟩ (.int .i64 i)).setCell ⟨w.heap.size, 1, none⟩ (.string nm)).setCell ⟨w.heap.size, 2, none⟩ (.int .i64 z)).setCell ⟨w.heap.size, 3, none⟩ (.slice A xs.length c)).cell? ⟨w.heap.size, 1, none⟩ = some (.string nm) ∧ ((((p17.setCell ⟨w.heap.size, 0, none⟩ (.int .i64 i)).setCell ⟨w.heap.size, 1, none⟩ (.string nm)).setCell ⟨w.heap.size, 2, none⟩ (.int .i64 z)).setCell ⟨w.heap.size, 3, none⟩ (.slice A xs.length c)).frozen? ⟨w.heap.size, 1, none⟩ = false ∧ ((((p17.setCell ⟨w.heap.size, 0, none⟩ (.int .i64 i)).setCell ⟨w.heap.size, 1, none⟩ (.string nm)).setCell ⟨w.heap.size, 2, none⟩ (.int .i64 z)).setCell ⟨w.heap.size, 3, none⟩ (.slice A xs.length c)).cell? ⟨w.heap.size, 2, none⟩ = some (.int .i64 z) ∧ ((((p17.setCell ⟨w.heap.size, 0, none⟩ (.int .i64 i)).setCell ⟨w.heap.size, 1, none⟩ (.string nm)).setCell ⟨w.heap.size, 2, none⟩ (.int .i64 z)).setCell ⟨w.heap.size, 3, none⟩ (.slice A xs.length c)).frozen? ⟨w.heap.size, 2, none⟩ = false ∧ ((((p17.setCell ⟨w.heap.size, 0, none⟩ (.int .i64 i)).setCell ⟨w.heap.size, 1, none⟩ (.string nm)).setCell ⟨w.heap.size, 2, none⟩ (.int .i64 z)).setCell ⟨w.heap.size, 3, none⟩ (.slice A xs.length c)).cell? ⟨w.heap.size, 3, none⟩ = some (.slice A xs.length c) ∧ ((((p17.setCell ⟨w.heap.size, 0, none⟩ (.int .i64 i)).setCell ⟨w.heap.size, 1, none⟩ (.string nm)).setCell ⟨w.heap.size, 2, none⟩ (.int .i64 z)).setCell ⟨w.heap.size, 3, none⟩ (.slice A xs.length c)).frozen? ⟨w.heap.size, 3, none⟩ = false by simp [go_sem, *])
        have Y18 := Lib.hid (show ((((p17.setCell ⟨w.heap.size, 0, none⟩ (.int .i64 i)).setCell ⟨w.heap.size, 1, none⟩ (.string nm)).setCell ⟨w.heap.size, 2, none⟩ (.int .i64 z)).setCell ⟨w.heap.size, 3, none⟩ (.slice A xs.length c)).cell? ⟨w.heap.size + 1, 0, none⟩ = some (.int .i64 0) ∧ ((((p17.setCell ⟨w.heap.size, 0, none⟩ (.int .i64 i)).setCell ⟨w.heap.size, 1, none⟩ (.string nm)).setCell ⟨w.heap.size, 2, none⟩ (.int .i64 z)).setCell ⟨w.heap.size, 3, none⟩ (.slice A xs.length c)).frozen? ⟨w.heap.size + 1, 0, none⟩ = false ∧ ((((p17.setCell ⟨w.heap.size, 0, none⟩ (.int .i64 i)).setCell ⟨w.heap.size, 1, none⟩ (.string nm)).setCell ⟨w.heap.size, 2, none⟩ (.int .i64 z)).setCell ⟨w.heap.size, 3, none⟩ (.slice A xs.length c)).cell? ⟨w.heap.size + 1, 1, none⟩ = some (.int .i64 0) ∧ ((((p17.setCell ⟨w.heap.size, 0, none⟩ (.int .i64 i)).setCell ⟨w.heap.size, 1, none⟩ (.string nm)).setCell ⟨w.heap.size, 2, none⟩ (.int .i64 z)).setCell ⟨w.heap.size, 3, none⟩ (.slice A xs.length c)).frozen? ⟨w.heap.size + 1, 1, none⟩ = false by obtain ⟨y0, g0, y1, g1⟩ := Y17.out; simp [go_sem, *])
        refine hK.out _ _ (by (try dsimp only); exact E18.out) (fun hHeld => ?_)
        clear hK K
        (try simp only [Act.put, List.getElem_toArray, List.getElem_cons_zero, List.getElem_cons_succ, List.setIfInBounds_toArray, List.set_cons_zero, List.set_cons_succ])
        clear q0 f0 q1 f1 q2 f2 q3 f3
        generalize ((((p17.setCell ⟨w.heap.size, 0, none⟩ (.int .i64 i)).setCell ⟨w.heap.size, 1, none⟩ (.string nm)).setCell ⟨w.heap.size, 2, none⟩ (.int .i64 z)).setCell ⟨w.heap.size, 3, none⟩ (.slice A xs.length c)) = p18 at *
        refine wpAnyH_ready (rs := [19]) (by kernel_rfl) (by simp) ?_
        refine AllReadyH.cons rfl (fun K hK => ?_) (AllReadyH.nil)
        obtain ⟨q0, f0, q1, f1⟩ := Y18.out
        go_simp
        have E19 := Lib.hid ((blk4_set ⟨w.heap.size + 1, 1, none⟩ (by simp; omega) (.int .i64 v16) (blk4_set ⟨w.heap.size + 1, 0, none⟩ (by simp; omega) (.int .i64 v8) E18.out)))
        have K19 := Lib.hid ((Kept.setCell (Kept.setCell K18.out (p := ⟨w.heap.size + 1, 0, none⟩) (by first | (simp; done) | (simp; omega)) (.int .i64 v8)) (p := ⟨w.heap.size + 1, 1, none⟩) (by first | (simp; done) | (simp; omega)) (.int .i64 v16)))
        have O19 := Lib.hid ((ownsRow_setCell_below (ownsRow_setCell_below O18.out (a := ⟨w.heap.size + 1, 0, none⟩) (by simp; omega) (.int .i64 v8)) (a := ⟨w.heap.size + 1, 1, none⟩) (by simp; omega) (.int .i64 v16)))
        have X19 := Lib.hid (show ((p18.setCell ⟨w.heap.size + 1, 0, none⟩ (.int .i64 v8)).setCell ⟨w.heap.size + 1, 1, none⟩ (.int .i64 v16)).cell? ⟨w.heap.size, 0, none⟩ = some (.int .i64 i) ∧ ((p18.setCell ⟨w.heap.size + 1, 0, none⟩ (.int .i64 v8)).setCell ⟨w.heap.size + 1, 1, none⟩ (.int .i64 v16)).frozen? ⟨w.heap.size, 0, none⟩ = false ∧ ((p18.setCell ⟨w.heap.size + 1, 0, none⟩ (.int .i64 v8)).setCell ⟨w.heap.size + 1, 1, none⟩ (.int .i64 v16)).cell? ⟨w.heap.size, 1, none⟩ = some (.string nm) ∧ ((p18.setCell ⟨w.heap.size + 1, 0, none⟩ (.int .i64 v8)).setCell ⟨w.heap.size + 1, 1, none⟩ (.int .i64 v16)).frozen? ⟨w.heap.size, 1, none⟩ = false ∧ ((p18.setCell ⟨w.heap.size + 1, 0, none⟩ (.int .i64 v8)).setCell ⟨w.heap.size + 1, 1, none⟩ (.int .i64 v16)).cell? ⟨w.heap.size, 2, none⟩ = some (.int .i64 z) ∧ ((p18.setCell ⟨w.heap.size + 1, 0, none⟩ (.int .i64 v8)).setCell ⟨w.heap.size + 1, 1, none⟩ (.int .i64 v16)).frozen? ⟨w.heap.size, 2, none⟩ = false ∧ ((p18.setCell ⟨w.heap.size + 1, 0, none⟩ (.int .i64 v8)).setCell ⟨w.heap.size + 1, 1, none⟩ (.int .i64 v16)).cell? ⟨w.heap.size, 3, none⟩ = some (.slice A xs.length c) ∧ ((p18.setCell ⟨w.heap.size + 1, 0, none⟩ (.int .i64 v8)).setCell ⟨w.heap.size + 1, 1, none⟩ (.int .i64 v16)).frozen? ⟨w.heap.size, 3, none⟩ = false by obtain ⟨y0, g0, y1, g1, y2, g2, y3, g3⟩ := X18.out; simp [go_sem, *])
        have Y19 := Lib.hid (show ((p18.setCell ⟨w.heap.size + 1, 0, none⟩ (.int .i64 v8)).setCell ⟨w.heap.size + 1, 1, none⟩ (.int .i64 v16)).cell? ⟨w.heap.size + 1, 0, none⟩ = some (.int .i64 v8) ∧ ((p18.setCell ⟨w.heap.size + 1, 0, none⟩ (.int .i64 v8)).setCell ⟨w.heap.size + 1, 1, none⟩ (.int .i64 v16)).frozen? ⟨w.heap.size + 1, 0, none⟩ = false ∧ ((p18.setCell ⟨w.heap.size + 1, 0, none⟩ (.int .i64 v8)).setCell ⟨w.heap.size + 1, 1, none⟩ (.int .i64 v16)).cell? ⟨w.heap.size + 1, 1, none⟩ = some (.int .i64 v16) ∧ ((p18.setCell ⟨w.heap.size + 1, 0, none⟩ (.int .i64 v8)).setCell ⟨w.heap.size + 1, 1, none⟩ (.int .i64 v16)).frozen? ⟨w.heap.size + 1, 1, none⟩ = false by simp [go_sem, *])
        refine hK.out _ _ (by (try dsimp only); exact E19.out) (fun hHeld => ?_)
        clear hK K
        (try simp only [Act.put, List.getElem_toArray, List.getElem_cons_zero, List.getElem_cons_succ, List.setIfInBounds_toArray, List.set_cons_zero, List.set_cons_succ])
        clear q0 f0 q1 f1
        generalize ((p18.setCell ⟨w.heap.size + 1, 0, none⟩ (.int .i64 v8)).setCell ⟨w.heap.size + 1, 1, none⟩ (.int .i64 v16)) = p19 at *
        refine wpAnyH_done (by kernel_rfl) ?_ _
        go_wp2_with fail
        obtain ⟨x0, l0, x1, l1, x2, l2, x3, l3⟩ := X19.out
        obtain ⟨y0, g0, y1, g1⟩ := Y19.out
        exact bodyPost_ret (v := .tuple #[.agg #[.int .i64 i, .string nm, .int .i64 z, .slice A xs.length c], .agg #[.int .i64 v8, .int .i64 v16]]) (by simp [results, Try.results16, go_sem, *]) rfl ⟨i, z, nm, _, xs, _, _, rfl, hnm, hxl, pairs_own O19.out, K19.out⟩
    · skip
      go_simp
      have ka : Kept p1 (p1.alloc (.cells #[.int .i64 (-500), .int .i64 77, .int .i64 2000, .int .i64 (-501), .int .i64 2001] 3)) := Kept.alloc (Kept.refl _) _
      have E20 := Lib.hid (blk4 ka E1.out)
      refine hK.out _ _ (by (try dsimp only); exact E20.out) (fun hHeld => ?_)
      clear hK K
      (try simp only [Act.put, List.getElem_toArray, List.getElem_cons_zero, List.getElem_cons_succ, List.setIfInBounds_toArray, List.set_cons_zero, List.set_cons_succ])
      have O20 := Lib.hid (own_kept O1.out ka)
      have C20 := Lib.hid (C1.out.kept ka)
      have K20 := Lib.hid (K1.out.trans ka)
      have Z20 := Lib.hid (blk4 ka Z1.out)
      have Y20 := Lib.hid (blk2_keep ka Y1.out)
      have NI2_20 := Lib.hid (NI2_1.out.kept ka)
      have NI10_20 := Lib.hid (NumsIn.lit (w := p1) (xs := [-500, 77, 2000, -501, 2001]) (t := 3) (n := p1.heap.size) (cs := #[.int .i64 (-500), .int .i64 77, .int .i64 2000, .int .i64 (-501), .int .i64 2001]) (by rfl) rfl)
      have hg20 : p1.heap.size ≠ gc := fun e => by have := C1.out.lt; omega
      clear ka
      generalize p1.alloc (.cells #[.int .i64 (-500), .int .i64 77, .int .i64 2000, .int .i64 (-501), .int .i64 2001] 3) = p20 at *
      refine wpAnyH_ready (rs := [4]) (by kernel_rfl) (by simp) ?_
      refine AllReadyH.cons rfl (fun K hK => ?_) (AllReadyH.nil)
      go_simp
      go_at_call 68
      refine (pick_any gc (0 + 200) 24 _ C20.out (by omega) (by omega)).mono ?_
      rintro e p21 ⟨v4, rfl, ⟨va4, vb4⟩, hc21, hs21⟩
      obtain ⟨y4, hy4, hz4⟩ : ∃ y : Nat, v4 / 11 = (y : Int) ∧ y ≤ 2 := ⟨(v4 / 11).toNat, by omega, by omega⟩
      have ht4 : v4.tdiv 11 = (y4 : Int) := by rw [Int.tdiv_eq_ediv_of_nonneg (by omega)]; exact hy4
      have hw4 : IntKind.i64.wrap (y4 : Int) = (y4 : Int) := by rw [IntKind.wrap_i64]; omega
      have hv4 : IntKind.i64.wrap (6 + (y4 : Int)) = 6 + (y4 : Int) := by rw [IntKind.wrap_i64]; omega
      have ha4 : (0 : Int) ≤ 6 + (y4 : Int) := by omega
      have hb4 : 6 + (y4 : Int) ≤ 8 := by omega
      have hn4 : (6 + (y4 : Int)).toNat = 6 + y4 := by omega
      (try go_wp2_with fail)
      have E21 := Lib.hid (blk4_stir hs21 h5g E20.out)
      refine hK.out _ _ (by (try dsimp only); exact E21.out) (fun hHeld => ?_)
      clear hK K
      (try simp only [Act.put, List.getElem_toArray, List.getElem_cons_zero, List.getElem_cons_succ, List.setIfInBounds_toArray, List.set_cons_zero, List.set_cons_succ])
      have O21 := Lib.hid (hs21.own O20.out hog)
      have C21 := Lib.hid hc21
      have K21 := Lib.hid (Stir.out K20.out hs21 (by omega))
      have Z21 := Lib.hid (blk4_stir hs21 (by omega) Z20.out)
      have Y21 := Lib.hid (blk2_stir hs21 (by omega) Y20.out)
      have NI2_21 := Lib.hid (NI2_20.out.stir hs21 hg1)
      have NI10_21 := Lib.hid (NI10_20.out.stir hs21 hg20)
      clear hc21 hs21
      refine wpAnyH_take (i := 5) (v := ?_) rfl (by kernel_rfl) (by kernel_rfl) (by kernel_rfl) (fun _ _ _ h => h) (Or.inl ⟨by kernel_rfl, ?_⟩) (by assumption) ?_
      rotate_left
      focus (intro w' hSw; (try dsimp only at hSw); obtain ⟨s0, sf0, s1, sf1, s2, sf2, s3, sf3⟩ := hSw; go_simp; (try with_reducible rfl))
      (try simp only [Act.put, List.getElem_toArray, List.getElem_cons_zero, List.getElem_cons_succ, List.setIfInBounds_toArray, List.set_cons_zero, List.set_cons_succ])
      refine wpAnyH_take (i := 6) (v := ?_) rfl (by kernel_rfl) (by kernel_rfl) (by kernel_rfl) (fun _ _ _ h => h) (Or.inl ⟨by kernel_rfl, ?_⟩) (by assumption) ?_
      rotate_left
      focus (intro w' hSw; (try dsimp only at hSw); obtain ⟨s0, sf0, s1, sf1, s2, sf2, s3, sf3⟩ := hSw; go_simp; (try with_reducible rfl))
      (try simp only [Act.put, List.getElem_toArray, List.getElem_cons_zero, List.getElem_cons_succ, List.setIfInBounds_toArray, List.set_cons_zero, List.set_cons_succ])
      refine wpAnyH_take (i := 7) (v := ?_) rfl (by kernel_rfl) (by kernel_rfl) (by kernel_rfl) (fun _ _ _ h => h) (Or.inl ⟨by kernel_rfl, ?_⟩) (by assumption) ?_
      rotate_left
      focus (intro w' hSw; (try dsimp only at hSw); obtain ⟨s0, sf0, s1, sf1, s2, sf2, s3, sf3⟩ := hSw; go_simp; (try with_reducible rfl))
      (try simp only [Act.put, List.getElem_toArray, List.getElem_cons_zero, List.getElem_cons_succ, List.setIfInBounds_toArray, List.set_cons_zero, List.set_cons_succ])
      refine wpAnyH_ready (rs := [8]) (by kernel_rfl) (by simp) ?_
      refine AllReadyH.cons rfl (fun K hK => ?_) (AllReadyH.nil)
      go_simp
      go_at_call 67
      refine (among_pre gc _ _ (6 + y4) ((0 + 200) + 2) [0, 10, 15, 20, 620, 10000, -1, 10001] _ C21.out (by omega) NI2_21.out hg1 (by omega) (by first | (simp; done) | (simp; omega)) (by decide)).mono ?_
      rintro e p22 ⟨v8, rfl, hc22, hs22⟩
      (try go_wp2_with fail)
      have E22 := Lib.hid (blk4_stir hs22 h5g E21.out)
      refine hK.out _ _ (by (try dsimp only); exact E22.out) (fun hHeld => ?_)
      clear hK K
      (try simp only [Act.put, List.getElem_toArray, List.getElem_cons_zero, List.getElem_cons_succ, List.setIfInBounds_toArray, List.set_cons_zero, List.set_cons_succ])
      have O22 := Lib.hid (hs22.own O21.out hog)
      have C22 := Lib.hid hc22
      have K22 := Lib.hid (Stir.out K21.out hs22 (by omega))
      have Z22 := Lib.hid (blk4_stir hs22 (by omega) Z21.out)
      have Y22 := Lib.hid (blk2_stir hs22 (by omega) Y21.out)
      have NI2_22 := Lib.hid (NI2_21.out.stir hs22 hg1)
      have NI10_22 := Lib.hid (NI10_21.out.stir hs22 hg20)
      clear hc22 hs22
      refine wpAnyH_ready (rs := [12]) (by kernel_rfl) (by simp) ?_
      refine AllReadyH.cons rfl (fun K hK => ?_) (AllReadyH.nil)
      go_simp
      go_at_call 68
      refine (pick_any gc (((0 + 200) + 2) + 2) 24 _ C22.out (by omega) (by omega)).mono ?_
      rintro e p23 ⟨v12, rfl, ⟨va12, vb12⟩, hc23, hs23⟩
      obtain ⟨y12, hy12, hz12⟩ : ∃ y : Nat, v12 / 11 = (y : Int) ∧ y ≤ 2 := ⟨(v12 / 11).toNat, by omega, by omega⟩
      have ht12 : v12.tdiv 11 = (y12 : Int) := by rw [Int.tdiv_eq_ediv_of_nonneg (by omega)]; exact hy12
      have hw12 : IntKind.i64.wrap (y12 : Int) = (y12 : Int) := by rw [IntKind.wrap_i64]; omega
      have hv12 : IntKind.i64.wrap (3 + (y12 : Int)) = 3 + (y12 : Int) := by rw [IntKind.wrap_i64]; omega
      have ha12 : (0 : Int) ≤ 3 + (y12 : Int) := by omega
      have hb12 : 3 + (y12 : Int) ≤ 5 := by omega
      have hn12 : (3 + (y12 : Int)).toNat = 3 + y12 := by omega
      (try go_wp2_with fail)
      have E23 := Lib.hid (blk4_stir hs23 h5g E22.out)
      refine hK.out _ _ (by (try dsimp only); exact E23.out) (fun hHeld => ?_)
      clear hK K
      (try simp only [Act.put, List.getElem_toArray, List.getElem_cons_zero, List.getElem_cons_succ, List.setIfInBounds_toArray, List.set_cons_zero, List.set_cons_succ])
      have O23 := Lib.hid (hs23.own O22.out hog)
      have C23 := Lib.hid hc23
      have K23 := Lib.hid (Stir.out K22.out hs23 (by omega))
      have Z23 := Lib.hid (blk4_stir hs23 (by omega) Z22.out)
      have Y23 := Lib.hid (blk2_stir hs23 (by omega) Y22.out)
      have NI2_23 := Lib.hid (NI2_22.out.stir hs23 hg1)
      have NI10_23 := Lib.hid (NI10_22.out.stir hs23 hg20)
      clear hc23 hs23
      refine wpAnyH_take (i := 13) (v := ?_) rfl (by kernel_rfl) (by kernel_rfl) (by kernel_rfl) (fun _ _ _ h => h) (Or.inl ⟨by kernel_rfl, ?_⟩) (by assumption) ?_
      rotate_left
      focus (intro w' hSw; (try dsimp only at hSw); obtain ⟨s0, sf0, s1, sf1, s2, sf2, s3, sf3⟩ := hSw; go_simp; (try with_reducible rfl))
      (try simp only [Act.put, List.getElem_toArray, List.getElem_cons_zero, List.getElem_cons_succ, List.setIfInBounds_toArray, List.set_cons_zero, List.set_cons_succ])
      refine wpAnyH_take (i := 14) (v := ?_) rfl (by kernel_rfl) (by kernel_rfl) (by kernel_rfl) (fun _ _ _ h => h) (Or.inl ⟨by kernel_rfl, ?_⟩) (by assumption) ?_
      rotate_left
      focus (intro w' hSw; (try dsimp only at hSw); obtain ⟨s0, sf0, s1, sf1, s2, sf2, s3, sf3⟩ := hSw; go_simp; (try with_reducible rfl))
      (try simp only [Act.put, List.getElem_toArray, List.getElem_cons_zero, List.getElem_cons_succ, List.setIfInBounds_toArray, List.set_cons_zero, List.set_cons_succ])
      refine wpAnyH_take (i := 15) (v := ?_) rfl (by kernel_rfl) (by kernel_rfl) (by kernel_rfl) (fun _ _ _ h => h) (Or.inl ⟨by kernel_rfl, ?_⟩) (by assumption) ?_
      rotate_left
      focus (intro w' hSw; (try dsimp only at hSw); obtain ⟨s0, sf0, s1, sf1, s2, sf2, s3, sf3⟩ := hSw; go_simp; (try with_reducible rfl))
      (try simp only [Act.put, List.getElem_toArray, List.getElem_cons_zero, List.getElem_cons_succ, List.setIfInBounds_toArray, List.set_cons_zero, List.set_cons_succ])
      refine wpAnyH_ready (rs := [16]) (by kernel_rfl) (by simp) ?_
      refine AllReadyH.cons rfl (fun K hK => ?_) (AllReadyH.nil)
      go_simp
      go_at_call 67
      refine (among_pre gc _ _ (3 + y12) ((((0 + 200) + 2) + 2) + 2) [-500, 77, 2000, -501, 2001] _ C23.out (by omega) NI10_23.out hg20 (by omega) (by first | (simp; done) | (simp; omega)) (by decide)).mono ?_
      rintro e p24 ⟨v16, rfl, hc24, hs24⟩
      (try go_wp2_with fail)
      have E24 := Lib.hid (blk4_stir hs24 h5g E23.out)
      refine hK.out _ _ (by (try dsimp only); exact E24.out) (fun hHeld => ?_)
      clear hK K
      (try simp only [Act.put, List.getElem_toArray, List.getElem_cons_zero, List.getElem_cons_succ, List.setIfInBounds_toArray, List.set_cons_zero, List.set_cons_succ])
      have O24 := Lib.hid (hs24.own O23.out hog)
      have C24 := Lib.hid hc24
      have K24 := Lib.hid (Stir.out K23.out hs24 (by omega))
      have Z24 := Lib.hid (blk4_stir hs24 (by omega) Z23.out)
      have Y24 := Lib.hid (blk2_stir hs24 (by omega) Y23.out)
      have NI2_24 := Lib.hid (NI2_23.out.stir hs24 hg1)
      have NI10_24 := Lib.hid (NI10_23.out.stir hs24 hg20)
      clear hc24 hs24
      refine wpAnyH_take (i := 17) (v := ?_) rfl (by kernel_rfl) (by kernel_rfl) (by kernel_rfl) (fun _ _ _ h => h) (Or.inl ⟨by kernel_rfl, ?_⟩) (by assumption) ?_
      rotate_left
      focus (intro w' hSw; (try dsimp only at hSw); obtain ⟨s0, sf0, s1, sf1, s2, sf2, s3, sf3⟩ := hSw; go_simp; (try with_reducible rfl))
      (try simp only [Act.put, List.getElem_toArray, List.getElem_cons_zero, List.getElem_cons_succ, List.setIfInBounds_toArray, List.set_cons_zero, List.set_cons_succ])
      refine wpAnyH_ready (rs := [18]) (by kernel_rfl) (by simp) ?_
      refine AllReadyH.cons rfl (fun K hK => ?_) (AllReadyH.nil)
      obtain ⟨q0, f0, q1, f1, q2, f2, q3, f3⟩ := Z24.out
      go_simp
      have E25 := Lib.hid ((blk4_set ⟨w.heap.size, 3, none⟩ (by simp; omega) (.slice A xs.length c) (blk4_set ⟨w.heap.size, 2, none⟩ (by simp; omega) (.int .i64 z) (blk4_set ⟨w.heap.size, 1, none⟩ (by simp; omega) (.string nm) (blk4_set ⟨w.heap.size, 0, none⟩ (by simp; omega) (.int .i64 i) E24.out)))))
      have K25 := Lib.hid ((Kept.setCell (Kept.setCell (Kept.setCell (Kept.setCell K24.out (p := ⟨w.heap.size, 0, none⟩) (by first | (simp; done) | (simp; omega)) (.int .i64 i)) (p := ⟨w.heap.size, 1, none⟩) (by first | (simp; done) | (simp; omega)) (.string nm)) (p := ⟨w.heap.size, 2, none⟩) (by first | (simp; done) | (simp; omega)) (.int .i64 z)) (p := ⟨w.heap.size, 3, none⟩) (by first | (simp; done) | (simp; omega)) (.slice A xs.length c)))
      have O25 := Lib.hid ((ownsRow_setCell_below (ownsRow_setCell_below (ownsRow_setCell_below (ownsRow_setCell_below O24.out (a := ⟨w.heap.size, 0, none⟩) (by simp; omega) (.int .i64 i)) (a := ⟨w.heap.size, 1, none⟩) (by simp; omega) (.string nm)) (a := ⟨w.heap.size, 2, none⟩) (by simp; omega) (.int .i64 z)) (a := ⟨w.heap.size, 3, none⟩) (by simp; omega) (.slice A xs.length c)))
      have X25 := Lib.hid (show ((((p24.setCell ⟨w.heap.size, 0, none⟩ (.int .i64 i)).setCell ⟨w.heap.size, 1, none⟩ (.string nm)).setCell ⟨w.heap.size, 2, none⟩ (.int .i64 z)).setCell ⟨w.heap.size, 3, none⟩ (.slice A xs.length c)).cell? ⟨w.heap.size, 0, none⟩ = some (.int .i64 i) ∧ ((((p24.setCell ⟨w.heap.size, 0, none⟩ (.int .i64 i)).setCell ⟨w.heap.size, 1, none⟩ (.string nm)).setCell ⟨w.heap.size, 2, none⟩ (.int .i64 z)).setCell ⟨w.heap.size, 3, none⟩ (.slice A xs.length c)).frozen? ⟨w.heap.size, 0, none⟩ = false ∧ ((((p24.setCell ⟨w.heap.size, 0, none⟩ (.int .i64 i)).setCell ⟨w.heap.size, 1, none⟩ (.string nm)).setCell ⟨w.heap.size, 2, none⟩ (.int .i64 z)).setCell ⟨w.heap.size, 3, none⟩ (.slice A xs.length c)).cell? ⟨w.heap.size, 1, none⟩ = some (.string nm) ∧ ((((p24.setCell ⟨w.heap.size, 0, none⟩ (.int .i64 i)).setCell ⟨w.heap.size, 1, none⟩ (.string nm)).setCell ⟨w.heap.size, 2, none⟩ (.int .i64 z)).setCell ⟨w.heap.size, 3, none⟩ (.slice A xs.length c)).frozen? ⟨w.heap.size, 1, none⟩ = false ∧ ((((p24.setCell ⟨w.heap.size, 0, none⟩ (.int .i64 i)).setCell ⟨w.heap.size, 1, none⟩ (.string nm)).setCell ⟨w.heap.size, 2, none⟩ (.int .i64 z)).setCell ⟨w.heap.size, 3, none⟩ (.slice A xs.length c)).cell? ⟨w.heap.size, 2, none⟩ = some (.int .i64 z) ∧ ((((p24.setCell ⟨w.heap.size, 0, none⟩ (.int .i64 i)).setCell ⟨w.heap.size, 1, none⟩ (.string nm)).setCell ⟨w.heap.size, 2, none⟩ (.int .i64 z)).setCell ⟨w.heap.size, 3, none⟩ (.slice A xs.length c)).frozen? ⟨w.heap.size, 2, none⟩ = false ∧ ((((p24.setCell ⟨w.heap.size, 0, none⟩ (.int .i64 i)).setCell ⟨w.heap.size, 1, none⟩ (.string nm)).setCell ⟨w.heap.size, 2, none⟩ (.int .i64 z)).setCell ⟨w.heap.size, 3, none⟩ (.slice A xs.length c)).cell? ⟨w.heap.size, 3, none⟩ = some (.slice A xs.length c) ∧ ((((p24.setCell ⟨w.heap.size, 0, none⟩ (.int .i64 i)).setCell ⟨w.heap.size, 1, none⟩ (.string nm)).setCell ⟨w.heap.size, 2, none⟩ (.int .i64 z)).setCell ⟨w.heap.size, 3, none⟩ (.slice A xs.length c)).frozen? ⟨w.heap.size, 3, none⟩ = false by simp [go_sem, *])
      have Y25 := Lib.hid (show ((((p24.setCell ⟨w.heap.size, 0, none⟩ (.int .i64 i)).setCell ⟨w.heap.size, 1, none⟩ (.string nm)).setCell ⟨w.heap.size, 2, none⟩ (.int .i64 z)).setCell ⟨w.heap.size, 3, none⟩ (.slice A xs.length c)).cell? ⟨w.heap.size + 1, 0, none⟩ = some (.int .i64 0) ∧ ((((p24.setCell ⟨w.heap.size, 0, none⟩ (.int .i64 i)).setCell ⟨w.heap.size, 1, none⟩ (.string nm)).setCell ⟨w.heap.size, 2, none⟩ (.int .i64 z)).setCell ⟨w.heap.size, 3, none⟩ (.slice A xs.length c)).frozen? ⟨w.heap.size + 1, 0, none⟩ = false ∧ ((((p24.setCell ⟨w.heap.size, 0, none⟩ (.int .i64 i)).setCell ⟨w.heap.size, 1, none⟩ (.string nm)).setCell ⟨w.heap.size, 2, none⟩ (.int .i64 z)).setCell ⟨w.heap.size, 3, none⟩ (.slice A xs.length c)).cell? ⟨w.heap.size + 1, 1, none⟩ = some (.int .i64 0) ∧ ((((p24.setCell ⟨w.heap.size, 0, none⟩ (.int .i64 i)).setCell ⟨w.heap.size, 1, none⟩ (.string nm)).setCell ⟨w.heap.size, 2, none⟩ (.int .i64 z)).setCell ⟨w.heap.size, 3, none⟩ (.slice A xs.length c)).frozen? ⟨w.heap.size + 1, 1, none⟩ = false by obtain ⟨y0, g0, y1, g1⟩ := Y24.out; simp [go_sem, *])
      refine hK.out _ _ (by (try dsimp only); exact E25.out) (fun hHeld => ?_)
      clear hK K
      (try simp only [Act.put, List.getElem_toArray, List.getElem_cons_zero, List.getElem_cons_succ, List.setIfInBounds_toArray, List.set_cons_zero, List.set_cons_succ])
      clear q0 f0 q1 f1 q2 f2 q3 f3
      generalize ((((p24.setCell ⟨w.heap.size, 0, none⟩ (.int .i64 i)).setCell ⟨w.heap.size, 1, none⟩ (.string nm)).setCell ⟨w.heap.size, 2, none⟩ (.int .i64 z)).setCell ⟨w.heap.size, 3, none⟩ (.slice A xs.length c)) = p25 at *
      refine wpAnyH_ready (rs := [19]) (by kernel_rfl) (by simp) ?_
      refine AllReadyH.cons rfl (fun K hK => ?_) (AllReadyH.nil)
      obtain ⟨q0, f0, q1, f1⟩ := Y25.out
      go_simp
      have E26 := Lib.hid ((blk4_set ⟨w.heap.size + 1, 1, none⟩ (by simp; omega) (.int .i64 v16) (blk4_set ⟨w.heap.size + 1, 0, none⟩ (by simp; omega) (.int .i64 v8) E25.out)))
      have K26 := Lib.hid ((Kept.setCell (Kept.setCell K25.out (p := ⟨w.heap.size + 1, 0, none⟩) (by first | (simp; done) | (simp; omega)) (.int .i64 v8)) (p := ⟨w.heap.size + 1, 1, none⟩) (by first | (simp; done) | (simp; omega)) (.int .i64 v16)))
      have O26 := Lib.hid ((ownsRow_setCell_below (ownsRow_setCell_below O25.out (a := ⟨w.heap.size + 1, 0, none⟩) (by simp; omega) (.int .i64 v8)) (a := ⟨w.heap.size + 1, 1, none⟩) (by simp; omega) (.int .i64 v16)))
      have X26 := Lib.hid (show ((p25.setCell ⟨w.heap.size + 1, 0, none⟩ (.int .i64 v8)).setCell ⟨w.heap.size + 1, 1, none⟩ (.int .i64 v16)).cell? ⟨w.heap.size, 0, none⟩ = some (.int .i64 i) ∧ ((p25.setCell ⟨w.heap.size + 1, 0, none⟩ (.int .i64 v8)).setCell ⟨w.heap.size + 1, 1, none⟩ (.int .i64 v16)).frozen? ⟨w.heap.size, 0, none⟩ = false ∧ ((p25.setCell ⟨w.heap.size + 1, 0, none⟩ (.int .i64 v8)).setCell ⟨w.heap.size + 1, 1, none⟩ (.int .i64 v16)).cell? ⟨w.heap.size, 1, none⟩ = some (.string nm) ∧ ((p25.setCell ⟨w.heap.size + 1, 0, none⟩ (.int .i64 v8)).setCell ⟨w.heap.size + 1, 1, none⟩ (.int .i64 v16)).frozen? ⟨w.heap.size, 1, none⟩ = false ∧ ((p25.setCell ⟨w.heap.size + 1, 0, none⟩ (.int .i64 v8)).setCell ⟨w.heap.size + 1, 1, none⟩ (.int .i64 v16)).cell? ⟨w.heap.size, 2, none⟩ = some (.int .i64 z) ∧ ((p25.setCell ⟨w.heap.size + 1, 0, none⟩ (.int .i64 v8)).setCell ⟨w.heap.size + 1, 1, none⟩ (.int .i64 v16)).frozen? ⟨w.heap.size, 2, none⟩ = false ∧ ((p25.setCell ⟨w.heap.size + 1, 0, none⟩ (.int .i64 v8)).setCell ⟨w.heap.size + 1, 1, none⟩ (.int .i64 v16)).cell? ⟨w.heap.size, 3, none⟩ = some (.slice A xs.length c) ∧ ((p25.setCell ⟨w.heap.size + 1, 0, none⟩ (.int .i64 v8)).setCell ⟨w.heap.size + 1, 1, none⟩ (.int .i64 v16)).frozen? ⟨w.heap.size, 3, none⟩ = false by obtain ⟨y0, g0, y1, g1, y2, g2, y3, g3⟩ := X25.out; simp [go_sem, *])
      have Y26 := Lib.hid (show ((p25.setCell ⟨w.heap.size + 1, 0, none⟩ (.int .i64 v8)).setCell ⟨w.heap.size + 1, 1, none⟩ (.int .i64 v16)).cell? ⟨w.heap.size + 1, 0, none⟩ = some (.int .i64 v8) ∧ ((p25.setCell ⟨w.heap.size + 1, 0, none⟩ (.int .i64 v8)).setCell ⟨w.heap.size + 1, 1, none⟩ (.int .i64 v16)).frozen? ⟨w.heap.size + 1, 0, none⟩ = false ∧ ((p25.setCell ⟨w.heap.size + 1, 0, none⟩ (.int .i64 v8)).setCell ⟨w.heap.size + 1, 1, none⟩ (.int .i64 v16)).cell? ⟨w.heap.size + 1, 1, none⟩ = some (.int .i64 v16) ∧ ((p25.setCell ⟨w.heap.size + 1, 0, none⟩ (.int .i64 v8)).setCell ⟨w.heap.size + 1, 1, none⟩ (.int .i64 v16)).frozen? ⟨w.heap.size + 1, 1, none⟩ = false by simp [go_sem, *])
      refine hK.out _ _ (by (try dsimp only); exact E26.out) (fun hHeld => ?_)
      clear hK K
      (try simp only [Act.put, List.getElem_toArray, List.getElem_cons_zero, List.getElem_cons_succ, List.setIfInBounds_toArray, List.set_cons_zero, List.set_cons_succ])
      clear q0 f0 q1 f1
      generalize ((p25.setCell ⟨w.heap.size + 1, 0, none⟩ (.int .i64 v8)).setCell ⟨w.heap.size + 1, 1, none⟩ (.int .i64 v16)) = p26 at *
      refine wpAnyH_done (by kernel_rfl) ?_ _
      go_wp2_with fail
      obtain ⟨x0, l0, x1, l1, x2, l2, x3, l3⟩ := X26.out
      obtain ⟨y0, g0, y1, g1⟩ := Y26.out
      exact bodyPost_ret (v := .tuple #[.agg #[.int .i64 i, .string nm, .int .i64 z, .slice A xs.length c], .agg #[.int .i64 v8, .int .i64 v16]]) (by simp [results, Try.results16, go_sem, *]) rfl ⟨i, z, nm, _, xs, _, _, rfl, hnm, hxl, pairs_own O26.out, K26.out⟩
  · skip
    go_simp
    go_at_call 68
    refine (pick_any gc (0 + 200) 24 _ C0.out (by omega) (by omega)).mono ?_
    rintro e p27 ⟨v4, rfl, ⟨va4, vb4⟩, hc27, hs27⟩
    obtain ⟨y4, hy4, hz4⟩ : ∃ y : Nat, v4 / 11 = (y : Int) ∧ y ≤ 2 := ⟨(v4 / 11).toNat, by omega, by omega⟩
    have ht4 : v4.tdiv 11 = (y4 : Int) := by rw [Int.tdiv_eq_ediv_of_nonneg (by omega)]; exact hy4
    have hw4 : IntKind.i64.wrap (y4 : Int) = (y4 : Int) := by rw [IntKind.wrap_i64]; omega
    have hv4 : IntKind.i64.wrap (6 + (y4 : Int)) = 6 + (y4 : Int) := by rw [IntKind.wrap_i64]; omega
    have ha4 : (0 : Int) ≤ 6 + (y4 : Int) := by omega
    have hb4 : 6 + (y4 : Int) ≤ 8 := by omega
    have hn4 : (6 + (y4 : Int)).toNat = 6 + y4 := by omega
    (try go_wp2_with fail)
    have E27 := Lib.hid (blk4_stir hs27 h5g E0.out)
    refine hK.out _ _ (by (try dsimp only); exact E27.out) (fun hHeld => ?_)
    clear hK K
    (try simp only [Act.put, List.getElem_toArray, List.getElem_cons_zero, List.getElem_cons_succ, List.setIfInBounds_toArray, List.set_cons_zero, List.set_cons_succ])
    have O27 := Lib.hid (hs27.own O0.out hog)
    have C27 := Lib.hid hc27
    have K27 := Lib.hid (Stir.out K0.out hs27 (by omega))
    have Z27 := Lib.hid (blk4_stir hs27 (by omega) Z0.out)
    have Y27 := Lib.hid (blk2_stir hs27 (by omega) Y0.out)
    clear hc27 hs27
    refine wpAnyH_take (i := 5) (v := ?_) rfl (by kernel_rfl) (by kernel_rfl) (by kernel_rfl) (fun _ _ _ h => h) (Or.inl ⟨by kernel_rfl, ?_⟩) (by assumption) ?_
    rotate_left
    focus (intro w' hSw; (try dsimp only at hSw); obtain ⟨s0, sf0, s1, sf1, s2, sf2, s3, sf3⟩ := hSw; go_simp; (try with_reducible rfl))
    (try simp only [Act.put, List.getElem_toArray, List.getElem_cons_zero, List.getElem_cons_succ, List.setIfInBounds_toArray, List.set_cons_zero, List.set_cons_succ])
    refine wpAnyH_take (i := 6) (v := ?_) rfl (by kernel_rfl) (by kernel_rfl) (by kernel_rfl) (fun _ _ _ h => h) (Or.inl ⟨by kernel_rfl, ?_⟩) (by assumption) ?_
    rotate_left
    focus (intro w' hSw; (try dsimp only at hSw); obtain ⟨s0, sf0, s1, sf1, s2, sf2, s3, sf3⟩ := hSw; go_simp; (try with_reducible rfl))
    (try simp only [Act.put, List.getElem_toArray, List.getElem_cons_zero, List.getElem_cons_succ, List.setIfInBounds_toArray, List.set_cons_zero, List.set_cons_succ])
    refine wpAnyH_ready (rs := [2, 10]) (by kernel_rfl) (by simp) ?_
    refine AllReadyH.cons rfl (fun K hK => ?_) (AllReadyH.cons rfl (fun K hK => ?_) (AllReadyH.nil))
    · skip
      go_simp
      have ka : Kept p27 (p27.alloc (.cells #[.int .i64 0, .int .i64 10, .int .i64 15, .int .i64 20, .int .i64 620, .int .i64 10000, .int .i64 (-1), .int .i64 10001] 3)) := Kept.alloc (Kept.refl _) _
      have E28 := Lib.hid (blk4 ka E27.out)
      refine hK.out _ _ (by (try dsimp only); exact E28.out) (fun hHeld => ?_)
      clear hK K
      (try simp only [Act.put, List.getElem_toArray, List.getElem_cons_zero, List.getElem_cons_succ, List.setIfInBounds_toArray, List.set_cons_zero, List.set_cons_succ])
      have O28 := Lib.hid (own_kept O27.out ka)
      have C28 := Lib.hid (C27.out.kept ka)
      have K28 := Lib.hid (K27.out.trans ka)
      have Z28 := Lib.hid (blk4 ka Z27.out)
      have Y28 := Lib.hid (blk2_keep ka Y27.out)
      have NI2_28 := Lib.hid (NumsIn.lit (w := p27) (xs := [0, 10, 15, 20, 620, 10000, -1, 10001]) (t := 3) (n := p27.heap.size) (cs := #[.int .i64 0, .int .i64 10, .int .i64 15, .int .i64 20, .int .i64 620, .int .i64 10000, .int .i64 (-1), .int .i64 10001]) (by rfl) rfl)
      have hg28 : p27.heap.size ≠ gc := fun e => by have := C27.out.lt; omega
      clear ka
      generalize p27.alloc (.cells #[.int .i64 0, .int .i64 10, .int .i64 15, .int .i64 20, .int .i64 620, .int .i64 10000, .int .i64 (-1), .int .i64 10001] 3) = p28 at *
      refine wpAnyH_take (i := 7) (v := ?_) rfl (by kernel_rfl) (by kernel_rfl) (by kernel_rfl) (fun _ _ _ h => h) (Or.inl ⟨by kernel_rfl, ?_⟩) (by assumption) ?_
      rotate_left
      focus (intro w' hSw; (try dsimp only at hSw); obtain ⟨s0, sf0, s1, sf1, s2, sf2, s3, sf3⟩ := hSw; go_simp; (try with_reducible rfl))
      (try simp only [Act.put, List.getElem_toArray, List.getElem_cons_zero, List.getElem_cons_succ, List.setIfInBounds_toArray, List.set_cons_zero, List.set_cons_succ])
      refine wpAnyH_ready (rs := [8, 10]) (by kernel_rfl) (by simp) ?_
      refine AllReadyH.cons rfl (fun K hK => ?_) (AllReadyH.cons rfl (fun K hK => ?_) (AllReadyH.nil))
      · skip
        go_simp
        go_at_call 67
        refine (among_pre gc _ _ (6 + y4) ((0 + 200) + 2) [0, 10, 15, 20, 620, 10000, -1, 10001] _ C28.out (by omega) NI2_28.out hg28 (by omega) (by first | (simp; done) | (simp; omega)) (by decide)).mono ?_
        rintro e p29 ⟨v8, rfl, hc29, hs29⟩
        (try go_wp2_with fail)
        have E29 := Lib.hid (blk4_stir hs29 h5g E28.out)
        refine hK.out _ _ (by (try dsimp only); exact E29.out) (fun hHeld => ?_)
        clear hK K
        (try simp only [Act.put, List.getElem_toArray, List.getElem_cons_zero, List.getElem_cons_succ, List.setIfInBounds_toArray, List.set_cons_zero, List.set_cons_succ])
        have O29 := Lib.hid (hs29.own O28.out hog)
        have C29 := Lib.hid hc29
        have K29 := Lib.hid (Stir.out K28.out hs29 (by omega))
        have Z29 := Lib.hid (blk4_stir hs29 (by omega) Z28.out)
        have Y29 := Lib.hid (blk2_stir hs29 (by omega) Y28.out)
        have NI2_29 := Lib.hid (NI2_28.out.stir hs29 hg28)
        clear hc29 hs29
        refine wpAnyH_ready (rs := [10, 12]) (by kernel_rfl) (by simp) ?_
        refine AllReadyH.cons rfl (fun K hK => ?_) (AllReadyH.cons rfl (fun K hK => ?_) (AllReadyH.nil))
        · skip
          go_simp
          have ka : Kept p29 (p29.alloc (.cells #[.int .i64 (-500), .int .i64 77, .int .i64 2000, .int .i64 (-501), .int .i64 2001] 3)) := Kept.alloc (Kept.refl _) _
          have E30 := Lib.hid (blk4 ka E29.out)
          refine hK.out _ _ (by (try dsimp only); exact E30.out) (fun hHeld => ?_)
          clear hK K
          (try simp only [Act.put, List.getElem_toArray, List.getElem_cons_zero, List.getElem_cons_succ, List.setIfInBounds_toArray, List.set_cons_zero, List.set_cons_succ])
          have O30 := Lib.hid (own_kept O29.out ka)
          have C30 := Lib.hid (C29.out.kept ka)
          have K30 := Lib.hid (K29.out.trans ka)
          have Z30 := Lib.hid (blk4 ka Z29.out)
          have Y30 := Lib.hid (blk2_keep ka Y29.out)
          have NI2_30 := Lib.hid (NI2_29.out.kept ka)
          have NI10_30 := Lib.hid (NumsIn.lit (w := p29) (xs := [-500, 77, 2000, -501, 2001]) (t := 3) (n := p29.heap.size) (cs := #[.int .i64 (-500), .int .i64 77, .int .i64 2000, .int .i64 (-501), .int .i64 2001]) (by rfl) rfl)
          have hg30 : p29.heap.size ≠ gc := fun e => by have := C29.out.lt; omega
          clear ka
          generalize p29.alloc (.cells #[.int .i64 (-500), .int .i64 77, .int .i64 2000, .int .i64 (-501), .int .i64 2001] 3) = p30 at *
          refine wpAnyH_ready (rs := [12]) (by kernel_rfl) (by simp) ?_
          refine AllReadyH.cons rfl (fun K hK => ?_) (AllReadyH.nil)
          go_simp
          go_at_call 68
          refine (pick_any gc (((0 + 200) + 2) + 2) 24 _ C30.out (by omega) (by omega)).mono ?_
          rintro e p31 ⟨v12, rfl, ⟨va12, vb12⟩, hc31, hs31⟩
          obtain ⟨y12, hy12, hz12⟩ : ∃ y : Nat, v12 / 11 = (y : Int) ∧ y ≤ 2 := ⟨(v12 / 11).toNat, by omega, by omega⟩
          have ht12 : v12.tdiv 11 = (y12 : Int) := by rw [Int.tdiv_eq_ediv_of_nonneg (by omega)]; exact hy12
          have hw12 : IntKind.i64.wrap (y12 : Int) = (y12 : Int) := by rw [IntKind.wrap_i64]; omega
          have hv12 : IntKind.i64.wrap (3 + (y12 : Int)) = 3 + (y12 : Int) := by rw [IntKind.wrap_i64]; omega
          have ha12 : (0 : Int) ≤ 3 + (y12 : Int) := by omega
          have hb12 : 3 + (y12 : Int) ≤ 5 := by omega
          have hn12 : (3 + (y12 : Int)).toNat = 3 + y12 := by omega
          (try go_wp2_with fail)
          have E31 := Lib.hid (blk4_stir hs31 h5g E30.out)
          refine hK.out _ _ (by (try dsimp only); exact E31.out) (fun hHeld => ?_)
          clear hK K
          (try simp only [Act.put, List.getElem_toArray, List.getElem_cons_zero, List.getElem_cons_succ, List.setIfInBounds_toArray, List.set_cons_zero, List.set_cons_succ])
          have O31 := Lib.hid (hs31.own O30.out hog)
          have C31 := Lib.hid hc31
          have K31 := Lib.hid (Stir.out K30.out hs31 (by omega))
          have Z31 := Lib.hid (blk4_stir hs31 (by omega) Z30.out)
          have Y31 := Lib.hid (blk2_stir hs31 (by omega) Y30.out)
          have NI2_31 := Lib.hid (NI2_30.out.stir hs31 hg28)
          have NI10_31 := Lib.hid (NI10_30.out.stir hs31 hg30)
          clear hc31 hs31
          refine wpAnyH_take (i := 13) (v := ?_) rfl (by kernel_rfl) (by kernel_rfl) (by kernel_rfl) (fun _ _ _ h => h) (Or.inl ⟨by kernel_rfl, ?_⟩) (by assumption) ?_
          rotate_left
          focus (intro w' hSw; (try dsimp only at hSw); obtain ⟨s0, sf0, s1, sf1, s2, sf2, s3, sf3⟩ := hSw; go_simp; (try with_reducible rfl))
          (try simp only [Act.put, List.getElem_toArray, List.getElem_cons_zero, List.getElem_cons_succ, List.setIfInBounds_toArray, List.set_cons_zero, List.set_cons_succ])
          refine wpAnyH_take (i := 14) (v := ?_) rfl (by kernel_rfl) (by kernel_rfl) (by kernel_rfl) (fun _ _ _ h => h) (Or.inl ⟨by kernel_rfl, ?_⟩) (by assumption) ?_
          rotate_left
          focus (intro w' hSw; (try dsimp only at hSw); obtain ⟨s0, sf0, s1, sf1, s2, sf2, s3, sf3⟩ := hSw; go_simp; (try with_reducible rfl))
          (try simp only [Act.put, List.getElem_toArray, List.getElem_cons_zero, List.getElem_cons_succ, List.setIfInBounds_toArray, List.set_cons_zero, List.set_cons_succ])
          refine wpAnyH_take (i := 15) (v := ?_) rfl (by kernel_rfl) (by kernel_rfl) (by kernel_rfl) (fun _ _ _ h => h) (Or.inl ⟨by kernel_rfl, ?_⟩) (by assumption) ?_
          rotate_left
          focus (intro w' hSw; (try dsimp only at hSw); obtain ⟨s0, sf0, s1, sf1, s2, sf2, s3, sf3⟩ := hSw; go_simp; (try with_reducible rfl))
          (try simp only [Act.put, List.getElem_toArray, List.getElem_cons_zero, List.getElem_cons_succ, List.setIfInBounds_toArray, List.set_cons_zero, List.set_cons_succ])
          refine wpAnyH_ready (rs := [16]) (by kernel_rfl) (by simp) ?_
          refine AllReadyH.cons rfl (fun K hK => ?_) (AllReadyH.nil)
          go_simp
          go_at_call 67
          refine (among_pre gc _ _ (3 + y12) ((((0 + 200) + 2) + 2) + 2) [-500, 77, 2000, -501, 2001] _ C31.out (by omega) NI10_31.out hg30 (by omega) (by first | (simp; done) | (simp; omega)) (by decide)).mono ?_
          rintro e p32 ⟨v16, rfl, hc32, hs32⟩
          (try go_wp2_with fail)
          have E32 := Lib.hid (blk4_stir hs32 h5g E31.out)
          refine hK.out _ _ (by (try dsimp only); exact E32.out) (fun hHeld => ?_)
          clear hK K
          (try simp only [Act.put, List.getElem_toArray, List.getElem_cons_zero, List.getElem_cons_succ, List.setIfInBounds_toArray, List.set_cons_zero, List.set_cons_succ])
          have O32 := Lib.hid (hs32.own O31.out hog)
          have C32 := Lib.hid hc32
          have K32 := Lib.hid (Stir.out K31.out hs32 (by omega))
          have Z32 := Lib.hid (blk4_stir hs32 (by omega) Z31.out)
          have Y32 := Lib.hid (blk2_stir hs32 (by omega) Y31.out)
          have NI2_32 := Lib.hid (NI2_31.out.stir hs32 hg28)
          have NI10_32 := Lib.hid (NI10_31.out.stir hs32 hg30)
          clear hc32 hs32
          refine wpAnyH_take (i := 17) (v := ?_) rfl (by kernel_rfl) (by kernel_rfl) (by kernel_rfl) (fun _ _ _ h => h) (Or.inl ⟨by kernel_rfl, ?_⟩) (by assumption) ?_
          rotate_left
          focus (intro w' hSw; (try dsimp only at hSw); obtain ⟨s0, sf0, s1, sf1, s2, sf2, s3, sf3⟩ := hSw; go_simp; (try with_reducible rfl))
          (try simp only [Act.put, List.getElem_toArray, List.getElem_cons_zero, List.getElem_cons_succ, List.setIfInBounds_toArray, List.set_cons_zero, List.set_cons_succ])
          refine wpAnyH_ready (rs := [18]) (by kernel_rfl) (by simp) ?_
          refine AllReadyH.cons rfl (fun K hK => ?_) (AllReadyH.nil)
          obtain ⟨q0, f0, q1, f1, q2, f2, q3, f3⟩ := Z32.out
          go_simp
          have E33 := Lib.hid ((blk4_set ⟨w.heap.size, 3, none⟩ (by simp; omega) (.slice A xs.length c) (blk4_set ⟨w.heap.size, 2, none⟩ (by simp; omega) (.int .i64 z) (blk4_set ⟨w.heap.size, 1, none⟩ (by simp; omega) (.string nm) (blk4_set ⟨w.heap.size, 0, none⟩ (by simp; omega) (.int .i64 i) E32.out)))))
          have K33 := Lib.hid ((Kept.setCell (Kept.setCell (Kept.setCell (Kept.setCell K32.out (p := ⟨w.heap.size, 0, none⟩) (by first | (simp; done) | (simp; omega)) (.int .i64 i)) (p := ⟨w.heap.size, 1, none⟩) (by first | (simp; done) | (simp; omega)) (.string nm)) (p := ⟨w.heap.size, 2, none⟩) (by first | (simp; done) | (simp; omega)) (.int .i64 z)) (p := ⟨w.heap.size, 3, none⟩) (by first | (simp; done) | (simp; omega)) (.slice A xs.length c)))
          have O33 := Lib.hid ((ownsRow_setCell_below (ownsRow_setCell_below (ownsRow_setCell_below (ownsRow_setCell_below O32.out (a := ⟨w.heap.size, 0, none⟩) (by simp; omega) (.int .i64 i)) (a := ⟨w.heap.size, 1, none⟩) (by simp; omega) (.string nm)) (a := ⟨w.heap.size, 2, none⟩) (by simp; omega) (.int .i64 z)) (a := ⟨w.heap.size, 3, none⟩) (by simp; omega) (.slice A xs.length c)))
          have X33 := Lib.hid (show ((((p32.setCell ⟨w.heap.size, 0, none⟩ (.int .i64 i)).setCell ⟨w.heap.size, 1, none⟩ (.string nm)).setCell ⟨w.heap.size, 2, none⟩ (.int .i64 z)).setCell ⟨w.heap.size, 3, none⟩ (.slice A xs.length c)).cell? ⟨w.heap.size, 0, none⟩ = some (.int .i64 i) ∧ ((((p32.setCell ⟨w.heap.size, 0, none⟩ (.int .i64 i)).setCell ⟨w.heap.size, 1, none⟩ (.string nm)).setCell ⟨w.heap.size, 2, none⟩ (.int .i64 z)).setCell ⟨w.heap.size, 3, none⟩ (.slice A xs.length c)).frozen? ⟨w.heap.size, 0, none⟩ = false ∧ ((((p32.setCell ⟨w.heap.size, 0, none⟩ (.int .i64 i)).setCell ⟨w.heap.size, 1, none⟩ (.string nm)).setCell ⟨w.heap.size, 2, none⟩ (.int .i64 z)).setCell ⟨w.heap.size, 3, none⟩ (.slice A xs.length c)).cell? ⟨w.heap.size, 1, none⟩ = some (.string nm) ∧ ((((p32.setCell ⟨w.heap.size, 0, none⟩ (.int .i64 i)).setCell ⟨w.heap.size, 1, none⟩ (.string nm)).setCell ⟨w.heap.size, 2, none⟩ (.int .i64 z)).setCell ⟨w.heap.size, 3, none⟩ (.slice A xs.length c)).frozen? ⟨w.heap.size, 1, none⟩ = false ∧ ((((p32.setCell ⟨w.heap.size, 0, none⟩ (.int .i64 i)).setCell ⟨w.heap.size, 1, none⟩ (.string nm)).setCell ⟨w.heap.size, 2, none⟩ (.int .i64 z)).setCell ⟨w.heap.size, 3, none⟩ (.slice A xs.length c)).cell? ⟨w.heap.size, 2, none⟩ = some (.int .i64 z) ∧ ((((p32.setCell ⟨w.heap.size, 0, none⟩ (.int .i64 i)).setCell ⟨w.heap.size, 1, none⟩ (.string nm)).setCell ⟨w.heap.size, 2, none⟩ (.int .i64 z)).setCell ⟨w.heap.size, 3, none⟩ (.slice A xs.length c)).frozen? ⟨w.heap.size, 2, none⟩ = false ∧ ((((p32.setCell ⟨w.heap.size, 0, none⟩ (.int .i64 i)).setCell ⟨w.heap.size, 1, none⟩ (.string nm)).setCell ⟨w.heap.size, 2, none⟩ (.int .i64 z)).setCell ⟨w.heap.size, 3, none⟩ (.slice A xs.length c)).cell? ⟨w.heap.size, 3, none⟩ = some (.slice A xs.length c) ∧ ((((p32.setCell ⟨w.heap.size, 0, none⟩ (.int .i64 i)).setCell ⟨w.heap.size, 1, none⟩ (.string nm)).setCell ⟨w.heap.size, 2, none⟩ (.int .i64 z)).setCell ⟨w.heap.size, 3, none⟩ (.slice A xs.length c)).frozen? ⟨w.heap.size, 3, none⟩ = false by simp [go_sem, *])
          have Y33 := Lib.hid (show ((((p32.setCell ⟨w.heap.size, 0, none⟩ (.int .i64 i)).setCell ⟨w.heap.size, 1, none⟩ (.string nm)).setCell ⟨w.heap.size, 2, none⟩ (.int .i64 z)).setCell ⟨w.heap.size, 3, none⟩ (.slice A xs.length c)).cell? ⟨w.heap.size + 1, 0, none⟩ = some (.int .i64 0) ∧ ((((p32.setCell ⟨w.heap.size, 0, none⟩ (.int .i64 i)).setCell ⟨w.heap.size, 1, none⟩ (.string nm)).setCell ⟨w.heap.size, 2, none⟩ (.int .i64 z)).setCell ⟨w.heap.size, 3, none⟩ (.slice A xs.length c)).frozen? ⟨w.heap.size + 1, 0, none⟩ = false ∧ ((((p32.setCell ⟨w.heap.size, 0, none⟩ (.int .i64 i)).setCell ⟨w.heap.size, 1, none⟩ (.string nm)).setCell ⟨w.heap.size, 2, none⟩ (.int .i64 z)).setCell ⟨w.heap.size, 3, none⟩ (.slice A xs.length c)).cell? ⟨w.heap.size + 1, 1, none⟩ = some (.int .i64 0) ∧ ((((p32.setCell ⟨w.heap.size, 0, none⟩ (.int .i64 i)).setCell ⟨w.heap.size, 1, none⟩ (.string nm)).setCell ⟨w.heap.size, 2, none⟩ (.int .i64 z)).setCell ⟨w.heap.size, 3, none⟩ (.slice A xs.length c)).frozen? ⟨w.heap.size + 1, 1, none⟩ = false by obtain ⟨y0, g0, y1, g1⟩ := Y32.out; simp [go_sem, *])
          refine hK.out _ _ (by (try dsimp only); exact E33.out) (fun hHeld => ?_)
          clear hK K
          (try simp only [Act.put, List.getElem_toArray, List.getElem_cons_zero, List.getElem_cons_succ, List.setIfInBounds_toArray, List.set_cons_zero, List.set_cons_succ])
          clear q0 f0 q1 f1 q2 f2 q3 f3
          generalize ((((p32.setCell ⟨w.heap.size, 0, none⟩ (.int .i64 i)).setCell ⟨w.heap.size, 1, none⟩ (.string nm)).setCell ⟨w.heap.size, 2, none⟩ (.int .i64 z)).setCell ⟨w.heap.size, 3, none⟩ (.slice A xs.length c)) = p33 at *
          refine wpAnyH_ready (rs := [19]) (by kernel_rfl) (by simp) ?_
          refine AllReadyH.cons rfl (fun K hK => ?_) (AllReadyH.nil)
          obtain ⟨q0, f0, q1, f1⟩ := Y33.out
          go_simp
          have E34 := Lib.hid ((blk4_set ⟨w.heap.size + 1, 1, none⟩ (by simp; omega) (.int .i64 v16) (blk4_set ⟨w.heap.size + 1, 0, none⟩ (by simp; omega) (.int .i64 v8) E33.out)))
          have K34 := Lib.hid ((Kept.setCell (Kept.setCell K33.out (p := ⟨w.heap.size + 1, 0, none⟩) (by first | (simp; done) | (simp; omega)) (.int .i64 v8)) (p := ⟨w.heap.size + 1, 1, none⟩) (by first | (simp; done) | (simp; omega)) (.int .i64 v16)))
          have O34 := Lib.hid ((ownsRow_setCell_below (ownsRow_setCell_below O33.out (a := ⟨w.heap.size + 1, 0, none⟩) (by simp; omega) (.int .i64 v8)) (a := ⟨w.heap.size + 1, 1, none⟩) (by simp; omega) (.int .i64 v16)))
          have X34 := Lib.hid (show ((p33.setCell ⟨w.heap.size + 1, 0, none⟩ (.int .i64 v8)).setCell ⟨w.heap.size + 1, 1, none⟩ (.int .i64 v16)).cell? ⟨w.heap.size, 0, none⟩ = some (.int .i64 i) ∧ ((p33.setCell ⟨w.heap.size + 1, 0, none⟩ (.int .i64 v8)).setCell ⟨w.heap.size + 1, 1, none⟩ (.int .i64 v16)).frozen? ⟨w.heap.size, 0, none⟩ = false ∧ ((p33.setCell ⟨w.heap.size + 1, 0, none⟩ (.int .i64 v8)).setCell ⟨w.heap.size + 1, 1, none⟩ (.int .i64 v16)).cell? ⟨w.heap.size, 1, none⟩ = some (.string nm) ∧ ((p33.setCell ⟨w.heap.size + 1, 0, none⟩ (.int .i64 v8)).setCell ⟨w.heap.size + 1, 1, none⟩ (.int .i64 v16)).frozen? ⟨w.heap.size, 1, none⟩ = false ∧ ((p33.setCell ⟨w.heap.size + 1, 0, none⟩ (.int .i64 v8)).setCell ⟨w.heap.size + 1, 1, none⟩ (.int .i64 v16)).cell? ⟨w.heap.size, 2, none⟩ = some (.int .i64 z) ∧ ((p33.setCell ⟨w.heap.size + 1, 0, none⟩ (.int .i64 v8)).setCell ⟨w.heap.size + 1, 1, none⟩ (.int .i64 v16)).frozen? ⟨w.heap.size, 2, none⟩ = false ∧ ((p33.setCell ⟨w.heap.size + 1, 0, none⟩ (.int .i64 v8)).setCell ⟨w.heap.size + 1, 1, none⟩ (.int .i64 v16)).cell? ⟨w.heap.size, 3, none⟩ = some (.slice A xs.length c) ∧ ((p33.setCell ⟨w.heap.size + 1, 0, none⟩ (.int .i64 v8)).setCell ⟨w.heap.size + 1, 1, none⟩ (.int .i64 v16)).frozen? ⟨w.heap.size, 3, none⟩ = false by obtain ⟨y0, g0, y1, g1, y2, g2, y3, g3⟩ := X33.out; simp [go_sem, *])
          have Y34 := Lib.hid (show ((p33.setCell ⟨w.heap.size + 1, 0, none⟩ (.int .i64 v8)).setCell ⟨w.heap.size + 1, 1, none⟩ (.int .i64 v16)).cell? ⟨w.heap.size + 1, 0, none⟩ = some (.int .i64 v8) ∧ ((p33.setCell ⟨w.heap.size + 1, 0, none⟩ (.int .i64 v8)).setCell ⟨w.heap.size + 1, 1, none⟩ (.int .i64 v16)).frozen? ⟨w.heap.size + 1, 0, none⟩ = false ∧ ((p33.setCell ⟨w.heap.size + 1, 0, none⟩ (.int .i64 v8)).setCell ⟨w.heap.size + 1, 1, none⟩ (.int .i64 v16)).cell? ⟨w.heap.size + 1, 1, none⟩ = some (.int .i64 v16) ∧ ((p33.setCell ⟨w.heap.size + 1, 0, none⟩ (.int .i64 v8)).setCell ⟨w.heap.size + 1, 1, none⟩ (.int .i64 v16)).frozen? ⟨w.heap.size + 1, 1, none⟩ = false by simp [go_sem, *])
          refine hK.out _ _ (by (try dsimp only); exact E34.out) (fun hHeld => ?_)
          clear hK K
          (try simp only [Act.put, List.getElem_toArray, List.getElem_cons_zero, List.getElem_cons_succ, List.setIfInBounds_toArray, List.set_cons_zero, List.set_cons_succ])
          clear q0 f0 q1 f1
          generalize ((p33.setCell ⟨w.heap.size + 1, 0, none⟩ (.int .i64 v8)).setCell ⟨w.heap.size + 1, 1, none⟩ (.int .i64 v16)) = p34 at *
          refine wpAnyH_done (by kernel_rfl) ?_ _
          go_wp2_with fail
          obtain ⟨x0, l0, x1, l1, x2, l2, x3, l3⟩ := X34.out
          obtain ⟨y0, g0, y1, g1⟩ := Y34.out
          exact bodyPost_ret (v := .tuple #[.agg #[.int .i64 i, .string nm, .int .i64 z, .slice A xs.length c], .agg #[.int .i64 v8, .int .i64 v16]]) (by simp [results, Try.results16, go_sem, *]) rfl ⟨i, z, nm, _, xs, _, _, rfl, hnm, hxl, pairs_own O34.out, K34.out⟩
        · skip
          go_simp
          go_at_call 68
          refine (pick_any gc (((0 + 200) + 2) + 2) 24 _ C29.out (by omega) (by omega)).mono ?_
          rintro e p35 ⟨v12, rfl, ⟨va12, vb12⟩, hc35, hs35⟩
          obtain ⟨y12, hy12, hz12⟩ : ∃ y : Nat, v12 / 11 = (y : Int) ∧ y ≤ 2 := ⟨(v12 / 11).toNat, by omega, by omega⟩
          have ht12 : v12.tdiv 11 = (y12 : Int) := by rw [Int.tdiv_eq_ediv_of_nonneg (by omega)]; exact hy12
          have hw12 : IntKind.i64.wrap (y12 : Int) = (y12 : Int) := by rw [IntKind.wrap_i64]; omega
          have hv12 : IntKind.i64.wrap (3 + (y12 : Int)) = 3 + (y12 : Int) := by rw [IntKind.wrap_i64]; omega
          have ha12 : (0 : Int) ≤ 3 + (y12 : Int) := by omega
          have hb12 : 3 + (y12 : Int) ≤ 5 := by omega
          have hn12 : (3 + (y12 : Int)).toNat = 3 + y12 := by omega
          (try go_wp2_with fail)
          have E35 := Lib.hid (blk4_stir hs35 h5g E29.out)
          refine hK.out _ _ (by (try dsimp only); exact E35.out) (fun hHeld => ?_)
          clear hK K
          (try simp only [Act.put, List.getElem_toArray, List.getElem_cons_zero, List.getElem_cons_succ, List.setIfInBounds_toArray, List.set_cons_zero, List.set_cons_succ])
          have O35 := Lib.hid (hs35.own O29.out hog)
          have C35 := Lib.hid hc35
          have K35 := Lib.hid (Stir.out K29.out hs35 (by omega))
          have Z35 := Lib.hid (blk4_stir hs35 (by omega) Z29.out)
          have Y35 := Lib.hid (blk2_stir hs35 (by omega) Y29.out)
          have NI2_35 := Lib.hid (NI2_29.out.stir hs35 hg28)
          clear hc35 hs35
          refine wpAnyH_take (i := 13) (v := ?_) rfl (by kernel_rfl) (by kernel_rfl) (by kernel_rfl) (fun _ _ _ h => h) (Or.inl ⟨by kernel_rfl, ?_⟩) (by assumption) ?_
          rotate_left
          focus (intro w' hSw; (try dsimp only at hSw); obtain ⟨s0, sf0, s1, sf1, s2, sf2, s3, sf3⟩ := hSw; go_simp; (try with_reducible rfl))
          (try simp only [Act.put, List.getElem_toArray, List.getElem_cons_zero, List.getElem_cons_succ, List.setIfInBounds_toArray, List.set_cons_zero, List.set_cons_succ])
          refine wpAnyH_take (i := 14) (v := ?_) rfl (by kernel_rfl) (by kernel_rfl) (by kernel_rfl) (fun _ _ _ h => h) (Or.inl ⟨by kernel_rfl, ?_⟩) (by assumption) ?_
          rotate_left
          focus (intro w' hSw; (try dsimp only at hSw); obtain ⟨s0, sf0, s1, sf1, s2, sf2, s3, sf3⟩ := hSw; go_simp; (try with_reducible rfl))
          (try simp only [Act.put, List.getElem_toArray, List.getElem_cons_zero, List.getElem_cons_succ, List.setIfInBounds_toArray, List.set_cons_zero, List.set_cons_succ])
          refine wpAnyH_ready (rs := [10]) (by kernel_rfl) (by simp) ?_
          refine AllReadyH.cons rfl (fun K hK => ?_) (AllReadyH.nil)
          go_simp
          have ka : Kept p35 (p35.alloc (.cells #[.int .i64 (-500), .int .i64 77, .int .i64 2000, .int .i64 (-501), .int .i64 2001] 3)) := Kept.alloc (Kept.refl _) _
          have E36 := Lib.hid (blk4 ka E35.out)
          refine hK.out _ _ (by (try dsimp only); exact E36.out) (fun hHeld => ?_)
          clear hK K
          (try simp only [Act.put, List.getElem_toArray, List.getElem_cons_zero, List.getElem_cons_succ, List.setIfInBounds_toArray, List.set_cons_zero, List.set_cons_succ])
          have O36 := Lib.hid (own_kept O35.out ka)
          have C36 := Lib.hid (C35.out.kept ka)
          have K36 := Lib.hid (K35.out.trans ka)
          have Z36 := Lib.hid (blk4 ka Z35.out)
          have Y36 := Lib.hid (blk2_keep ka Y35.out)
          have NI2_36 := Lib.hid (NI2_35.out.kept ka)
          have NI10_36 := Lib.hid (NumsIn.lit (w := p35) (xs := [-500, 77, 2000, -501, 2001]) (t := 3) (n := p35.heap.size) (cs := #[.int .i64 (-500), .int .i64 77, .int .i64 2000, .int .i64 (-501), .int .i64 2001]) (by rfl) rfl)
          have hg36 : p35.heap.size ≠ gc := fun e => by have := C35.out.lt; omega
          clear ka
          generalize p35.alloc (.cells #[.int .i64 (-500), .int .i64 77, .int .i64 2000, .int .i64 (-501), .int .i64 2001] 3) = p36 at *
          refine wpAnyH_take (i := 15) (v := ?_) rfl (by kernel_rfl) (by kernel_rfl) (by kernel_rfl) (fun _ _ _ h => h) (Or.inl ⟨by kernel_rfl, ?_⟩) (by assumption) ?_
          rotate_left
          focus (intro w' hSw; (try dsimp only at hSw); obtain ⟨s0, sf0, s1, sf1, s2, sf2, s3, sf3⟩ := hSw; go_simp; (try with_reducible rfl))
          (try simp only [Act.put, List.getElem_toArray, List.getElem_cons_zero, List.getElem_cons_succ, List.setIfInBounds_toArray, List.set_cons_zero, List.set_cons_succ])
          refine wpAnyH_ready (rs := [16]) (by kernel_rfl) (by simp) ?_
          refine AllReadyH.cons rfl (fun K hK => ?_) (AllReadyH.nil)
          go_simp
          go_at_call 67
          refine (among_pre gc _ _ (3 + y12) ((((0 + 200) + 2) + 2) + 2) [-500, 77, 2000, -501, 2001] _ C36.out (by omega) NI10_36.out hg36 (by omega) (by first | (simp; done) | (simp; omega)) (by decide)).mono ?_
          rintro e p37 ⟨v16, rfl, hc37, hs37⟩
          (try go_wp2_with fail)
          have E37 := Lib.hid (blk4_stir hs37 h5g E36.out)
          refine hK.out _ _ (by (try dsimp only); exact E37.out) (fun hHeld => ?_)
          clear hK K
          (try simp only [Act.put, List.getElem_toArray, List.getElem_cons_zero, List.getElem_cons_succ, List.setIfInBounds_toArray, List.set_cons_zero, List.set_cons_succ])
          have O37 := Lib.hid (hs37.own O36.out hog)
          have C37 := Lib.hid hc37
          have K37 := Lib.hid (Stir.out K36.out hs37 (by omega))
          have Z37 := Lib.hid (blk4_stir hs37 (by omega) Z36.out)
          have Y37 := Lib.hid (blk2_stir hs37 (by omega) Y36.out)
          have NI2_37 := Lib.hid (NI2_36.out.stir hs37 hg28)
          have NI10_37 := Lib.hid (NI10_36.out.stir hs37 hg36)
          clear hc37 hs37
          refine wpAnyH_take (i := 17) (v := ?_) rfl (by kernel_rfl) (by kernel_rfl) (by kernel_rfl) (fun _ _ _ h => h) (Or.inl ⟨by kernel_rfl, ?_⟩) (by assumption) ?_
          rotate_left
          focus (intro w' hSw; (try dsimp only at hSw); obtain ⟨s0, sf0, s1, sf1, s2, sf2, s3, sf3⟩ := hSw; go_simp; (try with_reducible rfl))
          (try simp only [Act.put, List.getElem_toArray, List.getElem_cons_zero, List.getElem_cons_succ, List.setIfInBounds_toArray, List.set_cons_zero, List.set_cons_succ])
          refine wpAnyH_ready (rs := [18]) (by kernel_rfl) (by simp) ?_
          refine AllReadyH.cons rfl (fun K hK => ?_) (AllReadyH.nil)
          obtain ⟨q0, f0, q1, f1, q2, f2, q3, f3⟩ := Z37.out
          go_simp
          have E38 := Lib.hid ((blk4_set ⟨w.heap.size, 3, none⟩ (by simp; omega) (.slice A xs.length c) (blk4_set ⟨w.heap.size, 2, none⟩ (by simp; omega) (.int .i64 z) (blk4_set ⟨w.heap.size, 1, none⟩ (by simp; omega) (.string nm) (blk4_set ⟨w.heap.size, 0, none⟩ (by simp; omega) (.int .i64 i) E37.out)))))
          have K38 := Lib.hid ((Kept.setCell (Kept.setCell (Kept.setCell (Kept.setCell K37.out (p := ⟨w.heap.size, 0, none⟩) (by first | (simp; done) | (simp; omega)) (.int .i64 i)) (p := ⟨w.heap.size, 1, none⟩) (by first | (simp; done) | (simp; omega)) (.string nm)) (p := ⟨w.heap.size, 2, none⟩) (by first | (simp; done) | (simp; omega)) (.int .i64 z)) (p := ⟨w.heap.size, 3, none⟩) (by first | (simp; done) | (simp; omega)) (.slice A xs.length c)))
          have O38 := Lib.hid ((ownsRow_setCell_below (ownsRow_setCell_below (ownsRow_setCell_below (ownsRow_setCell_below O37.out (a := ⟨w.heap.size, 0, none⟩) (by simp; omega) (.int .i64 i)) (a := ⟨w.heap.size, 1, none⟩) (by simp; omega) (.string nm)) (a := ⟨w.heap.size, 2, none⟩) (by simp; omega) (.int .i64 z)) (a := ⟨w.heap.size, 3, none⟩) (by simp; omega) (.slice A xs.length c)))
          have X38 := Lib.hid (show ((((p37.setCell ⟨w.heap.size, 0, none⟩ (.int .i64 i)).setCell ⟨w.heap.size, 1, none⟩ (.string nm)).setCell ⟨w.heap.size, 2, none⟩ (.int .i64 z)).setCell ⟨w.heap.size, 3, none⟩ (.slice A xs.length c)).cell? ⟨w.heap.size, 0, none⟩ = some (.int .i64 i) ∧ ((((p37.setCell ⟨w.heap.size, 0, none⟩ (.int .i64 i)).setCell ⟨w.heap.size, 1, none⟩ (.string nm)).setCell ⟨w.heap.size, 2, none⟩ (.int .i64 z)).setCell ⟨w.heap.size, 3, none⟩ (.slice A xs.length c)).frozen? ⟨w.heap.size, 0, none⟩ = false ∧ ((((p37.setCell ⟨w.heap.size, 0, none⟩ (.int .i64 i)).setCell ⟨w.heap.size, 1, none⟩ (.string nm)).setCell ⟨w.heap.size, 2, none⟩ (.int .i64 z)).setCell ⟨w.heap.size, 3, none⟩ (.slice A xs.length c)).cell? ⟨w.heap.size, 1, none⟩ = some (.string nm) ∧ ((((p37.setCell ⟨w.heap.size, 0, none⟩ (.int .i64 i)).setCell ⟨w.heap.size, 1, none⟩ (.string nm)).setCell ⟨w.heap.size, 2, none⟩ (.int .i64 z)).setCell ⟨w.heap.size, 3, none⟩ (.slice A xs.length c)).frozen? ⟨w.heap.size, 1, none⟩ = false ∧ ((((p37.setCell ⟨w.heap.size, 0, none⟩ (.int .i64 i)).setCell ⟨w.heap.size, 1, none⟩ (.string nm)).setCell ⟨w.heap.size, 2, none⟩ (.int .i64 z)).setCell ⟨w.heap.size, 3, none⟩ (.slice A xs.length c)).cell? ⟨w.heap.size, 2, none⟩ = some (.int .i64 z) ∧ ((((p37.setCell ⟨w.heap.size, 0, none⟩ (.int .i64 i)).setCell ⟨w.heap.size, 1, none⟩ (.string nm)).setCell ⟨w.heap.size, 2, none⟩ (.int .i64 z)).setCell ⟨w.heap.size, 3, none⟩ (.slice A xs.length c)).frozen? ⟨w.heap.size, 2, none⟩ = false ∧ ((((p37.setCell ⟨w.heap.size, 0, none⟩ (.int .i64 i)).setCell ⟨w.heap.size, 1, none⟩ (.string nm)).setCell ⟨w.heap.size, 2, none⟩ (.int .i64 z)).setCell ⟨w.heap.size, 3, none⟩ (.slice A xs.length c)).cell? ⟨w.heap.size, 3, none⟩ = some (.slice A xs.length c) ∧ ((((p37.setCell ⟨w.heap.size, 0, none⟩ (.int .i64 i)).setCell ⟨w.heap.size, 1, none⟩ (.string nm)).setCell ⟨w.heap.size, 2, none⟩ (.int .i64 z)).setCell ⟨w.heap.size, 3, none⟩ (.slice A xs.length c)).frozen? ⟨w.heap.size, 3, none⟩ = false by simp [go_sem, *])
          have Y38 := Lib.hid (show ((((p37.setCell ⟨w.heap.size, 0, none⟩ (.int .i64 i)).setCell ⟨w.heap.size, 1, none⟩ (.string nm)).setCell ⟨w.heap.size, 2, none⟩ (.int .i64 z)).setCell ⟨w.heap.size, 3, none⟩ (.slice A xs.length c)).cell? ⟨w.heap.size + 1, 0, none⟩ = some (.int .i64 0) ∧ ((((p37.setCell ⟨w.heap.size, 0, none⟩ (.int .i64 i)).setCell ⟨w.heap.size, 1, none⟩ (.string nm)).setCell ⟨w.heap.size, 2, none⟩ (.int .i64 z)).setCell ⟨w.heap.size, 3, none⟩ (.slice A xs.length c)).frozen? ⟨w.heap.size + 1, 0, none⟩ = false ∧ ((((p37.setCell ⟨w.heap.size, 0, none⟩ (.int .i64 i)).setCell ⟨w.heap.size, 1, none⟩ (.string nm)).setCell ⟨w.heap.size, 2, none⟩ (.int .i64 z)).setCell ⟨w.heap.size, 3, none⟩ (.slice A xs.length c)).cell? ⟨w.heap.size + 1, 1, none⟩ = some (.int .i64 0) ∧ ((((p37.setCell ⟨w.heap.size, 0, none⟩ (.int .i64 i)).setCell ⟨w.heap.size, 1, none⟩ (.string nm)).setCell ⟨w.heap.size, 2, none⟩ (.int .i64 z)).setCell ⟨w.heap.size, 3, none⟩ (.slice A xs.length c)).frozen? ⟨w.heap.size + 1, 1, none⟩ = false by obtain ⟨y0, g0, y1, g1⟩ := Y37.out; simp [go_sem, *])
          refine hK.out _ _ (by (try dsimp only); exact E38.out) (fun hHeld => ?_)
          clear hK K
          (try simp only [Act.put, List.getElem_toArray, List.getElem_cons_zero, List.getElem_cons_succ, List.setIfInBounds_toArray, List.set_cons_zero, List.set_cons_succ])
          clear q0 f0 q1 f1 q2 f2 q3 f3
          generalize ((((p37.setCell ⟨w.heap.size, 0, none⟩ (.int .i64 i)).setCell ⟨w.heap.size, 1, none⟩ (.string nm)).setCell ⟨w.heap.size, 2, none⟩ (.int .i64 z)).setCell ⟨w.heap.size, 3, none⟩ (.slice A xs.length c)) = p38 at *
          refine wpAnyH_ready (rs := [19]) (by kernel_rfl) (by simp) ?_
          refine AllReadyH.cons rfl (fun K hK => ?_) (AllReadyH.nil)
          obtain ⟨q0, f0, q1, f1⟩ := Y38.out
          go_simp
          have E39 := Lib.hid ((blk4_set ⟨w.heap.size + 1, 1, none⟩ (by simp; omega) (.int .i64 v16) (blk4_set ⟨w.heap.size + 1, 0, none⟩ (by simp; omega) (.int .i64 v8) E38.out)))
          have K39 := Lib.hid ((Kept.setCell (Kept.setCell K38.out (p := ⟨w.heap.size + 1, 0, none⟩) (by first | (simp; done) | (simp; omega)) (.int .i64 v8)) (p := ⟨w.heap.size + 1, 1, none⟩) (by first | (simp; done) | (simp; omega)) (.int .i64 v16)))
          have O39 := Lib.hid ((ownsRow_setCell_below (ownsRow_setCell_below O38.out (a := ⟨w.heap.size + 1, 0, none⟩) (by simp; omega) (.int .i64 v8)) (a := ⟨w.heap.size + 1, 1, none⟩) (by simp; omega) (.int .i64 v16)))
          have X39 := Lib.hid (show ((p38.setCell ⟨w.heap.size + 1, 0, none⟩ (.int .i64 v8)).setCell ⟨w.heap.size + 1, 1, none⟩ (.int .i64 v16)).cell? ⟨w.heap.size, 0, none⟩ = some (.int .i64 i) ∧ ((p38.setCell ⟨w.heap.size + 1, 0, none⟩ (.int .i64 v8)).setCell ⟨w.heap.size + 1, 1, none⟩ (.int .i64 v16)).frozen? ⟨w.heap.size, 0, none⟩ = false ∧ ((p38.setCell ⟨w.heap.size + 1, 0, none⟩ (.int .i64 v8)).setCell ⟨w.heap.size + 1, 1, none⟩ (.int .i64 v16)).cell? ⟨w.heap.size, 1, none⟩ = some (.string nm) ∧ ((p38.setCell ⟨w.heap.size + 1, 0, none⟩ (.int .i64 v8)).setCell ⟨w.heap.size + 1, 1, none⟩ (.int .i64 v16)).frozen? ⟨w.heap.size, 1, none⟩ = false ∧ ((p38.setCell ⟨w.heap.size + 1, 0, none⟩ (.int .i64 v8)).setCell ⟨w.heap.size + 1, 1, none⟩ (.int .i64 v16)).cell? ⟨w.heap.size, 2, none⟩ = some (.int .i64 z) ∧ ((p38.setCell ⟨w.heap.size + 1, 0, none⟩ (.int .i64 v8)).setCell ⟨w.heap.size + 1, 1, none⟩ (.int .i64 v16)).frozen? ⟨w.heap.size, 2, none⟩ = false ∧ ((p38.setCell ⟨w.heap.size + 1, 0, none⟩ (.int .i64 v8)).setCell ⟨w.heap.size + 1, 1, none⟩ (.int .i64 v16)).cell? ⟨w.heap.size, 3, none⟩ = some (.slice A xs.length c) ∧ ((p38.setCell ⟨w.heap.size + 1, 0, none⟩ (.int .i64 v8)).setCell ⟨w.heap.size + 1, 1, none⟩ (.int .i64 v16)).frozen? ⟨w.heap.size, 3, none⟩ = false by obtain ⟨y0, g0, y1, g1, y2, g2, y3, g3⟩ := X38.out; simp [go_sem, *])
          have Y39 := Lib.hid (show ((p38.setCell ⟨w.heap.size + 1, 0, none⟩ (.int .i64 v8)).setCell ⟨w.heap.size + 1, 1, none⟩ (.int .i64 v16)).cell? ⟨w.heap.size + 1, 0, none⟩ = some (.int .i64 v8) ∧ ((p38.setCell ⟨w.heap.size + 1, 0, none⟩ (.int .i64 v8)).setCell ⟨w.heap.size + 1, 1, none⟩ (.int .i64 v16)).frozen? ⟨w.heap.size + 1, 0, none⟩ = false ∧ ((p38.setCell ⟨w.heap.size + 1, 0, none⟩ (.int .i64 v8)).setCell ⟨w.heap.size + 1, 1, none⟩ (.int .i64 v16)).cell? ⟨w.heap.size + 1, 1, none⟩ = some (.int .i64 v16) ∧ ((p38.setCell ⟨w.heap.size + 1, 0, none⟩ (.int .i64 v8)).setCell ⟨w.heap.size + 1, 1, none⟩ (.int .i64 v16)).frozen? ⟨w.heap.size + 1, 1, none⟩ = false by simp [go_sem, *])
          refine hK.out _ _ (by (try dsimp only); exact E39.out) (fun hHeld => ?_)
          clear hK K
          (try simp only [Act.put, List.getElem_toArray, List.getElem_cons_zero, List.getElem_cons_succ, List.setIfInBounds_toArray, List.set_cons_zero, List.set_cons_succ])
          clear q0 f0 q1 f1
          generalize ((p38.setCell ⟨w.heap.size + 1, 0, none⟩ (.int .i64 v8)).setCell ⟨w.heap.size + 1, 1, none⟩ (.int .i64 v16)) = p39 at *
          refine wpAnyH_done (by kernel_rfl) ?_ _
          go_wp2_with fail
          obtain ⟨x0, l0, x1, l1, x2, l2, x3, l3⟩ := X39.out
          obtain ⟨y0, g0, y1, g1⟩ := Y39.out
          exact bodyPost_ret (v := .tuple #[.agg #[.int .i64 i, .string nm, .int .i64 z, .slice A xs.length c], .agg #[.int .i64 v8, .int .i64 v16]]) (by simp [results, Try.results16, go_sem, *]) rfl ⟨i, z, nm, _, xs, _, _, rfl, hnm, hxl, pairs_own O39.out, K39.out⟩
      · skip
        go_simp
        have ka : Kept p28 (p28.alloc (.cells #[.int .i64 (-500), .int .i64 77, .int .i64 2000, .int .i64 (-501), .int .i64 2001] 3)) := Kept.alloc (Kept.refl _) _
        have E40 := Lib.hid (blk4 ka E28.out)
        refine hK.out _ _ (by (try dsimp only); exact E40.out) (fun hHeld => ?_)
        clear hK K
        (try simp only [Act.put, List.getElem_toArray, List.getElem_cons_zero, List.getElem_cons_succ, List.setIfInBounds_toArray, List.set_cons_zero, List.set_cons_succ])
        have O40 := Lib.hid (own_kept O28.out ka)
        have C40 := Lib.hid (C28.out.kept ka)
        have K40 := Lib.hid (K28.out.trans ka)
        have Z40 := Lib.hid (blk4 ka Z28.out)
        have Y40 := Lib.hid (blk2_keep ka Y28.out)
        have NI2_40 := Lib.hid (NI2_28.out.kept ka)
        have NI10_40 := Lib.hid (NumsIn.lit (w := p28) (xs := [-500, 77, 2000, -501, 2001]) (t := 3) (n := p28.heap.size) (cs := #[.int .i64 (-500), .int .i64 77, .int .i64 2000, .int .i64 (-501), .int .i64 2001]) (by rfl) rfl)
        have hg40 : p28.heap.size ≠ gc := fun e => by have := C28.out.lt; omega
        clear ka
        generalize p28.alloc (.cells #[.int .i64 (-500), .int .i64 77, .int .i64 2000, .int .i64 (-501), .int .i64 2001] 3) = p40 at *
        refine wpAnyH_ready (rs := [8]) (by kernel_rfl) (by simp) ?_
        refine AllReadyH.cons rfl (fun K hK => ?_) (AllReadyH.nil)
        go_simp
        go_at_call 67
        refine (among_pre gc _ _ (6 + y4) ((0 + 200) + 2) [0, 10, 15, 20, 620, 10000, -1, 10001] _ C40.out (by omega) NI2_40.out hg28 (by omega) (by first | (simp; done) | (simp; omega)) (by decide)).mono ?_
        rintro e p41 ⟨v8, rfl, hc41, hs41⟩
        (try go_wp2_with fail)
        have E41 := Lib.hid (blk4_stir hs41 h5g E40.out)
        refine hK.out _ _ (by (try dsimp only); exact E41.out) (fun hHeld => ?_)
        clear hK K
        (try simp only [Act.put, List.getElem_toArray, List.getElem_cons_zero, List.getElem_cons_succ, List.setIfInBounds_toArray, List.set_cons_zero, List.set_cons_succ])
        have O41 := Lib.hid (hs41.own O40.out hog)
        have C41 := Lib.hid hc41
        have K41 := Lib.hid (Stir.out K40.out hs41 (by omega))
        have Z41 := Lib.hid (blk4_stir hs41 (by omega) Z40.out)
        have Y41 := Lib.hid (blk2_stir hs41 (by omega) Y40.out)
        have NI2_41 := Lib.hid (NI2_40.out.stir hs41 hg28)
        have NI10_41 := Lib.hid (NI10_40.out.stir hs41 hg40)
        clear hc41 hs41
        refine wpAnyH_ready (rs := [12]) (by kernel_rfl) (by simp) ?_
        refine AllReadyH.cons rfl (fun K hK => ?_) (AllReadyH.nil)
        go_simp
        go_at_call 68
        refine (pick_any gc (((0 + 200) + 2) + 2) 24 _ C41.out (by omega) (by omega)).mono ?_
        rintro e p42 ⟨v12, rfl, ⟨va12, vb12⟩, hc42, hs42⟩
        obtain ⟨y12, hy12, hz12⟩ : ∃ y : Nat, v12 / 11 = (y : Int) ∧ y ≤ 2 := ⟨(v12 / 11).toNat, by omega, by omega⟩
        have ht12 : v12.tdiv 11 = (y12 : Int) := by rw [Int.tdiv_eq_ediv_of_nonneg (by omega)]; exact hy12
        have hw12 : IntKind.i64.wrap (y12 : Int) = (y12 : Int) := by rw [IntKind.wrap_i64]; omega
        have hv12 : IntKind.i64.wrap (3 + (y12 : Int)) = 3 + (y12 : Int) := by rw [IntKind.wrap_i64]; omega
        have ha12 : (0 : Int) ≤ 3 + (y12 : Int) := by omega
        have hb12 : 3 + (y12 : Int) ≤ 5 := by omega
        have hn12 : (3 + (y12 : Int)).toNat = 3 + y12 := by omega
        (try go_wp2_with fail)
        have E42 := Lib.hid (blk4_stir hs42 h5g E41.out)
        refine hK.out _ _ (by (try dsimp only); exact E42.out) (fun hHeld => ?_)
        clear hK K
        (try simp only [Act.put, List.getElem_toArray, List.getElem_cons_zero, List.getElem_cons_succ, List.setIfInBounds_toArray, List.set_cons_zero, List.set_cons_succ])
        have O42 := Lib.hid (hs42.own O41.out hog)
        have C42 := Lib.hid hc42
        have K42 := Lib.hid (Stir.out K41.out hs42 (by omega))
        have Z42 := Lib.hid (blk4_stir hs42 (by omega) Z41.out)
        have Y42 := Lib.hid (blk2_stir hs42 (by omega) Y41.out)
        have NI2_42 := Lib.hid (NI2_41.out.stir hs42 hg28)
        have NI10_42 := Lib.hid (NI10_41.out.stir hs42 hg40)
        clear hc42 hs42
        refine wpAnyH_take (i := 13) (v := ?_) rfl (by kernel_rfl) (by kernel_rfl) (by kernel_rfl) (fun _ _ _ h => h) (Or.inl ⟨by kernel_rfl, ?_⟩) (by assumption) ?_
        rotate_left
        focus (intro w' hSw; (try dsimp only at hSw); obtain ⟨s0, sf0, s1, sf1, s2, sf2, s3, sf3⟩ := hSw; go_simp; (try with_reducible rfl))
        (try simp only [Act.put, List.getElem_toArray, List.getElem_cons_zero, List.getElem_cons_succ, List.setIfInBounds_toArray, List.set_cons_zero, List.set_cons_succ])
        refine wpAnyH_take (i := 14) (v := ?_) rfl (by kernel_rfl) (by kernel_rfl) (by kernel_rfl) (fun _ _ _ h => h) (Or.inl ⟨by kernel_rfl, ?_⟩) (by assumption) ?_
        rotate_left
        focus (intro w' hSw; (try dsimp only at hSw); obtain ⟨s0, sf0, s1, sf1, s2, sf2, s3, sf3⟩ := hSw; go_simp; (try with_reducible rfl))
        (try simp only [Act.put, List.getElem_toArray, List.getElem_cons_zero, List.getElem_cons_succ, List.setIfInBounds_toArray, List.set_cons_zero, List.set_cons_succ])
        refine wpAnyH_take (i := 15) (v := ?_) rfl (by kernel_rfl) (by kernel_rfl) (by kernel_rfl) (fun _ _ _ h => h) (Or.inl ⟨by kernel_rfl, ?_⟩) (by assumption) ?_
        rotate_left
        focus (intro w' hSw; (try dsimp only at hSw); obtain ⟨s0, sf0, s1, sf1, s2, sf2, s3, sf3⟩ := hSw; go_simp; (try with_reducible rfl))
        (try simp only [Act.put, List.getElem_toArray, List.getElem_cons_zero, List.getElem_cons_succ, List.setIfInBounds_toArray, List.set_cons_zero, List.set_cons_succ])
        refine wpAnyH_ready (rs := [16]) (by kernel_rfl) (by simp) ?_
        refine AllReadyH.cons rfl (fun K hK => ?_) (AllReadyH.nil)
        go_simp
        go_at_call 67
        refine (among_pre gc _ _ (3 + y12) ((((0 + 200) + 2) + 2) + 2) [-500, 77, 2000, -501, 2001] _ C42.out (by omega) NI10_42.out hg40 (by omega) (by first | (simp; done) | (simp; omega)) (by decide)).mono ?_
        rintro e p43 ⟨v16, rfl, hc43, hs43⟩
        (try go_wp2_with fail)
        have E43 := Lib.hid (blk4_stir hs43 h5g E42.out)
        refine hK.out _ _ (by (try dsimp only); exact E43.out) (fun hHeld => ?_)
        clear hK K
        (try simp only [Act.put, List.getElem_toArray, List.getElem_cons_zero, List.getElem_cons_succ, List.setIfInBounds_toArray, List.set_cons_zero, List.set_cons_succ])
        have O43 := Lib.hid (hs43.own O42.out hog)
        have C43 := Lib.hid hc43
        have K43 := Lib.hid (Stir.out K42.out hs43 (by omega))
        have Z43 := Lib.hid (blk4_stir hs43 (by omega) Z42.out)
        have Y43 := Lib.hid (blk2_stir hs43 (by omega) Y42.out)
        have NI2_43 := Lib.hid (NI2_42.out.stir hs43 hg28)
        have NI10_43 := Lib.hid (NI10_42.out.stir hs43 hg40)
        clear hc43 hs43
        refine wpAnyH_take (i := 17) (v := ?_) rfl (by kernel_rfl) (by kernel_rfl) (by kernel_rfl) (fun _ _ _ h => h) (Or.inl ⟨by kernel_rfl, ?_⟩) (by assumption) ?_
        rotate_left
        focus (intro w' hSw; (try dsimp only at hSw); obtain ⟨s0, sf0, s1, sf1, s2, sf2, s3, sf3⟩ := hSw; go_simp; (try with_reducible rfl))
        (try simp only [Act.put, List.getElem_toArray, List.getElem_cons_zero, List.getElem_cons_succ, List.setIfInBounds_toArray, List.set_cons_zero, List.set_cons_succ])
        refine wpAnyH_ready (rs := [18]) (by kernel_rfl) (by simp) ?_
        refine AllReadyH.cons rfl (fun K hK => ?_) (AllReadyH.nil)
        obtain ⟨q0, f0, q1, f1, q2, f2, q3, f3⟩ := Z43.out
        go_simp
        have E44 := Lib.hid ((blk4_set ⟨w.heap.size, 3, none⟩ (by simp; omega) (.slice A xs.length c) (blk4_set ⟨w.heap.size, 2, none⟩ (by simp; omega) (.int .i64 z) (blk4_set ⟨w.heap.size, 1, none⟩ (by simp; omega) (.string nm) (blk4_set ⟨w.heap.size, 0, none⟩ (by simp; omega) (.int .i64 i) E43.out)))))
        have K44 := Lib.hid ((Kept.setCell (Kept.setCell (Kept.setCell (Kept.setCell K43.out (p := ⟨w.heap.size, 0, none⟩) (by first | (simp; done) | (simp; omega)) (.int .i64 i)) (p := ⟨w.heap.size, 1, none⟩) (by first | (simp; done) | (simp; omega)) (.string nm)) (p := ⟨w.heap.size, 2, none⟩) (by first | (simp; done) | (simp; omega)) (.int .i64 z)) (p := ⟨w.heap.size, 3, none⟩) (by first | (simp; done) | (simp; omega)) (.slice A xs.length c)))
        have O44 := Lib.hid ((ownsRow_setCell_below (ownsRow_setCell_below (ownsRow_setCell_below (ownsRow_setCell_below O43.out (a := ⟨w.heap.size, 0, none⟩) (by simp; omega) (.int .i64 i)) (a := ⟨w.heap.size, 1, none⟩) (by simp; omega) (.string nm)) (a := ⟨w.heap.size, 2, none⟩) (by simp; omega) (.int .i64 z)) (a := ⟨w.heap.size, 3, none⟩) (by simp; omega) (.slice A xs.length c)))
        have X44 := Lib.hid (show ((((p43.setCell ⟨w.heap.size, 0, none⟩ (.int .i64 i)).setCell ⟨w.heap.size, 1, none⟩ (.string nm)).setCell ⟨w.heap.size, 2, none⟩ (.int .i64 z)).setCell ⟨w.heap.size, 3, none⟩ (.slice A xs.length c)).cell? ⟨w.heap.size, 0, none⟩ = some (.int .i64 i) ∧ ((((p43.setCell ⟨w.heap.size, 0, none⟩ (.int .i64 i)).setCell ⟨w.heap.size, 1, none⟩ (.string nm)).setCell ⟨w.heap.size, 2, none⟩ (.int .i64 z)).setCell ⟨w.heap.size, 3, none⟩ (.slice A xs.length c)).frozen? ⟨w.heap.size, 0, none⟩ = false ∧ ((((p43.setCell ⟨w.heap.size, 0, none⟩ (.int .i64 i)).setCell ⟨w.heap.size, 1, none⟩ (.string nm)).setCell ⟨w.heap.size, 2, none⟩ (.int .i64 z)).setCell ⟨w.heap.size, 3, none⟩ (.slice A xs.length c)).cell? ⟨w.heap.size, 1, none⟩ = some (.string nm) ∧ ((((p43.setCell ⟨w.heap.size, 0, none⟩ (.int .i64 i)).setCell ⟨w.heap.size, 1, none⟩ (.string nm)).setCell ⟨w.heap.size, 2, none⟩ (.int .i64 z)).setCell ⟨w.heap.size, 3, none⟩ (.slice A xs.length c)).frozen? ⟨w.heap.size, 1, none⟩ = false ∧ ((((p43.setCell ⟨w.heap.size, 0, none⟩ (.int .i64 i)).setCell ⟨w.heap.size, 1, none⟩ (.string nm)).setCell ⟨w.heap.size, 2, none⟩ (.int .i64 z)).setCell ⟨w.heap.size, 3, none⟩ (.slice A xs.length c)).cell? ⟨w.heap.size, 2, none⟩ = some (.int .i64 z) ∧ ((((p43.setCell ⟨w.heap.size, 0, none⟩ (.int .i64 i)).setCell ⟨w.heap.size, 1, none⟩ (.string nm)).setCell ⟨w.heap.size, 2, none⟩ (.int .i64 z)).setCell ⟨w.heap.size, 3, none⟩ (.slice A xs.length c)).frozen? ⟨w.heap.size, 2, none⟩ = false ∧ ((((p43.setCell ⟨w.heap.size, 0, none⟩ (.int .i64 i)).setCell ⟨w.heap.size, 1, none⟩ (.string nm)).setCell ⟨w.heap.size, 2, none⟩ (.int .i64 z)).setCell ⟨w.heap.size, 3, none⟩ (.slice A xs.length c)).cell? ⟨w.heap.size, 3, none⟩ = some (.slice A xs.length c) ∧ ((((p43.setCell ⟨w.heap.size, 0, none⟩ (.int .i64 i)).setCell ⟨w.heap.size, 1, none⟩ (.string nm)).setCell ⟨w.heap.size, 2, none⟩ (.int .i64 z)).setCell ⟨w.heap.size, 3, none⟩ (.slice A xs.length c)).frozen? ⟨w.heap.size, 3, none⟩ = false by simp [go_sem, *])
        have Y44 := Lib.hid (show ((((p43.setCell ⟨w.heap.size, 0, none⟩ (.int .i64 i)).setCell ⟨w.heap.size, 1, none⟩ (.string nm)).setCell ⟨w.heap.size, 2, none⟩ (.int .i64 z)).setCell ⟨w.heap.size, 3, none⟩ (.slice A xs.length c)).cell? ⟨w.heap.size + 1, 0, none⟩ = some (.int .i64 0) ∧ ((((p43.setCell ⟨w.heap.size, 0, none⟩ (.int .i64 i)).setCell ⟨w.heap.size, 1, none⟩ (.string nm)).setCell ⟨w.heap.size, 2, none⟩ (.int .i64 z)).setCell ⟨w.heap.size, 3, none⟩ (.slice A xs.length c)).frozen? ⟨w.heap.size + 1, 0, none⟩ = false ∧ ((((p43.setCell ⟨w.heap.size, 0, none⟩ (.int .i64 i)).setCell ⟨w.heap.size, 1, none⟩ (.string nm)).setCell ⟨w.heap.size, 2, none⟩ (.int .i64 z)).setCell ⟨w.heap.size, 3, none⟩ (.slice A xs.length c)).cell? ⟨w.heap.size + 1, 1, none⟩ = some (.int .i64 0) ∧ ((((p43.setCell ⟨w.heap.size, 0, none⟩ (.int .i64 i)).setCell ⟨w.heap.size, 1, none⟩ (.string nm)).setCell ⟨w.heap.size, 2, none⟩ (.int .i64 z)).setCell ⟨w.heap.size, 3, none⟩ (.slice A xs.length c)).frozen? ⟨w.heap.size + 1, 1, none⟩ = false by obtain ⟨y0, g0, y1, g1⟩ := Y43.out; simp [go_sem, *])
        refine hK.out _ _ (by (try dsimp only); exact E44.out) (fun hHeld => ?_)
        clear hK K
        (try simp only [Act.put, List.getElem_toArray, List.getElem_cons_zero, List.getElem_cons_succ, List.setIfInBounds_toArray, List.set_cons_zero, List.set_cons_succ])
        clear q0 f0 q1 f1 q2 f2 q3 f3
        generalize ((((p43.setCell ⟨w.heap.size, 0, none⟩ (.int .i64 i)).setCell ⟨w.heap.size, 1, none⟩ (.string nm)).setCell ⟨w.heap.size, 2, none⟩ (.int .i64 z)).setCell ⟨w.heap.size, 3, none⟩ (.slice A xs.length c)) = p44 at *
        refine wpAnyH_ready (rs := [19]) (by kernel_rfl) (by simp) ?_
        refine AllReadyH.cons rfl (fun K hK => ?_) (AllReadyH.nil)
        obtain ⟨q0, f0, q1, f1⟩ := Y44.out
        go_simp
        have E45 := Lib.hid ((blk4_set ⟨w.heap.size + 1, 1, none⟩ (by simp; omega) (.int .i64 v16) (blk4_set ⟨w.heap.size + 1, 0, none⟩ (by simp; omega) (.int .i64 v8) E44.out)))
        have K45 := Lib.hid ((Kept.setCell (Kept.setCell K44.out (p := ⟨w.heap.size + 1, 0, none⟩) (by first | (simp; done) | (simp; omega)) (.int .i64 v8)) (p := ⟨w.heap.size + 1, 1, none⟩) (by first | (simp; done) | (simp; omega)) (.int .i64 v16)))
        have O45 := Lib.hid ((ownsRow_setCell_below (ownsRow_setCell_below O44.out (a := ⟨w.heap.size + 1, 0, none⟩) (by simp; omega) (.int .i64 v8)) (a := ⟨w.heap.size + 1, 1, none⟩) (by simp; omega) (.int .i64 v16)))
        have X45 := Lib.hid (show ((p44.setCell ⟨w.heap.size + 1, 0, none⟩ (.int .i64 v8)).setCell ⟨w.heap.size + 1, 1, none⟩ (.int .i64 v16)).cell? ⟨w.heap.size, 0, none⟩ = some (.int .i64 i) ∧ ((p44.setCell ⟨w.heap.size + 1, 0, none⟩ (.int .i64 v8)).setCell ⟨w.heap.size + 1, 1, none⟩ (.int .i64 v16)).frozen? ⟨w.heap.size, 0, none⟩ = false ∧ ((p44.setCell ⟨w.heap.size + 1, 0, none⟩ (.int .i64 v8)).setCell ⟨w.heap.size + 1, 1, none⟩ (.int .i64 v16)).cell? ⟨w.heap.size, 1, none⟩ = some (.string nm) ∧ ((p44.setCell ⟨w.heap.size + 1, 0, none⟩ (.int .i64 v8)).setCell ⟨w.heap.size + 1, 1, none⟩ (.int .i64 v16)).frozen? ⟨w.heap.size, 1, none⟩ = false ∧ ((p44.setCell ⟨w.heap.size + 1, 0, none⟩ (.int .i64 v8)).setCell ⟨w.heap.size + 1, 1, none⟩ (.int .i64 v16)).cell? ⟨w.heap.size, 2, none⟩ = some (.int .i64 z) ∧ ((p44.setCell ⟨w.heap.size + 1, 0, none⟩ (.int .i64 v8)).setCell ⟨w.heap.size + 1, 1, none⟩ (.int .i64 v16)).frozen? ⟨w.heap.size, 2, none⟩ = false ∧ ((p44.setCell ⟨w.heap.size + 1, 0, none⟩ (.int .i64 v8)).setCell ⟨w.heap.size + 1, 1, none⟩ (.int .i64 v16)).cell? ⟨w.heap.size, 3, none⟩ = some (.slice A xs.length c) ∧ ((p44.setCell ⟨w.heap.size + 1, 0, none⟩ (.int .i64 v8)).setCell ⟨w.heap.size + 1, 1, none⟩ (.int .i64 v16)).frozen? ⟨w.heap.size, 3, none⟩ = false by obtain ⟨y0, g0, y1, g1, y2, g2, y3, g3⟩ := X44.out; simp [go_sem, *])
        have Y45 := Lib.hid (show ((p44.setCell ⟨w.heap.size + 1, 0, none⟩ (.int .i64 v8)).setCell ⟨w.heap.size + 1, 1, none⟩ (.int .i64 v16)).cell? ⟨w.heap.size + 1, 0, none⟩ = some (.int .i64 v8) ∧ ((p44.setCell ⟨w.heap.size + 1, 0, none⟩ (.int .i64 v8)).setCell ⟨w.heap.size + 1, 1, none⟩ (.int .i64 v16)).frozen? ⟨w.heap.size + 1, 0, none⟩ = false ∧ ((p44.setCell ⟨w.heap.size + 1, 0, none⟩ (.int .i64 v8)).setCell ⟨w.heap.size + 1, 1, none⟩ (.int .i64 v16)).cell? ⟨w.heap.size + 1, 1, none⟩ = some (.int .i64 v16) ∧ ((p44.setCell ⟨w.heap.size + 1, 0, none⟩ (.int .i64 v8)).setCell ⟨w.heap.size + 1, 1, none⟩ (.int .i64 v16)).frozen? ⟨w.heap.size + 1, 1, none⟩ = false by simp [go_sem, *])
        refine hK.out _ _ (by (try dsimp only); exact E45.out) (fun hHeld => ?_)
        clear hK K
        (try simp only [Act.put, List.getElem_toArray, List.getElem_cons_zero, List.getElem_cons_succ, List.setIfInBounds_toArray, List.set_cons_zero, List.set_cons_succ])
        clear q0 f0 q1 f1
        generalize ((p44.setCell ⟨w.heap.size + 1, 0, none⟩ (.int .i64 v8)).setCell ⟨w.heap.size + 1, 1, none⟩ (.int .i64 v16)) = p45 at *
        refine wpAnyH_done (by kernel_rfl) ?_ _
        go_wp2_with fail
        obtain ⟨x0, l0, x1, l1, x2, l2, x3, l3⟩ := X45.out
        obtain ⟨y0, g0, y1, g1⟩ := Y45.out
        exact bodyPost_ret (v := .tuple #[.agg #[.int .i64 i, .string nm, .int .i64 z, .slice A xs.length c], .agg #[.int .i64 v8, .int .i64 v16]]) (by simp [results, Try.results16, go_sem, *]) rfl ⟨i, z, nm, _, xs, _, _, rfl, hnm, hxl, pairs_own O45.out, K45.out⟩
    · skip
      go_simp
      have ka : Kept p27 (p27.alloc (.cells #[.int .i64 (-500), .int .i64 77, .int .i64 2000, .int .i64 (-501), .int .i64 2001] 3)) := Kept.alloc (Kept.refl _) _
      have E46 := Lib.hid (blk4 ka E27.out)
      refine hK.out _ _ (by (try dsimp only); exact E46.out) (fun hHeld => ?_)
      clear hK K
      (try simp only [Act.put, List.getElem_toArray, List.getElem_cons_zero, List.getElem_cons_succ, List.setIfInBounds_toArray, List.set_cons_zero, List.set_cons_succ])
      have O46 := Lib.hid (own_kept O27.out ka)
      have C46 := Lib.hid (C27.out.kept ka)
      have K46 := Lib.hid (K27.out.trans ka)
      have Z46 := Lib.hid (blk4 ka Z27.out)
      have Y46 := Lib.hid (blk2_keep ka Y27.out)
      have NI10_46 := Lib.hid (NumsIn.lit (w := p27) (xs := [-500, 77, 2000, -501, 2001]) (t := 3) (n := p27.heap.size) (cs := #[.int .i64 (-500), .int .i64 77, .int .i64 2000, .int .i64 (-501), .int .i64 2001]) (by rfl) rfl)
      have hg46 : p27.heap.size ≠ gc := fun e => by have := C27.out.lt; omega
      clear ka
      generalize p27.alloc (.cells #[.int .i64 (-500), .int .i64 77, .int .i64 2000, .int .i64 (-501), .int .i64 2001] 3) = p46 at *
      refine wpAnyH_ready (rs := [2]) (by kernel_rfl) (by simp) ?_
      refine AllReadyH.cons rfl (fun K hK => ?_) (AllReadyH.nil)
      go_simp
      have ka : Kept p46 (p46.alloc (.cells #[.int .i64 0, .int .i64 10, .int .i64 15, .int .i64 20, .int .i64 620, .int .i64 10000, .int .i64 (-1), .int .i64 10001] 3)) := Kept.alloc (Kept.refl _) _
      have E47 := Lib.hid (blk4 ka E46.out)
      refine hK.out _ _ (by (try dsimp only); exact E47.out) (fun hHeld => ?_)
      clear hK K
      (try simp only [Act.put, List.getElem_toArray, List.getElem_cons_zero, List.getElem_cons_succ, List.setIfInBounds_toArray, List.set_cons_zero, List.set_cons_succ])
      have O47 := Lib.hid (own_kept O46.out ka)
      have C47 := Lib.hid (C46.out.kept ka)
      have K47 := Lib.hid (K46.out.trans ka)
      have Z47 := Lib.hid (blk4 ka Z46.out)
      have Y47 := Lib.hid (blk2_keep ka Y46.out)
      have NI10_47 := Lib.hid (NI10_46.out.kept ka)
      have NI2_47 := Lib.hid (NumsIn.lit (w := p46) (xs := [0, 10, 15, 20, 620, 10000, -1, 10001]) (t := 3) (n := p46.heap.size) (cs := #[.int .i64 0, .int .i64 10, .int .i64 15, .int .i64 20, .int .i64 620, .int .i64 10000, .int .i64 (-1), .int .i64 10001]) (by rfl) rfl)
      have hg47 : p46.heap.size ≠ gc := fun e => by have := C46.out.lt; omega
      clear ka
      generalize p46.alloc (.cells #[.int .i64 0, .int .i64 10, .int .i64 15, .int .i64 20, .int .i64 620, .int .i64 10000, .int .i64 (-1), .int .i64 10001] 3) = p47 at *
      refine wpAnyH_take (i := 7) (v := ?_) rfl (by kernel_rfl) (by kernel_rfl) (by kernel_rfl) (fun _ _ _ h => h) (Or.inl ⟨by kernel_rfl, ?_⟩) (by assumption) ?_
      rotate_left
      focus (intro w' hSw; (try dsimp only at hSw); obtain ⟨s0, sf0, s1, sf1, s2, sf2, s3, sf3⟩ := hSw; go_simp; (try with_reducible rfl))
      (try simp only [Act.put, List.getElem_toArray, List.getElem_cons_zero, List.getElem_cons_succ, List.setIfInBounds_toArray, List.set_cons_zero, List.set_cons_succ])
      refine wpAnyH_ready (rs := [8]) (by kernel_rfl) (by simp) ?_
      refine AllReadyH.cons rfl (fun K hK => ?_) (AllReadyH.nil)
      go_simp
      go_at_call 67
      refine (among_pre gc _ _ (6 + y4) ((0 + 200) + 2) [0, 10, 15, 20, 620, 10000, -1, 10001] _ C47.out (by omega) NI2_47.out hg47 (by omega) (by first | (simp; done) | (simp; omega)) (by decide)).mono ?_
      rintro e p48 ⟨v8, rfl, hc48, hs48⟩
      (try go_wp2_with fail)
      have E48 := Lib.hid (blk4_stir hs48 h5g E47.out)
      refine hK.out _ _ (by (try dsimp only); exact E48.out) (fun hHeld => ?_)
      clear hK K
      (try simp only [Act.put, List.getElem_toArray, List.getElem_cons_zero, List.getElem_cons_succ, List.setIfInBounds_toArray, List.set_cons_zero, List.set_cons_succ])
      have O48 := Lib.hid (hs48.own O47.out hog)
      have C48 := Lib.hid hc48
      have K48 := Lib.hid (Stir.out K47.out hs48 (by omega))
      have Z48 := Lib.hid (blk4_stir hs48 (by omega) Z47.out)
      have Y48 := Lib.hid (blk2_stir hs48 (by omega) Y47.out)
      have NI10_48 := Lib.hid (NI10_47.out.stir hs48 hg46)
      have NI2_48 := Lib.hid (NI2_47.out.stir hs48 hg47)
      clear hc48 hs48
      refine wpAnyH_ready (rs := [12]) (by kernel_rfl) (by simp) ?_
      refine AllReadyH.cons rfl (fun K hK => ?_) (AllReadyH.nil)
      go_simp
      go_at_call 68
      refine (pick_any gc (((0 + 200) + 2) + 2) 24 _ C48.out (by omega) (by omega)).mono ?_
      rintro e p49 ⟨v12, rfl, ⟨va12, vb12⟩, hc49, hs49⟩
      obtain ⟨y12, hy12, hz12⟩ : ∃ y : Nat, v12 / 11 = (y : Int) ∧ y ≤ 2 := ⟨(v12 / 11).toNat, by omega, by omega⟩
      have ht12 : v12.tdiv 11 = (y12 : Int) := by rw [Int.tdiv_eq_ediv_of_nonneg (by omega)]; exact hy12
      have hw12 : IntKind.i64.wrap (y12 : Int) = (y12 : Int) := by rw [IntKind.wrap_i64]; omega
      have hv12 : IntKind.i64.wrap (3 + (y12 : Int)) = 3 + (y12 : Int) := by rw [IntKind.wrap_i64]; omega
      have ha12 : (0 : Int) ≤ 3 + (y12 : Int) := by omega
      have hb12 : 3 + (y12 : Int) ≤ 5 := by omega
      have hn12 : (3 + (y12 : Int)).toNat = 3 + y12 := by omega
      (try go_wp2_with fail)
      have E49 := Lib.hid (blk4_stir hs49 h5g E48.out)
      refine hK.out _ _ (by (try dsimp only); exact E49.out) (fun hHeld => ?_)
      clear hK K
      (try simp only [Act.put, List.getElem_toArray, List.getElem_cons_zero, List.getElem_cons_succ, List.setIfInBounds_toArray, List.set_cons_zero, List.set_cons_succ])
      have O49 := Lib.hid (hs49.own O48.out hog)
      have C49 := Lib.hid hc49
      have K49 := Lib.hid (Stir.out K48.out hs49 (by omega))
      have Z49 := Lib.hid (blk4_stir hs49 (by omega) Z48.out)
      have Y49 := Lib.hid (blk2_stir hs49 (by omega) Y48.out)
      have NI10_49 := Lib.hid (NI10_48.out.stir hs49 hg46)
      have NI2_49 := Lib.hid (NI2_48.out.stir hs49 hg47)
      clear hc49 hs49
      refine wpAnyH_take (i := 13) (v := ?_) rfl (by kernel_rfl) (by kernel_rfl) (by kernel_rfl) (fun _ _ _ h => h) (Or.inl ⟨by kernel_rfl, ?_⟩) (by assumption) ?_
      rotate_left
      focus (intro w' hSw; (try dsimp only at hSw); obtain ⟨s0, sf0, s1, sf1, s2, sf2, s3, sf3⟩ := hSw; go_simp; (try with_reducible rfl))
      (try simp only [Act.put, List.getElem_toArray, List.getElem_cons_zero, List.getElem_cons_succ, List.setIfInBounds_toArray, List.set_cons_zero, List.set_cons_succ])
      refine wpAnyH_take (i := 14) (v := ?_) rfl (by kernel_rfl) (by kernel_rfl) (by kernel_rfl) (fun _ _ _ h => h) (Or.inl ⟨by kernel_rfl, ?_⟩) (by assumption) ?_
      rotate_left
      focus (intro w' hSw; (try dsimp only at hSw); obtain ⟨s0, sf0, s1, sf1, s2, sf2, s3, sf3⟩ := hSw; go_simp; (try with_reducible rfl))
      (try simp only [Act.put, List.getElem_toArray, List.getElem_cons_zero, List.getElem_cons_succ, List.setIfInBounds_toArray, List.set_cons_zero, List.set_cons_succ])
      refine wpAnyH_take (i := 15) (v := ?_) rfl (by kernel_rfl) (by kernel_rfl) (by kernel_rfl) (fun _ _ _ h => h) (Or.inl ⟨by kernel_rfl, ?_⟩) (by assumption) ?_
      rotate_left
      focus (intro w' hSw; (try dsimp only at hSw); obtain ⟨s0, sf0, s1, sf1, s2, sf2, s3, sf3⟩ := hSw; go_simp; (try with_reducible rfl))
      (try simp only [Act.put, List.getElem_toArray, List.getElem_cons_zero, List.getElem_cons_succ, List.setIfInBounds_toArray, List.set_cons_zero, List.set_cons_succ])
      refine wpAnyH_ready (rs := [16]) (by kernel_rfl) (by simp) ?_
      refine AllReadyH.cons rfl (fun K hK => ?_) (AllReadyH.nil)
      go_simp
      go_at_call 67
      refine (among_pre gc _ _ (3 + y12) ((((0 + 200) + 2) + 2) + 2) [-500, 77, 2000, -501, 2001] _ C49.out (by omega) NI10_49.out hg46 (by omega) (by first | (simp; done) | (simp; omega)) (by decide)).mono ?_
      rintro e p50 ⟨v16, rfl, hc50, hs50⟩
      (try go_wp2_with fail)
      have E50 := Lib.hid (blk4_stir hs50 h5g E49.out)
      refine hK.out _ _ (by (try dsimp only); exact E50.out) (fun hHeld => ?_)
      clear hK K
      (try simp only [Act.put, List.getElem_toArray, List.getElem_cons_zero, List.getElem_cons_succ, List.setIfInBounds_toArray, List.set_cons_zero, List.set_cons_succ])
      have O50 := Lib.hid (hs50.own O49.out hog)
      have C50 := Lib.hid hc50
      have K50 := Lib.hid (Stir.out K49.out hs50 (by omega))
      have Z50 := Lib.hid (blk4_stir hs50 (by omega) Z49.out)
      have Y50 := Lib.hid (blk2_stir hs50 (by omega) Y49.out)
      have NI10_50 := Lib.hid (NI10_49.out.stir hs50 hg46)
      have NI2_50 := Lib.hid (NI2_49.out.stir hs50 hg47)
      clear hc50 hs50
      refine wpAnyH_take (i := 17) (v := ?_) rfl (by kernel_rfl) (by kernel_rfl) (by kernel_rfl) (fun _ _ _ h => h) (Or.inl ⟨by kernel_rfl, ?_⟩) (by assumption) ?_
      rotate_left
      focus (intro w' hSw; (try dsimp only at hSw); obtain ⟨s0, sf0, s1, sf1, s2, sf2, s3, sf3⟩ := hSw; go_simp; (try with_reducible rfl))
      (try simp only [Act.put, List.getElem_toArray, List.getElem_cons_zero, List.getElem_cons_succ, List.setIfInBounds_toArray, List.set_cons_zero, List.set_cons_succ])
      refine wpAnyH_ready (rs := [18]) (by kernel_rfl) (by simp) ?_
      refine AllReadyH.cons rfl (fun K hK => ?_) (AllReadyH.nil)
      obtain ⟨q0, f0, q1, f1, q2, f2, q3, f3⟩ := Z50.out
      go_simp
      have E51 := Lib.hid ((blk4_set ⟨w.heap.size, 3, none⟩ (by simp; omega) (.slice A xs.length c) (blk4_set ⟨w.heap.size, 2, none⟩ (by simp; omega) (.int .i64 z) (blk4_set ⟨w.heap.size, 1, none⟩ (by simp; omega) (.string nm) (blk4_set ⟨w.heap.size, 0, none⟩ (by simp; omega) (.int .i64 i) E50.out)))))
      have K51 := Lib.hid ((Kept.setCell (Kept.setCell (Kept.setCell (Kept.setCell K50.out (p := ⟨w.heap.size, 0, none⟩) (by first | (simp; done) | (simp; omega)) (.int .i64 i)) (p := ⟨w.heap.size, 1, none⟩) (by first | (simp; done) | (simp; omega)) (.string nm)) (p := ⟨w.heap.size, 2, none⟩) (by first | (simp; done) | (simp; omega)) (.int .i64 z)) (p := ⟨w.heap.size, 3, none⟩) (by first | (simp; done) | (simp; omega)) (.slice A xs.length c)))
      have O51 := Lib.hid ((ownsRow_setCell_below (ownsRow_setCell_below (ownsRow_setCell_below (ownsRow_setCell_below O50.out (a := ⟨w.heap.size, 0, none⟩) (by simp; omega) (.int .i64 i)) (a := ⟨w.heap.size, 1, none⟩) (by simp; omega) (.string nm)) (a := ⟨w.heap.size, 2, none⟩) (by simp; omega) (.int .i64 z)) (a := ⟨w.heap.size, 3, none⟩) (by simp; omega) (.slice A xs.length c)))
      have X51 := Lib.hid (show ((((p50.setCell ⟨w.heap.size, 0, none⟩ (.int .i64 i)).setCell ⟨w.heap.size, 1, none⟩ (.string nm)).setCell ⟨w.heap.size, 2, none⟩ (.int .i64 z)).setCell ⟨w.heap.size, 3, none⟩ (.slice A xs.length c)).cell? ⟨w.heap.size, 0, none⟩ = some (.int .i64 i) ∧ ((((p50.setCell ⟨w.heap.size, 0, none⟩ (.int .i64 i)).setCell ⟨w.heap.size, 1, none⟩ (.string nm)).setCell ⟨w.heap.size, 2, none⟩ (.int .i64 z)).setCell ⟨w.heap.size, 3, none⟩ (.slice A xs.length c)).frozen? ⟨w.heap.size, 0, none⟩ = false ∧ ((((p50.setCell ⟨w.heap.size, 0, none⟩ (.int .i64 i)).setCell ⟨w.heap.size, 1, none⟩ (.string nm)).setCell ⟨w.heap.size, 2, none⟩ (.int .i64 z)).setCell ⟨w.heap.size, 3, none⟩ (.slice A xs.length c)).cell? ⟨w.heap.size, 1, none⟩ = some (.string nm) ∧ ((((p50.setCell ⟨w.heap.size, 0, none⟩ (.int .i64 i)).setCell ⟨w.heap.size, 1, none⟩ (.string nm)).setCell ⟨w.heap.size, 2, none⟩ (.int .i64 z)).setCell ⟨w.heap.size, 3, none⟩ (.slice A xs.length c)).frozen? ⟨w.heap.size, 1, none⟩ = false ∧ ((((p50.setCell ⟨w.heap.size, 0, none⟩ (.int .i64 i)).setCell ⟨w.heap.size, 1, none⟩ (.string nm)).setCell ⟨w.heap.size, 2, none⟩ (.int .i64 z)).setCell ⟨w.heap.size, 3, none⟩ (.slice A xs.length c)).cell? ⟨w.heap.size, 2, none⟩ = some (.int .i64 z) ∧ ((((p50.setCell ⟨w.heap.size, 0, none⟩ (.int .i64 i)).setCell ⟨w.heap.size, 1, none⟩ (.string nm)).setCell ⟨w.heap.size, 2, none⟩ (.int .i64 z)).setCell ⟨w.heap.size, 3, none⟩ (.slice A xs.length c)).frozen? ⟨w.heap.size, 2, none⟩ = false ∧ ((((p50.setCell ⟨w.heap.size, 0, none⟩ (.int .i64 i)).setCell ⟨w.heap.size, 1, none⟩ (.string nm)).setCell ⟨w.heap.size, 2, none⟩ (.int .i64 z)).setCell ⟨w.heap.size, 3, none⟩ (.slice A xs.length c)).cell? ⟨w.heap.size, 3, none⟩ = some (.slice A xs.length c) ∧ ((((p50.setCell ⟨w.heap.size, 0, none⟩ (.int .i64 i)).setCell ⟨w.heap.size, 1, none⟩ (.string nm)).setCell ⟨w.heap.size, 2, none⟩ (.int .i64 z)).setCell ⟨w.heap.size, 3, none⟩ (.slice A xs.length c)).frozen? ⟨w.heap.size, 3, none⟩ = false by simp [go_sem, *])
      have Y51 := Lib.hid (show ((((p50.setCell ⟨w.heap.size, 0, none⟩ (.int .i64 i)).setCell ⟨w.heap.size, 1, none⟩ (.string nm)).setCell ⟨w.heap.size, 2, none⟩ (.int .i64 z)).setCell ⟨w.heap.size, 3, none⟩ (.slice A xs.length c)).cell? ⟨w.heap.size + 1, 0, none⟩ = some (.int .i64 0) ∧ ((((p50.setCell ⟨w.heap.size, 0, none⟩ (.int .i64 i)).setCell ⟨w.heap.size, 1, none⟩ (.string nm)).setCell ⟨w.heap.size, 2, none⟩ (.int .i64 z)).setCell ⟨w.heap.size, 3, none⟩ (.slice A xs.length c)).frozen? ⟨w.heap.size + 1, 0, none⟩ = false ∧ ((((p50.setCell ⟨w.heap.size, 0, none⟩ (.int .i64 i)).setCell ⟨w.heap.size, 1, none⟩ (.string nm)).setCell ⟨w.heap.size, 2, none⟩ (.int .i64 z)).setCell ⟨w.heap.size, 3, none⟩ (.slice A xs.length c)).cell? ⟨w.heap.size + 1, 1, none⟩ = some (.int .i64 0) ∧ ((((p50.setCell ⟨w.heap.size, 0, none⟩ (.int .i64 i)).setCell ⟨w.heap.size, 1, none⟩ (.string nm)).setCell ⟨w.heap.size, 2, none⟩ (.int .i64 z)).setCell ⟨w.heap.size, 3, none⟩ (.slice A xs.length c)).frozen? ⟨w.heap.size + 1, 1, none⟩ = false by obtain ⟨y0, g0, y1, g1⟩ := Y50.out; simp [go_sem, *])
      refine hK.out _ _ (by (try dsimp only); exact E51.out) (fun hHeld => ?_)
      clear hK K
      (try simp only [Act.put, List.getElem_toArray, List.getElem_cons_zero, List.getElem_cons_succ, List.setIfInBounds_toArray, List.set_cons_zero, List.set_cons_succ])
      clear q0 f0 q1 f1 q2 f2 q3 f3
      generalize ((((p50.setCell ⟨w.heap.size, 0, none⟩ (.int .i64 i)).setCell ⟨w.heap.size, 1, none⟩ (.string nm)).setCell ⟨w.heap.size, 2, none⟩ (.int .i64 z)).setCell ⟨w.heap.size, 3, none⟩ (.slice A xs.length c)) = p51 at *
      refine wpAnyH_ready (rs := [19]) (by kernel_rfl) (by simp) ?_
      refine AllReadyH.cons rfl (fun K hK => ?_) (AllReadyH.nil)
      obtain ⟨q0, f0, q1, f1⟩ := Y51.out
      go_simp
      have E52 := Lib.hid ((blk4_set ⟨w.heap.size + 1, 1, none⟩ (by simp; omega) (.int .i64 v16) (blk4_set ⟨w.heap.size + 1, 0, none⟩ (by simp; omega) (.int .i64 v8) E51.out)))
      have K52 := Lib.hid ((Kept.setCell (Kept.setCell K51.out (p := ⟨w.heap.size + 1, 0, none⟩) (by first | (simp; done) | (simp; omega)) (.int .i64 v8)) (p := ⟨w.heap.size + 1, 1, none⟩) (by first | (simp; done) | (simp; omega)) (.int .i64 v16)))
      have O52 := Lib.hid ((ownsRow_setCell_below (ownsRow_setCell_below O51.out (a := ⟨w.heap.size + 1, 0, none⟩) (by simp; omega) (.int .i64 v8)) (a := ⟨w.heap.size + 1, 1, none⟩) (by simp; omega) (.int .i64 v16)))
      have X52 := Lib.hid (show ((p51.setCell ⟨w.heap.size + 1, 0, none⟩ (.int .i64 v8)).setCell ⟨w.heap.size + 1, 1, none⟩ (.int .i64 v16)).cell? ⟨w.heap.size, 0, none⟩ = some (.int .i64 i) ∧ ((p51.setCell ⟨w.heap.size + 1, 0, none⟩ (.int .i64 v8)).setCell ⟨w.heap.size + 1, 1, none⟩ (.int .i64 v16)).frozen? ⟨w.heap.size, 0, none⟩ = false ∧ ((p51.setCell ⟨w.heap.size + 1, 0, none⟩ (.int .i64 v8)).setCell ⟨w.heap.size + 1, 1, none⟩ (.int .i64 v16)).cell? ⟨w.heap.size, 1, none⟩ = some (.string nm) ∧ ((p51.setCell ⟨w.heap.size + 1, 0, none⟩ (.int .i64 v8)).setCell ⟨w.heap.size + 1, 1, none⟩ (.int .i64 v16)).frozen? ⟨w.heap.size, 1, none⟩ = false ∧ ((p51.setCell ⟨w.heap.size + 1, 0, none⟩ (.int .i64 v8)).setCell ⟨w.heap.size + 1, 1, none⟩ (.int .i64 v16)).cell? ⟨w.heap.size, 2, none⟩ = some (.int .i64 z) ∧ ((p51.setCell ⟨w.heap.size + 1, 0, none⟩ (.int .i64 v8)).setCell ⟨w.heap.size + 1, 1, none⟩ (.int .i64 v16)).frozen? ⟨w.heap.size, 2, none⟩ = false ∧ ((p51.setCell ⟨w.heap.size + 1, 0, none⟩ (.int .i64 v8)).setCell ⟨w.heap.size + 1, 1, none⟩ (.int .i64 v16)).cell? ⟨w.heap.size, 3, none⟩ = some (.slice A xs.length c) ∧ ((p51.setCell ⟨w.heap.size + 1, 0, none⟩ (.int .i64 v8)).setCell ⟨w.heap.size + 1, 1, none⟩ (.int .i64 v16)).frozen? ⟨w.heap.size, 3, none⟩ = false by obtain ⟨y0, g0, y1, g1, y2, g2, y3, g3⟩ := X51.out; simp [go_sem, *])
      have Y52 := Lib.hid (show ((p51.setCell ⟨w.heap.size + 1, 0, none⟩ (.int .i64 v8)).setCell ⟨w.heap.size + 1, 1, none⟩ (.int .i64 v16)).cell? ⟨w.heap.size + 1, 0, none⟩ = some (.int .i64 v8) ∧ ((p51.setCell ⟨w.heap.size + 1, 0, none⟩ (.int .i64 v8)).setCell ⟨w.heap.size + 1, 1, none⟩ (.int .i64 v16)).frozen? ⟨w.heap.size + 1, 0, none⟩ = false ∧ ((p51.setCell ⟨w.heap.size + 1, 0, none⟩ (.int .i64 v8)).setCell ⟨w.heap.size + 1, 1, none⟩ (.int .i64 v16)).cell? ⟨w.heap.size + 1, 1, none⟩ = some (.int .i64 v16) ∧ ((p51.setCell ⟨w.heap.size + 1, 0, none⟩ (.int .i64 v8)).setCell ⟨w.heap.size + 1, 1, none⟩ (.int .i64 v16)).frozen? ⟨w.heap.size + 1, 1, none⟩ = false by simp [go_sem, *])
      refine hK.out _ _ (by (try dsimp only); exact E52.out) (fun hHeld => ?_)
      clear hK K
      (try simp only [Act.put, List.getElem_toArray, List.getElem_cons_zero, List.getElem_cons_succ, List.setIfInBounds_toArray, List.set_cons_zero, List.set_cons_succ])
      clear q0 f0 q1 f1
      generalize ((p51.setCell ⟨w.heap.size + 1, 0, none⟩ (.int .i64 v8)).setCell ⟨w.heap.size + 1, 1, none⟩ (.int .i64 v16)) = p52 at *
      refine wpAnyH_done (by kernel_rfl) ?_ _
      go_wp2_with fail
      obtain ⟨x0, l0, x1, l1, x2, l2, x3, l3⟩ := X52.out
      obtain ⟨y0, g0, y1, g1⟩ := Y52.out
      exact bodyPost_ret (v := .tuple #[.agg #[.int .i64 i, .string nm, .int .i64 z, .slice A xs.length c], .agg #[.int .i64 v8, .int .i64 v16]]) (by simp [results, Try.results16, go_sem, *]) rfl ⟨i, z, nm, _, xs, _, _, rfl, hnm, hxl, pairs_own O52.out, K52.out⟩
  · skip
    go_simp
    have ka : Kept p0 (p0.alloc (.cells #[.int .i64 (-500), .int .i64 77, .int .i64 2000, .int .i64 (-501), .int .i64 2001] 3)) := Kept.alloc (Kept.refl _) _
    have E53 := Lib.hid (blk4 ka E0.out)
    refine hK.out _ _ (by (try dsimp only); exact E53.out) (fun hHeld => ?_)
    clear hK K
    (try simp only [Act.put, List.getElem_toArray, List.getElem_cons_zero, List.getElem_cons_succ, List.setIfInBounds_toArray, List.set_cons_zero, List.set_cons_succ])
    have O53 := Lib.hid (own_kept O0.out ka)
    have C53 := Lib.hid (C0.out.kept ka)
    have K53 := Lib.hid (K0.out.trans ka)
    have Z53 := Lib.hid (blk4 ka Z0.out)
    have Y53 := Lib.hid (blk2_keep ka Y0.out)
    have NI10_53 := Lib.hid (NumsIn.lit (w := p0) (xs := [-500, 77, 2000, -501, 2001]) (t := 3) (n := p0.heap.size) (cs := #[.int .i64 (-500), .int .i64 77, .int .i64 2000, .int .i64 (-501), .int .i64 2001]) (by rfl) rfl)
    have hg53 : p0.heap.size ≠ gc := fun e => by have := C0.out.lt; omega
    clear ka
    generalize p0.alloc (.cells #[.int .i64 (-500), .int .i64 77, .int .i64 2000, .int .i64 (-501), .int .i64 2001] 3) = p53 at *
    refine wpAnyH_ready (rs := [2, 4]) (by kernel_rfl) (by simp) ?_
    refine AllReadyH.cons rfl (fun K hK => ?_) (AllReadyH.cons rfl (fun K hK => ?_) (AllReadyH.nil))
    · skip
      go_simp
      have ka : Kept p53 (p53.alloc (.cells #[.int .i64 0, .int .i64 10, .int .i64 15, .int .i64 20, .int .i64 620, .int .i64 10000, .int .i64 (-1), .int .i64 10001] 3)) := Kept.alloc (Kept.refl _) _
      have E54 := Lib.hid (blk4 ka E53.out)
      refine hK.out _ _ (by (try dsimp only); exact E54.out) (fun hHeld => ?_)
      clear hK K
      (try simp only [Act.put, List.getElem_toArray, List.getElem_cons_zero, List.getElem_cons_succ, List.setIfInBounds_toArray, List.set_cons_zero, List.set_cons_succ])
      have O54 := Lib.hid (own_kept O53.out ka)
      have C54 := Lib.hid (C53.out.kept ka)
      have K54 := Lib.hid (K53.out.trans ka)
      have Z54 := Lib.hid (blk4 ka Z53.out)
      have Y54 := Lib.hid (blk2_keep ka Y53.out)
      have NI10_54 := Lib.hid (NI10_53.out.kept ka)
      have NI2_54 := Lib.hid (NumsIn.lit (w := p53) (xs := [0, 10, 15, 20, 620, 10000, -1, 10001]) (t := 3) (n := p53.heap.size) (cs := #[.int .i64 0, .int .i64 10, .int .i64 15, .int .i64 20, .int .i64 620, .int .i64 10000, .int .i64 (-1), .int .i64 10001]) (by rfl) rfl)
      have hg54 : p53.heap.size ≠ gc := fun e => by have := C53.out.lt; omega
      clear ka
      generalize p53.alloc (.cells #[.int .i64 0, .int .i64 10, .int .i64 15, .int .i64 20, .int .i64 620, .int .i64 10000, .int .i64 (-1), .int .i64 10001] 3) = p54 at *
      refine wpAnyH_ready (rs := [4]) (by kernel_rfl) (by simp) ?_
      refine AllReadyH.cons rfl (fun K hK => ?_) (AllReadyH.nil)
      go_simp
      go_at_call 68
      refine (pick_any gc (0 + 200) 24 _ C54.out (by omega) (by omega)).mono ?_
      rintro e p55 ⟨v4, rfl, ⟨va4, vb4⟩, hc55, hs55⟩
      obtain ⟨y4, hy4, hz4⟩ : ∃ y : Nat, v4 / 11 = (y : Int) ∧ y ≤ 2 := ⟨(v4 / 11).toNat, by omega, by omega⟩
      have ht4 : v4.tdiv 11 = (y4 : Int) := by rw [Int.tdiv_eq_ediv_of_nonneg (by omega)]; exact hy4
      have hw4 : IntKind.i64.wrap (y4 : Int) = (y4 : Int) := by rw [IntKind.wrap_i64]; omega
      have hv4 : IntKind.i64.wrap (6 + (y4 : Int)) = 6 + (y4 : Int) := by rw [IntKind.wrap_i64]; omega
      have ha4 : (0 : Int) ≤ 6 + (y4 : Int) := by omega
      have hb4 : 6 + (y4 : Int) ≤ 8 := by omega
      have hn4 : (6 + (y4 : Int)).toNat = 6 + y4 := by omega
      (try go_wp2_with fail)
      have E55 := Lib.hid (blk4_stir hs55 h5g E54.out)
      refine hK.out _ _ (by (try dsimp only); exact E55.out) (fun hHeld => ?_)
      clear hK K
      (try simp only [Act.put, List.getElem_toArray, List.getElem_cons_zero, List.getElem_cons_succ, List.setIfInBounds_toArray, List.set_cons_zero, List.set_cons_succ])
      have O55 := Lib.hid (hs55.own O54.out hog)
      have C55 := Lib.hid hc55
      have K55 := Lib.hid (Stir.out K54.out hs55 (by omega))
      have Z55 := Lib.hid (blk4_stir hs55 (by omega) Z54.out)
      have Y55 := Lib.hid (blk2_stir hs55 (by omega) Y54.out)
      have NI10_55 := Lib.hid (NI10_54.out.stir hs55 hg53)
      have NI2_55 := Lib.hid (NI2_54.out.stir hs55 hg54)
      clear hc55 hs55
      refine wpAnyH_take (i := 5) (v := ?_) rfl (by kernel_rfl) (by kernel_rfl) (by kernel_rfl) (fun _ _ _ h => h) (Or.inl ⟨by kernel_rfl, ?_⟩) (by assumption) ?_
      rotate_left
      focus (intro w' hSw; (try dsimp only at hSw); obtain ⟨s0, sf0, s1, sf1, s2, sf2, s3, sf3⟩ := hSw; go_simp; (try with_reducible rfl))
      (try simp only [Act.put, List.getElem_toArray, List.getElem_cons_zero, List.getElem_cons_succ, List.setIfInBounds_toArray, List.set_cons_zero, List.set_cons_succ])
      refine wpAnyH_take (i := 6) (v := ?_) rfl (by kernel_rfl) (by kernel_rfl) (by kernel_rfl) (fun _ _ _ h => h) (Or.inl ⟨by kernel_rfl, ?_⟩) (by assumption) ?_
      rotate_left
      focus (intro w' hSw; (try dsimp only at hSw); obtain ⟨s0, sf0, s1, sf1, s2, sf2, s3, sf3⟩ := hSw; go_simp; (try with_reducible rfl))
      (try simp only [Act.put, List.getElem_toArray, List.getElem_cons_zero, List.getElem_cons_succ, List.setIfInBounds_toArray, List.set_cons_zero, List.set_cons_succ])
      refine wpAnyH_take (i := 7) (v := ?_) rfl (by kernel_rfl) (by kernel_rfl) (by kernel_rfl) (fun _ _ _ h => h) (Or.inl ⟨by kernel_rfl, ?_⟩) (by assumption) ?_
      rotate_left
      focus (intro w' hSw; (try dsimp only at hSw); obtain ⟨s0, sf0, s1, sf1, s2, sf2, s3, sf3⟩ := hSw; go_simp; (try with_reducible rfl))
      (try simp only [Act.put, List.getElem_toArray, List.getElem_cons_zero, List.getElem_cons_succ, List.setIfInBounds_toArray, List.set_cons_zero, List.set_cons_succ])
      refine wpAnyH_ready (rs := [8]) (by kernel_rfl) (by simp) ?_
      refine AllReadyH.cons rfl (fun K hK => ?_) (AllReadyH.nil)
      go_simp
      go_at_call 67
      refine (among_pre gc _ _ (6 + y4) ((0 + 200) + 2) [0, 10, 15, 20, 620, 10000, -1, 10001] _ C55.out (by omega) NI2_55.out hg54 (by omega) (by first | (simp; done) | (simp; omega)) (by decide)).mono ?_
      rintro e p56 ⟨v8, rfl, hc56, hs56⟩
      (try go_wp2_with fail)
      have E56 := Lib.hid (blk4_stir hs56 h5g E55.out)
      refine hK.out _ _ (by (try dsimp only); exact E56.out) (fun hHeld => ?_)
      clear hK K
      (try simp only [Act.put, List.getElem_toArray, List.getElem_cons_zero, List.getElem_cons_succ, List.setIfInBounds_toArray, List.set_cons_zero, List.set_cons_succ])
      have O56 := Lib.hid (hs56.own O55.out hog)
      have C56 := Lib.hid hc56
      have K56 := Lib.hid (Stir.out K55.out hs56 (by omega))
      have Z56 := Lib.hid (blk4_stir hs56 (by omega) Z55.out)
      have Y56 := Lib.hid (blk2_stir hs56 (by omega) Y55.out)
      have NI10_56 := Lib.hid (NI10_55.out.stir hs56 hg53)
      have NI2_56 := Lib.hid (NI2_55.out.stir hs56 hg54)
      clear hc56 hs56
      refine wpAnyH_ready (rs := [12]) (by kernel_rfl) (by simp) ?_
      refine AllReadyH.cons rfl (fun K hK => ?_) (AllReadyH.nil)
      go_simp
      go_at_call 68
      refine (pick_any gc (((0 + 200) + 2) + 2) 24 _ C56.out (by omega) (by omega)).mono ?_
      rintro e p57 ⟨v12, rfl, ⟨va12, vb12⟩, hc57, hs57⟩
      obtain ⟨y12, hy12, hz12⟩ : ∃ y : Nat, v12 / 11 = (y : Int) ∧ y ≤ 2 := ⟨(v12 / 11).toNat, by omega, by omega⟩
      have ht12 : v12.tdiv 11 = (y12 : Int) := by rw [Int.tdiv_eq_ediv_of_nonneg (by omega)]; exact hy12
      have hw12 : IntKind.i64.wrap (y12 : Int) = (y12 : Int) := by rw [IntKind.wrap_i64]; omega
      have hv12 : IntKind.i64.wrap (3 + (y12 : Int)) = 3 + (y12 : Int) := by rw [IntKind.wrap_i64]; omega
      have ha12 : (0 : Int) ≤ 3 + (y12 : Int) := by omega
      have hb12 : 3 + (y12 : Int) ≤ 5 := by omega
      have hn12 : (3 + (y12 : Int)).toNat = 3 + y12 := by omega
      (try go_wp2_with fail)
      have E57 := Lib.hid (blk4_stir hs57 h5g E56.out)
      refine hK.out _ _ (by (try dsimp only); exact E57.out) (fun hHeld => ?_)
      clear hK K
      (try simp only [Act.put, List.getElem_toArray, List.getElem_cons_zero, List.getElem_cons_succ, List.setIfInBounds_toArray, List.set_cons_zero, List.set_cons_succ])
      have O57 := Lib.hid (hs57.own O56.out hog)
      have C57 := Lib.hid hc57
      have K57 := Lib.hid (Stir.out K56.out hs57 (by omega))
      have Z57 := Lib.hid (blk4_stir hs57 (by omega) Z56.out)
      have Y57 := Lib.hid (blk2_stir hs57 (by omega) Y56.out)
      have NI10_57 := Lib.hid (NI10_56.out.stir hs57 hg53)
      have NI2_57 := Lib.hid (NI2_56.out.stir hs57 hg54)
      clear hc57 hs57
      refine wpAnyH_take (i := 13) (v := ?_) rfl (by kernel_rfl) (by kernel_rfl) (by kernel_rfl) (fun _ _ _ h => h) (Or.inl ⟨by kernel_rfl, ?_⟩) (by assumption) ?_
      rotate_left
      focus (intro w' hSw; (try dsimp only at hSw); obtain ⟨s0, sf0, s1, sf1, s2, sf2, s3, sf3⟩ := hSw; go_simp; (try with_reducible rfl))
      (try simp only [Act.put, List.getElem_toArray, List.getElem_cons_zero, List.getElem_cons_succ, List.setIfInBounds_toArray, List.set_cons_zero, List.set_cons_succ])
      refine wpAnyH_take (i := 14) (v := ?_) rfl (by kernel_rfl) (by kernel_rfl) (by kernel_rfl) (fun _ _ _ h => h) (Or.inl ⟨by kernel_rfl, ?_⟩) (by assumption) ?_
      rotate_left
      focus (intro w' hSw; (try dsimp only at hSw); obtain ⟨s0, sf0, s1, sf1, s2, sf2, s3, sf3⟩ := hSw; go_simp; (try with_reducible rfl))
      (try simp only [Act.put, List.getElem_toArray, List.getElem_cons_zero, List.getElem_cons_succ, List.setIfInBounds_toArray, List.set_cons_zero, List.set_cons_succ])
      refine wpAnyH_take (i := 15) (v := ?_) rfl (by kernel_rfl) (by kernel_rfl) (by kernel_rfl) (fun _ _ _ h => h) (Or.inl ⟨by kernel_rfl, ?_⟩) (by assumption) ?_
      rotate_left
      focus (intro w' hSw; (try dsimp only at hSw); obtain ⟨s0, sf0, s1, sf1, s2, sf2, s3, sf3⟩ := hSw; go_simp; (try with_reducible rfl))
      (try simp only [Act.put, List.getElem_toArray, List.getElem_cons_zero, List.getElem_cons_succ, List.setIfInBounds_toArray, List.set_cons_zero, List.set_cons_succ])
      refine wpAnyH_ready (rs := [16]) (by kernel_rfl) (by simp) ?_
      refine AllReadyH.cons rfl (fun K hK => ?_) (AllReadyH.nil)
      go_simp
      go_at_call 67
      refine (among_pre gc _ _ (3 + y12) ((((0 + 200) + 2) + 2) + 2) [-500, 77, 2000, -501, 2001] _ C57.out (by omega) NI10_57.out hg53 (by omega) (by first | (simp; done) | (simp; omega)) (by decide)).mono ?_
      rintro e p58 ⟨v16, rfl, hc58, hs58⟩
      (try go_wp2_with fail)
      have E58 := Lib.hid (blk4_stir hs58 h5g E57.out)
      refine hK.out _ _ (by (try dsimp only); exact E58.out) (fun hHeld => ?_)
      clear hK K
      (try simp only [Act.put, List.getElem_toArray, List.getElem_cons_zero, List.getElem_cons_succ, List.setIfInBounds_toArray, List.set_cons_zero, List.set_cons_succ])
      have O58 := Lib.hid (hs58.own O57.out hog)
      have C58 := Lib.hid hc58
      have K58 := Lib.hid (Stir.out K57.out hs58 (by omega))
      have Z58 := Lib.hid (blk4_stir hs58 (by omega) Z57.out)
      have Y58 := Lib.hid (blk2_stir hs58 (by omega) Y57.out)
      have NI10_58 := Lib.hid (NI10_57.out.stir hs58 hg53)
      have NI2_58 := Lib.hid (NI2_57.out.stir hs58 hg54)
      clear hc58 hs58
      refine wpAnyH_take (i := 17) (v := ?_) rfl (by kernel_rfl) (by kernel_rfl) (by kernel_rfl) (fun _ _ _ h => h) (Or.inl ⟨by kernel_rfl, ?_⟩) (by assumption) ?_
      rotate_left
      focus (intro w' hSw; (try dsimp only at hSw); obtain ⟨s0, sf0, s1, sf1, s2, sf2, s3, sf3⟩ := hSw; go_simp; (try with_reducible rfl))
      (try simp only [Act.put, List.getElem_toArray, List.getElem_cons_zero, List.getElem_cons_succ, List.setIfInBounds_toArray, List.set_cons_zero, List.set_cons_succ])
      refine wpAnyH_ready (rs := [18]) (by kernel_rfl) (by simp) ?_
      refine AllReadyH.cons rfl (fun K hK => ?_) (AllReadyH.nil)
      obtain ⟨q0, f0, q1, f1, q2, f2, q3, f3⟩ := Z58.out
      go_simp
      have E59 := Lib.hid ((blk4_set ⟨w.heap.size, 3, none⟩ (by simp; omega) (.slice A xs.length c) (blk4_set ⟨w.heap.size, 2, none⟩ (by simp; omega) (.int .i64 z) (blk4_set ⟨w.heap.size, 1, none⟩ (by simp; omega) (.string nm) (blk4_set ⟨w.heap.size, 0, none⟩ (by simp; omega) (.int .i64 i) E58.out)))))
      have K59 := Lib.hid ((Kept.setCell (Kept.setCell (Kept.setCell (Kept.setCell K58.out (p := ⟨w.heap.size, 0, none⟩) (by first | (simp; done) | (simp; omega)) (.int .i64 i)) (p := ⟨w.heap.size, 1, none⟩) (by first | (simp; done) | (simp; omega)) (.string nm)) (p := ⟨w.heap.size, 2, none⟩) (by first | (simp; done) | (simp; omega)) (.int .i64 z)) (p := ⟨w.heap.size, 3, none⟩) (by first | (simp; done) | (simp; omega)) (.slice A xs.length c)))
      have O59 := Lib.hid ((ownsRow_setCell_below (ownsRow_setCell_below (ownsRow_setCell_below (ownsRow_setCell_below O58.out (a := ⟨w.heap.size, 0, none⟩) (by simp; omega) (.int .i64 i)) (a := ⟨w.heap.size, 1, none⟩) (by simp; omega) (.string nm)) (a := ⟨w.heap.size, 2, none⟩) (by simp; omega) (.int .i64 z)) (a := ⟨w.heap.size, 3, none⟩) (by simp; omega) (.slice A xs.length c)))
      have X59 := Lib.hid (show ((((p58.setCell ⟨w.heap.size, 0, none⟩ (.int .i64 i)).setCell ⟨w.heap.size, 1, none⟩ (.string nm)).setCell ⟨w.heap.size, 2, none⟩ (.int .i64 z)).setCell ⟨w.heap.size, 3, none⟩ (.slice A xs.length c)).cell? ⟨w.heap.size, 0, none⟩ = some (.int .i64 i) ∧ ((((p58.setCell ⟨w.heap.size, 0, none⟩ (.int .i64 i)).setCell ⟨w.heap.size, 1, none⟩ (.string nm)).setCell ⟨w.heap.size, 2, none⟩ (.int .i64 z)).setCell ⟨w.heap.size, 3, none⟩ (.slice A xs.length c)).frozen? ⟨w.heap.size, 0, none⟩ = false ∧ ((((p58.setCell ⟨w.heap.size, 0, none⟩ (.int .i64 i)).setCell ⟨w.heap.size, 1, none⟩ (.string nm)).setCell ⟨w.heap.size, 2, none⟩ (.int .i64 z)).setCell ⟨w.heap.size, 3, none⟩ (.slice A xs.length c)).cell? ⟨w.heap.size, 1, none⟩ = some (.string nm) ∧ ((((p58.setCell ⟨w.heap.size, 0, none⟩ (.int .i64 i)).setCell ⟨w.heap.size, 1, none⟩ (.string nm)).setCell ⟨w.heap.size, 2, none⟩ (.int .i64 z)).setCell ⟨w.heap.size, 3, none⟩ (.slice A xs.length c)).frozen? ⟨w.heap.size, 1, none⟩ = false ∧ ((((p58.setCell ⟨w.heap.size, 0, none⟩ (.int .i64 i)).setCell ⟨w.heap.size, 1, none⟩ (.string nm)).setCell ⟨w.heap.size, 2, none⟩ (.int .i64 z)).setCell ⟨w.heap.size, 3, none⟩ (.slice A xs.length c)).cell? ⟨w.heap.size, 2, none⟩ = some (.int .i64 z) ∧ ((((p58.setCell ⟨w.heap.size, 0, none⟩ (.int .i64 i)).setCell ⟨w.heap.size, 1, none⟩ (.string nm)).setCell ⟨w.heap.size, 2, none⟩ (.int .i64 z)).setCell ⟨w.heap.size, 3, none⟩ (.slice A xs.length c)).frozen? ⟨w.heap.size, 2, none⟩ = false ∧ ((((p58.setCell ⟨w.heap.size, 0, none⟩ (.int .i64 i)).setCell ⟨w.heap.size, 1, none⟩ (.string nm)).setCell ⟨w.heap.size, 2, none⟩ (.int .i64 z)).setCell ⟨w.heap.size, 3, none⟩ (.slice A xs.length c)).cell? ⟨w.heap.size, 3, none⟩ = some (.slice A xs.length c) ∧ ((((p58.setCell ⟨w.heap.size, 0, none⟩ (.int .i64 i)).setCell ⟨w.heap.size, 1, none⟩ (.string nm)).setCell ⟨w.heap.size, 2, none⟩ (.int .i64 z)).setCell ⟨w.heap.size, 3, none⟩ (.slice A xs.length c)).frozen? ⟨w.heap.size, 3, none⟩ = false by simp [go_sem, *])
      have Y59 := Lib.hid (show ((((p58.setCell ⟨w.heap.size, 0, none⟩ (.int .i64 i)).setCell ⟨w.heap.size, 1, none⟩ (.string nm)).setCell ⟨w.heap.size, 2, none⟩ (.int .i64 z)).setCell ⟨w.heap.size, 3, none⟩ (.slice A xs.length c)).cell? ⟨w.heap.size + 1, 0, none⟩ = some (.int .i64 0) ∧ ((((p58.setCell ⟨w.heap.size, 0, none⟩ (.int .i64 i)).setCell ⟨w.heap.size, 1, none⟩ (.string nm)).setCell ⟨w.heap.size, 2, none⟩ (.int .i64 z)).setCell ⟨w.heap.size, 3, none⟩ (.slice A xs.length c)).frozen? ⟨w.heap.size + 1, 0, none⟩ = false ∧ ((((p58.setCell ⟨w.heap.size, 0, none⟩ (.int .i64 i)).setCell ⟨w.heap.size, 1, none⟩ (.string nm)).setCell ⟨w.heap.size, 2, none⟩ (.int .i64 z)).setCell ⟨w.heap.size, 3, none⟩ (.slice A xs.length c)).cell? ⟨w.heap.size + 1, 1, none⟩ = some (.int .i64 0) ∧ ((((p58.setCell ⟨w.heap.size, 0, none⟩ (.int .i64 i)).setCell ⟨w.heap.size, 1, none⟩ (.string nm)).setCell ⟨w.heap.size, 2, none⟩ (.int .i64 z)).setCell ⟨w.heap.size, 3, none⟩ (.slice A xs.length c)).frozen? ⟨w.heap.size + 1, 1, none⟩ = false by obtain ⟨y0, g0, y1, g1⟩ := Y58.out; simp [go_sem, *])
      refine hK.out _ _ (by (try dsimp only); exact E59.out) (fun hHeld => ?_)
      clear hK K
      (try simp only [Act.put, List.getElem_toArray, List.getElem_cons_zero, List.getElem_cons_succ, List.setIfInBounds_toArray, List.set_cons_zero, List.set_cons_succ])
      clear q0 f0 q1 f1 q2 f2 q3 f3
      generalize ((((p58.setCell ⟨w.heap.size, 0, none⟩ (.int .i64 i)).setCell ⟨w.heap.size, 1, none⟩ (.string nm)).setCell ⟨w.heap.size, 2, none⟩ (.int .i64 z)).setCell ⟨w.heap.size, 3, none⟩ (.slice A xs.length c)) = p59 at *
      refine wpAnyH_ready (rs := [19]) (by kernel_rfl) (by simp) ?_
      refine AllReadyH.cons rfl (fun K hK => ?_) (AllReadyH.nil)
      obtain ⟨q0, f0, q1, f1⟩ := Y59.out
      go_simp
      have E60 := Lib.hid ((blk4_set ⟨w.heap.size + 1, 1, none⟩ (by simp; omega) (.int .i64 v16) (blk4_set ⟨w.heap.size + 1, 0, none⟩ (by simp; omega) (.int .i64 v8) E59.out)))
      have K60 := Lib.hid ((Kept.setCell (Kept.setCell K59.out (p := ⟨w.heap.size + 1, 0, none⟩) (by first | (simp; done) | (simp; omega)) (.int .i64 v8)) (p := ⟨w.heap.size + 1, 1, none⟩) (by first | (simp; done) | (simp; omega)) (.int .i64 v16)))
      have O60 := Lib.hid ((ownsRow_setCell_below (ownsRow_setCell_below O59.out (a := ⟨w.heap.size + 1, 0, none⟩) (by simp; omega) (.int .i64 v8)) (a := ⟨w.heap.size + 1, 1, none⟩) (by simp; omega) (.int .i64 v16)))
      have X60 := Lib.hid (show ((p59.setCell ⟨w.heap.size + 1, 0, none⟩ (.int .i64 v8)).setCell ⟨w.heap.size + 1, 1, none⟩ (.int .i64 v16)).cell? ⟨w.heap.size, 0, none⟩ = some (.int .i64 i) ∧ ((p59.setCell ⟨w.heap.size + 1, 0, none⟩ (.int .i64 v8)).setCell ⟨w.heap.size + 1, 1, none⟩ (.int .i64 v16)).frozen? ⟨w.heap.size, 0, none⟩ = false ∧ ((p59.setCell ⟨w.heap.size + 1, 0, none⟩ (.int .i64 v8)).setCell ⟨w.heap.size + 1, 1, none⟩ (.int .i64 v16)).cell? ⟨w.heap.size, 1, none⟩ = some (.string nm) ∧ ((p59.setCell ⟨w.heap.size + 1, 0, none⟩ (.int .i64 v8)).setCell ⟨w.heap.size + 1, 1, none⟩ (.int .i64 v16)).frozen? ⟨w.heap.size, 1, none⟩ = false ∧ ((p59.setCell ⟨w.heap.size + 1, 0, none⟩ (.int .i64 v8)).setCell ⟨w.heap.size + 1, 1, none⟩ (.int .i64 v16)).cell? ⟨w.heap.size, 2, none⟩ = some (.int .i64 z) ∧ ((p59.setCell ⟨w.heap.size + 1, 0, none⟩ (.int .i64 v8)).setCell ⟨w.heap.size + 1, 1, none⟩ (.int .i64 v16)).frozen? ⟨w.heap.size, 2, none⟩ = false ∧ ((p59.setCell ⟨w.heap.size + 1, 0, none⟩ (.int .i64 v8)).setCell ⟨w.heap.size + 1, 1, none⟩ (.int .i64 v16)).cell? ⟨w.heap.size, 3, none⟩ = some (.slice A xs.length c) ∧ ((p59.setCell ⟨w.heap.size + 1, 0, none⟩ (.int .i64 v8)).setCell ⟨w.heap.size + 1, 1, none⟩ (.int .i64 v16)).frozen? ⟨w.heap.size, 3, none⟩ = false by obtain ⟨y0, g0, y1, g1, y2, g2, y3, g3⟩ := X59.out; simp [go_sem, *])
      have Y60 := Lib.hid (show ((p59.setCell ⟨w.heap.size + 1, 0, none⟩ (.int .i64 v8)).setCell ⟨w.heap.size + 1, 1, none⟩ (.int .i64 v16)).cell? ⟨w.heap.size + 1, 0, none⟩ = some (.int .i64 v8) ∧ ((p59.setCell ⟨w.heap.size + 1, 0, none⟩ (.int .i64 v8)).setCell ⟨w.heap.size + 1, 1, none⟩ (.int .i64 v16)).frozen? ⟨w.heap.size + 1, 0, none⟩ = false ∧ ((p59.setCell ⟨w.heap.size + 1, 0, none⟩ (.int .i64 v8)).setCell ⟨w.heap.size + 1, 1, none⟩ (.int .i64 v16)).cell? ⟨w.heap.size + 1, 1, none⟩ = some (.int .i64 v16) ∧ ((p59.setCell ⟨w.heap.size + 1, 0, none⟩ (.int .i64 v8)).setCell ⟨w.heap.size + 1, 1, none⟩ (.int .i64 v16)).frozen? ⟨w.heap.size + 1, 1, none⟩ = false by simp [go_sem, *])
      refine hK.out _ _ (by (try dsimp only); exact E60.out) (fun hHeld => ?_)
      clear hK K
      (try simp only [Act.put, List.getElem_toArray, List.getElem_cons_zero, List.getElem_cons_succ, List.setIfInBounds_toArray, List.set_cons_zero, List.set_cons_succ])
      clear q0 f0 q1 f1
      generalize ((p59.setCell ⟨w.heap.size + 1, 0, none⟩ (.int .i64 v8)).setCell ⟨w.heap.size + 1, 1, none⟩ (.int .i64 v16)) = p60 at *
      refine wpAnyH_done (by kernel_rfl) ?_ _
      go_wp2_with fail
      obtain ⟨x0, l0, x1, l1, x2, l2, x3, l3⟩ := X60.out
      obtain ⟨y0, g0, y1, g1⟩ := Y60.out
      exact bodyPost_ret (v := .tuple #[.agg #[.int .i64 i, .string nm, .int .i64 z, .slice A xs.length c], .agg #[.int .i64 v8, .int .i64 v16]]) (by simp [results, Try.results16, go_sem, *]) rfl ⟨i, z, nm, _, xs, _, _, rfl, hnm, hxl, pairs_own O60.out, K60.out⟩
    · skip
      go_simp
      go_at_call 68
      refine (pick_any gc (0 + 200) 24 _ C53.out (by omega) (by omega)).mono ?_
      rintro e p61 ⟨v4, rfl, ⟨va4, vb4⟩, hc61, hs61⟩
      obtain ⟨y4, hy4, hz4⟩ : ∃ y : Nat, v4 / 11 = (y : Int) ∧ y ≤ 2 := ⟨(v4 / 11).toNat, by omega, by omega⟩
      have ht4 : v4.tdiv 11 = (y4 : Int) := by rw [Int.tdiv_eq_ediv_of_nonneg (by omega)]; exact hy4
      have hw4 : IntKind.i64.wrap (y4 : Int) = (y4 : Int) := by rw [IntKind.wrap_i64]; omega
      have hv4 : IntKind.i64.wrap (6 + (y4 : Int)) = 6 + (y4 : Int) := by rw [IntKind.wrap_i64]; omega
      have ha4 : (0 : Int) ≤ 6 + (y4 : Int) := by omega
      have hb4 : 6 + (y4 : Int) ≤ 8 := by omega
      have hn4 : (6 + (y4 : Int)).toNat = 6 + y4 := by omega
      (try go_wp2_with fail)
      have E61 := Lib.hid (blk4_stir hs61 h5g E53.out)
      refine hK.out _ _ (by (try dsimp only); exact E61.out) (fun hHeld => ?_)
      clear hK K
      (try simp only [Act.put, List.getElem_toArray, List.getElem_cons_zero, List.getElem_cons_succ, List.setIfInBounds_toArray, List.set_cons_zero, List.set_cons_succ])
      have O61 := Lib.hid (hs61.own O53.out hog)
      have C61 := Lib.hid hc61
      have K61 := Lib.hid (Stir.out K53.out hs61 (by omega))
      have Z61 := Lib.hid (blk4_stir hs61 (by omega) Z53.out)
      have Y61 := Lib.hid (blk2_stir hs61 (by omega) Y53.out)
      have NI10_61 := Lib.hid (NI10_53.out.stir hs61 hg53)
      clear hc61 hs61
      refine wpAnyH_take (i := 5) (v := ?_) rfl (by kernel_rfl) (by kernel_rfl) (by kernel_rfl) (fun _ _ _ h => h) (Or.inl ⟨by kernel_rfl, ?_⟩) (by assumption) ?_
      rotate_left
      focus (intro w' hSw; (try dsimp only at hSw); obtain ⟨s0, sf0, s1, sf1, s2, sf2, s3, sf3⟩ := hSw; go_simp; (try with_reducible rfl))
      (try simp only [Act.put, List.getElem_toArray, List.getElem_cons_zero, List.getElem_cons_succ, List.setIfInBounds_toArray, List.set_cons_zero, List.set_cons_succ])
      refine wpAnyH_take (i := 6) (v := ?_) rfl (by kernel_rfl) (by kernel_rfl) (by kernel_rfl) (fun _ _ _ h => h) (Or.inl ⟨by kernel_rfl, ?_⟩) (by assumption) ?_
      rotate_left
      focus (intro w' hSw; (try dsimp only at hSw); obtain ⟨s0, sf0, s1, sf1, s2, sf2, s3, sf3⟩ := hSw; go_simp; (try with_reducible rfl))
      (try simp only [Act.put, List.getElem_toArray, List.getElem_cons_zero, List.getElem_cons_succ, List.setIfInBounds_toArray, List.set_cons_zero, List.set_cons_succ])
      refine wpAnyH_ready (rs := [2]) (by kernel_rfl) (by simp) ?_
      refine AllReadyH.cons rfl (fun K hK => ?_) (AllReadyH.nil)
      go_simp
      have ka : Kept p61 (p61.alloc (.cells #[.int .i64 0, .int .i64 10, .int .i64 15, .int .i64 20, .int .i64 620, .int .i64 10000, .int .i64 (-1), .int .i64 10001] 3)) := Kept.alloc (Kept.refl _) _
      have E62 := Lib.hid (blk4 ka E61.out)
      refine hK.out _ _ (by (try dsimp only); exact E62.out) (fun hHeld => ?_)
      clear hK K
      (try simp only [Act.put, List.getElem_toArray, List.getElem_cons_zero, List.getElem_cons_succ, List.setIfInBounds_toArray, List.set_cons_zero, List.set_cons_succ])
      have O62 := Lib.hid (own_kept O61.out ka)
      have C62 := Lib.hid (C61.out.kept ka)
      have K62 := Lib.hid (K61.out.trans ka)
      have Z62 := Lib.hid (blk4 ka Z61.out)
      have Y62 := Lib.hid (blk2_keep ka Y61.out)
      have NI10_62 := Lib.hid (NI10_61.out.kept ka)
      have NI2_62 := Lib.hid (NumsIn.lit (w := p61) (xs := [0, 10, 15, 20, 620, 10000, -1, 10001]) (t := 3) (n := p61.heap.size) (cs := #[.int .i64 0, .int .i64 10, .int .i64 15, .int .i64 20, .int .i64 620, .int .i64 10000, .int .i64 (-1), .int .i64 10001]) (by rfl) rfl)
      have hg62 : p61.heap.size ≠ gc := fun e => by have := C61.out.lt; omega
      clear ka
      generalize p61.alloc (.cells #[.int .i64 0, .int .i64 10, .int .i64 15, .int .i64 20, .int .i64 620, .int .i64 10000, .int .i64 (-1), .int .i64 10001] 3) = p62 at *
      refine wpAnyH_take (i := 7) (v := ?_) rfl (by kernel_rfl) (by kernel_rfl) (by kernel_rfl) (fun _ _ _ h => h) (Or.inl ⟨by kernel_rfl, ?_⟩) (by assumption) ?_
      rotate_left
      focus (intro w' hSw; (try dsimp only at hSw); obtain ⟨s0, sf0, s1, sf1, s2, sf2, s3, sf3⟩ := hSw; go_simp; (try with_reducible rfl))
      (try simp only [Act.put, List.getElem_toArray, List.getElem_cons_zero, List.getElem_cons_succ, List.setIfInBounds_toArray, List.set_cons_zero, List.set_cons_succ])
      refine wpAnyH_ready (rs := [8]) (by kernel_rfl) (by simp) ?_
      refine AllReadyH.cons rfl (fun K hK => ?_) (AllReadyH.nil)
      go_simp
      go_at_call 67
      refine (among_pre gc _ _ (6 + y4) ((0 + 200) + 2) [0, 10, 15, 20, 620, 10000, -1, 10001] _ C62.out (by omega) NI2_62.out hg62 (by omega) (by first | (simp; done) | (simp; omega)) (by decide)).mono ?_
      rintro e p63 ⟨v8, rfl, hc63, hs63⟩
      (try go_wp2_with fail)
      have E63 := Lib.hid (blk4_stir hs63 h5g E62.out)
      refine hK.out _ _ (by (try dsimp only); exact E63.out) (fun hHeld => ?_)
      clear hK K
      (try simp only [Act.put, List.getElem_toArray, List.getElem_cons_zero, List.getElem_cons_succ, List.setIfInBounds_toArray, List.set_cons_zero, List.set_cons_succ])
      have O63 := Lib.hid (hs63.own O62.out hog)
      have C63 := Lib.hid hc63
      have K63 := Lib.hid (Stir.out K62.out hs63 (by omega))
      have Z63 := Lib.hid (blk4_stir hs63 (by omega) Z62.out)
      have Y63 := Lib.hid (blk2_stir hs63 (by omega) Y62.out)
      have NI10_63 := Lib.hid (NI10_62.out.stir hs63 hg53)
      have NI2_63 := Lib.hid (NI2_62.out.stir hs63 hg62)
      clear hc63 hs63
      refine wpAnyH_ready (rs := [12]) (by kernel_rfl) (by simp) ?_
      refine AllReadyH.cons rfl (fun K hK => ?_) (AllReadyH.nil)
      go_simp
      go_at_call 68
      refine (pick_any gc (((0 + 200) + 2) + 2) 24 _ C63.out (by omega) (by omega)).mono ?_
      rintro e p64 ⟨v12, rfl, ⟨va12, vb12⟩, hc64, hs64⟩
      obtain ⟨y12, hy12, hz12⟩ : ∃ y : Nat, v12 / 11 = (y : Int) ∧ y ≤ 2 := ⟨(v12 / 11).toNat, by omega, by omega⟩
      have ht12 : v12.tdiv 11 = (y12 : Int) := by rw [Int.tdiv_eq_ediv_of_nonneg (by omega)]; exact hy12
      have hw12 : IntKind.i64.wrap (y12 : Int) = (y12 : Int) := by rw [IntKind.wrap_i64]; omega
      have hv12 : IntKind.i64.wrap (3 + (y12 : Int)) = 3 + (y12 : Int) := by rw [IntKind.wrap_i64]; omega
      have ha12 : (0 : Int) ≤ 3 + (y12 : Int) := by omega
      have hb12 : 3 + (y12 : Int) ≤ 5 := by omega
      have hn12 : (3 + (y12 : Int)).toNat = 3 + y12 := by omega
      (try go_wp2_with fail)
      have E64 := Lib.hid (blk4_stir hs64 h5g E63.out)
      refine hK.out _ _ (by (try dsimp only); exact E64.out) (fun hHeld => ?_)
      clear hK K
      (try simp only [Act.put, List.getElem_toArray, List.getElem_cons_zero, List.getElem_cons_succ, List.setIfInBounds_toArray, List.set_cons_zero, List.set_cons_succ])
      have O64 := Lib.hid (hs64.own O63.out hog)
      have C64 := Lib.hid hc64
      have K64 := Lib.hid (Stir.out K63.out hs64 (by omega))
      have Z64 := Lib.hid (blk4_stir hs64 (by omega) Z63.out)
      have Y64 := Lib.hid (blk2_stir hs64 (by omega) Y63.out)
      have NI10_64 := Lib.hid (NI10_63.out.stir hs64 hg53)
      have NI2_64 := Lib.hid (NI2_63.out.stir hs64 hg62)
      clear hc64 hs64
      refine wpAnyH_take (i := 13) (v := ?_) rfl (by kernel_rfl) (by kernel_rfl) (by kernel_rfl) (fun _ _ _ h => h) (Or.inl ⟨by kernel_rfl, ?_⟩) (by assumption) ?_
      rotate_left
      focus (intro w' hSw; (try dsimp only at hSw); obtain ⟨s0, sf0, s1, sf1, s2, sf2, s3, sf3⟩ := hSw; go_simp; (try with_reducible rfl))
      (try simp only [Act.put, List.getElem_toArray, List.getElem_cons_zero, List.getElem_cons_succ, List.setIfInBounds_toArray, List.set_cons_zero, List.set_cons_succ])
      refine wpAnyH_take (i := 14) (v := ?_) rfl (by kernel_rfl) (by kernel_rfl) (by kernel_rfl) (fun _ _ _ h => h) (Or.inl ⟨by kernel_rfl, ?_⟩) (by assumption) ?_
      rotate_left
      focus (intro w' hSw; (try dsimp only at hSw); obtain ⟨s0, sf0, s1, sf1, s2, sf2, s3, sf3⟩ := hSw; go_simp; (try with_reducible rfl))
      (try simp only [Act.put, List.getElem_toArray, List.getElem_cons_zero, List.getElem_cons_succ, List.setIfInBounds_toArray, List.set_cons_zero, List.set_cons_succ])
      refine wpAnyH_take (i := 15) (v := ?_) rfl (by kernel_rfl) (by kernel_rfl) (by kernel_rfl) (fun _ _ _ h => h) (Or.inl ⟨by kernel_rfl, ?_⟩) (by assumption) ?_
      rotate_left
      focus (intro w' hSw; (try dsimp only at hSw); obtain ⟨s0, sf0, s1, sf1, s2, sf2, s3, sf3⟩ := hSw; go_simp; (try with_reducible rfl))
      (try simp only [Act.put, List.getElem_toArray, List.getElem_cons_zero, List.getElem_cons_succ, List.setIfInBounds_toArray, List.set_cons_zero, List.set_cons_succ])
      refine wpAnyH_ready (rs := [16]) (by kernel_rfl) (by simp) ?_
      refine AllReadyH.cons rfl (fun K hK => ?_) (AllReadyH.nil)
      go_simp
      go_at_call 67
      refine (among_pre gc _ _ (3 + y12) ((((0 + 200) + 2) + 2) + 2) [-500, 77, 2000, -501, 2001] _ C64.out (by omega) NI10_64.out hg53 (by omega) (by first | (simp; done) | (simp; omega)) (by decide)).mono ?_
      rintro e p65 ⟨v16, rfl, hc65, hs65⟩
      (try go_wp2_with fail)
      have E65 := Lib.hid (blk4_stir hs65 h5g E64.out)
      refine hK.out _ _ (by (try dsimp only); exact E65.out) (fun hHeld => ?_)
      clear hK K
      (try simp only [Act.put, List.getElem_toArray, List.getElem_cons_zero, List.getElem_cons_succ, List.setIfInBounds_toArray, List.set_cons_zero, List.set_cons_succ])
      have O65 := Lib.hid (hs65.own O64.out hog)
      have C65 := Lib.hid hc65
      have K65 := Lib.hid (Stir.out K64.out hs65 (by omega))
      have Z65 := Lib.hid (blk4_stir hs65 (by omega) Z64.out)
      have Y65 := Lib.hid (blk2_stir hs65 (by omega) Y64.out)
      have NI10_65 := Lib.hid (NI10_64.out.stir hs65 hg53)
      have NI2_65 := Lib.hid (NI2_64.out.stir hs65 hg62)
      clear hc65 hs65
      refine wpAnyH_take (i := 17) (v := ?_) rfl (by kernel_rfl) (by kernel_rfl) (by kernel_rfl) (fun _ _ _ h => h) (Or.inl ⟨by kernel_rfl, ?_⟩) (by assumption) ?_
      rotate_left
      focus (intro w' hSw; (try dsimp only at hSw); obtain ⟨s0, sf0, s1, sf1, s2, sf2, s3, sf3⟩ := hSw; go_simp; (try with_reducible rfl))
      (try simp only [Act.put, List.getElem_toArray, List.getElem_cons_zero, List.getElem_cons_succ, List.setIfInBounds_toArray, List.set_cons_zero, List.set_cons_succ])
      refine wpAnyH_ready (rs := [18]) (by kernel_rfl) (by simp) ?_
      refine AllReadyH.cons rfl (fun K hK => ?_) (AllReadyH.nil)
      obtain ⟨q0, f0, q1, f1, q2, f2, q3, f3⟩ := Z65.out
      go_simp
      have E66 := Lib.hid ((blk4_set ⟨w.heap.size, 3, none⟩ (by simp; omega) (.slice A xs.length c) (blk4_set ⟨w.heap.size, 2, none⟩ (by simp; omega) (.int .i64 z) (blk4_set ⟨w.heap.size, 1, none⟩ (by simp; omega) (.string nm) (blk4_set ⟨w.heap.size, 0, none⟩ (by simp; omega) (.int .i64 i) E65.out)))))
      have K66 := Lib.hid ((Kept.setCell (Kept.setCell (Kept.setCell (Kept.setCell K65.out (p := ⟨w.heap.size, 0, none⟩) (by first | (simp; done) | (simp; omega)) (.int .i64 i)) (p := ⟨w.heap.size, 1, none⟩) (by first | (simp; done) | (simp; omega)) (.string nm)) (p := ⟨w.heap.size, 2, none⟩) (by first | (simp; done) | (simp; omega)) (.int .i64 z)) (p := ⟨w.heap.size, 3, none⟩) (by first | (simp; done) | (simp; omega)) (.slice A xs.length c)))
      have O66 := Lib.hid ((ownsRow_setCell_below (ownsRow_setCell_below (ownsRow_setCell_below (ownsRow_setCell_below O65.out (a := ⟨w.heap.size, 0, none⟩) (by simp; omega) (.int .i64 i)) (a := ⟨w.heap.size, 1, none⟩) (by simp; omega) (.string nm)) (a := ⟨w.heap.size, 2, none⟩) (by simp; omega) (.int .i64 z)) (a := ⟨w.heap.size, 3, none⟩) (by simp; omega) (.slice A xs.length c)))
      have X66 := Lib.hid (show ((((p65.setCell ⟨w.heap.size, 0, none⟩ (.int .i64 i)).setCell ⟨w.heap.size, 1, none⟩ (.string nm)).setCell ⟨w.heap.size, 2, none⟩ (.int .i64 z)).setCell ⟨w.heap.size, 3, none⟩ (.slice A xs.length c)).cell? ⟨w.heap.size, 0, none⟩ = some (.int .i64 i) ∧ ((((p65.setCell ⟨w.heap.size, 0, none⟩ (.int .i64 i)).setCell ⟨w.heap.size, 1, none⟩ (.string nm)).setCell ⟨w.heap.size, 2, none⟩ (.int .i64 z)).setCell ⟨w.heap.size, 3, none⟩ (.slice A xs.length c)).frozen? ⟨w.heap.size, 0, none⟩ = false ∧ ((((p65.setCell ⟨w.heap.size, 0, none⟩ (.int .i64 i)).setCell ⟨w.heap.size, 1, none⟩ (.string nm)).setCell ⟨w.heap.size, 2, none⟩ (.int .i64 z)).setCell ⟨w.heap.size, 3, none⟩ (.slice A xs.length c)).cell? ⟨w.heap.size, 1, none⟩ = some (.string nm) ∧ ((((p65.setCell ⟨w.heap.size, 0, none⟩ (.int .i64 i)).setCell ⟨w.heap.size, 1, none⟩ (.string nm)).setCell ⟨w.heap.size, 2, none⟩ (.int .i64 z)).setCell ⟨w.heap.size, 3, none⟩ (.slice A xs.length c)).frozen? ⟨w.heap.size, 1, none⟩ = false ∧ ((((p65.setCell ⟨w.heap.size, 0, none⟩ (.int .i64 i)).setCell ⟨w.heap.size, 1, none⟩ (.string nm)).setCell ⟨w.heap.size, 2, none⟩ (.int .i64 z)).setCell ⟨w.heap.size, 3, none⟩ (.slice A xs.length c)).cell? ⟨w.heap.size, 2, none⟩ = some (.int .i64 z) ∧ ((((p65.setCell ⟨w.heap.size, 0, none⟩ (.int .i64 i)).setCell ⟨w.heap.size, 1, none⟩ (.string nm)).setCell ⟨w.heap.size, 2, none⟩ (.int .i64 z)).setCell ⟨w.heap.size, 3, none⟩ (.slice A xs.length c)).frozen? ⟨w.heap.size, 2, none⟩ = false ∧ ((((p65.setCell ⟨w.heap.size, 0, none⟩ (.int .i64 i)).setCell ⟨w.heap.size, 1, none⟩ (.string nm)).setCell ⟨w.heap.size, 2, none⟩ (.int .i64 z)).setCell ⟨w.heap.size, 3, none⟩ (.slice A xs.length c)).cell? ⟨w.heap.size, 3, none⟩ = some (.slice A xs.length c) ∧ ((((p65.setCell ⟨w.heap.size, 0, none⟩ (.int .i64 i)).setCell ⟨w.heap.size, 1, none⟩ (.string nm)).setCell ⟨w.heap.size, 2, none⟩ (.int .i64 z)).setCell ⟨w.heap.size, 3, none⟩ (.slice A xs.length c)).frozen? ⟨w.heap.size, 3, none⟩ = false by simp [go_sem, *])
      have Y66 := Lib.hid (show ((((p65.setCell ⟨w.heap.size, 0, none⟩ (.int .i64 i)).setCell ⟨w.heap.size, 1, none⟩ (.string nm)).setCell ⟨w.heap.size, 2, none⟩ (.int .i64 z)).setCell ⟨w.heap.size, 3, none⟩ (.slice A xs.length c)).cell? ⟨w.heap.size + 1, 0, none⟩ = some (.int .i64 0) ∧ ((((p65.setCell ⟨w.heap.size, 0, none⟩ (.int .i64 i)).setCell ⟨w.heap.size, 1, none⟩ (.string nm)).setCell ⟨w.heap.size, 2, none⟩ (.int .i64 z)).setCell ⟨w.heap.size, 3, none⟩ (.slice A xs.length c)).frozen? ⟨w.heap.size + 1, 0, none⟩ = false ∧ ((((p65.setCell ⟨w.heap.size, 0, none⟩ (.int .i64 i)).setCell ⟨w.heap.size, 1, none⟩ (.string nm)).setCell ⟨w.heap.size, 2, none⟩ (.int .i64 z)).setCell ⟨w.heap.size, 3, none⟩ (.slice A xs.length c)).cell? ⟨w.heap.size + 1, 1, none⟩ = some (.int .i64 0) ∧ ((((p65.setCell ⟨w.heap.size, 0, none⟩ (.int .i64 i)).setCell ⟨w.heap.size, 1, none⟩ (.string nm)).setCell ⟨w.heap.size, 2, none⟩ (.int .i64 z)).setCell ⟨w.heap.size, 3, none⟩ (.slice A xs.length c)).frozen? ⟨w.heap.size + 1, 1, none⟩ = false by obtain ⟨y0, g0, y1, g1⟩ := Y65.out; simp [go_sem, *])
      refine hK.out _ _ (by (try dsimp only); exact E66.out) (fun hHeld => ?_)
      clear hK K
      (try simp only [Act.put, List.getElem_toArray, List.getElem_cons_zero, List.getElem_cons_succ, List.setIfInBounds_toArray, List.set_cons_zero, List.set_cons_succ])
      clear q0 f0 q1 f1 q2 f2 q3 f3
      generalize ((((p65.setCell ⟨w.heap.size, 0, none⟩ (.int .i64 i)).setCell ⟨w.heap.size, 1, none⟩ (.string nm)).setCell ⟨w.heap.size, 2, none⟩ (.int .i64 z)).setCell ⟨w.heap.size, 3, none⟩ (.slice A xs.length c)) = p66 at *
      refine wpAnyH_ready (rs := [19]) (by kernel_rfl) (by simp) ?_
      refine AllReadyH.cons rfl (fun K hK => ?_) (AllReadyH.nil)
      obtain ⟨q0, f0, q1, f1⟩ := Y66.out
      go_simp
      have E67 := Lib.hid ((blk4_set ⟨w.heap.size + 1, 1, none⟩ (by simp; omega) (.int .i64 v16) (blk4_set ⟨w.heap.size + 1, 0, none⟩ (by simp; omega) (.int .i64 v8) E66.out)))
      have K67 := Lib.hid ((Kept.setCell (Kept.setCell K66.out (p := ⟨w.heap.size + 1, 0, none⟩) (by first | (simp; done) | (simp; omega)) (.int .i64 v8)) (p := ⟨w.heap.size + 1, 1, none⟩) (by first | (simp; done) | (simp; omega)) (.int .i64 v16)))
      have O67 := Lib.hid ((ownsRow_setCell_below (ownsRow_setCell_below O66.out (a := ⟨w.heap.size + 1, 0, none⟩) (by simp; omega) (.int .i64 v8)) (a := ⟨w.heap.size + 1, 1, none⟩) (by simp; omega) (.int .i64 v16)))
      have X67 := Lib.hid (show ((p66.setCell ⟨w.heap.size + 1, 0, none⟩ (.int .i64 v8)).setCell ⟨w.heap.size + 1, 1, none⟩ (.int .i64 v16)).cell? ⟨w.heap.size, 0, none⟩ = some (.int .i64 i) ∧ ((p66.setCell ⟨w.heap.size + 1, 0, none⟩ (.int .i64 v8)).setCell ⟨w.heap.size + 1, 1, none⟩ (.int .i64 v16)).frozen? ⟨w.heap.size, 0, none⟩ = false ∧ ((p66.setCell ⟨w.heap.size + 1, 0, none⟩ (.int .i64 v8)).setCell ⟨w.heap.size + 1, 1, none⟩ (.int .i64 v16)).cell? ⟨w.heap.size, 1, none⟩ = some (.string nm) ∧ ((p66.setCell ⟨w.heap.size + 1, 0, none⟩ (.int .i64 v8)).setCell ⟨w.heap.size + 1, 1, none⟩ (.int .i64 v16)).frozen? ⟨w.heap.size, 1, none⟩ = false ∧ ((p66.setCell ⟨w.heap.size + 1, 0, none⟩ (.int .i64 v8)).setCell ⟨w.heap.size + 1, 1, none⟩ (.int .i64 v16)).cell? ⟨w.heap.size, 2, none⟩ = some (.int .i64 z) ∧ ((p66.setCell ⟨w.heap.size + 1, 0, none⟩ (.int .i64 v8)).setCell ⟨w.heap.size + 1, 1, none⟩ (.int .i64 v16)).frozen? ⟨w.heap.size, 2, none⟩ = false ∧ ((p66.setCell ⟨w.heap.size + 1, 0, none⟩ (.int .i64 v8)).setCell ⟨w.heap.size + 1, 1, none⟩ (.int .i64 v16)).cell? ⟨w.heap.size, 3, none⟩ = some (.slice A xs.length c) ∧ ((p66.setCell ⟨w.heap.size + 1, 0, none⟩ (.int .i64 v8)).setCell ⟨w.heap.size + 1, 1, none⟩ (.int .i64 v16)).frozen? ⟨w.heap.size, 3, none⟩ = false by obtain ⟨y0, g0, y1, g1, y2, g2, y3, g3⟩ := X66.out; simp [go_sem, *])
      have Y67 := Lib.hid (show ((p66.setCell ⟨w.heap.size + 1, 0, none⟩ (.int .i64 v8)).setCell ⟨w.heap.size + 1, 1, none⟩ (.int .i64 v16)).cell? ⟨w.heap.size + 1, 0, none⟩ = some (.int .i64 v8) ∧ ((p66.setCell ⟨w.heap.size + 1, 0, none⟩ (.int .i64 v8)).setCell ⟨w.heap.size + 1, 1, none⟩ (.int .i64 v16)).frozen? ⟨w.heap.size + 1, 0, none⟩ = false ∧ ((p66.setCell ⟨w.heap.size + 1, 0, none⟩ (.int .i64 v8)).setCell ⟨w.heap.size + 1, 1, none⟩ (.int .i64 v16)).cell? ⟨w.heap.size + 1, 1, none⟩ = some (.int .i64 v16) ∧ ((p66.setCell ⟨w.heap.size + 1, 0, none⟩ (.int .i64 v8)).setCell ⟨w.heap.size + 1, 1, none⟩ (.int .i64 v16)).frozen? ⟨w.heap.size + 1, 1, none⟩ = false by simp [go_sem, *])
      refine hK.out _ _ (by (try dsimp only); exact E67.out) (fun hHeld => ?_)
      clear hK K
      (try simp only [Act.put, List.getElem_toArray, List.getElem_cons_zero, List.getElem_cons_succ, List.setIfInBounds_toArray, List.set_cons_zero, List.set_cons_succ])
      clear q0 f0 q1 f1
      generalize ((p66.setCell ⟨w.heap.size + 1, 0, none⟩ (.int .i64 v8)).setCell ⟨w.heap.size + 1, 1, none⟩ (.int .i64 v16)) = p67 at *
      refine wpAnyH_done (by kernel_rfl) ?_ _
      go_wp2_with fail
      obtain ⟨x0, l0, x1, l1, x2, l2, x3, l3⟩ := X67.out
      obtain ⟨y0, g0, y1, g1⟩ := Y67.out
      exact bodyPost_ret (v := .tuple #[.agg #[.int .i64 i, .string nm, .int .i64 z, .slice A xs.length c], .agg #[.int .i64 v8, .int .i64 v16]]) (by simp [results, Try.results16, go_sem, *]) rfl ⟨i, z, nm, _, xs, _, _, rfl, hnm, hxl, pairs_own O67.out, K67.out⟩
end Go.Proofs.Ytopdnhlolfehcaa

/-
  FnExactAddReading's walk.
  Conditions: none.
-/
import Derived.Test.YtopdnhlolfehcaaAdd2
import Derived.Test.YtopdnhlolfehcaaShiftL
import Derived.Test.YtopdnhlolfehcaaHighW2
namespace Go.Proofs.Ytopdnhlolfehcaa
open Go.ChangeShapes Go.WideShapes Go.ChangeAt Go.RowKit
set_option linter.unusedVariables false
set_option linter.unusedSimpArgs false

theorem toReading_any (rt rl : Int) (w : World) : Calls Try.prog 52 #[.agg #[.int .i64 rt, .int .i64 rl]] w fun e w' => e = .returned (.agg #[.int .i64 rt, .int .i64 rl]) ∧ Kept w w' := by
  go_enter Try.func52, Try.ntmps52
  go_wp2_with fail
  exact bodyPost_ret (v := .agg #[.int .i64 rt, .int .i64 rl]) (by simp [results, Try.results52, go_sem, *]) rfl ⟨rfl, by (repeat (first | exact Kept.refl _ | assumption | refine Kept.alloc ?_ _ | refine Kept.drew ?_ | refine Kept.drewN ?_ _ | refine Kept.setCell ?_ (by first | (simp; done) | (simp; omega) | omega | exact Kept.size (by (repeat (first | exact Kept.refl _ | assumption | refine Kept.alloc ?_ _ | refine Kept.drew ?_ | refine Kept.drewN ?_ _ | refine Kept.trans ?_ (by assumption))))) _ | refine Kept.trans ?_ (by assumption)))⟩
set_option maxRecDepth 100000 in
set_option maxHeartbeats 8000000 in
theorem lawAdd1 (id : Int) (nm : ByteArray) (z : Int) (v : Value) (xs : List (Int × Int)) (hs : nm.size ≤ maxLen) (rt rl : Int) (w : World) (hL : Lies w 2 pairC v xs) (I : Int) (NM : ByteArray) (Z : Int) (ok : Bool) (L : List (Int × Int)) (hgl : L.length ≤ 1048576)
    (hS : Hid (∀ (W : World) (v : Value), Lies W 2 pairC v xs → Calls Try.prog 18 #[.agg #[.int .i64 id, .string nm, .int .i64 z, v], .agg #[.int .i64 rt, .int .i64 rl]] W fun e w' => ∃ u, e = .returned (.tuple #[.agg #[.int .i64 I, .string NM, .int .i64 Z, u], .bool ok]) ∧ w'.ownsRow W.heap.size 28 2 u L.length (L.flatMap pairC) ∧ Kept W w'))
    (hI : Hid (∀ (W : World) (v : Value), Lies W 2 pairC v xs → Calls Try.prog 17 #[.agg #[.int .i64 id, .string nm, .int .i64 z, v], .agg #[.int .i64 rt, .int .i64 rl]] W fun e w' => ∃ u, e = .returned (.tuple #[.agg #[.int .i64 I, .string NM, .int .i64 Z, u], .bool ok]) ∧ w'.ownsRow W.heap.size 28 2 u L.length (L.flatMap pairC) ∧ Kept W w')) :
    Calls Try.prog 11 #[.agg #[.int .i64 id, .string nm, .int .i64 z, v], .agg #[.int .i64 rt, .int .i64 rl]] w fun e w' => e = .returned (.bool true) ∧ Kept w w' := by
  have HL := Lib.hid hL
  have hs' := hs
  unfold maxLen at hs
  obtain ⟨A, c, rfl, hlc, hcm, hA⟩ := hL
  clear hA
  go_enter Try.func11, Try.ntmps11
  go_wp2_with fail
  refine (szGauge_left _ _ _ _ _ hs' _ (by omega) (by omega) _ (by exact HL.out.kept (by (repeat (first | exact Kept.refl _ | assumption | refine Kept.alloc ?_ _ | refine Kept.drew ?_ | refine Kept.drewN ?_ _ | refine Kept.setCell ?_ (by first | (simp; done) | (simp; omega) | omega | exact Kept.size (by (repeat (first | exact Kept.refl _ | assumption | refine Kept.alloc ?_ _ | refine Kept.drew ?_ | refine Kept.drewN ?_ _ | refine Kept.trans ?_ (by assumption))))) _ | refine Kept.trans ?_ (by assumption)))))).mono ?_
  rintro e W0 ⟨r, rfl, ⟨r0, r1, hr⟩, k0⟩
  by_cases hneg : r < 0
  · go_wp2_with fail
    go_ret
    exact ⟨rfl, by (repeat (first | exact Kept.refl _ | assumption | refine Kept.alloc ?_ _ | refine Kept.drew ?_ | refine Kept.drewN ?_ _ | refine Kept.setCell ?_ (by first | (simp; done) | (simp; omega) | omega | exact Kept.size (by (repeat (first | exact Kept.refl _ | assumption | refine Kept.alloc ?_ _ | refine Kept.drew ?_ | refine Kept.drewN ?_ _ | refine Kept.trans ?_ (by assumption))))) _ | refine Kept.trans ?_ (by assumption)))⟩
  · have hn := hr (by omega)
    clear hr
    have ka : Kept w ((w.alloc (.cells #[.int .i64 id, .string nm, .int .i64 z, .slice A xs.length c] 47)).alloc (.cells #[.int .i64 rt, .int .i64 rl] 67)) := Kept.alloc (Kept.alloc (Kept.refl w) _) _
    have GB : Hid (G4 W0 w.heap.size (.int .i64 id) (.string nm) (.int .i64 z) (.slice A xs.length c)) := Lib.hid (((G4.new w _ _ _ _ 47).alloc _).kept k0)
    have RB : Hid (W0.cell? ⟨w.heap.size + 1, 0, none⟩ = some (.int .i64 rt) ∧ W0.cell? ⟨w.heap.size + 1, 1, none⟩ = some (.int .i64 rl)) := Lib.hid ⟨k0.keep (by simp [go_sem]), k0.keep (by simp [go_sem])⟩
    have K0 : Hid (Kept w W0) := Lib.hid (ka.trans k0)
    clear k0 ka
    go_upto_region 5 with fail
    go_cut [6, 7] (fun sp sb wx => ∃ (g6 : Nat) (AW : Option Addr) (cw : Nat), sp = .pointer (some ⟨g6, 0, none⟩) ∧ sb = .bool ok ∧ W0.heap.size ≤ g6 ∧ Kept W0 wx ∧ G4 wx g6 (.int .i64 I) (.string NM) (.int .i64 Z) (.slice AW L.length cw) ∧ wx.ownsRow W0.heap.size 28 2 (.slice AW L.length cw) L.length (L.flatMap pairC) ∧ some g6 ≠ (Value.slice AW L.length cw).ownBlock)
    case first =>
      have kg0 : ∀ w' : World, Root W0 w' → w'.cell? ⟨w.heap.size, 0, none⟩ = some (.int .i64 id) := fun w' h => h.keep (GB.out).1
      have kg1 : ∀ w' : World, Root W0 w' → w'.cell? ⟨w.heap.size, 1, none⟩ = some (.string nm) := fun w' h => h.keep (GB.out).2.1
      have kg2 : ∀ w' : World, Root W0 w' → w'.cell? ⟨w.heap.size, 2, none⟩ = some (.int .i64 z) := fun w' h => h.keep (GB.out).2.2.1
      have kg3 : ∀ w' : World, Root W0 w' → w'.cell? ⟨w.heap.size, 3, none⟩ = some (.slice A xs.length c) := fun w' h => h.keep (GB.out).2.2.2
      have kr0 : ∀ w' : World, Root W0 w' → w'.cell? ⟨w.heap.size + 1, 0, none⟩ = some (.int .i64 rt) := fun w' h => h.keep (RB.out).1
      have kr1 : ∀ w' : World, Root W0 w' → w'.cell? ⟨w.heap.size + 1, 1, none⟩ = some (.int .i64 rl) := fun w' h => h.keep (RB.out).2
      refine wp_region_held_drew (S := fun w' => Root W0 w') (by kernel_rfl) (by (try dsimp only); exact Root.drew (Root.refl _)) (fun hHeld => ?_)
      refine wpAnyH_take (i := 0) (v := ?_) rfl (by kernel_rfl) (by kernel_rfl) (by kernel_rfl) (fun _ _ _ h => h) (Or.inl ⟨by kernel_rfl, ?_⟩) (by assumption) ?_
      rotate_left
      focus (intro w' hSw; (try dsimp only at hSw); have s0 := kg0 w' hSw; have s1 := kg1 w' hSw; have s2 := kg2 w' hSw; have s3 := kg3 w' hSw; have s4 := kr0 w' hSw; have s5 := kr1 w' hSw; go_simp; (try with_reducible rfl))
      (try simp only [Act.put, List.getElem_toArray, List.getElem_cons_zero, List.getElem_cons_succ, List.setIfInBounds_toArray, List.set_cons_zero, List.set_cons_succ])
      refine wpAnyH_take (i := 2) (v := ?_) rfl (by kernel_rfl) (by kernel_rfl) (by kernel_rfl) (fun _ _ _ h => h) (Or.inl ⟨by kernel_rfl, ?_⟩) (by assumption) ?_
      rotate_left
      focus (intro w' hSw; (try dsimp only at hSw); have s0 := kg0 w' hSw; have s1 := kg1 w' hSw; have s2 := kg2 w' hSw; have s3 := kg3 w' hSw; have s4 := kr0 w' hSw; have s5 := kr1 w' hSw; go_simp; (try with_reducible rfl))
      (try simp only [Act.put, List.getElem_toArray, List.getElem_cons_zero, List.getElem_cons_succ, List.setIfInBounds_toArray, List.set_cons_zero, List.set_cons_succ])
      have Q0 := Lib.hid (show Kept W0 W0.drew from Kept.drew (Kept.refl _))
      clear kg0 kg1 kg2 kg3 kr0 kr1
      generalize W0.drew = p0 at *
      refine wpAnyH_ready (rs := [1, 8]) (by kernel_rfl) (by simp) ?_
      refine AllReadyH.cons rfl (fun K hK => ?_) (AllReadyH.cons rfl (fun K hK => ?_) (AllReadyH.nil))
      · skip
        go_simp
        go_at_call 33
        refine (toGauge_any _ _ _ _ _ _ (HL.out.kept (K0.out.trans Q0.out)) hn).mono ?_
        rintro e p1 ⟨ug1, rfl, hug1, k1⟩
        have LG1 := Lib.hid (pairs_own hug1)
        clear hug1
        (try go_wp2_with fail)
        refine hK.out _ _ (by (try dsimp only); exact ⟨Q0.out.trans k1⟩) (fun hHeld => ?_)
        clear hK K
        (try simp only [Act.put, List.getElem_toArray, List.getElem_cons_zero, List.getElem_cons_succ, List.setIfInBounds_toArray, List.set_cons_zero, List.set_cons_succ])
        have Q1 := Lib.hid (Q0.out.trans k1)
        clear k1
        refine wpAnyH_ready (rs := [3, 8]) (by kernel_rfl) (by simp) ?_
        refine AllReadyH.cons rfl (fun K hK => ?_) (AllReadyH.cons rfl (fun K hK => ?_) (AllReadyH.nil))
        · skip
          go_simp
          go_at_call 52
          refine (toReading_any rt rl _).mono ?_
          rintro e p2 ⟨rfl, k2⟩
          (try go_wp2_with fail)
          refine hK.out _ _ (by (try dsimp only); exact ⟨Q1.out.trans k2⟩) (fun hHeld => ?_)
          clear hK K
          (try simp only [Act.put, List.getElem_toArray, List.getElem_cons_zero, List.getElem_cons_succ, List.setIfInBounds_toArray, List.set_cons_zero, List.set_cons_succ])
          have Q2 := Lib.hid (Q1.out.trans k2)
          have LG2 := Lib.hid ((LG1).out.kept k2)
          clear k2
          refine wpAnyH_ready (rs := [4, 8]) (by kernel_rfl) (by simp) ?_
          refine AllReadyH.cons rfl (fun K hK => ?_) (AllReadyH.cons rfl (fun K hK => ?_) (AllReadyH.nil))
          · skip
            go_simp
            go_at_call 18
            refine (hS.out _ _ LG2.out).mono ?_
            rintro e p3 ⟨u9, rfl, ho9, k3⟩
            obtain ⟨A9, c9, rfl, -, -, -⟩ := own_form ho9
            have O3 := Lib.hid ho9
            clear ho9
            (try go_wp2_with fail)
            refine hK.out _ _ (by (try dsimp only); exact ⟨Q2.out.trans k3⟩) (fun hHeld => ?_)
            clear hK K
            (try simp only [Act.put, List.getElem_toArray, List.getElem_cons_zero, List.getElem_cons_succ, List.setIfInBounds_toArray, List.set_cons_zero, List.set_cons_succ])
            have Q3 := Lib.hid (Q2.out.trans k3)
            have LG3 := Lib.hid ((LG2).out.kept k3)
            clear k3
            refine wpAnyH_take (i := 5) (v := ?_) rfl (by kernel_rfl) (by kernel_rfl) (by kernel_rfl) (fun _ _ _ h => h) (Or.inl ⟨by kernel_rfl, ?_⟩) (by assumption) ?_
            rotate_left
            focus (intro w' hSw; (try dsimp only at hSw); go_simp; (try with_reducible rfl))
            (try simp only [Act.put, List.getElem_toArray, List.getElem_cons_zero, List.getElem_cons_succ, List.setIfInBounds_toArray, List.set_cons_zero, List.set_cons_succ])
            refine wpAnyH_take (i := 6) (v := ?_) rfl (by kernel_rfl) (by kernel_rfl) (by kernel_rfl) (fun _ _ _ h => h) (Or.inl ⟨by kernel_rfl, ?_⟩) (by assumption) ?_
            rotate_left
            focus (intro w' hSw; (try dsimp only at hSw); go_simp; (try with_reducible rfl))
            (try simp only [Act.put, List.getElem_toArray, List.getElem_cons_zero, List.getElem_cons_succ, List.setIfInBounds_toArray, List.set_cons_zero, List.set_cons_succ])
            refine wpAnyH_take (i := 7) (v := ?_) rfl (by kernel_rfl) (by kernel_rfl) (by kernel_rfl) (fun _ _ _ h => h) (Or.inl ⟨by kernel_rfl, ?_⟩) (by assumption) ?_
            rotate_left
            focus (intro w' hSw; (try dsimp only at hSw); go_simp; (try with_reducible rfl))
            (try simp only [Act.put, List.getElem_toArray, List.getElem_cons_zero, List.getElem_cons_succ, List.setIfInBounds_toArray, List.set_cons_zero, List.set_cons_succ])
            refine wpAnyH_ready (rs := [8]) (by kernel_rfl) (by simp) ?_
            refine AllReadyH.cons rfl (fun K hK => ?_) (AllReadyH.nil)
            go_simp
            refine hK.out _ _ (by (try dsimp only); exact ⟨Kept.alloc Q3.out _⟩) (fun hHeld => ?_)
            clear hK K
            (try simp only [Act.put, List.getElem_toArray, List.getElem_cons_zero, List.getElem_cons_succ, List.setIfInBounds_toArray, List.set_cons_zero, List.set_cons_succ])
            have Q4 := Lib.hid (Kept.alloc Q3.out (.cells #[.int .i64 0, .string { data := #[] }, .int .i64 0, .slice none 0 0] 26))
            have Z4 := Lib.hid (show (p3.alloc (.cells #[.int .i64 0, .string { data := #[] }, .int .i64 0, .slice none 0 0] 26)).cell? ⟨p3.heap.size, 0, none⟩ = some (.int .i64 0) ∧ (p3.alloc (.cells #[.int .i64 0, .string { data := #[] }, .int .i64 0, .slice none 0 0] 26)).frozen? ⟨p3.heap.size, 0, none⟩ = false ∧ (p3.alloc (.cells #[.int .i64 0, .string { data := #[] }, .int .i64 0, .slice none 0 0] 26)).cell? ⟨p3.heap.size, 1, none⟩ = some (.string { data := #[] }) ∧ (p3.alloc (.cells #[.int .i64 0, .string { data := #[] }, .int .i64 0, .slice none 0 0] 26)).frozen? ⟨p3.heap.size, 1, none⟩ = false ∧ (p3.alloc (.cells #[.int .i64 0, .string { data := #[] }, .int .i64 0, .slice none 0 0] 26)).cell? ⟨p3.heap.size, 2, none⟩ = some (.int .i64 0) ∧ (p3.alloc (.cells #[.int .i64 0, .string { data := #[] }, .int .i64 0, .slice none 0 0] 26)).frozen? ⟨p3.heap.size, 2, none⟩ = false ∧ (p3.alloc (.cells #[.int .i64 0, .string { data := #[] }, .int .i64 0, .slice none 0 0] 26)).cell? ⟨p3.heap.size, 3, none⟩ = some (.slice none 0 0) ∧ (p3.alloc (.cells #[.int .i64 0, .string { data := #[] }, .int .i64 0, .slice none 0 0] 26)).frozen? ⟨p3.heap.size, 3, none⟩ = false by simp [go_sem])
            have LT4 := Lib.hid (show p3.heap.size < (p3.alloc (.cells #[.int .i64 0, .string { data := #[] }, .int .i64 0, .slice none 0 0] 26)).heap.size by simp)
            have NE4 := Lib.hid (show some p3.heap.size ≠ (Value.slice A9 L.length c9).ownBlock from fun e => Nat.lt_irrefl _ (O3.out.lt _ e.symm).2)
            have O4 := Lib.hid (O3.out.alloc (.cells #[.int .i64 0, .string { data := #[] }, .int .i64 0, .slice none 0 0] 26))
            have LG4 := Lib.hid ((LG3).out.kept (Kept.alloc (Kept.refl p3) (.cells #[.int .i64 0, .string { data := #[] }, .int .i64 0, .slice none 0 0] 26)))
            generalize p3.alloc (.cells #[.int .i64 0, .string { data := #[] }, .int .i64 0, .slice none 0 0] 26) = p4 at *
            refine wpAnyH_ready (rs := [9]) (by kernel_rfl) (by simp) ?_
            refine AllReadyH.cons rfl (fun K hK => ?_) (AllReadyH.nil)
            obtain ⟨z0, zf0, z1, zf1, z2, zf2, z3, zf3⟩ := Z4.out
            skip
            go_simp
            have F1 := Lib.hid (show W0.heap.size ≤ p3.heap.size from Q3.out.size)
            have F2 := Lib.hid (show Kept W0 ((((p4.setCell ⟨p3.heap.size, 0, none⟩ (.int .i64 I)).setCell ⟨p3.heap.size, 1, none⟩ (.string NM)).setCell ⟨p3.heap.size, 2, none⟩ (.int .i64 Z)).setCell ⟨p3.heap.size, 3, none⟩ (.slice A9 L.length c9)) from (Kept.setCell (Kept.setCell (Kept.setCell (Kept.setCell Q4.out (p := ⟨p3.heap.size, 0, none⟩) F1.out (.int .i64 I)) (p := ⟨p3.heap.size, 1, none⟩) F1.out (.string NM)) (p := ⟨p3.heap.size, 2, none⟩) F1.out (.int .i64 Z)) (p := ⟨p3.heap.size, 3, none⟩) F1.out (.slice A9 L.length c9)))
            have F3 := Lib.hid (show G4 ((((p4.setCell ⟨p3.heap.size, 0, none⟩ (.int .i64 I)).setCell ⟨p3.heap.size, 1, none⟩ (.string NM)).setCell ⟨p3.heap.size, 2, none⟩ (.int .i64 Z)).setCell ⟨p3.heap.size, 3, none⟩ (.slice A9 L.length c9)) p3.heap.size (.int .i64 I) (.string NM) (.int .i64 Z) (.slice A9 L.length c9) by refine ⟨?_, ?_, ?_, ?_⟩ <;> simp [go_sem, *])
            have hne : (Value.slice A9 L.length c9).ownBlock ≠ some p3.heap.size := fun e => NE4.out e.symm
            have F4 := Lib.hid (show ((((p4.setCell ⟨p3.heap.size, 0, none⟩ (.int .i64 I)).setCell ⟨p3.heap.size, 1, none⟩ (.string NM)).setCell ⟨p3.heap.size, 2, none⟩ (.int .i64 Z)).setCell ⟨p3.heap.size, 3, none⟩ (.slice A9 L.length c9)).ownsRow W0.heap.size 28 2 (.slice A9 L.length c9) L.length (L.flatMap pairC) from (ownsRow_setCell_other (ownsRow_setCell_other (ownsRow_setCell_other (ownsRow_setCell_other (own_base O4.out Q2.out.size) (a := ⟨p3.heap.size, 0, none⟩) hne (.int .i64 I)) (a := ⟨p3.heap.size, 1, none⟩) hne (.string NM)) (a := ⟨p3.heap.size, 2, none⟩) hne (.int .i64 Z)) (a := ⟨p3.heap.size, 3, none⟩) hne (.slice A9 L.length c9)))
            have F5 := NE4
            refine hK.out _ _ (by (try dsimp only); exact ⟨F2.out⟩) (fun hHeld => ?_)
            clear hK K
            (try simp only [Act.put, List.getElem_toArray, List.getElem_cons_zero, List.getElem_cons_succ, List.setIfInBounds_toArray, List.set_cons_zero, List.set_cons_succ])
            clear z0 zf0 z1 zf1 z2 zf2 z3 zf3 hne
            refine wpAnyH_ready (rs := [10]) (by kernel_rfl) (by simp) ?_
            refine AllReadyH.cons rfl (fun K hK => ?_) (AllReadyH.nil)
            go_simp
            refine hK.out _ _ (by (try dsimp only); exact hHeld) (fun hHeld => ?_)
            clear hK K
            (try simp only [Act.put, List.getElem_toArray, List.getElem_cons_zero, List.getElem_cons_succ, List.setIfInBounds_toArray, List.set_cons_zero, List.set_cons_succ])
            refine wpAnyH_done (by kernel_rfl) ?_ _
            go_wp2_with fail
            go_meet
            exact ⟨_, A9, c9, rfl, rfl, F1.out, F2.out, F3.out, F4.out, F5.out⟩
          · skip
            go_simp
            refine hK.out _ _ (by (try dsimp only); exact ⟨Kept.alloc Q2.out _⟩) (fun hHeld => ?_)
            clear hK K
            (try simp only [Act.put, List.getElem_toArray, List.getElem_cons_zero, List.getElem_cons_succ, List.setIfInBounds_toArray, List.set_cons_zero, List.set_cons_succ])
            have Q7 := Lib.hid (Kept.alloc Q2.out (.cells #[.int .i64 0, .string { data := #[] }, .int .i64 0, .slice none 0 0] 26))
            have Z7 := Lib.hid (show (p2.alloc (.cells #[.int .i64 0, .string { data := #[] }, .int .i64 0, .slice none 0 0] 26)).cell? ⟨p2.heap.size, 0, none⟩ = some (.int .i64 0) ∧ (p2.alloc (.cells #[.int .i64 0, .string { data := #[] }, .int .i64 0, .slice none 0 0] 26)).frozen? ⟨p2.heap.size, 0, none⟩ = false ∧ (p2.alloc (.cells #[.int .i64 0, .string { data := #[] }, .int .i64 0, .slice none 0 0] 26)).cell? ⟨p2.heap.size, 1, none⟩ = some (.string { data := #[] }) ∧ (p2.alloc (.cells #[.int .i64 0, .string { data := #[] }, .int .i64 0, .slice none 0 0] 26)).frozen? ⟨p2.heap.size, 1, none⟩ = false ∧ (p2.alloc (.cells #[.int .i64 0, .string { data := #[] }, .int .i64 0, .slice none 0 0] 26)).cell? ⟨p2.heap.size, 2, none⟩ = some (.int .i64 0) ∧ (p2.alloc (.cells #[.int .i64 0, .string { data := #[] }, .int .i64 0, .slice none 0 0] 26)).frozen? ⟨p2.heap.size, 2, none⟩ = false ∧ (p2.alloc (.cells #[.int .i64 0, .string { data := #[] }, .int .i64 0, .slice none 0 0] 26)).cell? ⟨p2.heap.size, 3, none⟩ = some (.slice none 0 0) ∧ (p2.alloc (.cells #[.int .i64 0, .string { data := #[] }, .int .i64 0, .slice none 0 0] 26)).frozen? ⟨p2.heap.size, 3, none⟩ = false by simp [go_sem])
            have LT7 := Lib.hid (show p2.heap.size < (p2.alloc (.cells #[.int .i64 0, .string { data := #[] }, .int .i64 0, .slice none 0 0] 26)).heap.size by simp)
            have LG7 := Lib.hid ((LG2).out.kept (Kept.alloc (Kept.refl p2) (.cells #[.int .i64 0, .string { data := #[] }, .int .i64 0, .slice none 0 0] 26)))
            generalize p2.alloc (.cells #[.int .i64 0, .string { data := #[] }, .int .i64 0, .slice none 0 0] 26) = p7 at *
            refine wpAnyH_ready (rs := [4]) (by kernel_rfl) (by simp) ?_
            refine AllReadyH.cons rfl (fun K hK => ?_) (AllReadyH.nil)
            go_simp
            go_at_call 18
            refine (hS.out _ _ LG7.out).mono ?_
            rintro e p8 ⟨u9, rfl, ho9, k8⟩
            obtain ⟨A9, c9, rfl, -, -, -⟩ := own_form ho9
            have O8 := Lib.hid ho9
            clear ho9
            (try go_wp2_with fail)
            refine hK.out _ _ (by (try dsimp only); exact ⟨Q7.out.trans k8⟩) (fun hHeld => ?_)
            clear hK K
            (try simp only [Act.put, List.getElem_toArray, List.getElem_cons_zero, List.getElem_cons_succ, List.setIfInBounds_toArray, List.set_cons_zero, List.set_cons_succ])
            have Q8 := Lib.hid (Q7.out.trans k8)
            have Z8 := Lib.hid (blk4 k8 Z7.out)
            have LT8 := Lib.hid (Nat.lt_of_lt_of_le LT7.out k8.size)
            have NE8 := Lib.hid (show some p2.heap.size ≠ (Value.slice A9 L.length c9).ownBlock from fun e => by have h1 := (O8.out.lt _ e.symm).1; have h2 := LT7.out; omega)
            have LG8 := Lib.hid ((LG7).out.kept k8)
            clear k8
            refine wpAnyH_take (i := 5) (v := ?_) rfl (by kernel_rfl) (by kernel_rfl) (by kernel_rfl) (fun _ _ _ h => h) (Or.inl ⟨by kernel_rfl, ?_⟩) (by assumption) ?_
            rotate_left
            focus (intro w' hSw; (try dsimp only at hSw); go_simp; (try with_reducible rfl))
            (try simp only [Act.put, List.getElem_toArray, List.getElem_cons_zero, List.getElem_cons_succ, List.setIfInBounds_toArray, List.set_cons_zero, List.set_cons_succ])
            refine wpAnyH_take (i := 6) (v := ?_) rfl (by kernel_rfl) (by kernel_rfl) (by kernel_rfl) (fun _ _ _ h => h) (Or.inl ⟨by kernel_rfl, ?_⟩) (by assumption) ?_
            rotate_left
            focus (intro w' hSw; (try dsimp only at hSw); go_simp; (try with_reducible rfl))
            (try simp only [Act.put, List.getElem_toArray, List.getElem_cons_zero, List.getElem_cons_succ, List.setIfInBounds_toArray, List.set_cons_zero, List.set_cons_succ])
            refine wpAnyH_take (i := 7) (v := ?_) rfl (by kernel_rfl) (by kernel_rfl) (by kernel_rfl) (fun _ _ _ h => h) (Or.inl ⟨by kernel_rfl, ?_⟩) (by assumption) ?_
            rotate_left
            focus (intro w' hSw; (try dsimp only at hSw); go_simp; (try with_reducible rfl))
            (try simp only [Act.put, List.getElem_toArray, List.getElem_cons_zero, List.getElem_cons_succ, List.setIfInBounds_toArray, List.set_cons_zero, List.set_cons_succ])
            refine wpAnyH_ready (rs := [9]) (by kernel_rfl) (by simp) ?_
            refine AllReadyH.cons rfl (fun K hK => ?_) (AllReadyH.nil)
            obtain ⟨z0, zf0, z1, zf1, z2, zf2, z3, zf3⟩ := Z8.out
            skip
            go_simp
            have F1 := Lib.hid (show W0.heap.size ≤ p2.heap.size from Q2.out.size)
            have F2 := Lib.hid (show Kept W0 ((((p8.setCell ⟨p2.heap.size, 0, none⟩ (.int .i64 I)).setCell ⟨p2.heap.size, 1, none⟩ (.string NM)).setCell ⟨p2.heap.size, 2, none⟩ (.int .i64 Z)).setCell ⟨p2.heap.size, 3, none⟩ (.slice A9 L.length c9)) from (Kept.setCell (Kept.setCell (Kept.setCell (Kept.setCell Q8.out (p := ⟨p2.heap.size, 0, none⟩) F1.out (.int .i64 I)) (p := ⟨p2.heap.size, 1, none⟩) F1.out (.string NM)) (p := ⟨p2.heap.size, 2, none⟩) F1.out (.int .i64 Z)) (p := ⟨p2.heap.size, 3, none⟩) F1.out (.slice A9 L.length c9)))
            have F3 := Lib.hid (show G4 ((((p8.setCell ⟨p2.heap.size, 0, none⟩ (.int .i64 I)).setCell ⟨p2.heap.size, 1, none⟩ (.string NM)).setCell ⟨p2.heap.size, 2, none⟩ (.int .i64 Z)).setCell ⟨p2.heap.size, 3, none⟩ (.slice A9 L.length c9)) p2.heap.size (.int .i64 I) (.string NM) (.int .i64 Z) (.slice A9 L.length c9) by refine ⟨?_, ?_, ?_, ?_⟩ <;> simp [go_sem, *])
            have hne : (Value.slice A9 L.length c9).ownBlock ≠ some p2.heap.size := fun e => NE8.out e.symm
            have F4 := Lib.hid (show ((((p8.setCell ⟨p2.heap.size, 0, none⟩ (.int .i64 I)).setCell ⟨p2.heap.size, 1, none⟩ (.string NM)).setCell ⟨p2.heap.size, 2, none⟩ (.int .i64 Z)).setCell ⟨p2.heap.size, 3, none⟩ (.slice A9 L.length c9)).ownsRow W0.heap.size 28 2 (.slice A9 L.length c9) L.length (L.flatMap pairC) from (ownsRow_setCell_other (ownsRow_setCell_other (ownsRow_setCell_other (ownsRow_setCell_other (own_base O8.out Q7.out.size) (a := ⟨p2.heap.size, 0, none⟩) hne (.int .i64 I)) (a := ⟨p2.heap.size, 1, none⟩) hne (.string NM)) (a := ⟨p2.heap.size, 2, none⟩) hne (.int .i64 Z)) (a := ⟨p2.heap.size, 3, none⟩) hne (.slice A9 L.length c9)))
            have F5 := NE8
            refine hK.out _ _ (by (try dsimp only); exact ⟨F2.out⟩) (fun hHeld => ?_)
            clear hK K
            (try simp only [Act.put, List.getElem_toArray, List.getElem_cons_zero, List.getElem_cons_succ, List.setIfInBounds_toArray, List.set_cons_zero, List.set_cons_succ])
            clear z0 zf0 z1 zf1 z2 zf2 z3 zf3 hne
            refine wpAnyH_ready (rs := [10]) (by kernel_rfl) (by simp) ?_
            refine AllReadyH.cons rfl (fun K hK => ?_) (AllReadyH.nil)
            go_simp
            refine hK.out _ _ (by (try dsimp only); exact hHeld) (fun hHeld => ?_)
            clear hK K
            (try simp only [Act.put, List.getElem_toArray, List.getElem_cons_zero, List.getElem_cons_succ, List.setIfInBounds_toArray, List.set_cons_zero, List.set_cons_succ])
            refine wpAnyH_done (by kernel_rfl) ?_ _
            go_wp2_with fail
            go_meet
            exact ⟨_, A9, c9, rfl, rfl, F1.out, F2.out, F3.out, F4.out, F5.out⟩
        · skip
          go_simp
          refine hK.out _ _ (by (try dsimp only); exact ⟨Kept.alloc Q1.out _⟩) (fun hHeld => ?_)
          clear hK K
          (try simp only [Act.put, List.getElem_toArray, List.getElem_cons_zero, List.getElem_cons_succ, List.setIfInBounds_toArray, List.set_cons_zero, List.set_cons_succ])
          have Q11 := Lib.hid (Kept.alloc Q1.out (.cells #[.int .i64 0, .string { data := #[] }, .int .i64 0, .slice none 0 0] 26))
          have Z11 := Lib.hid (show (p1.alloc (.cells #[.int .i64 0, .string { data := #[] }, .int .i64 0, .slice none 0 0] 26)).cell? ⟨p1.heap.size, 0, none⟩ = some (.int .i64 0) ∧ (p1.alloc (.cells #[.int .i64 0, .string { data := #[] }, .int .i64 0, .slice none 0 0] 26)).frozen? ⟨p1.heap.size, 0, none⟩ = false ∧ (p1.alloc (.cells #[.int .i64 0, .string { data := #[] }, .int .i64 0, .slice none 0 0] 26)).cell? ⟨p1.heap.size, 1, none⟩ = some (.string { data := #[] }) ∧ (p1.alloc (.cells #[.int .i64 0, .string { data := #[] }, .int .i64 0, .slice none 0 0] 26)).frozen? ⟨p1.heap.size, 1, none⟩ = false ∧ (p1.alloc (.cells #[.int .i64 0, .string { data := #[] }, .int .i64 0, .slice none 0 0] 26)).cell? ⟨p1.heap.size, 2, none⟩ = some (.int .i64 0) ∧ (p1.alloc (.cells #[.int .i64 0, .string { data := #[] }, .int .i64 0, .slice none 0 0] 26)).frozen? ⟨p1.heap.size, 2, none⟩ = false ∧ (p1.alloc (.cells #[.int .i64 0, .string { data := #[] }, .int .i64 0, .slice none 0 0] 26)).cell? ⟨p1.heap.size, 3, none⟩ = some (.slice none 0 0) ∧ (p1.alloc (.cells #[.int .i64 0, .string { data := #[] }, .int .i64 0, .slice none 0 0] 26)).frozen? ⟨p1.heap.size, 3, none⟩ = false by simp [go_sem])
          have LT11 := Lib.hid (show p1.heap.size < (p1.alloc (.cells #[.int .i64 0, .string { data := #[] }, .int .i64 0, .slice none 0 0] 26)).heap.size by simp)
          have LG11 := Lib.hid ((LG1).out.kept (Kept.alloc (Kept.refl p1) (.cells #[.int .i64 0, .string { data := #[] }, .int .i64 0, .slice none 0 0] 26)))
          generalize p1.alloc (.cells #[.int .i64 0, .string { data := #[] }, .int .i64 0, .slice none 0 0] 26) = p11 at *
          refine wpAnyH_ready (rs := [3]) (by kernel_rfl) (by simp) ?_
          refine AllReadyH.cons rfl (fun K hK => ?_) (AllReadyH.nil)
          go_simp
          go_at_call 52
          refine (toReading_any rt rl _).mono ?_
          rintro e p12 ⟨rfl, k12⟩
          (try go_wp2_with fail)
          refine hK.out _ _ (by (try dsimp only); exact ⟨Q11.out.trans k12⟩) (fun hHeld => ?_)
          clear hK K
          (try simp only [Act.put, List.getElem_toArray, List.getElem_cons_zero, List.getElem_cons_succ, List.setIfInBounds_toArray, List.set_cons_zero, List.set_cons_succ])
          have Q12 := Lib.hid (Q11.out.trans k12)
          have Z12 := Lib.hid (blk4 k12 Z11.out)
          have LT12 := Lib.hid (Nat.lt_of_lt_of_le LT11.out k12.size)
          have LG12 := Lib.hid ((LG11).out.kept k12)
          clear k12
          refine wpAnyH_ready (rs := [4]) (by kernel_rfl) (by simp) ?_
          refine AllReadyH.cons rfl (fun K hK => ?_) (AllReadyH.nil)
          go_simp
          go_at_call 18
          refine (hS.out _ _ LG12.out).mono ?_
          rintro e p13 ⟨u9, rfl, ho9, k13⟩
          obtain ⟨A9, c9, rfl, -, -, -⟩ := own_form ho9
          have O13 := Lib.hid ho9
          clear ho9
          (try go_wp2_with fail)
          refine hK.out _ _ (by (try dsimp only); exact ⟨Q12.out.trans k13⟩) (fun hHeld => ?_)
          clear hK K
          (try simp only [Act.put, List.getElem_toArray, List.getElem_cons_zero, List.getElem_cons_succ, List.setIfInBounds_toArray, List.set_cons_zero, List.set_cons_succ])
          have Q13 := Lib.hid (Q12.out.trans k13)
          have Z13 := Lib.hid (blk4 k13 Z12.out)
          have LT13 := Lib.hid (Nat.lt_of_lt_of_le LT12.out k13.size)
          have NE13 := Lib.hid (show some p1.heap.size ≠ (Value.slice A9 L.length c9).ownBlock from fun e => by have h1 := (O13.out.lt _ e.symm).1; have h2 := LT12.out; omega)
          have LG13 := Lib.hid ((LG12).out.kept k13)
          clear k13
          refine wpAnyH_take (i := 5) (v := ?_) rfl (by kernel_rfl) (by kernel_rfl) (by kernel_rfl) (fun _ _ _ h => h) (Or.inl ⟨by kernel_rfl, ?_⟩) (by assumption) ?_
          rotate_left
          focus (intro w' hSw; (try dsimp only at hSw); go_simp; (try with_reducible rfl))
          (try simp only [Act.put, List.getElem_toArray, List.getElem_cons_zero, List.getElem_cons_succ, List.setIfInBounds_toArray, List.set_cons_zero, List.set_cons_succ])
          refine wpAnyH_take (i := 6) (v := ?_) rfl (by kernel_rfl) (by kernel_rfl) (by kernel_rfl) (fun _ _ _ h => h) (Or.inl ⟨by kernel_rfl, ?_⟩) (by assumption) ?_
          rotate_left
          focus (intro w' hSw; (try dsimp only at hSw); go_simp; (try with_reducible rfl))
          (try simp only [Act.put, List.getElem_toArray, List.getElem_cons_zero, List.getElem_cons_succ, List.setIfInBounds_toArray, List.set_cons_zero, List.set_cons_succ])
          refine wpAnyH_take (i := 7) (v := ?_) rfl (by kernel_rfl) (by kernel_rfl) (by kernel_rfl) (fun _ _ _ h => h) (Or.inl ⟨by kernel_rfl, ?_⟩) (by assumption) ?_
          rotate_left
          focus (intro w' hSw; (try dsimp only at hSw); go_simp; (try with_reducible rfl))
          (try simp only [Act.put, List.getElem_toArray, List.getElem_cons_zero, List.getElem_cons_succ, List.setIfInBounds_toArray, List.set_cons_zero, List.set_cons_succ])
          refine wpAnyH_ready (rs := [9]) (by kernel_rfl) (by simp) ?_
          refine AllReadyH.cons rfl (fun K hK => ?_) (AllReadyH.nil)
          obtain ⟨z0, zf0, z1, zf1, z2, zf2, z3, zf3⟩ := Z13.out
          skip
          go_simp
          have F1 := Lib.hid (show W0.heap.size ≤ p1.heap.size from Q1.out.size)
          have F2 := Lib.hid (show Kept W0 ((((p13.setCell ⟨p1.heap.size, 0, none⟩ (.int .i64 I)).setCell ⟨p1.heap.size, 1, none⟩ (.string NM)).setCell ⟨p1.heap.size, 2, none⟩ (.int .i64 Z)).setCell ⟨p1.heap.size, 3, none⟩ (.slice A9 L.length c9)) from (Kept.setCell (Kept.setCell (Kept.setCell (Kept.setCell Q13.out (p := ⟨p1.heap.size, 0, none⟩) F1.out (.int .i64 I)) (p := ⟨p1.heap.size, 1, none⟩) F1.out (.string NM)) (p := ⟨p1.heap.size, 2, none⟩) F1.out (.int .i64 Z)) (p := ⟨p1.heap.size, 3, none⟩) F1.out (.slice A9 L.length c9)))
          have F3 := Lib.hid (show G4 ((((p13.setCell ⟨p1.heap.size, 0, none⟩ (.int .i64 I)).setCell ⟨p1.heap.size, 1, none⟩ (.string NM)).setCell ⟨p1.heap.size, 2, none⟩ (.int .i64 Z)).setCell ⟨p1.heap.size, 3, none⟩ (.slice A9 L.length c9)) p1.heap.size (.int .i64 I) (.string NM) (.int .i64 Z) (.slice A9 L.length c9) by refine ⟨?_, ?_, ?_, ?_⟩ <;> simp [go_sem, *])
          have hne : (Value.slice A9 L.length c9).ownBlock ≠ some p1.heap.size := fun e => NE13.out e.symm
          have F4 := Lib.hid (show ((((p13.setCell ⟨p1.heap.size, 0, none⟩ (.int .i64 I)).setCell ⟨p1.heap.size, 1, none⟩ (.string NM)).setCell ⟨p1.heap.size, 2, none⟩ (.int .i64 Z)).setCell ⟨p1.heap.size, 3, none⟩ (.slice A9 L.length c9)).ownsRow W0.heap.size 28 2 (.slice A9 L.length c9) L.length (L.flatMap pairC) from (ownsRow_setCell_other (ownsRow_setCell_other (ownsRow_setCell_other (ownsRow_setCell_other (own_base O13.out Q12.out.size) (a := ⟨p1.heap.size, 0, none⟩) hne (.int .i64 I)) (a := ⟨p1.heap.size, 1, none⟩) hne (.string NM)) (a := ⟨p1.heap.size, 2, none⟩) hne (.int .i64 Z)) (a := ⟨p1.heap.size, 3, none⟩) hne (.slice A9 L.length c9)))
          have F5 := NE13
          refine hK.out _ _ (by (try dsimp only); exact ⟨F2.out⟩) (fun hHeld => ?_)
          clear hK K
          (try simp only [Act.put, List.getElem_toArray, List.getElem_cons_zero, List.getElem_cons_succ, List.setIfInBounds_toArray, List.set_cons_zero, List.set_cons_succ])
          clear z0 zf0 z1 zf1 z2 zf2 z3 zf3 hne
          refine wpAnyH_ready (rs := [10]) (by kernel_rfl) (by simp) ?_
          refine AllReadyH.cons rfl (fun K hK => ?_) (AllReadyH.nil)
          go_simp
          refine hK.out _ _ (by (try dsimp only); exact hHeld) (fun hHeld => ?_)
          clear hK K
          (try simp only [Act.put, List.getElem_toArray, List.getElem_cons_zero, List.getElem_cons_succ, List.setIfInBounds_toArray, List.set_cons_zero, List.set_cons_succ])
          refine wpAnyH_done (by kernel_rfl) ?_ _
          go_wp2_with fail
          go_meet
          exact ⟨_, A9, c9, rfl, rfl, F1.out, F2.out, F3.out, F4.out, F5.out⟩
      · skip
        go_simp
        refine hK.out _ _ (by (try dsimp only); exact ⟨Kept.alloc Q0.out _⟩) (fun hHeld => ?_)
        clear hK K
        (try simp only [Act.put, List.getElem_toArray, List.getElem_cons_zero, List.getElem_cons_succ, List.setIfInBounds_toArray, List.set_cons_zero, List.set_cons_succ])
        have Q16 := Lib.hid (Kept.alloc Q0.out (.cells #[.int .i64 0, .string { data := #[] }, .int .i64 0, .slice none 0 0] 26))
        have Z16 := Lib.hid (show (p0.alloc (.cells #[.int .i64 0, .string { data := #[] }, .int .i64 0, .slice none 0 0] 26)).cell? ⟨p0.heap.size, 0, none⟩ = some (.int .i64 0) ∧ (p0.alloc (.cells #[.int .i64 0, .string { data := #[] }, .int .i64 0, .slice none 0 0] 26)).frozen? ⟨p0.heap.size, 0, none⟩ = false ∧ (p0.alloc (.cells #[.int .i64 0, .string { data := #[] }, .int .i64 0, .slice none 0 0] 26)).cell? ⟨p0.heap.size, 1, none⟩ = some (.string { data := #[] }) ∧ (p0.alloc (.cells #[.int .i64 0, .string { data := #[] }, .int .i64 0, .slice none 0 0] 26)).frozen? ⟨p0.heap.size, 1, none⟩ = false ∧ (p0.alloc (.cells #[.int .i64 0, .string { data := #[] }, .int .i64 0, .slice none 0 0] 26)).cell? ⟨p0.heap.size, 2, none⟩ = some (.int .i64 0) ∧ (p0.alloc (.cells #[.int .i64 0, .string { data := #[] }, .int .i64 0, .slice none 0 0] 26)).frozen? ⟨p0.heap.size, 2, none⟩ = false ∧ (p0.alloc (.cells #[.int .i64 0, .string { data := #[] }, .int .i64 0, .slice none 0 0] 26)).cell? ⟨p0.heap.size, 3, none⟩ = some (.slice none 0 0) ∧ (p0.alloc (.cells #[.int .i64 0, .string { data := #[] }, .int .i64 0, .slice none 0 0] 26)).frozen? ⟨p0.heap.size, 3, none⟩ = false by simp [go_sem])
        have LT16 := Lib.hid (show p0.heap.size < (p0.alloc (.cells #[.int .i64 0, .string { data := #[] }, .int .i64 0, .slice none 0 0] 26)).heap.size by simp)
        generalize p0.alloc (.cells #[.int .i64 0, .string { data := #[] }, .int .i64 0, .slice none 0 0] 26) = p16 at *
        refine wpAnyH_ready (rs := [1]) (by kernel_rfl) (by simp) ?_
        refine AllReadyH.cons rfl (fun K hK => ?_) (AllReadyH.nil)
        go_simp
        go_at_call 33
        refine (toGauge_any _ _ _ _ _ _ (HL.out.kept (K0.out.trans Q16.out)) hn).mono ?_
        rintro e p17 ⟨ug17, rfl, hug17, k17⟩
        have LG17 := Lib.hid (pairs_own hug17)
        clear hug17
        (try go_wp2_with fail)
        refine hK.out _ _ (by (try dsimp only); exact ⟨Q16.out.trans k17⟩) (fun hHeld => ?_)
        clear hK K
        (try simp only [Act.put, List.getElem_toArray, List.getElem_cons_zero, List.getElem_cons_succ, List.setIfInBounds_toArray, List.set_cons_zero, List.set_cons_succ])
        have Q17 := Lib.hid (Q16.out.trans k17)
        have Z17 := Lib.hid (blk4 k17 Z16.out)
        have LT17 := Lib.hid (Nat.lt_of_lt_of_le LT16.out k17.size)
        clear k17
        refine wpAnyH_ready (rs := [3]) (by kernel_rfl) (by simp) ?_
        refine AllReadyH.cons rfl (fun K hK => ?_) (AllReadyH.nil)
        go_simp
        go_at_call 52
        refine (toReading_any rt rl _).mono ?_
        rintro e p18 ⟨rfl, k18⟩
        (try go_wp2_with fail)
        refine hK.out _ _ (by (try dsimp only); exact ⟨Q17.out.trans k18⟩) (fun hHeld => ?_)
        clear hK K
        (try simp only [Act.put, List.getElem_toArray, List.getElem_cons_zero, List.getElem_cons_succ, List.setIfInBounds_toArray, List.set_cons_zero, List.set_cons_succ])
        have Q18 := Lib.hid (Q17.out.trans k18)
        have Z18 := Lib.hid (blk4 k18 Z17.out)
        have LT18 := Lib.hid (Nat.lt_of_lt_of_le LT17.out k18.size)
        have LG18 := Lib.hid ((LG17).out.kept k18)
        clear k18
        refine wpAnyH_ready (rs := [4]) (by kernel_rfl) (by simp) ?_
        refine AllReadyH.cons rfl (fun K hK => ?_) (AllReadyH.nil)
        go_simp
        go_at_call 18
        refine (hS.out _ _ LG18.out).mono ?_
        rintro e p19 ⟨u9, rfl, ho9, k19⟩
        obtain ⟨A9, c9, rfl, -, -, -⟩ := own_form ho9
        have O19 := Lib.hid ho9
        clear ho9
        (try go_wp2_with fail)
        refine hK.out _ _ (by (try dsimp only); exact ⟨Q18.out.trans k19⟩) (fun hHeld => ?_)
        clear hK K
        (try simp only [Act.put, List.getElem_toArray, List.getElem_cons_zero, List.getElem_cons_succ, List.setIfInBounds_toArray, List.set_cons_zero, List.set_cons_succ])
        have Q19 := Lib.hid (Q18.out.trans k19)
        have Z19 := Lib.hid (blk4 k19 Z18.out)
        have LT19 := Lib.hid (Nat.lt_of_lt_of_le LT18.out k19.size)
        have NE19 := Lib.hid (show some p0.heap.size ≠ (Value.slice A9 L.length c9).ownBlock from fun e => by have h1 := (O19.out.lt _ e.symm).1; have h2 := LT18.out; omega)
        have LG19 := Lib.hid ((LG18).out.kept k19)
        clear k19
        refine wpAnyH_take (i := 5) (v := ?_) rfl (by kernel_rfl) (by kernel_rfl) (by kernel_rfl) (fun _ _ _ h => h) (Or.inl ⟨by kernel_rfl, ?_⟩) (by assumption) ?_
        rotate_left
        focus (intro w' hSw; (try dsimp only at hSw); go_simp; (try with_reducible rfl))
        (try simp only [Act.put, List.getElem_toArray, List.getElem_cons_zero, List.getElem_cons_succ, List.setIfInBounds_toArray, List.set_cons_zero, List.set_cons_succ])
        refine wpAnyH_take (i := 6) (v := ?_) rfl (by kernel_rfl) (by kernel_rfl) (by kernel_rfl) (fun _ _ _ h => h) (Or.inl ⟨by kernel_rfl, ?_⟩) (by assumption) ?_
        rotate_left
        focus (intro w' hSw; (try dsimp only at hSw); go_simp; (try with_reducible rfl))
        (try simp only [Act.put, List.getElem_toArray, List.getElem_cons_zero, List.getElem_cons_succ, List.setIfInBounds_toArray, List.set_cons_zero, List.set_cons_succ])
        refine wpAnyH_take (i := 7) (v := ?_) rfl (by kernel_rfl) (by kernel_rfl) (by kernel_rfl) (fun _ _ _ h => h) (Or.inl ⟨by kernel_rfl, ?_⟩) (by assumption) ?_
        rotate_left
        focus (intro w' hSw; (try dsimp only at hSw); go_simp; (try with_reducible rfl))
        (try simp only [Act.put, List.getElem_toArray, List.getElem_cons_zero, List.getElem_cons_succ, List.setIfInBounds_toArray, List.set_cons_zero, List.set_cons_succ])
        refine wpAnyH_ready (rs := [9]) (by kernel_rfl) (by simp) ?_
        refine AllReadyH.cons rfl (fun K hK => ?_) (AllReadyH.nil)
        obtain ⟨z0, zf0, z1, zf1, z2, zf2, z3, zf3⟩ := Z19.out
        skip
        go_simp
        have F1 := Lib.hid (show W0.heap.size ≤ p0.heap.size from Q0.out.size)
        have F2 := Lib.hid (show Kept W0 ((((p19.setCell ⟨p0.heap.size, 0, none⟩ (.int .i64 I)).setCell ⟨p0.heap.size, 1, none⟩ (.string NM)).setCell ⟨p0.heap.size, 2, none⟩ (.int .i64 Z)).setCell ⟨p0.heap.size, 3, none⟩ (.slice A9 L.length c9)) from (Kept.setCell (Kept.setCell (Kept.setCell (Kept.setCell Q19.out (p := ⟨p0.heap.size, 0, none⟩) F1.out (.int .i64 I)) (p := ⟨p0.heap.size, 1, none⟩) F1.out (.string NM)) (p := ⟨p0.heap.size, 2, none⟩) F1.out (.int .i64 Z)) (p := ⟨p0.heap.size, 3, none⟩) F1.out (.slice A9 L.length c9)))
        have F3 := Lib.hid (show G4 ((((p19.setCell ⟨p0.heap.size, 0, none⟩ (.int .i64 I)).setCell ⟨p0.heap.size, 1, none⟩ (.string NM)).setCell ⟨p0.heap.size, 2, none⟩ (.int .i64 Z)).setCell ⟨p0.heap.size, 3, none⟩ (.slice A9 L.length c9)) p0.heap.size (.int .i64 I) (.string NM) (.int .i64 Z) (.slice A9 L.length c9) by refine ⟨?_, ?_, ?_, ?_⟩ <;> simp [go_sem, *])
        have hne : (Value.slice A9 L.length c9).ownBlock ≠ some p0.heap.size := fun e => NE19.out e.symm
        have F4 := Lib.hid (show ((((p19.setCell ⟨p0.heap.size, 0, none⟩ (.int .i64 I)).setCell ⟨p0.heap.size, 1, none⟩ (.string NM)).setCell ⟨p0.heap.size, 2, none⟩ (.int .i64 Z)).setCell ⟨p0.heap.size, 3, none⟩ (.slice A9 L.length c9)).ownsRow W0.heap.size 28 2 (.slice A9 L.length c9) L.length (L.flatMap pairC) from (ownsRow_setCell_other (ownsRow_setCell_other (ownsRow_setCell_other (ownsRow_setCell_other (own_base O19.out Q18.out.size) (a := ⟨p0.heap.size, 0, none⟩) hne (.int .i64 I)) (a := ⟨p0.heap.size, 1, none⟩) hne (.string NM)) (a := ⟨p0.heap.size, 2, none⟩) hne (.int .i64 Z)) (a := ⟨p0.heap.size, 3, none⟩) hne (.slice A9 L.length c9)))
        have F5 := NE19
        refine hK.out _ _ (by (try dsimp only); exact ⟨F2.out⟩) (fun hHeld => ?_)
        clear hK K
        (try simp only [Act.put, List.getElem_toArray, List.getElem_cons_zero, List.getElem_cons_succ, List.setIfInBounds_toArray, List.set_cons_zero, List.set_cons_succ])
        clear z0 zf0 z1 zf1 z2 zf2 z3 zf3 hne
        refine wpAnyH_ready (rs := [10]) (by kernel_rfl) (by simp) ?_
        refine AllReadyH.cons rfl (fun K hK => ?_) (AllReadyH.nil)
        go_simp
        refine hK.out _ _ (by (try dsimp only); exact hHeld) (fun hHeld => ?_)
        clear hK K
        (try simp only [Act.put, List.getElem_toArray, List.getElem_cons_zero, List.getElem_cons_succ, List.setIfInBounds_toArray, List.set_cons_zero, List.set_cons_succ])
        refine wpAnyH_done (by kernel_rfl) ?_ _
        go_wp2_with fail
        go_meet
        exact ⟨_, A9, c9, rfl, rfl, F1.out, F2.out, F3.out, F4.out, F5.out⟩
    case rest =>
      obtain ⟨g6, AW, cw, rfl, rfl, hg6, k02, gw, how, n6⟩ := hcut
      obtain ⟨V2, hV2⟩ : ∃ x, x = wc := ⟨_, rfl⟩
      subst hV2
      have K02 := Lib.hid k02
      have GW := Lib.hid gw
      have HOW := Lib.hid how
      have N6 := Lib.hid n6
      have K2 := Lib.hid (K0.out.trans k02)
      have GB2 := Lib.hid (GB.out.kept k02)
      have RB2 := Lib.hid (And.intro (k02.keep RB.out.1) (k02.keep RB.out.2))
      clear k02 gw how n6
      have q0 := (GB2.out).1
      have q1 := (GB2.out).2.1
      have q2 := (GB2.out).2.2.1
      have q3 := (GB2.out).2.2.2
      go_wp2_with fail
      refine (toGauge_any _ _ _ _ _ _ (HL.out.kept K2.out) hn).mono ?_
      rintro e W3 ⟨u3, rfl, hu3, k3⟩
      obtain ⟨A3, c3, rfl, -, -, -⟩ := own_form hu3
      clear q0 q1 q2 q3
      go_upto_region 7 with fail
      have HU3 := Lib.hid (hu3.alloc (.cells #[.int .i64 id, .string nm, .int .i64 z, .slice A3 xs.length c3] 26))
      have K23 := Lib.hid (show Kept V2 (W3.alloc (.cells #[.int .i64 id, .string nm, .int .i64 z, .slice A3 xs.length c3] 26)) from Kept.alloc k3 _)
      have GX := Lib.hid (G4.new W3 (.int .i64 id) (.string nm) (.int .i64 z) (.slice A3 xs.length c3) 26)
      have hg8 : V2.heap.size ≤ W3.heap.size := k3.size
      have N8 := Lib.hid (show some W3.heap.size ≠ (Value.slice A3 xs.length c3).ownBlock from fun e => Nat.lt_irrefl _ (hu3.lt _ e.symm).2)
      clear hu3 k3
      generalize hV3 : W3.alloc (.cells #[.int .i64 id, .string nm, .int .i64 z, .slice A3 xs.length c3] 26) = V3 at *
      clear hV3
      generalize W3.heap.size = g8 at *
      go_cut [9, 10] (fun sp sb wx => ∃ (g9 : Nat) (AG : Option Addr) (cg : Nat), sp = .pointer (some ⟨g9, 0, none⟩) ∧ sb = .bool ok ∧ V3.heap.size ≤ g9 ∧ Kept V3 wx ∧ G4 wx g9 (.int .i64 I) (.string NM) (.int .i64 Z) (.slice AG L.length cg) ∧ wx.ownsRow V3.heap.size 28 2 (.slice AG L.length cg) L.length (L.flatMap pairC) ∧ some g9 ≠ (Value.slice AG L.length cg).ownBlock)
      case first =>
        have kg0 : ∀ w' : World, Root V3 w' → w'.cell? ⟨g8, 0, none⟩ = some (.int .i64 id) := fun w' h => h.keep (GX.out).1
        have kg1 : ∀ w' : World, Root V3 w' → w'.cell? ⟨g8, 1, none⟩ = some (.string nm) := fun w' h => h.keep (GX.out).2.1
        have kg2 : ∀ w' : World, Root V3 w' → w'.cell? ⟨g8, 2, none⟩ = some (.int .i64 z) := fun w' h => h.keep (GX.out).2.2.1
        have kg3 : ∀ w' : World, Root V3 w' → w'.cell? ⟨g8, 3, none⟩ = some (.slice A3 xs.length c3) := fun w' h => h.keep (GX.out).2.2.2
        have kr0 : ∀ w' : World, Root V3 w' → w'.cell? ⟨w.heap.size + 1, 0, none⟩ = some (.int .i64 rt) := fun w' h => h.keep (K23.out.keep (RB2.out).1)
        have kr1 : ∀ w' : World, Root V3 w' → w'.cell? ⟨w.heap.size + 1, 1, none⟩ = some (.int .i64 rl) := fun w' h => h.keep (K23.out.keep (RB2.out).2)
        refine wp_region_held_drew (S := fun w' => Root V3 w') (by kernel_rfl) (by (try dsimp only); exact Root.drew (Root.refl _)) (fun hHeld => ?_)
        refine wpAnyH_take (i := 0) (v := ?_) rfl (by kernel_rfl) (by kernel_rfl) (by kernel_rfl) (fun _ _ _ h => h) (Or.inl ⟨by kernel_rfl, ?_⟩) (by assumption) ?_
        rotate_left
        focus (intro w' hSw; (try dsimp only at hSw); have s0 := kg0 w' hSw; have s1 := kg1 w' hSw; have s2 := kg2 w' hSw; have s3 := kg3 w' hSw; have s4 := kr0 w' hSw; have s5 := kr1 w' hSw; go_simp; (try with_reducible rfl))
        (try simp only [Act.put, List.getElem_toArray, List.getElem_cons_zero, List.getElem_cons_succ, List.setIfInBounds_toArray, List.set_cons_zero, List.set_cons_succ])
        refine wpAnyH_take (i := 1) (v := ?_) rfl (by kernel_rfl) (by kernel_rfl) (by kernel_rfl) (fun _ _ _ h => h) (Or.inl ⟨by kernel_rfl, ?_⟩) (by assumption) ?_
        rotate_left
        focus (intro w' hSw; (try dsimp only at hSw); have s0 := kg0 w' hSw; have s1 := kg1 w' hSw; have s2 := kg2 w' hSw; have s3 := kg3 w' hSw; have s4 := kr0 w' hSw; have s5 := kr1 w' hSw; go_simp; (try with_reducible rfl))
        (try simp only [Act.put, List.getElem_toArray, List.getElem_cons_zero, List.getElem_cons_succ, List.setIfInBounds_toArray, List.set_cons_zero, List.set_cons_succ])
        have Q0 := Lib.hid (show Kept V3 V3.drew from Kept.drew (Kept.refl _))
        clear kg0 kg1 kg2 kg3 kr0 kr1
        generalize V3.drew = p0 at *
        refine wpAnyH_ready (rs := [2, 7]) (by kernel_rfl) (by simp) ?_
        refine AllReadyH.cons rfl (fun K hK => ?_) (AllReadyH.cons rfl (fun K hK => ?_) (AllReadyH.nil))
        · skip
          go_simp
          go_at_call 52
          refine (toReading_any rt rl _).mono ?_
          rintro e p1 ⟨rfl, k1⟩
          (try go_wp2_with fail)
          refine hK.out _ _ (by (try dsimp only); exact ⟨Q0.out.trans k1⟩) (fun hHeld => ?_)
          clear hK K
          (try simp only [Act.put, List.getElem_toArray, List.getElem_cons_zero, List.getElem_cons_succ, List.setIfInBounds_toArray, List.set_cons_zero, List.set_cons_succ])
          have Q1 := Lib.hid (Q0.out.trans k1)
          clear k1
          refine wpAnyH_ready (rs := [3, 7]) (by kernel_rfl) (by simp) ?_
          refine AllReadyH.cons rfl (fun K hK => ?_) (AllReadyH.cons rfl (fun K hK => ?_) (AllReadyH.nil))
          · skip
            go_simp
            go_at_call 17
            refine (hI.out _ _ ((pairs_own HU3.out).kept Q1.out)).mono ?_
            rintro e p2 ⟨u9, rfl, ho9, k2⟩
            obtain ⟨A9, c9, rfl, -, -, -⟩ := own_form ho9
            have O2 := Lib.hid ho9
            clear ho9
            (try go_wp2_with fail)
            refine hK.out _ _ (by (try dsimp only); exact ⟨Q1.out.trans k2⟩) (fun hHeld => ?_)
            clear hK K
            (try simp only [Act.put, List.getElem_toArray, List.getElem_cons_zero, List.getElem_cons_succ, List.setIfInBounds_toArray, List.set_cons_zero, List.set_cons_succ])
            have Q2 := Lib.hid (Q1.out.trans k2)
            clear k2
            refine wpAnyH_take (i := 4) (v := ?_) rfl (by kernel_rfl) (by kernel_rfl) (by kernel_rfl) (fun _ _ _ h => h) (Or.inl ⟨by kernel_rfl, ?_⟩) (by assumption) ?_
            rotate_left
            focus (intro w' hSw; (try dsimp only at hSw); go_simp; (try with_reducible rfl))
            (try simp only [Act.put, List.getElem_toArray, List.getElem_cons_zero, List.getElem_cons_succ, List.setIfInBounds_toArray, List.set_cons_zero, List.set_cons_succ])
            refine wpAnyH_take (i := 5) (v := ?_) rfl (by kernel_rfl) (by kernel_rfl) (by kernel_rfl) (fun _ _ _ h => h) (Or.inl ⟨by kernel_rfl, ?_⟩) (by assumption) ?_
            rotate_left
            focus (intro w' hSw; (try dsimp only at hSw); go_simp; (try with_reducible rfl))
            (try simp only [Act.put, List.getElem_toArray, List.getElem_cons_zero, List.getElem_cons_succ, List.setIfInBounds_toArray, List.set_cons_zero, List.set_cons_succ])
            refine wpAnyH_take (i := 6) (v := ?_) rfl (by kernel_rfl) (by kernel_rfl) (by kernel_rfl) (fun _ _ _ h => h) (Or.inl ⟨by kernel_rfl, ?_⟩) (by assumption) ?_
            rotate_left
            focus (intro w' hSw; (try dsimp only at hSw); go_simp; (try with_reducible rfl))
            (try simp only [Act.put, List.getElem_toArray, List.getElem_cons_zero, List.getElem_cons_succ, List.setIfInBounds_toArray, List.set_cons_zero, List.set_cons_succ])
            refine wpAnyH_ready (rs := [7]) (by kernel_rfl) (by simp) ?_
            refine AllReadyH.cons rfl (fun K hK => ?_) (AllReadyH.nil)
            go_simp
            refine hK.out _ _ (by (try dsimp only); exact ⟨Kept.alloc Q2.out _⟩) (fun hHeld => ?_)
            clear hK K
            (try simp only [Act.put, List.getElem_toArray, List.getElem_cons_zero, List.getElem_cons_succ, List.setIfInBounds_toArray, List.set_cons_zero, List.set_cons_succ])
            have Q3 := Lib.hid (Kept.alloc Q2.out (.cells #[.int .i64 0, .string { data := #[] }, .int .i64 0, .slice none 0 0] 26))
            have Z3 := Lib.hid (show (p2.alloc (.cells #[.int .i64 0, .string { data := #[] }, .int .i64 0, .slice none 0 0] 26)).cell? ⟨p2.heap.size, 0, none⟩ = some (.int .i64 0) ∧ (p2.alloc (.cells #[.int .i64 0, .string { data := #[] }, .int .i64 0, .slice none 0 0] 26)).frozen? ⟨p2.heap.size, 0, none⟩ = false ∧ (p2.alloc (.cells #[.int .i64 0, .string { data := #[] }, .int .i64 0, .slice none 0 0] 26)).cell? ⟨p2.heap.size, 1, none⟩ = some (.string { data := #[] }) ∧ (p2.alloc (.cells #[.int .i64 0, .string { data := #[] }, .int .i64 0, .slice none 0 0] 26)).frozen? ⟨p2.heap.size, 1, none⟩ = false ∧ (p2.alloc (.cells #[.int .i64 0, .string { data := #[] }, .int .i64 0, .slice none 0 0] 26)).cell? ⟨p2.heap.size, 2, none⟩ = some (.int .i64 0) ∧ (p2.alloc (.cells #[.int .i64 0, .string { data := #[] }, .int .i64 0, .slice none 0 0] 26)).frozen? ⟨p2.heap.size, 2, none⟩ = false ∧ (p2.alloc (.cells #[.int .i64 0, .string { data := #[] }, .int .i64 0, .slice none 0 0] 26)).cell? ⟨p2.heap.size, 3, none⟩ = some (.slice none 0 0) ∧ (p2.alloc (.cells #[.int .i64 0, .string { data := #[] }, .int .i64 0, .slice none 0 0] 26)).frozen? ⟨p2.heap.size, 3, none⟩ = false by simp [go_sem])
            have LT3 := Lib.hid (show p2.heap.size < (p2.alloc (.cells #[.int .i64 0, .string { data := #[] }, .int .i64 0, .slice none 0 0] 26)).heap.size by simp)
            have NE3 := Lib.hid (show some p2.heap.size ≠ (Value.slice A9 L.length c9).ownBlock from fun e => Nat.lt_irrefl _ (O2.out.lt _ e.symm).2)
            have O3 := Lib.hid (O2.out.alloc (.cells #[.int .i64 0, .string { data := #[] }, .int .i64 0, .slice none 0 0] 26))
            generalize p2.alloc (.cells #[.int .i64 0, .string { data := #[] }, .int .i64 0, .slice none 0 0] 26) = p3 at *
            refine wpAnyH_ready (rs := [8]) (by kernel_rfl) (by simp) ?_
            refine AllReadyH.cons rfl (fun K hK => ?_) (AllReadyH.nil)
            obtain ⟨z0, zf0, z1, zf1, z2, zf2, z3, zf3⟩ := Z3.out
            skip
            go_simp
            have F1 := Lib.hid (show V3.heap.size ≤ p2.heap.size from Q2.out.size)
            have F2 := Lib.hid (show Kept V3 ((((p3.setCell ⟨p2.heap.size, 0, none⟩ (.int .i64 I)).setCell ⟨p2.heap.size, 1, none⟩ (.string NM)).setCell ⟨p2.heap.size, 2, none⟩ (.int .i64 Z)).setCell ⟨p2.heap.size, 3, none⟩ (.slice A9 L.length c9)) from (Kept.setCell (Kept.setCell (Kept.setCell (Kept.setCell Q3.out (p := ⟨p2.heap.size, 0, none⟩) F1.out (.int .i64 I)) (p := ⟨p2.heap.size, 1, none⟩) F1.out (.string NM)) (p := ⟨p2.heap.size, 2, none⟩) F1.out (.int .i64 Z)) (p := ⟨p2.heap.size, 3, none⟩) F1.out (.slice A9 L.length c9)))
            have F3 := Lib.hid (show G4 ((((p3.setCell ⟨p2.heap.size, 0, none⟩ (.int .i64 I)).setCell ⟨p2.heap.size, 1, none⟩ (.string NM)).setCell ⟨p2.heap.size, 2, none⟩ (.int .i64 Z)).setCell ⟨p2.heap.size, 3, none⟩ (.slice A9 L.length c9)) p2.heap.size (.int .i64 I) (.string NM) (.int .i64 Z) (.slice A9 L.length c9) by refine ⟨?_, ?_, ?_, ?_⟩ <;> simp [go_sem, *])
            have hne : (Value.slice A9 L.length c9).ownBlock ≠ some p2.heap.size := fun e => NE3.out e.symm
            have F4 := Lib.hid (show ((((p3.setCell ⟨p2.heap.size, 0, none⟩ (.int .i64 I)).setCell ⟨p2.heap.size, 1, none⟩ (.string NM)).setCell ⟨p2.heap.size, 2, none⟩ (.int .i64 Z)).setCell ⟨p2.heap.size, 3, none⟩ (.slice A9 L.length c9)).ownsRow V3.heap.size 28 2 (.slice A9 L.length c9) L.length (L.flatMap pairC) from (ownsRow_setCell_other (ownsRow_setCell_other (ownsRow_setCell_other (ownsRow_setCell_other (own_base O3.out Q1.out.size) (a := ⟨p2.heap.size, 0, none⟩) hne (.int .i64 I)) (a := ⟨p2.heap.size, 1, none⟩) hne (.string NM)) (a := ⟨p2.heap.size, 2, none⟩) hne (.int .i64 Z)) (a := ⟨p2.heap.size, 3, none⟩) hne (.slice A9 L.length c9)))
            have F5 := NE3
            refine hK.out _ _ (by (try dsimp only); exact ⟨F2.out⟩) (fun hHeld => ?_)
            clear hK K
            (try simp only [Act.put, List.getElem_toArray, List.getElem_cons_zero, List.getElem_cons_succ, List.setIfInBounds_toArray, List.set_cons_zero, List.set_cons_succ])
            clear z0 zf0 z1 zf1 z2 zf2 z3 zf3 hne
            refine wpAnyH_ready (rs := [9]) (by kernel_rfl) (by simp) ?_
            refine AllReadyH.cons rfl (fun K hK => ?_) (AllReadyH.nil)
            go_simp
            refine hK.out _ _ (by (try dsimp only); exact hHeld) (fun hHeld => ?_)
            clear hK K
            (try simp only [Act.put, List.getElem_toArray, List.getElem_cons_zero, List.getElem_cons_succ, List.setIfInBounds_toArray, List.set_cons_zero, List.set_cons_succ])
            refine wpAnyH_done (by kernel_rfl) ?_ _
            go_wp2_with fail
            go_meet
            exact ⟨_, A9, c9, rfl, rfl, F1.out, F2.out, F3.out, F4.out, F5.out⟩
          · skip
            go_simp
            refine hK.out _ _ (by (try dsimp only); exact ⟨Kept.alloc Q1.out _⟩) (fun hHeld => ?_)
            clear hK K
            (try simp only [Act.put, List.getElem_toArray, List.getElem_cons_zero, List.getElem_cons_succ, List.setIfInBounds_toArray, List.set_cons_zero, List.set_cons_succ])
            have Q6 := Lib.hid (Kept.alloc Q1.out (.cells #[.int .i64 0, .string { data := #[] }, .int .i64 0, .slice none 0 0] 26))
            have Z6 := Lib.hid (show (p1.alloc (.cells #[.int .i64 0, .string { data := #[] }, .int .i64 0, .slice none 0 0] 26)).cell? ⟨p1.heap.size, 0, none⟩ = some (.int .i64 0) ∧ (p1.alloc (.cells #[.int .i64 0, .string { data := #[] }, .int .i64 0, .slice none 0 0] 26)).frozen? ⟨p1.heap.size, 0, none⟩ = false ∧ (p1.alloc (.cells #[.int .i64 0, .string { data := #[] }, .int .i64 0, .slice none 0 0] 26)).cell? ⟨p1.heap.size, 1, none⟩ = some (.string { data := #[] }) ∧ (p1.alloc (.cells #[.int .i64 0, .string { data := #[] }, .int .i64 0, .slice none 0 0] 26)).frozen? ⟨p1.heap.size, 1, none⟩ = false ∧ (p1.alloc (.cells #[.int .i64 0, .string { data := #[] }, .int .i64 0, .slice none 0 0] 26)).cell? ⟨p1.heap.size, 2, none⟩ = some (.int .i64 0) ∧ (p1.alloc (.cells #[.int .i64 0, .string { data := #[] }, .int .i64 0, .slice none 0 0] 26)).frozen? ⟨p1.heap.size, 2, none⟩ = false ∧ (p1.alloc (.cells #[.int .i64 0, .string { data := #[] }, .int .i64 0, .slice none 0 0] 26)).cell? ⟨p1.heap.size, 3, none⟩ = some (.slice none 0 0) ∧ (p1.alloc (.cells #[.int .i64 0, .string { data := #[] }, .int .i64 0, .slice none 0 0] 26)).frozen? ⟨p1.heap.size, 3, none⟩ = false by simp [go_sem])
            have LT6 := Lib.hid (show p1.heap.size < (p1.alloc (.cells #[.int .i64 0, .string { data := #[] }, .int .i64 0, .slice none 0 0] 26)).heap.size by simp)
            generalize p1.alloc (.cells #[.int .i64 0, .string { data := #[] }, .int .i64 0, .slice none 0 0] 26) = p6 at *
            refine wpAnyH_ready (rs := [3]) (by kernel_rfl) (by simp) ?_
            refine AllReadyH.cons rfl (fun K hK => ?_) (AllReadyH.nil)
            go_simp
            go_at_call 17
            refine (hI.out _ _ ((pairs_own HU3.out).kept Q6.out)).mono ?_
            rintro e p7 ⟨u9, rfl, ho9, k7⟩
            obtain ⟨A9, c9, rfl, -, -, -⟩ := own_form ho9
            have O7 := Lib.hid ho9
            clear ho9
            (try go_wp2_with fail)
            refine hK.out _ _ (by (try dsimp only); exact ⟨Q6.out.trans k7⟩) (fun hHeld => ?_)
            clear hK K
            (try simp only [Act.put, List.getElem_toArray, List.getElem_cons_zero, List.getElem_cons_succ, List.setIfInBounds_toArray, List.set_cons_zero, List.set_cons_succ])
            have Q7 := Lib.hid (Q6.out.trans k7)
            have Z7 := Lib.hid (blk4 k7 Z6.out)
            have LT7 := Lib.hid (Nat.lt_of_lt_of_le LT6.out k7.size)
            have NE7 := Lib.hid (show some p1.heap.size ≠ (Value.slice A9 L.length c9).ownBlock from fun e => by have h1 := (O7.out.lt _ e.symm).1; have h2 := LT6.out; omega)
            clear k7
            refine wpAnyH_take (i := 4) (v := ?_) rfl (by kernel_rfl) (by kernel_rfl) (by kernel_rfl) (fun _ _ _ h => h) (Or.inl ⟨by kernel_rfl, ?_⟩) (by assumption) ?_
            rotate_left
            focus (intro w' hSw; (try dsimp only at hSw); go_simp; (try with_reducible rfl))
            (try simp only [Act.put, List.getElem_toArray, List.getElem_cons_zero, List.getElem_cons_succ, List.setIfInBounds_toArray, List.set_cons_zero, List.set_cons_succ])
            refine wpAnyH_take (i := 5) (v := ?_) rfl (by kernel_rfl) (by kernel_rfl) (by kernel_rfl) (fun _ _ _ h => h) (Or.inl ⟨by kernel_rfl, ?_⟩) (by assumption) ?_
            rotate_left
            focus (intro w' hSw; (try dsimp only at hSw); go_simp; (try with_reducible rfl))
            (try simp only [Act.put, List.getElem_toArray, List.getElem_cons_zero, List.getElem_cons_succ, List.setIfInBounds_toArray, List.set_cons_zero, List.set_cons_succ])
            refine wpAnyH_take (i := 6) (v := ?_) rfl (by kernel_rfl) (by kernel_rfl) (by kernel_rfl) (fun _ _ _ h => h) (Or.inl ⟨by kernel_rfl, ?_⟩) (by assumption) ?_
            rotate_left
            focus (intro w' hSw; (try dsimp only at hSw); go_simp; (try with_reducible rfl))
            (try simp only [Act.put, List.getElem_toArray, List.getElem_cons_zero, List.getElem_cons_succ, List.setIfInBounds_toArray, List.set_cons_zero, List.set_cons_succ])
            refine wpAnyH_ready (rs := [8]) (by kernel_rfl) (by simp) ?_
            refine AllReadyH.cons rfl (fun K hK => ?_) (AllReadyH.nil)
            obtain ⟨z0, zf0, z1, zf1, z2, zf2, z3, zf3⟩ := Z7.out
            skip
            go_simp
            have F1 := Lib.hid (show V3.heap.size ≤ p1.heap.size from Q1.out.size)
            have F2 := Lib.hid (show Kept V3 ((((p7.setCell ⟨p1.heap.size, 0, none⟩ (.int .i64 I)).setCell ⟨p1.heap.size, 1, none⟩ (.string NM)).setCell ⟨p1.heap.size, 2, none⟩ (.int .i64 Z)).setCell ⟨p1.heap.size, 3, none⟩ (.slice A9 L.length c9)) from (Kept.setCell (Kept.setCell (Kept.setCell (Kept.setCell Q7.out (p := ⟨p1.heap.size, 0, none⟩) F1.out (.int .i64 I)) (p := ⟨p1.heap.size, 1, none⟩) F1.out (.string NM)) (p := ⟨p1.heap.size, 2, none⟩) F1.out (.int .i64 Z)) (p := ⟨p1.heap.size, 3, none⟩) F1.out (.slice A9 L.length c9)))
            have F3 := Lib.hid (show G4 ((((p7.setCell ⟨p1.heap.size, 0, none⟩ (.int .i64 I)).setCell ⟨p1.heap.size, 1, none⟩ (.string NM)).setCell ⟨p1.heap.size, 2, none⟩ (.int .i64 Z)).setCell ⟨p1.heap.size, 3, none⟩ (.slice A9 L.length c9)) p1.heap.size (.int .i64 I) (.string NM) (.int .i64 Z) (.slice A9 L.length c9) by refine ⟨?_, ?_, ?_, ?_⟩ <;> simp [go_sem, *])
            have hne : (Value.slice A9 L.length c9).ownBlock ≠ some p1.heap.size := fun e => NE7.out e.symm
            have F4 := Lib.hid (show ((((p7.setCell ⟨p1.heap.size, 0, none⟩ (.int .i64 I)).setCell ⟨p1.heap.size, 1, none⟩ (.string NM)).setCell ⟨p1.heap.size, 2, none⟩ (.int .i64 Z)).setCell ⟨p1.heap.size, 3, none⟩ (.slice A9 L.length c9)).ownsRow V3.heap.size 28 2 (.slice A9 L.length c9) L.length (L.flatMap pairC) from (ownsRow_setCell_other (ownsRow_setCell_other (ownsRow_setCell_other (ownsRow_setCell_other (own_base O7.out Q6.out.size) (a := ⟨p1.heap.size, 0, none⟩) hne (.int .i64 I)) (a := ⟨p1.heap.size, 1, none⟩) hne (.string NM)) (a := ⟨p1.heap.size, 2, none⟩) hne (.int .i64 Z)) (a := ⟨p1.heap.size, 3, none⟩) hne (.slice A9 L.length c9)))
            have F5 := NE7
            refine hK.out _ _ (by (try dsimp only); exact ⟨F2.out⟩) (fun hHeld => ?_)
            clear hK K
            (try simp only [Act.put, List.getElem_toArray, List.getElem_cons_zero, List.getElem_cons_succ, List.setIfInBounds_toArray, List.set_cons_zero, List.set_cons_succ])
            clear z0 zf0 z1 zf1 z2 zf2 z3 zf3 hne
            refine wpAnyH_ready (rs := [9]) (by kernel_rfl) (by simp) ?_
            refine AllReadyH.cons rfl (fun K hK => ?_) (AllReadyH.nil)
            go_simp
            refine hK.out _ _ (by (try dsimp only); exact hHeld) (fun hHeld => ?_)
            clear hK K
            (try simp only [Act.put, List.getElem_toArray, List.getElem_cons_zero, List.getElem_cons_succ, List.setIfInBounds_toArray, List.set_cons_zero, List.set_cons_succ])
            refine wpAnyH_done (by kernel_rfl) ?_ _
            go_wp2_with fail
            go_meet
            exact ⟨_, A9, c9, rfl, rfl, F1.out, F2.out, F3.out, F4.out, F5.out⟩
        · skip
          go_simp
          refine hK.out _ _ (by (try dsimp only); exact ⟨Kept.alloc Q0.out _⟩) (fun hHeld => ?_)
          clear hK K
          (try simp only [Act.put, List.getElem_toArray, List.getElem_cons_zero, List.getElem_cons_succ, List.setIfInBounds_toArray, List.set_cons_zero, List.set_cons_succ])
          have Q10 := Lib.hid (Kept.alloc Q0.out (.cells #[.int .i64 0, .string { data := #[] }, .int .i64 0, .slice none 0 0] 26))
          have Z10 := Lib.hid (show (p0.alloc (.cells #[.int .i64 0, .string { data := #[] }, .int .i64 0, .slice none 0 0] 26)).cell? ⟨p0.heap.size, 0, none⟩ = some (.int .i64 0) ∧ (p0.alloc (.cells #[.int .i64 0, .string { data := #[] }, .int .i64 0, .slice none 0 0] 26)).frozen? ⟨p0.heap.size, 0, none⟩ = false ∧ (p0.alloc (.cells #[.int .i64 0, .string { data := #[] }, .int .i64 0, .slice none 0 0] 26)).cell? ⟨p0.heap.size, 1, none⟩ = some (.string { data := #[] }) ∧ (p0.alloc (.cells #[.int .i64 0, .string { data := #[] }, .int .i64 0, .slice none 0 0] 26)).frozen? ⟨p0.heap.size, 1, none⟩ = false ∧ (p0.alloc (.cells #[.int .i64 0, .string { data := #[] }, .int .i64 0, .slice none 0 0] 26)).cell? ⟨p0.heap.size, 2, none⟩ = some (.int .i64 0) ∧ (p0.alloc (.cells #[.int .i64 0, .string { data := #[] }, .int .i64 0, .slice none 0 0] 26)).frozen? ⟨p0.heap.size, 2, none⟩ = false ∧ (p0.alloc (.cells #[.int .i64 0, .string { data := #[] }, .int .i64 0, .slice none 0 0] 26)).cell? ⟨p0.heap.size, 3, none⟩ = some (.slice none 0 0) ∧ (p0.alloc (.cells #[.int .i64 0, .string { data := #[] }, .int .i64 0, .slice none 0 0] 26)).frozen? ⟨p0.heap.size, 3, none⟩ = false by simp [go_sem])
          have LT10 := Lib.hid (show p0.heap.size < (p0.alloc (.cells #[.int .i64 0, .string { data := #[] }, .int .i64 0, .slice none 0 0] 26)).heap.size by simp)
          generalize p0.alloc (.cells #[.int .i64 0, .string { data := #[] }, .int .i64 0, .slice none 0 0] 26) = p10 at *
          refine wpAnyH_ready (rs := [2]) (by kernel_rfl) (by simp) ?_
          refine AllReadyH.cons rfl (fun K hK => ?_) (AllReadyH.nil)
          go_simp
          go_at_call 52
          refine (toReading_any rt rl _).mono ?_
          rintro e p11 ⟨rfl, k11⟩
          (try go_wp2_with fail)
          refine hK.out _ _ (by (try dsimp only); exact ⟨Q10.out.trans k11⟩) (fun hHeld => ?_)
          clear hK K
          (try simp only [Act.put, List.getElem_toArray, List.getElem_cons_zero, List.getElem_cons_succ, List.setIfInBounds_toArray, List.set_cons_zero, List.set_cons_succ])
          have Q11 := Lib.hid (Q10.out.trans k11)
          have Z11 := Lib.hid (blk4 k11 Z10.out)
          have LT11 := Lib.hid (Nat.lt_of_lt_of_le LT10.out k11.size)
          clear k11
          refine wpAnyH_ready (rs := [3]) (by kernel_rfl) (by simp) ?_
          refine AllReadyH.cons rfl (fun K hK => ?_) (AllReadyH.nil)
          go_simp
          go_at_call 17
          refine (hI.out _ _ ((pairs_own HU3.out).kept Q11.out)).mono ?_
          rintro e p12 ⟨u9, rfl, ho9, k12⟩
          obtain ⟨A9, c9, rfl, -, -, -⟩ := own_form ho9
          have O12 := Lib.hid ho9
          clear ho9
          (try go_wp2_with fail)
          refine hK.out _ _ (by (try dsimp only); exact ⟨Q11.out.trans k12⟩) (fun hHeld => ?_)
          clear hK K
          (try simp only [Act.put, List.getElem_toArray, List.getElem_cons_zero, List.getElem_cons_succ, List.setIfInBounds_toArray, List.set_cons_zero, List.set_cons_succ])
          have Q12 := Lib.hid (Q11.out.trans k12)
          have Z12 := Lib.hid (blk4 k12 Z11.out)
          have LT12 := Lib.hid (Nat.lt_of_lt_of_le LT11.out k12.size)
          have NE12 := Lib.hid (show some p0.heap.size ≠ (Value.slice A9 L.length c9).ownBlock from fun e => by have h1 := (O12.out.lt _ e.symm).1; have h2 := LT11.out; omega)
          clear k12
          refine wpAnyH_take (i := 4) (v := ?_) rfl (by kernel_rfl) (by kernel_rfl) (by kernel_rfl) (fun _ _ _ h => h) (Or.inl ⟨by kernel_rfl, ?_⟩) (by assumption) ?_
          rotate_left
          focus (intro w' hSw; (try dsimp only at hSw); go_simp; (try with_reducible rfl))
          (try simp only [Act.put, List.getElem_toArray, List.getElem_cons_zero, List.getElem_cons_succ, List.setIfInBounds_toArray, List.set_cons_zero, List.set_cons_succ])
          refine wpAnyH_take (i := 5) (v := ?_) rfl (by kernel_rfl) (by kernel_rfl) (by kernel_rfl) (fun _ _ _ h => h) (Or.inl ⟨by kernel_rfl, ?_⟩) (by assumption) ?_
          rotate_left
          focus (intro w' hSw; (try dsimp only at hSw); go_simp; (try with_reducible rfl))
          (try simp only [Act.put, List.getElem_toArray, List.getElem_cons_zero, List.getElem_cons_succ, List.setIfInBounds_toArray, List.set_cons_zero, List.set_cons_succ])
          refine wpAnyH_take (i := 6) (v := ?_) rfl (by kernel_rfl) (by kernel_rfl) (by kernel_rfl) (fun _ _ _ h => h) (Or.inl ⟨by kernel_rfl, ?_⟩) (by assumption) ?_
          rotate_left
          focus (intro w' hSw; (try dsimp only at hSw); go_simp; (try with_reducible rfl))
          (try simp only [Act.put, List.getElem_toArray, List.getElem_cons_zero, List.getElem_cons_succ, List.setIfInBounds_toArray, List.set_cons_zero, List.set_cons_succ])
          refine wpAnyH_ready (rs := [8]) (by kernel_rfl) (by simp) ?_
          refine AllReadyH.cons rfl (fun K hK => ?_) (AllReadyH.nil)
          obtain ⟨z0, zf0, z1, zf1, z2, zf2, z3, zf3⟩ := Z12.out
          skip
          go_simp
          have F1 := Lib.hid (show V3.heap.size ≤ p0.heap.size from Q0.out.size)
          have F2 := Lib.hid (show Kept V3 ((((p12.setCell ⟨p0.heap.size, 0, none⟩ (.int .i64 I)).setCell ⟨p0.heap.size, 1, none⟩ (.string NM)).setCell ⟨p0.heap.size, 2, none⟩ (.int .i64 Z)).setCell ⟨p0.heap.size, 3, none⟩ (.slice A9 L.length c9)) from (Kept.setCell (Kept.setCell (Kept.setCell (Kept.setCell Q12.out (p := ⟨p0.heap.size, 0, none⟩) F1.out (.int .i64 I)) (p := ⟨p0.heap.size, 1, none⟩) F1.out (.string NM)) (p := ⟨p0.heap.size, 2, none⟩) F1.out (.int .i64 Z)) (p := ⟨p0.heap.size, 3, none⟩) F1.out (.slice A9 L.length c9)))
          have F3 := Lib.hid (show G4 ((((p12.setCell ⟨p0.heap.size, 0, none⟩ (.int .i64 I)).setCell ⟨p0.heap.size, 1, none⟩ (.string NM)).setCell ⟨p0.heap.size, 2, none⟩ (.int .i64 Z)).setCell ⟨p0.heap.size, 3, none⟩ (.slice A9 L.length c9)) p0.heap.size (.int .i64 I) (.string NM) (.int .i64 Z) (.slice A9 L.length c9) by refine ⟨?_, ?_, ?_, ?_⟩ <;> simp [go_sem, *])
          have hne : (Value.slice A9 L.length c9).ownBlock ≠ some p0.heap.size := fun e => NE12.out e.symm
          have F4 := Lib.hid (show ((((p12.setCell ⟨p0.heap.size, 0, none⟩ (.int .i64 I)).setCell ⟨p0.heap.size, 1, none⟩ (.string NM)).setCell ⟨p0.heap.size, 2, none⟩ (.int .i64 Z)).setCell ⟨p0.heap.size, 3, none⟩ (.slice A9 L.length c9)).ownsRow V3.heap.size 28 2 (.slice A9 L.length c9) L.length (L.flatMap pairC) from (ownsRow_setCell_other (ownsRow_setCell_other (ownsRow_setCell_other (ownsRow_setCell_other (own_base O12.out Q11.out.size) (a := ⟨p0.heap.size, 0, none⟩) hne (.int .i64 I)) (a := ⟨p0.heap.size, 1, none⟩) hne (.string NM)) (a := ⟨p0.heap.size, 2, none⟩) hne (.int .i64 Z)) (a := ⟨p0.heap.size, 3, none⟩) hne (.slice A9 L.length c9)))
          have F5 := NE12
          refine hK.out _ _ (by (try dsimp only); exact ⟨F2.out⟩) (fun hHeld => ?_)
          clear hK K
          (try simp only [Act.put, List.getElem_toArray, List.getElem_cons_zero, List.getElem_cons_succ, List.setIfInBounds_toArray, List.set_cons_zero, List.set_cons_succ])
          clear z0 zf0 z1 zf1 z2 zf2 z3 zf3 hne
          refine wpAnyH_ready (rs := [9]) (by kernel_rfl) (by simp) ?_
          refine AllReadyH.cons rfl (fun K hK => ?_) (AllReadyH.nil)
          go_simp
          refine hK.out _ _ (by (try dsimp only); exact hHeld) (fun hHeld => ?_)
          clear hK K
          (try simp only [Act.put, List.getElem_toArray, List.getElem_cons_zero, List.getElem_cons_succ, List.setIfInBounds_toArray, List.set_cons_zero, List.set_cons_succ])
          refine wpAnyH_done (by kernel_rfl) ?_ _
          go_wp2_with fail
          go_meet
          exact ⟨_, A9, c9, rfl, rfl, F1.out, F2.out, F3.out, F4.out, F5.out⟩
      case rest =>
        obtain ⟨g9, AG, cg, rfl, rfl, hg9, k34, gg, hog, n9⟩ := hcut
        obtain ⟨V4, hV4⟩ : ∃ x, x = wc := ⟨_, rfl⟩
        subst hV4
        have K34 := Lib.hid k34
        have GG := Lib.hid gg
        have HOG := Lib.hid hog
        have N9 := Lib.hid n9
        have GW4 := Lib.hid (GW.out.kept (K23.out.trans k34))
        clear k34 gg hog n9
        have x0 := (GG.out).1
        have x1 := (GG.out).2.1
        have x2 := (GG.out).2.2.1
        have x3 := (GG.out).2.2.2
        have y0 := (GW4.out).1
        have y1 := (GW4.out).2.1
        have y2 := (GW4.out).2.2.1
        have y3 := (GW4.out).2.2.2
        go_wp2_with fail
        refine (eqGauge_any _ _ _ _ _ _ _ (pairs_own HOG.out) ((pairs_own HOW.out).kept (K23.out.trans K34.out))).mono ?_
        rintro e W5 ⟨rfl, k45⟩
        have K45 := Lib.hid k45
        clear k45 x0 x1 x2 x3 y0 y1 y2 y3
        have GX5 := Lib.hid ((GX.out.kept K34.out).kept K45.out)
        have GB5 := Lib.hid (GB2.out.kept (K23.out.trans (K34.out.trans K45.out)))
        have K05 := Lib.hid (K2.out.trans (K23.out.trans (K34.out.trans K45.out)))
        have x0 := (GX5.out).1
        have x1 := (GX5.out).2.1
        have x2 := (GX5.out).2.2.1
        have x3 := (GX5.out).2.2.2
        have y0 := (GB5.out).1
        have y1 := (GB5.out).2.1
        have y2 := (GB5.out).2.2.1
        have y3 := (GB5.out).2.2.2
        have k05 := K05.out
        have k35 := K34.out.trans K45.out
        go_wp2_with fail
        have kf1_0 : ∀ w' : World, Root (W5) w' → w'.cell? ⟨g8, 0, none⟩ = some (.int .i64 id) := fun w' h => h.keep (by first | assumption | exact (Kept.alloc (Kept.refl _) _).keep (by assumption) | (simp [go_sem]; done) | (simp [go_sem, *]; done))
        have kf1_1 : ∀ w' : World, Root (W5) w' → w'.cell? ⟨g8, 1, none⟩ = some (.string nm) := fun w' h => h.keep (by first | assumption | exact (Kept.alloc (Kept.refl _) _).keep (by assumption) | (simp [go_sem]; done) | (simp [go_sem, *]; done))
        have kf1_2 : ∀ w' : World, Root (W5) w' → w'.cell? ⟨g8, 2, none⟩ = some (.int .i64 z) := fun w' h => h.keep (by first | assumption | exact (Kept.alloc (Kept.refl _) _).keep (by assumption) | (simp [go_sem]; done) | (simp [go_sem, *]; done))
        have kf1_3 : ∀ w' : World, Root (W5) w' → w'.cell? ⟨g8, 3, none⟩ = some (.slice A3 xs.length c3) := fun w' h => h.keep (by first | assumption | exact (Kept.alloc (Kept.refl _) _).keep (by assumption) | (simp [go_sem]; done) | (simp [go_sem, *]; done))
        have kf1_4 : ∀ w' : World, Root (W5) w' → w'.cell? ⟨w.heap.size, 0, none⟩ = some (.int .i64 id) := fun w' h => h.keep (by first | assumption | exact (Kept.alloc (Kept.refl _) _).keep (by assumption) | (simp [go_sem]; done) | (simp [go_sem, *]; done))
        have kf1_5 : ∀ w' : World, Root (W5) w' → w'.cell? ⟨w.heap.size, 1, none⟩ = some (.string nm) := fun w' h => h.keep (by first | assumption | exact (Kept.alloc (Kept.refl _) _).keep (by assumption) | (simp [go_sem]; done) | (simp [go_sem, *]; done))
        have kf1_6 : ∀ w' : World, Root (W5) w' → w'.cell? ⟨w.heap.size, 2, none⟩ = some (.int .i64 z) := fun w' h => h.keep (by first | assumption | exact (Kept.alloc (Kept.refl _) _).keep (by assumption) | (simp [go_sem]; done) | (simp [go_sem, *]; done))
        have kf1_7 : ∀ w' : World, Root (W5) w' → w'.cell? ⟨w.heap.size, 3, none⟩ = some (.slice A xs.length c) := fun w' h => h.keep (by first | assumption | exact (Kept.alloc (Kept.refl _) _).keep (by assumption) | (simp [go_sem]; done) | (simp [go_sem, *]; done))
        go_region_held3 (fun w' => Root (W5) w')
          (first | assumption | exact Root.trans (by assumption) hk | exact Root.drew (Root.refl _) | (repeat (first | exact Root.refl _ | assumption | refine Root.alloc ?_ _ | refine Root.drew ?_ | refine Root.setCell ?_ (by first | (simp; done) | (simp; omega) | omega | exact Root.size (by assumption)) _ | refine Root.trans ?_ (by assumption))))
          (first | (go_at_call 33; refine (toGauge_any _ _ _ _ _ _ (by exact HL.out.kept (by (repeat (first | exact Kept.refl _ | assumption | refine Kept.alloc ?_ _ | refine Kept.drew ?_ | refine Kept.drewN ?_ _ | refine Kept.setCell ?_ (by first | (simp; done) | (simp; omega) | omega | exact Kept.size (by (repeat (first | exact Kept.refl _ | assumption | refine Kept.alloc ?_ _ | refine Kept.drew ?_ | refine Kept.drewN ?_ _ | refine Kept.trans ?_ (by assumption))))) _ | refine Kept.trans ?_ (by assumption))))) hn).mono ?_; rintro e w1 ⟨u1, rfl, hu1, hk⟩; (have hkr := Root.trans (by assumption) hk); have hl1 := pairs_own hu1; clear hu1) | (go_at_call 34; refine (eqGauge_any _ _ _ _ _ _ _ (by exact (pairs_own HU3.out).kept (by (repeat (first | exact Kept.refl _ | assumption | refine Kept.alloc ?_ _ | refine Kept.drew ?_ | refine Kept.drewN ?_ _ | refine Kept.setCell ?_ (by first | (simp; done) | (simp; omega) | omega | exact Kept.size (by (repeat (first | exact Kept.refl _ | assumption | refine Kept.alloc ?_ _ | refine Kept.drew ?_ | refine Kept.drewN ?_ _ | refine Kept.trans ?_ (by assumption))))) _ | refine Kept.trans ?_ (by assumption))))) (by first | assumption | exact Lies.kept (by assumption) (by (repeat (first | exact Kept.refl _ | assumption | refine Kept.alloc ?_ _ | refine Kept.drew ?_ | refine Kept.drewN ?_ _ | refine Kept.setCell ?_ (by first | (simp; done) | (simp; omega) | omega | exact Kept.size (by (repeat (first | exact Kept.refl _ | assumption | refine Kept.alloc ?_ _ | refine Kept.drew ?_ | refine Kept.drewN ?_ _ | refine Kept.trans ?_ (by assumption))))) _ | refine Kept.trans ?_ (by assumption)))))).mono ?_; rintro e w1 ⟨rfl, hk⟩; (have hkr := Root.trans (by assumption) hk); (first | (have hkf := From.step (by assumption) hk; obtain ⟨hc, hf⟩ := hkf.cells) | (have hkf := From.start hk; obtain ⟨hc, hf⟩ := hkf.cells))))
        have K57 := Lib.hid hkr.kept
        clear hk hkr hl1 hc hf hkf k05 k35
        clear x0 x1 x2 x3 y0 y1 y2 y3
        have x0 := (GX5.out.kept K57.out).1
        have x1 := (GX5.out.kept K57.out).2.1
        have x2 := (GX5.out.kept K57.out).2.2.1
        have x3 := (GX5.out.kept K57.out).2.2.2
        have hrb : w.heap.size + 1 < V2.heap.size := by have h := World.block_lt_of_cell? _ _ RB2.out.1; simpa using h
        have hb2 := K2.out.size
        have hb3 := K23.out.size
        have hb6 := GW.out.lt
        have hb7 := GB2.out.lt
        go_wp2_with fail
        refine (markGauge_all _ _ _ _ _ _ _ _ _ (own_kept HU3.out (K34.out.trans (K45.out.trans K57.out))) hn).mono ?_
        rintro e W8 ⟨rfl, -, g8m⟩
        have K8 := Lib.hid (Kept.marked (K05.out.trans K57.out) HU3.out (by omega) g8m)
        have HOG8 := Lib.hid ((own_kept HOG.out (K45.out.trans K57.out)).kept g8m (own_ne HU3.out HOG.out (Nat.le_refl _)).2)
        have HOW8 := Lib.hid ((own_kept HOW.out (K23.out.trans (K34.out.trans (K45.out.trans K57.out)))).kept g8m (own_ne HOW.out HU3.out (Nat.le_refl _)).1)
        have GG8 := Lib.hid ((GG.out.kept (K45.out.trans K57.out)).grown g8m (own_not HU3.out (Or.inr (by omega))))
        have GW8 := Lib.hid ((GW4.out.kept (K45.out.trans K57.out)).grown g8m (own_not HU3.out (Or.inl (by omega))))
        have GB8 := Lib.hid ((GB5.out.kept K57.out).grown g8m (own_not HU3.out (Or.inl (by omega))))
        have RB8 := Lib.hid (And.intro (World.grownBy.cell g8m ((K57.out).keep (K45.out.keep (K34.out.keep (K23.out.keep RB2.out.1)))) (own_not HU3.out (Or.inl hrb))) (World.grownBy.cell g8m ((K57.out).keep (K45.out.keep (K34.out.keep (K23.out.keep RB2.out.2)))) (own_not HU3.out (Or.inl hrb))))
        clear g8m
        clear x0 x1 x2 x3
        have x0 := (GG8.out).1
        have x1 := (GG8.out).2.1
        have x2 := (GG8.out).2.2.1
        have x3 := (GG8.out).2.2.2
        have y0 := (GW8.out).1
        have y1 := (GW8.out).2.1
        have y2 := (GW8.out).2.2.1
        have y3 := (GW8.out).2.2.2
        go_wp2_with fail
        refine (eqGauge_any _ _ _ _ _ _ _ (pairs_own HOG8.out) (pairs_own HOW8.out)).mono ?_
        rintro e W9 ⟨rfl, k9⟩
        have K9 := Lib.hid k9
        clear k9 x0 x1 x2 x3 y0 y1 y2 y3
        have x0 := (GG8.out.kept K9.out).1
        have x1 := (GG8.out.kept K9.out).2.1
        have x2 := (GG8.out.kept K9.out).2.2.1
        have x3 := (GG8.out.kept K9.out).2.2.2
        go_wp2_with fail
        refine (markGauge_all _ _ _ _ _ _ _ _ _ (own_kept HOG8.out K9.out) hgl).mono ?_
        rintro e W10 ⟨rfl, hmg, g10⟩
        have HMG := Lib.hid hmg
        have K10 := Lib.hid (Kept.marked (K8.out.trans K9.out) HOG.out (by omega) g10)
        have HOW10 := Lib.hid ((own_kept HOW8.out K9.out).kept g10 (own_ne HOW.out HOG.out hb3).1)
        have GG10 := Lib.hid ((GG8.out.kept K9.out).grown g10 N9.out)
        have GW10 := Lib.hid ((GW8.out.kept K9.out).grown g10 (own_not HOG.out (Or.inl (by omega))))
        have GB10 := Lib.hid ((GB8.out.kept K9.out).grown g10 (own_not HOG.out (Or.inl (by omega))))
        have RB10 := Lib.hid (And.intro (World.grownBy.cell g10 ((K9.out).keep RB8.out.1) (own_not HOG.out (Or.inl (Nat.lt_of_lt_of_le hrb hb3)))) (World.grownBy.cell g10 ((K9.out).keep RB8.out.2) (own_not HOG.out (Or.inl (Nat.lt_of_lt_of_le hrb hb3)))))
        clear g10 hmg x0 x1 x2 x3
        have x0 := (GG10.out).1
        have x1 := (GG10.out).2.1
        have x2 := (GG10.out).2.2.1
        have x3 := (GG10.out).2.2.2
        go_wp2_with fail
        refine (heldGauge_any _ _ _ _ _ _ _ _ HMG.out hgl).mono ?_
        rintro e W11 ⟨rfl, k11⟩
        have K11 := Lib.hid k11
        clear k11 x0 x1 x2 x3
        have GB11 := Lib.hid (GB10.out.kept K11.out)
        have RB11 := Lib.hid (And.intro (K11.out.keep RB10.out.1) (K11.out.keep RB10.out.2))
        have K011 := Lib.hid (K10.out.trans K11.out)
        go_upto_region 24 with fail
        go_cut [14, 15] (fun sp sb wx => ∃ (g14 : Nat) (AH : Option Addr) (ch : Nat), sp = .pointer (some ⟨g14, 0, none⟩) ∧ sb = .bool ok ∧ W11.heap.size ≤ g14 ∧ Kept W11 wx ∧ G4 wx g14 (.int .i64 I) (.string NM) (.int .i64 Z) (.slice AH L.length ch) ∧ wx.ownsRow W11.heap.size 28 2 (.slice AH L.length ch) L.length (L.flatMap pairC) ∧ some g14 ≠ (Value.slice AH L.length ch).ownBlock)
        case first =>
          have kg0 : ∀ w' : World, Root W11 w' → w'.cell? ⟨w.heap.size, 0, none⟩ = some (.int .i64 id) := fun w' h => h.keep (GB11.out).1
          have kg1 : ∀ w' : World, Root W11 w' → w'.cell? ⟨w.heap.size, 1, none⟩ = some (.string nm) := fun w' h => h.keep (GB11.out).2.1
          have kg2 : ∀ w' : World, Root W11 w' → w'.cell? ⟨w.heap.size, 2, none⟩ = some (.int .i64 z) := fun w' h => h.keep (GB11.out).2.2.1
          have kg3 : ∀ w' : World, Root W11 w' → w'.cell? ⟨w.heap.size, 3, none⟩ = some (.slice A xs.length c) := fun w' h => h.keep (GB11.out).2.2.2
          have kr0 : ∀ w' : World, Root W11 w' → w'.cell? ⟨w.heap.size + 1, 0, none⟩ = some (.int .i64 rt) := fun w' h => h.keep (RB11.out).1
          have kr1 : ∀ w' : World, Root W11 w' → w'.cell? ⟨w.heap.size + 1, 1, none⟩ = some (.int .i64 rl) := fun w' h => h.keep (RB11.out).2
          refine wp_region_held_drew (S := fun w' => Root W11 w') (by kernel_rfl) (by (try dsimp only); exact Root.drew (Root.refl _)) (fun hHeld => ?_)
          refine wpAnyH_take (i := 0) (v := ?_) rfl (by kernel_rfl) (by kernel_rfl) (by kernel_rfl) (fun _ _ _ h => h) (Or.inl ⟨by kernel_rfl, ?_⟩) (by assumption) ?_
          rotate_left
          focus (intro w' hSw; (try dsimp only at hSw); have s0 := kg0 w' hSw; have s1 := kg1 w' hSw; have s2 := kg2 w' hSw; have s3 := kg3 w' hSw; have s4 := kr0 w' hSw; have s5 := kr1 w' hSw; go_simp; (try with_reducible rfl))
          (try simp only [Act.put, List.getElem_toArray, List.getElem_cons_zero, List.getElem_cons_succ, List.setIfInBounds_toArray, List.set_cons_zero, List.set_cons_succ])
          refine wpAnyH_take (i := 2) (v := ?_) rfl (by kernel_rfl) (by kernel_rfl) (by kernel_rfl) (fun _ _ _ h => h) (Or.inl ⟨by kernel_rfl, ?_⟩) (by assumption) ?_
          rotate_left
          focus (intro w' hSw; (try dsimp only at hSw); have s0 := kg0 w' hSw; have s1 := kg1 w' hSw; have s2 := kg2 w' hSw; have s3 := kg3 w' hSw; have s4 := kr0 w' hSw; have s5 := kr1 w' hSw; go_simp; (try with_reducible rfl))
          (try simp only [Act.put, List.getElem_toArray, List.getElem_cons_zero, List.getElem_cons_succ, List.setIfInBounds_toArray, List.set_cons_zero, List.set_cons_succ])
          have Q0 := Lib.hid (show Kept W11 W11.drew from Kept.drew (Kept.refl _))
          clear kg0 kg1 kg2 kg3 kr0 kr1
          generalize W11.drew = p0 at *
          refine wpAnyH_ready (rs := [1, 8]) (by kernel_rfl) (by simp) ?_
          refine AllReadyH.cons rfl (fun K hK => ?_) (AllReadyH.cons rfl (fun K hK => ?_) (AllReadyH.nil))
          · skip
            go_simp
            go_at_call 33
            refine (toGauge_any _ _ _ _ _ _ (HL.out.kept (K011.out.trans Q0.out)) hn).mono ?_
            rintro e p1 ⟨ug1, rfl, hug1, k1⟩
            have LG1 := Lib.hid (pairs_own hug1)
            clear hug1
            (try go_wp2_with fail)
            refine hK.out _ _ (by (try dsimp only); exact ⟨Q0.out.trans k1⟩) (fun hHeld => ?_)
            clear hK K
            (try simp only [Act.put, List.getElem_toArray, List.getElem_cons_zero, List.getElem_cons_succ, List.setIfInBounds_toArray, List.set_cons_zero, List.set_cons_succ])
            have Q1 := Lib.hid (Q0.out.trans k1)
            clear k1
            refine wpAnyH_ready (rs := [3, 8]) (by kernel_rfl) (by simp) ?_
            refine AllReadyH.cons rfl (fun K hK => ?_) (AllReadyH.cons rfl (fun K hK => ?_) (AllReadyH.nil))
            · skip
              go_simp
              go_at_call 52
              refine (toReading_any rt rl _).mono ?_
              rintro e p2 ⟨rfl, k2⟩
              (try go_wp2_with fail)
              refine hK.out _ _ (by (try dsimp only); exact ⟨Q1.out.trans k2⟩) (fun hHeld => ?_)
              clear hK K
              (try simp only [Act.put, List.getElem_toArray, List.getElem_cons_zero, List.getElem_cons_succ, List.setIfInBounds_toArray, List.set_cons_zero, List.set_cons_succ])
              have Q2 := Lib.hid (Q1.out.trans k2)
              have LG2 := Lib.hid ((LG1).out.kept k2)
              clear k2
              refine wpAnyH_ready (rs := [4, 8]) (by kernel_rfl) (by simp) ?_
              refine AllReadyH.cons rfl (fun K hK => ?_) (AllReadyH.cons rfl (fun K hK => ?_) (AllReadyH.nil))
              · skip
                go_simp
                go_at_call 17
                refine (hI.out _ _ LG2.out).mono ?_
                rintro e p3 ⟨u9, rfl, ho9, k3⟩
                obtain ⟨A9, c9, rfl, -, -, -⟩ := own_form ho9
                have O3 := Lib.hid ho9
                clear ho9
                (try go_wp2_with fail)
                refine hK.out _ _ (by (try dsimp only); exact ⟨Q2.out.trans k3⟩) (fun hHeld => ?_)
                clear hK K
                (try simp only [Act.put, List.getElem_toArray, List.getElem_cons_zero, List.getElem_cons_succ, List.setIfInBounds_toArray, List.set_cons_zero, List.set_cons_succ])
                have Q3 := Lib.hid (Q2.out.trans k3)
                have LG3 := Lib.hid ((LG2).out.kept k3)
                clear k3
                refine wpAnyH_take (i := 5) (v := ?_) rfl (by kernel_rfl) (by kernel_rfl) (by kernel_rfl) (fun _ _ _ h => h) (Or.inl ⟨by kernel_rfl, ?_⟩) (by assumption) ?_
                rotate_left
                focus (intro w' hSw; (try dsimp only at hSw); go_simp; (try with_reducible rfl))
                (try simp only [Act.put, List.getElem_toArray, List.getElem_cons_zero, List.getElem_cons_succ, List.setIfInBounds_toArray, List.set_cons_zero, List.set_cons_succ])
                refine wpAnyH_take (i := 6) (v := ?_) rfl (by kernel_rfl) (by kernel_rfl) (by kernel_rfl) (fun _ _ _ h => h) (Or.inl ⟨by kernel_rfl, ?_⟩) (by assumption) ?_
                rotate_left
                focus (intro w' hSw; (try dsimp only at hSw); go_simp; (try with_reducible rfl))
                (try simp only [Act.put, List.getElem_toArray, List.getElem_cons_zero, List.getElem_cons_succ, List.setIfInBounds_toArray, List.set_cons_zero, List.set_cons_succ])
                refine wpAnyH_take (i := 7) (v := ?_) rfl (by kernel_rfl) (by kernel_rfl) (by kernel_rfl) (fun _ _ _ h => h) (Or.inl ⟨by kernel_rfl, ?_⟩) (by assumption) ?_
                rotate_left
                focus (intro w' hSw; (try dsimp only at hSw); go_simp; (try with_reducible rfl))
                (try simp only [Act.put, List.getElem_toArray, List.getElem_cons_zero, List.getElem_cons_succ, List.setIfInBounds_toArray, List.set_cons_zero, List.set_cons_succ])
                refine wpAnyH_ready (rs := [8]) (by kernel_rfl) (by simp) ?_
                refine AllReadyH.cons rfl (fun K hK => ?_) (AllReadyH.nil)
                go_simp
                refine hK.out _ _ (by (try dsimp only); exact ⟨Kept.alloc Q3.out _⟩) (fun hHeld => ?_)
                clear hK K
                (try simp only [Act.put, List.getElem_toArray, List.getElem_cons_zero, List.getElem_cons_succ, List.setIfInBounds_toArray, List.set_cons_zero, List.set_cons_succ])
                have Q4 := Lib.hid (Kept.alloc Q3.out (.cells #[.int .i64 0, .string { data := #[] }, .int .i64 0, .slice none 0 0] 26))
                have Z4 := Lib.hid (show (p3.alloc (.cells #[.int .i64 0, .string { data := #[] }, .int .i64 0, .slice none 0 0] 26)).cell? ⟨p3.heap.size, 0, none⟩ = some (.int .i64 0) ∧ (p3.alloc (.cells #[.int .i64 0, .string { data := #[] }, .int .i64 0, .slice none 0 0] 26)).frozen? ⟨p3.heap.size, 0, none⟩ = false ∧ (p3.alloc (.cells #[.int .i64 0, .string { data := #[] }, .int .i64 0, .slice none 0 0] 26)).cell? ⟨p3.heap.size, 1, none⟩ = some (.string { data := #[] }) ∧ (p3.alloc (.cells #[.int .i64 0, .string { data := #[] }, .int .i64 0, .slice none 0 0] 26)).frozen? ⟨p3.heap.size, 1, none⟩ = false ∧ (p3.alloc (.cells #[.int .i64 0, .string { data := #[] }, .int .i64 0, .slice none 0 0] 26)).cell? ⟨p3.heap.size, 2, none⟩ = some (.int .i64 0) ∧ (p3.alloc (.cells #[.int .i64 0, .string { data := #[] }, .int .i64 0, .slice none 0 0] 26)).frozen? ⟨p3.heap.size, 2, none⟩ = false ∧ (p3.alloc (.cells #[.int .i64 0, .string { data := #[] }, .int .i64 0, .slice none 0 0] 26)).cell? ⟨p3.heap.size, 3, none⟩ = some (.slice none 0 0) ∧ (p3.alloc (.cells #[.int .i64 0, .string { data := #[] }, .int .i64 0, .slice none 0 0] 26)).frozen? ⟨p3.heap.size, 3, none⟩ = false by simp [go_sem])
                have LT4 := Lib.hid (show p3.heap.size < (p3.alloc (.cells #[.int .i64 0, .string { data := #[] }, .int .i64 0, .slice none 0 0] 26)).heap.size by simp)
                have NE4 := Lib.hid (show some p3.heap.size ≠ (Value.slice A9 L.length c9).ownBlock from fun e => Nat.lt_irrefl _ (O3.out.lt _ e.symm).2)
                have O4 := Lib.hid (O3.out.alloc (.cells #[.int .i64 0, .string { data := #[] }, .int .i64 0, .slice none 0 0] 26))
                have LG4 := Lib.hid ((LG3).out.kept (Kept.alloc (Kept.refl p3) (.cells #[.int .i64 0, .string { data := #[] }, .int .i64 0, .slice none 0 0] 26)))
                generalize p3.alloc (.cells #[.int .i64 0, .string { data := #[] }, .int .i64 0, .slice none 0 0] 26) = p4 at *
                refine wpAnyH_ready (rs := [9]) (by kernel_rfl) (by simp) ?_
                refine AllReadyH.cons rfl (fun K hK => ?_) (AllReadyH.nil)
                obtain ⟨z0, zf0, z1, zf1, z2, zf2, z3, zf3⟩ := Z4.out
                skip
                go_simp
                have F1 := Lib.hid (show W11.heap.size ≤ p3.heap.size from Q3.out.size)
                have F2 := Lib.hid (show Kept W11 ((((p4.setCell ⟨p3.heap.size, 0, none⟩ (.int .i64 I)).setCell ⟨p3.heap.size, 1, none⟩ (.string NM)).setCell ⟨p3.heap.size, 2, none⟩ (.int .i64 Z)).setCell ⟨p3.heap.size, 3, none⟩ (.slice A9 L.length c9)) from (Kept.setCell (Kept.setCell (Kept.setCell (Kept.setCell Q4.out (p := ⟨p3.heap.size, 0, none⟩) F1.out (.int .i64 I)) (p := ⟨p3.heap.size, 1, none⟩) F1.out (.string NM)) (p := ⟨p3.heap.size, 2, none⟩) F1.out (.int .i64 Z)) (p := ⟨p3.heap.size, 3, none⟩) F1.out (.slice A9 L.length c9)))
                have F3 := Lib.hid (show G4 ((((p4.setCell ⟨p3.heap.size, 0, none⟩ (.int .i64 I)).setCell ⟨p3.heap.size, 1, none⟩ (.string NM)).setCell ⟨p3.heap.size, 2, none⟩ (.int .i64 Z)).setCell ⟨p3.heap.size, 3, none⟩ (.slice A9 L.length c9)) p3.heap.size (.int .i64 I) (.string NM) (.int .i64 Z) (.slice A9 L.length c9) by refine ⟨?_, ?_, ?_, ?_⟩ <;> simp [go_sem, *])
                have hne : (Value.slice A9 L.length c9).ownBlock ≠ some p3.heap.size := fun e => NE4.out e.symm
                have F4 := Lib.hid (show ((((p4.setCell ⟨p3.heap.size, 0, none⟩ (.int .i64 I)).setCell ⟨p3.heap.size, 1, none⟩ (.string NM)).setCell ⟨p3.heap.size, 2, none⟩ (.int .i64 Z)).setCell ⟨p3.heap.size, 3, none⟩ (.slice A9 L.length c9)).ownsRow W11.heap.size 28 2 (.slice A9 L.length c9) L.length (L.flatMap pairC) from (ownsRow_setCell_other (ownsRow_setCell_other (ownsRow_setCell_other (ownsRow_setCell_other (own_base O4.out Q2.out.size) (a := ⟨p3.heap.size, 0, none⟩) hne (.int .i64 I)) (a := ⟨p3.heap.size, 1, none⟩) hne (.string NM)) (a := ⟨p3.heap.size, 2, none⟩) hne (.int .i64 Z)) (a := ⟨p3.heap.size, 3, none⟩) hne (.slice A9 L.length c9)))
                have F5 := NE4
                refine hK.out _ _ (by (try dsimp only); exact ⟨F2.out⟩) (fun hHeld => ?_)
                clear hK K
                (try simp only [Act.put, List.getElem_toArray, List.getElem_cons_zero, List.getElem_cons_succ, List.setIfInBounds_toArray, List.set_cons_zero, List.set_cons_succ])
                clear z0 zf0 z1 zf1 z2 zf2 z3 zf3 hne
                refine wpAnyH_ready (rs := [10]) (by kernel_rfl) (by simp) ?_
                refine AllReadyH.cons rfl (fun K hK => ?_) (AllReadyH.nil)
                go_simp
                refine hK.out _ _ (by (try dsimp only); exact hHeld) (fun hHeld => ?_)
                clear hK K
                (try simp only [Act.put, List.getElem_toArray, List.getElem_cons_zero, List.getElem_cons_succ, List.setIfInBounds_toArray, List.set_cons_zero, List.set_cons_succ])
                refine wpAnyH_done (by kernel_rfl) ?_ _
                go_wp2_with fail
                go_meet
                exact ⟨_, A9, c9, rfl, rfl, F1.out, F2.out, F3.out, F4.out, F5.out⟩
              · skip
                go_simp
                refine hK.out _ _ (by (try dsimp only); exact ⟨Kept.alloc Q2.out _⟩) (fun hHeld => ?_)
                clear hK K
                (try simp only [Act.put, List.getElem_toArray, List.getElem_cons_zero, List.getElem_cons_succ, List.setIfInBounds_toArray, List.set_cons_zero, List.set_cons_succ])
                have Q7 := Lib.hid (Kept.alloc Q2.out (.cells #[.int .i64 0, .string { data := #[] }, .int .i64 0, .slice none 0 0] 26))
                have Z7 := Lib.hid (show (p2.alloc (.cells #[.int .i64 0, .string { data := #[] }, .int .i64 0, .slice none 0 0] 26)).cell? ⟨p2.heap.size, 0, none⟩ = some (.int .i64 0) ∧ (p2.alloc (.cells #[.int .i64 0, .string { data := #[] }, .int .i64 0, .slice none 0 0] 26)).frozen? ⟨p2.heap.size, 0, none⟩ = false ∧ (p2.alloc (.cells #[.int .i64 0, .string { data := #[] }, .int .i64 0, .slice none 0 0] 26)).cell? ⟨p2.heap.size, 1, none⟩ = some (.string { data := #[] }) ∧ (p2.alloc (.cells #[.int .i64 0, .string { data := #[] }, .int .i64 0, .slice none 0 0] 26)).frozen? ⟨p2.heap.size, 1, none⟩ = false ∧ (p2.alloc (.cells #[.int .i64 0, .string { data := #[] }, .int .i64 0, .slice none 0 0] 26)).cell? ⟨p2.heap.size, 2, none⟩ = some (.int .i64 0) ∧ (p2.alloc (.cells #[.int .i64 0, .string { data := #[] }, .int .i64 0, .slice none 0 0] 26)).frozen? ⟨p2.heap.size, 2, none⟩ = false ∧ (p2.alloc (.cells #[.int .i64 0, .string { data := #[] }, .int .i64 0, .slice none 0 0] 26)).cell? ⟨p2.heap.size, 3, none⟩ = some (.slice none 0 0) ∧ (p2.alloc (.cells #[.int .i64 0, .string { data := #[] }, .int .i64 0, .slice none 0 0] 26)).frozen? ⟨p2.heap.size, 3, none⟩ = false by simp [go_sem])
                have LT7 := Lib.hid (show p2.heap.size < (p2.alloc (.cells #[.int .i64 0, .string { data := #[] }, .int .i64 0, .slice none 0 0] 26)).heap.size by simp)
                have LG7 := Lib.hid ((LG2).out.kept (Kept.alloc (Kept.refl p2) (.cells #[.int .i64 0, .string { data := #[] }, .int .i64 0, .slice none 0 0] 26)))
                generalize p2.alloc (.cells #[.int .i64 0, .string { data := #[] }, .int .i64 0, .slice none 0 0] 26) = p7 at *
                refine wpAnyH_ready (rs := [4]) (by kernel_rfl) (by simp) ?_
                refine AllReadyH.cons rfl (fun K hK => ?_) (AllReadyH.nil)
                go_simp
                go_at_call 17
                refine (hI.out _ _ LG7.out).mono ?_
                rintro e p8 ⟨u9, rfl, ho9, k8⟩
                obtain ⟨A9, c9, rfl, -, -, -⟩ := own_form ho9
                have O8 := Lib.hid ho9
                clear ho9
                (try go_wp2_with fail)
                refine hK.out _ _ (by (try dsimp only); exact ⟨Q7.out.trans k8⟩) (fun hHeld => ?_)
                clear hK K
                (try simp only [Act.put, List.getElem_toArray, List.getElem_cons_zero, List.getElem_cons_succ, List.setIfInBounds_toArray, List.set_cons_zero, List.set_cons_succ])
                have Q8 := Lib.hid (Q7.out.trans k8)
                have Z8 := Lib.hid (blk4 k8 Z7.out)
                have LT8 := Lib.hid (Nat.lt_of_lt_of_le LT7.out k8.size)
                have NE8 := Lib.hid (show some p2.heap.size ≠ (Value.slice A9 L.length c9).ownBlock from fun e => by have h1 := (O8.out.lt _ e.symm).1; have h2 := LT7.out; omega)
                have LG8 := Lib.hid ((LG7).out.kept k8)
                clear k8
                refine wpAnyH_take (i := 5) (v := ?_) rfl (by kernel_rfl) (by kernel_rfl) (by kernel_rfl) (fun _ _ _ h => h) (Or.inl ⟨by kernel_rfl, ?_⟩) (by assumption) ?_
                rotate_left
                focus (intro w' hSw; (try dsimp only at hSw); go_simp; (try with_reducible rfl))
                (try simp only [Act.put, List.getElem_toArray, List.getElem_cons_zero, List.getElem_cons_succ, List.setIfInBounds_toArray, List.set_cons_zero, List.set_cons_succ])
                refine wpAnyH_take (i := 6) (v := ?_) rfl (by kernel_rfl) (by kernel_rfl) (by kernel_rfl) (fun _ _ _ h => h) (Or.inl ⟨by kernel_rfl, ?_⟩) (by assumption) ?_
                rotate_left
                focus (intro w' hSw; (try dsimp only at hSw); go_simp; (try with_reducible rfl))
                (try simp only [Act.put, List.getElem_toArray, List.getElem_cons_zero, List.getElem_cons_succ, List.setIfInBounds_toArray, List.set_cons_zero, List.set_cons_succ])
                refine wpAnyH_take (i := 7) (v := ?_) rfl (by kernel_rfl) (by kernel_rfl) (by kernel_rfl) (fun _ _ _ h => h) (Or.inl ⟨by kernel_rfl, ?_⟩) (by assumption) ?_
                rotate_left
                focus (intro w' hSw; (try dsimp only at hSw); go_simp; (try with_reducible rfl))
                (try simp only [Act.put, List.getElem_toArray, List.getElem_cons_zero, List.getElem_cons_succ, List.setIfInBounds_toArray, List.set_cons_zero, List.set_cons_succ])
                refine wpAnyH_ready (rs := [9]) (by kernel_rfl) (by simp) ?_
                refine AllReadyH.cons rfl (fun K hK => ?_) (AllReadyH.nil)
                obtain ⟨z0, zf0, z1, zf1, z2, zf2, z3, zf3⟩ := Z8.out
                skip
                go_simp
                have F1 := Lib.hid (show W11.heap.size ≤ p2.heap.size from Q2.out.size)
                have F2 := Lib.hid (show Kept W11 ((((p8.setCell ⟨p2.heap.size, 0, none⟩ (.int .i64 I)).setCell ⟨p2.heap.size, 1, none⟩ (.string NM)).setCell ⟨p2.heap.size, 2, none⟩ (.int .i64 Z)).setCell ⟨p2.heap.size, 3, none⟩ (.slice A9 L.length c9)) from (Kept.setCell (Kept.setCell (Kept.setCell (Kept.setCell Q8.out (p := ⟨p2.heap.size, 0, none⟩) F1.out (.int .i64 I)) (p := ⟨p2.heap.size, 1, none⟩) F1.out (.string NM)) (p := ⟨p2.heap.size, 2, none⟩) F1.out (.int .i64 Z)) (p := ⟨p2.heap.size, 3, none⟩) F1.out (.slice A9 L.length c9)))
                have F3 := Lib.hid (show G4 ((((p8.setCell ⟨p2.heap.size, 0, none⟩ (.int .i64 I)).setCell ⟨p2.heap.size, 1, none⟩ (.string NM)).setCell ⟨p2.heap.size, 2, none⟩ (.int .i64 Z)).setCell ⟨p2.heap.size, 3, none⟩ (.slice A9 L.length c9)) p2.heap.size (.int .i64 I) (.string NM) (.int .i64 Z) (.slice A9 L.length c9) by refine ⟨?_, ?_, ?_, ?_⟩ <;> simp [go_sem, *])
                have hne : (Value.slice A9 L.length c9).ownBlock ≠ some p2.heap.size := fun e => NE8.out e.symm
                have F4 := Lib.hid (show ((((p8.setCell ⟨p2.heap.size, 0, none⟩ (.int .i64 I)).setCell ⟨p2.heap.size, 1, none⟩ (.string NM)).setCell ⟨p2.heap.size, 2, none⟩ (.int .i64 Z)).setCell ⟨p2.heap.size, 3, none⟩ (.slice A9 L.length c9)).ownsRow W11.heap.size 28 2 (.slice A9 L.length c9) L.length (L.flatMap pairC) from (ownsRow_setCell_other (ownsRow_setCell_other (ownsRow_setCell_other (ownsRow_setCell_other (own_base O8.out Q7.out.size) (a := ⟨p2.heap.size, 0, none⟩) hne (.int .i64 I)) (a := ⟨p2.heap.size, 1, none⟩) hne (.string NM)) (a := ⟨p2.heap.size, 2, none⟩) hne (.int .i64 Z)) (a := ⟨p2.heap.size, 3, none⟩) hne (.slice A9 L.length c9)))
                have F5 := NE8
                refine hK.out _ _ (by (try dsimp only); exact ⟨F2.out⟩) (fun hHeld => ?_)
                clear hK K
                (try simp only [Act.put, List.getElem_toArray, List.getElem_cons_zero, List.getElem_cons_succ, List.setIfInBounds_toArray, List.set_cons_zero, List.set_cons_succ])
                clear z0 zf0 z1 zf1 z2 zf2 z3 zf3 hne
                refine wpAnyH_ready (rs := [10]) (by kernel_rfl) (by simp) ?_
                refine AllReadyH.cons rfl (fun K hK => ?_) (AllReadyH.nil)
                go_simp
                refine hK.out _ _ (by (try dsimp only); exact hHeld) (fun hHeld => ?_)
                clear hK K
                (try simp only [Act.put, List.getElem_toArray, List.getElem_cons_zero, List.getElem_cons_succ, List.setIfInBounds_toArray, List.set_cons_zero, List.set_cons_succ])
                refine wpAnyH_done (by kernel_rfl) ?_ _
                go_wp2_with fail
                go_meet
                exact ⟨_, A9, c9, rfl, rfl, F1.out, F2.out, F3.out, F4.out, F5.out⟩
            · skip
              go_simp
              refine hK.out _ _ (by (try dsimp only); exact ⟨Kept.alloc Q1.out _⟩) (fun hHeld => ?_)
              clear hK K
              (try simp only [Act.put, List.getElem_toArray, List.getElem_cons_zero, List.getElem_cons_succ, List.setIfInBounds_toArray, List.set_cons_zero, List.set_cons_succ])
              have Q11 := Lib.hid (Kept.alloc Q1.out (.cells #[.int .i64 0, .string { data := #[] }, .int .i64 0, .slice none 0 0] 26))
              have Z11 := Lib.hid (show (p1.alloc (.cells #[.int .i64 0, .string { data := #[] }, .int .i64 0, .slice none 0 0] 26)).cell? ⟨p1.heap.size, 0, none⟩ = some (.int .i64 0) ∧ (p1.alloc (.cells #[.int .i64 0, .string { data := #[] }, .int .i64 0, .slice none 0 0] 26)).frozen? ⟨p1.heap.size, 0, none⟩ = false ∧ (p1.alloc (.cells #[.int .i64 0, .string { data := #[] }, .int .i64 0, .slice none 0 0] 26)).cell? ⟨p1.heap.size, 1, none⟩ = some (.string { data := #[] }) ∧ (p1.alloc (.cells #[.int .i64 0, .string { data := #[] }, .int .i64 0, .slice none 0 0] 26)).frozen? ⟨p1.heap.size, 1, none⟩ = false ∧ (p1.alloc (.cells #[.int .i64 0, .string { data := #[] }, .int .i64 0, .slice none 0 0] 26)).cell? ⟨p1.heap.size, 2, none⟩ = some (.int .i64 0) ∧ (p1.alloc (.cells #[.int .i64 0, .string { data := #[] }, .int .i64 0, .slice none 0 0] 26)).frozen? ⟨p1.heap.size, 2, none⟩ = false ∧ (p1.alloc (.cells #[.int .i64 0, .string { data := #[] }, .int .i64 0, .slice none 0 0] 26)).cell? ⟨p1.heap.size, 3, none⟩ = some (.slice none 0 0) ∧ (p1.alloc (.cells #[.int .i64 0, .string { data := #[] }, .int .i64 0, .slice none 0 0] 26)).frozen? ⟨p1.heap.size, 3, none⟩ = false by simp [go_sem])
              have LT11 := Lib.hid (show p1.heap.size < (p1.alloc (.cells #[.int .i64 0, .string { data := #[] }, .int .i64 0, .slice none 0 0] 26)).heap.size by simp)
              have LG11 := Lib.hid ((LG1).out.kept (Kept.alloc (Kept.refl p1) (.cells #[.int .i64 0, .string { data := #[] }, .int .i64 0, .slice none 0 0] 26)))
              generalize p1.alloc (.cells #[.int .i64 0, .string { data := #[] }, .int .i64 0, .slice none 0 0] 26) = p11 at *
              refine wpAnyH_ready (rs := [3]) (by kernel_rfl) (by simp) ?_
              refine AllReadyH.cons rfl (fun K hK => ?_) (AllReadyH.nil)
              go_simp
              go_at_call 52
              refine (toReading_any rt rl _).mono ?_
              rintro e p12 ⟨rfl, k12⟩
              (try go_wp2_with fail)
              refine hK.out _ _ (by (try dsimp only); exact ⟨Q11.out.trans k12⟩) (fun hHeld => ?_)
              clear hK K
              (try simp only [Act.put, List.getElem_toArray, List.getElem_cons_zero, List.getElem_cons_succ, List.setIfInBounds_toArray, List.set_cons_zero, List.set_cons_succ])
              have Q12 := Lib.hid (Q11.out.trans k12)
              have Z12 := Lib.hid (blk4 k12 Z11.out)
              have LT12 := Lib.hid (Nat.lt_of_lt_of_le LT11.out k12.size)
              have LG12 := Lib.hid ((LG11).out.kept k12)
              clear k12
              refine wpAnyH_ready (rs := [4]) (by kernel_rfl) (by simp) ?_
              refine AllReadyH.cons rfl (fun K hK => ?_) (AllReadyH.nil)
              go_simp
              go_at_call 17
              refine (hI.out _ _ LG12.out).mono ?_
              rintro e p13 ⟨u9, rfl, ho9, k13⟩
              obtain ⟨A9, c9, rfl, -, -, -⟩ := own_form ho9
              have O13 := Lib.hid ho9
              clear ho9
              (try go_wp2_with fail)
              refine hK.out _ _ (by (try dsimp only); exact ⟨Q12.out.trans k13⟩) (fun hHeld => ?_)
              clear hK K
              (try simp only [Act.put, List.getElem_toArray, List.getElem_cons_zero, List.getElem_cons_succ, List.setIfInBounds_toArray, List.set_cons_zero, List.set_cons_succ])
              have Q13 := Lib.hid (Q12.out.trans k13)
              have Z13 := Lib.hid (blk4 k13 Z12.out)
              have LT13 := Lib.hid (Nat.lt_of_lt_of_le LT12.out k13.size)
              have NE13 := Lib.hid (show some p1.heap.size ≠ (Value.slice A9 L.length c9).ownBlock from fun e => by have h1 := (O13.out.lt _ e.symm).1; have h2 := LT12.out; omega)
              have LG13 := Lib.hid ((LG12).out.kept k13)
              clear k13
              refine wpAnyH_take (i := 5) (v := ?_) rfl (by kernel_rfl) (by kernel_rfl) (by kernel_rfl) (fun _ _ _ h => h) (Or.inl ⟨by kernel_rfl, ?_⟩) (by assumption) ?_
              rotate_left
              focus (intro w' hSw; (try dsimp only at hSw); go_simp; (try with_reducible rfl))
              (try simp only [Act.put, List.getElem_toArray, List.getElem_cons_zero, List.getElem_cons_succ, List.setIfInBounds_toArray, List.set_cons_zero, List.set_cons_succ])
              refine wpAnyH_take (i := 6) (v := ?_) rfl (by kernel_rfl) (by kernel_rfl) (by kernel_rfl) (fun _ _ _ h => h) (Or.inl ⟨by kernel_rfl, ?_⟩) (by assumption) ?_
              rotate_left
              focus (intro w' hSw; (try dsimp only at hSw); go_simp; (try with_reducible rfl))
              (try simp only [Act.put, List.getElem_toArray, List.getElem_cons_zero, List.getElem_cons_succ, List.setIfInBounds_toArray, List.set_cons_zero, List.set_cons_succ])
              refine wpAnyH_take (i := 7) (v := ?_) rfl (by kernel_rfl) (by kernel_rfl) (by kernel_rfl) (fun _ _ _ h => h) (Or.inl ⟨by kernel_rfl, ?_⟩) (by assumption) ?_
              rotate_left
              focus (intro w' hSw; (try dsimp only at hSw); go_simp; (try with_reducible rfl))
              (try simp only [Act.put, List.getElem_toArray, List.getElem_cons_zero, List.getElem_cons_succ, List.setIfInBounds_toArray, List.set_cons_zero, List.set_cons_succ])
              refine wpAnyH_ready (rs := [9]) (by kernel_rfl) (by simp) ?_
              refine AllReadyH.cons rfl (fun K hK => ?_) (AllReadyH.nil)
              obtain ⟨z0, zf0, z1, zf1, z2, zf2, z3, zf3⟩ := Z13.out
              skip
              go_simp
              have F1 := Lib.hid (show W11.heap.size ≤ p1.heap.size from Q1.out.size)
              have F2 := Lib.hid (show Kept W11 ((((p13.setCell ⟨p1.heap.size, 0, none⟩ (.int .i64 I)).setCell ⟨p1.heap.size, 1, none⟩ (.string NM)).setCell ⟨p1.heap.size, 2, none⟩ (.int .i64 Z)).setCell ⟨p1.heap.size, 3, none⟩ (.slice A9 L.length c9)) from (Kept.setCell (Kept.setCell (Kept.setCell (Kept.setCell Q13.out (p := ⟨p1.heap.size, 0, none⟩) F1.out (.int .i64 I)) (p := ⟨p1.heap.size, 1, none⟩) F1.out (.string NM)) (p := ⟨p1.heap.size, 2, none⟩) F1.out (.int .i64 Z)) (p := ⟨p1.heap.size, 3, none⟩) F1.out (.slice A9 L.length c9)))
              have F3 := Lib.hid (show G4 ((((p13.setCell ⟨p1.heap.size, 0, none⟩ (.int .i64 I)).setCell ⟨p1.heap.size, 1, none⟩ (.string NM)).setCell ⟨p1.heap.size, 2, none⟩ (.int .i64 Z)).setCell ⟨p1.heap.size, 3, none⟩ (.slice A9 L.length c9)) p1.heap.size (.int .i64 I) (.string NM) (.int .i64 Z) (.slice A9 L.length c9) by refine ⟨?_, ?_, ?_, ?_⟩ <;> simp [go_sem, *])
              have hne : (Value.slice A9 L.length c9).ownBlock ≠ some p1.heap.size := fun e => NE13.out e.symm
              have F4 := Lib.hid (show ((((p13.setCell ⟨p1.heap.size, 0, none⟩ (.int .i64 I)).setCell ⟨p1.heap.size, 1, none⟩ (.string NM)).setCell ⟨p1.heap.size, 2, none⟩ (.int .i64 Z)).setCell ⟨p1.heap.size, 3, none⟩ (.slice A9 L.length c9)).ownsRow W11.heap.size 28 2 (.slice A9 L.length c9) L.length (L.flatMap pairC) from (ownsRow_setCell_other (ownsRow_setCell_other (ownsRow_setCell_other (ownsRow_setCell_other (own_base O13.out Q12.out.size) (a := ⟨p1.heap.size, 0, none⟩) hne (.int .i64 I)) (a := ⟨p1.heap.size, 1, none⟩) hne (.string NM)) (a := ⟨p1.heap.size, 2, none⟩) hne (.int .i64 Z)) (a := ⟨p1.heap.size, 3, none⟩) hne (.slice A9 L.length c9)))
              have F5 := NE13
              refine hK.out _ _ (by (try dsimp only); exact ⟨F2.out⟩) (fun hHeld => ?_)
              clear hK K
              (try simp only [Act.put, List.getElem_toArray, List.getElem_cons_zero, List.getElem_cons_succ, List.setIfInBounds_toArray, List.set_cons_zero, List.set_cons_succ])
              clear z0 zf0 z1 zf1 z2 zf2 z3 zf3 hne
              refine wpAnyH_ready (rs := [10]) (by kernel_rfl) (by simp) ?_
              refine AllReadyH.cons rfl (fun K hK => ?_) (AllReadyH.nil)
              go_simp
              refine hK.out _ _ (by (try dsimp only); exact hHeld) (fun hHeld => ?_)
              clear hK K
              (try simp only [Act.put, List.getElem_toArray, List.getElem_cons_zero, List.getElem_cons_succ, List.setIfInBounds_toArray, List.set_cons_zero, List.set_cons_succ])
              refine wpAnyH_done (by kernel_rfl) ?_ _
              go_wp2_with fail
              go_meet
              exact ⟨_, A9, c9, rfl, rfl, F1.out, F2.out, F3.out, F4.out, F5.out⟩
          · skip
            go_simp
            refine hK.out _ _ (by (try dsimp only); exact ⟨Kept.alloc Q0.out _⟩) (fun hHeld => ?_)
            clear hK K
            (try simp only [Act.put, List.getElem_toArray, List.getElem_cons_zero, List.getElem_cons_succ, List.setIfInBounds_toArray, List.set_cons_zero, List.set_cons_succ])
            have Q16 := Lib.hid (Kept.alloc Q0.out (.cells #[.int .i64 0, .string { data := #[] }, .int .i64 0, .slice none 0 0] 26))
            have Z16 := Lib.hid (show (p0.alloc (.cells #[.int .i64 0, .string { data := #[] }, .int .i64 0, .slice none 0 0] 26)).cell? ⟨p0.heap.size, 0, none⟩ = some (.int .i64 0) ∧ (p0.alloc (.cells #[.int .i64 0, .string { data := #[] }, .int .i64 0, .slice none 0 0] 26)).frozen? ⟨p0.heap.size, 0, none⟩ = false ∧ (p0.alloc (.cells #[.int .i64 0, .string { data := #[] }, .int .i64 0, .slice none 0 0] 26)).cell? ⟨p0.heap.size, 1, none⟩ = some (.string { data := #[] }) ∧ (p0.alloc (.cells #[.int .i64 0, .string { data := #[] }, .int .i64 0, .slice none 0 0] 26)).frozen? ⟨p0.heap.size, 1, none⟩ = false ∧ (p0.alloc (.cells #[.int .i64 0, .string { data := #[] }, .int .i64 0, .slice none 0 0] 26)).cell? ⟨p0.heap.size, 2, none⟩ = some (.int .i64 0) ∧ (p0.alloc (.cells #[.int .i64 0, .string { data := #[] }, .int .i64 0, .slice none 0 0] 26)).frozen? ⟨p0.heap.size, 2, none⟩ = false ∧ (p0.alloc (.cells #[.int .i64 0, .string { data := #[] }, .int .i64 0, .slice none 0 0] 26)).cell? ⟨p0.heap.size, 3, none⟩ = some (.slice none 0 0) ∧ (p0.alloc (.cells #[.int .i64 0, .string { data := #[] }, .int .i64 0, .slice none 0 0] 26)).frozen? ⟨p0.heap.size, 3, none⟩ = false by simp [go_sem])
            have LT16 := Lib.hid (show p0.heap.size < (p0.alloc (.cells #[.int .i64 0, .string { data := #[] }, .int .i64 0, .slice none 0 0] 26)).heap.size by simp)
            generalize p0.alloc (.cells #[.int .i64 0, .string { data := #[] }, .int .i64 0, .slice none 0 0] 26) = p16 at *
            refine wpAnyH_ready (rs := [1]) (by kernel_rfl) (by simp) ?_
            refine AllReadyH.cons rfl (fun K hK => ?_) (AllReadyH.nil)
            go_simp
            go_at_call 33
            refine (toGauge_any _ _ _ _ _ _ (HL.out.kept (K011.out.trans Q16.out)) hn).mono ?_
            rintro e p17 ⟨ug17, rfl, hug17, k17⟩
            have LG17 := Lib.hid (pairs_own hug17)
            clear hug17
            (try go_wp2_with fail)
            refine hK.out _ _ (by (try dsimp only); exact ⟨Q16.out.trans k17⟩) (fun hHeld => ?_)
            clear hK K
            (try simp only [Act.put, List.getElem_toArray, List.getElem_cons_zero, List.getElem_cons_succ, List.setIfInBounds_toArray, List.set_cons_zero, List.set_cons_succ])
            have Q17 := Lib.hid (Q16.out.trans k17)
            have Z17 := Lib.hid (blk4 k17 Z16.out)
            have LT17 := Lib.hid (Nat.lt_of_lt_of_le LT16.out k17.size)
            clear k17
            refine wpAnyH_ready (rs := [3]) (by kernel_rfl) (by simp) ?_
            refine AllReadyH.cons rfl (fun K hK => ?_) (AllReadyH.nil)
            go_simp
            go_at_call 52
            refine (toReading_any rt rl _).mono ?_
            rintro e p18 ⟨rfl, k18⟩
            (try go_wp2_with fail)
            refine hK.out _ _ (by (try dsimp only); exact ⟨Q17.out.trans k18⟩) (fun hHeld => ?_)
            clear hK K
            (try simp only [Act.put, List.getElem_toArray, List.getElem_cons_zero, List.getElem_cons_succ, List.setIfInBounds_toArray, List.set_cons_zero, List.set_cons_succ])
            have Q18 := Lib.hid (Q17.out.trans k18)
            have Z18 := Lib.hid (blk4 k18 Z17.out)
            have LT18 := Lib.hid (Nat.lt_of_lt_of_le LT17.out k18.size)
            have LG18 := Lib.hid ((LG17).out.kept k18)
            clear k18
            refine wpAnyH_ready (rs := [4]) (by kernel_rfl) (by simp) ?_
            refine AllReadyH.cons rfl (fun K hK => ?_) (AllReadyH.nil)
            go_simp
            go_at_call 17
            refine (hI.out _ _ LG18.out).mono ?_
            rintro e p19 ⟨u9, rfl, ho9, k19⟩
            obtain ⟨A9, c9, rfl, -, -, -⟩ := own_form ho9
            have O19 := Lib.hid ho9
            clear ho9
            (try go_wp2_with fail)
            refine hK.out _ _ (by (try dsimp only); exact ⟨Q18.out.trans k19⟩) (fun hHeld => ?_)
            clear hK K
            (try simp only [Act.put, List.getElem_toArray, List.getElem_cons_zero, List.getElem_cons_succ, List.setIfInBounds_toArray, List.set_cons_zero, List.set_cons_succ])
            have Q19 := Lib.hid (Q18.out.trans k19)
            have Z19 := Lib.hid (blk4 k19 Z18.out)
            have LT19 := Lib.hid (Nat.lt_of_lt_of_le LT18.out k19.size)
            have NE19 := Lib.hid (show some p0.heap.size ≠ (Value.slice A9 L.length c9).ownBlock from fun e => by have h1 := (O19.out.lt _ e.symm).1; have h2 := LT18.out; omega)
            have LG19 := Lib.hid ((LG18).out.kept k19)
            clear k19
            refine wpAnyH_take (i := 5) (v := ?_) rfl (by kernel_rfl) (by kernel_rfl) (by kernel_rfl) (fun _ _ _ h => h) (Or.inl ⟨by kernel_rfl, ?_⟩) (by assumption) ?_
            rotate_left
            focus (intro w' hSw; (try dsimp only at hSw); go_simp; (try with_reducible rfl))
            (try simp only [Act.put, List.getElem_toArray, List.getElem_cons_zero, List.getElem_cons_succ, List.setIfInBounds_toArray, List.set_cons_zero, List.set_cons_succ])
            refine wpAnyH_take (i := 6) (v := ?_) rfl (by kernel_rfl) (by kernel_rfl) (by kernel_rfl) (fun _ _ _ h => h) (Or.inl ⟨by kernel_rfl, ?_⟩) (by assumption) ?_
            rotate_left
            focus (intro w' hSw; (try dsimp only at hSw); go_simp; (try with_reducible rfl))
            (try simp only [Act.put, List.getElem_toArray, List.getElem_cons_zero, List.getElem_cons_succ, List.setIfInBounds_toArray, List.set_cons_zero, List.set_cons_succ])
            refine wpAnyH_take (i := 7) (v := ?_) rfl (by kernel_rfl) (by kernel_rfl) (by kernel_rfl) (fun _ _ _ h => h) (Or.inl ⟨by kernel_rfl, ?_⟩) (by assumption) ?_
            rotate_left
            focus (intro w' hSw; (try dsimp only at hSw); go_simp; (try with_reducible rfl))
            (try simp only [Act.put, List.getElem_toArray, List.getElem_cons_zero, List.getElem_cons_succ, List.setIfInBounds_toArray, List.set_cons_zero, List.set_cons_succ])
            refine wpAnyH_ready (rs := [9]) (by kernel_rfl) (by simp) ?_
            refine AllReadyH.cons rfl (fun K hK => ?_) (AllReadyH.nil)
            obtain ⟨z0, zf0, z1, zf1, z2, zf2, z3, zf3⟩ := Z19.out
            skip
            go_simp
            have F1 := Lib.hid (show W11.heap.size ≤ p0.heap.size from Q0.out.size)
            have F2 := Lib.hid (show Kept W11 ((((p19.setCell ⟨p0.heap.size, 0, none⟩ (.int .i64 I)).setCell ⟨p0.heap.size, 1, none⟩ (.string NM)).setCell ⟨p0.heap.size, 2, none⟩ (.int .i64 Z)).setCell ⟨p0.heap.size, 3, none⟩ (.slice A9 L.length c9)) from (Kept.setCell (Kept.setCell (Kept.setCell (Kept.setCell Q19.out (p := ⟨p0.heap.size, 0, none⟩) F1.out (.int .i64 I)) (p := ⟨p0.heap.size, 1, none⟩) F1.out (.string NM)) (p := ⟨p0.heap.size, 2, none⟩) F1.out (.int .i64 Z)) (p := ⟨p0.heap.size, 3, none⟩) F1.out (.slice A9 L.length c9)))
            have F3 := Lib.hid (show G4 ((((p19.setCell ⟨p0.heap.size, 0, none⟩ (.int .i64 I)).setCell ⟨p0.heap.size, 1, none⟩ (.string NM)).setCell ⟨p0.heap.size, 2, none⟩ (.int .i64 Z)).setCell ⟨p0.heap.size, 3, none⟩ (.slice A9 L.length c9)) p0.heap.size (.int .i64 I) (.string NM) (.int .i64 Z) (.slice A9 L.length c9) by refine ⟨?_, ?_, ?_, ?_⟩ <;> simp [go_sem, *])
            have hne : (Value.slice A9 L.length c9).ownBlock ≠ some p0.heap.size := fun e => NE19.out e.symm
            have F4 := Lib.hid (show ((((p19.setCell ⟨p0.heap.size, 0, none⟩ (.int .i64 I)).setCell ⟨p0.heap.size, 1, none⟩ (.string NM)).setCell ⟨p0.heap.size, 2, none⟩ (.int .i64 Z)).setCell ⟨p0.heap.size, 3, none⟩ (.slice A9 L.length c9)).ownsRow W11.heap.size 28 2 (.slice A9 L.length c9) L.length (L.flatMap pairC) from (ownsRow_setCell_other (ownsRow_setCell_other (ownsRow_setCell_other (ownsRow_setCell_other (own_base O19.out Q18.out.size) (a := ⟨p0.heap.size, 0, none⟩) hne (.int .i64 I)) (a := ⟨p0.heap.size, 1, none⟩) hne (.string NM)) (a := ⟨p0.heap.size, 2, none⟩) hne (.int .i64 Z)) (a := ⟨p0.heap.size, 3, none⟩) hne (.slice A9 L.length c9)))
            have F5 := NE19
            refine hK.out _ _ (by (try dsimp only); exact ⟨F2.out⟩) (fun hHeld => ?_)
            clear hK K
            (try simp only [Act.put, List.getElem_toArray, List.getElem_cons_zero, List.getElem_cons_succ, List.setIfInBounds_toArray, List.set_cons_zero, List.set_cons_succ])
            clear z0 zf0 z1 zf1 z2 zf2 z3 zf3 hne
            refine wpAnyH_ready (rs := [10]) (by kernel_rfl) (by simp) ?_
            refine AllReadyH.cons rfl (fun K hK => ?_) (AllReadyH.nil)
            go_simp
            refine hK.out _ _ (by (try dsimp only); exact hHeld) (fun hHeld => ?_)
            clear hK K
            (try simp only [Act.put, List.getElem_toArray, List.getElem_cons_zero, List.getElem_cons_succ, List.setIfInBounds_toArray, List.set_cons_zero, List.set_cons_succ])
            refine wpAnyH_done (by kernel_rfl) ?_ _
            go_wp2_with fail
            go_meet
            exact ⟨_, A9, c9, rfl, rfl, F1.out, F2.out, F3.out, F4.out, F5.out⟩
        case rest =>
          obtain ⟨g14, AH, ch, rfl, rfl, hg14, k13, gh, hoh, n14⟩ := hcut
          have K13 := Lib.hid k13
          have GH := Lib.hid gh
          have HOH := Lib.hid hoh
          clear k13 gh hoh n14
          have x0 := (GH.out).1
          have x1 := (GH.out).2.1
          have x2 := (GH.out).2.2.1
          have x3 := (GH.out).2.2.2
          have y0 := (GW10.out.kept (K11.out.trans K13.out)).1
          have y1 := (GW10.out.kept (K11.out.trans K13.out)).2.1
          have y2 := (GW10.out.kept (K11.out.trans K13.out)).2.2.1
          have y3 := (GW10.out.kept (K11.out.trans K13.out)).2.2.2
          go_wp2_with fail
          refine (eqGauge_any _ _ _ _ _ _ _ (pairs_own HOH.out) ((pairs_own HOW10.out).kept (K11.out.trans K13.out))).mono ?_
          rintro e W14 ⟨rfl, k14⟩
          have K14 := Lib.hid k14
          clear k14 x0 x1 x2 x3 y0 y1 y2 y3
          have x0 := (GG10.out.kept (K11.out.trans (K13.out.trans K14.out))).1
          have x1 := (GG10.out.kept (K11.out.trans (K13.out.trans K14.out))).2.1
          have x2 := (GG10.out.kept (K11.out.trans (K13.out.trans K14.out))).2.2.1
          have x3 := (GG10.out.kept (K11.out.trans (K13.out.trans K14.out))).2.2.2
          go_wp2_with fail
          refine (heldGauge_any _ _ _ _ _ _ _ _ (own_kept HMG.out (K11.out.trans (K13.out.trans K14.out))) hgl).mono ?_
          rintro e W15 ⟨rfl, k15⟩
          have K15 := Lib.hid k15
          clear k15
          go_wp2_with fail
          go_ret
          exact ⟨rfl, K10.out.trans (K11.out.trans (K13.out.trans (K14.out.trans K15.out)))⟩

theorem ad_bd (id : Int) (nm : ByteArray) (z : Int) (xs : List (Int × Int)) (rt rl : Int) : (adV id nm z xs rt rl).length ≤ 1048576 := by
  unfold adV
  split
  · rename_i h
    simp only [adOk, Bool.and_eq_true] at h
    have := (gaugeB_1 h.2).2.2.1
    omega
  · simp
theorem lawAddReading (id : Int) (nm : ByteArray) (z : Int) (v : Value) (xs : List (Int × Int)) (hs : nm.size ≤ maxLen) (rt rl : Int) (w : World) (hL : Lies w 2 pairC v xs) : Calls Try.prog 11 #[.agg #[.int .i64 id, .string nm, .int .i64 z, v], .agg #[.int .i64 rt, .int .i64 rl]] w fun e w' => e = .returned (.bool true) ∧ Kept w w' :=
  lawAdd1 id nm z v xs hs rt rl w hL _ _ _ _ (adV id nm z xs rt rl) (ad_bd _ _ _ _ _ _) (Lib.hid fun W u h => sAddReading_any id nm z u xs rt rl hs W h) (Lib.hid fun W u h => addReading_any id nm z u xs rt rl hs W h)
end Go.Proofs.Ytopdnhlolfehcaa

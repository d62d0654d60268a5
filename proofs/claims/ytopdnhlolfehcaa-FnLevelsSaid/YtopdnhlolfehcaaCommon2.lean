/-
  Contracts of commonTimes and sumInts, and of the reference's l3Common.
  Conditions: none.
-/
import Derived.Test.YtopdnhlolfehcaaCommon
import Derived.BigRegion
namespace Go.Proofs.Ytopdnhlolfehcaa
open Go.ChangeShapes Go.WideShapes Go.ChangeAt Go.RowKit
set_option linter.unusedVariables false
set_option linter.unusedSimpArgs false

theorem cell_of_grown {a b : World} {row : Option Nat} (h : a.grownBy b row) {p : Addr} {v : Value} (hp : ∀ k, row = some k → p.block ≠ k) (hc : a.cell? p = some v) : b.cell? p = some v :=
  h.cell hc (by intro e; exact hp _ e.symm rfl)
theorem own_row_ge1 {a : World} {base size n : Nat} {e : TypeId} {v : Value} {xs : List Value} (ho : a.ownsRow base e size v n xs) : ∀ k, v.ownBlock = some k → base ≤ k := fun k hk => (ho.lt k hk).1
theorem ob_of {v v' : Value} {b n : Nat} (h : v'.ownBlock = v.ownBlock ∨ v'.ownBlock = some n) (hv : v.ownBlock = some b) : ∃ b', v'.ownBlock = some b' ∧ (b' = b ∨ b' = n) := by
  rcases h with e | e
  · exact ⟨b, by rw [e, hv], Or.inl rfl⟩
  · exact ⟨n, e, Or.inr rfl⟩
set_option maxRecDepth 100000 in
set_option maxHeartbeats 4000000 in
theorem commonTimes_any (id : Int) (nm : ByteArray) (z : Int) (v1 : Value) (xs : List (Int × Int)) (id2 : Int) (nm2 : ByteArray) (z2 : Int) (v2 : Value) (ys : List (Int × Int)) (w : World) (hL : Lies w 2 pairC v1 xs) (hM : Lies w 2 pairC v2 ys) (hB1 : gaugeB id nm z xs = true) (hB2 : gaugeB id2 nm2 z2 ys = true) :
    Calls Try.prog 91 #[.agg #[.int .i64 id, .string nm, .int .i64 z, v1], .agg #[.int .i64 id2, .string nm2, .int .i64 z2, v2]] w fun e w' => ∃ u1 u2 u3, e = .returned (.tuple #[u1, u2, u3]) ∧
      w'.ownsRow w.heap.size 3 1 u1 (cmT xs ys xs.length).length ((cmT xs ys xs.length).flatMap intC) ∧ w'.ownsRow w.heap.size 3 1 u2 (cmF xs ys z xs.length).length ((cmF xs ys z xs.length).flatMap intC) ∧ w'.ownsRow w.heap.size 3 1 u3 (cmS xs ys z2 xs.length).length ((cmS xs ys z2 xs.length).flatMap intC) ∧ Kept w w' := by
  obtain ⟨i0, hi0, hz0, hz1, hz2⟩ := info_parts infoInt
  have HM := Lib.hid hM
  obtain ⟨A1, c1, rfl, hlc, hcm, hA⟩ := lies_pairs hL
  obtain ⟨A2, c2, rfl, -, -, -⟩ := lies_pairs hM
  have HA := Lib.hid hA
  have HB2 := Lib.hid hB2
  have HB1 := Lib.hid hB1
  obtain ⟨-, ⟨za0, za1⟩, hn15, -⟩ := gaugeB_1 hB1
  clear hL hM hA hB2 hB1
  have K0 : Hid (Kept w ((w.alloc (.cells #[.int .i64 id, .string nm, .int .i64 z, .slice A1 xs.length c1] 26)).alloc (.cells #[.int .i64 id2, .string nm2, .int .i64 z2, .slice A2 ys.length c2] 26))) := Lib.hid (by (repeat (first | exact Kept.refl _ | assumption | refine Kept.alloc ?_ _ | refine Kept.drew ?_ | refine Kept.drewN ?_ _ | refine Kept.setCell ?_ (by first | (simp; done) | (simp; omega) | omega | exact Kept.size (by (repeat (first | exact Kept.refl _ | assumption | refine Kept.alloc ?_ _ | refine Kept.drew ?_ | refine Kept.drewN ?_ _ | refine Kept.trans ?_ (by assumption))))) _ | refine Kept.trans ?_ (by assumption))))
  go_enter Try.func91, Try.ntmps91
  have E1 : Hid (((((w.alloc (.cells #[.int .i64 id, .string nm, .int .i64 z, .slice A1 xs.length c1] 26)).alloc (.cells #[.int .i64 id2, .string nm2, .int .i64 z2, .slice A2 ys.length c2] 26)).alloc (.cells #[] 3)).alloc (.cells #[] 3)).alloc (.cells #[] 3) |>.ownsRow (w.heap.size + 1 + 1) 3 1 (.slice (some ⟨w.heap.size + 1 + 1, 0, none⟩) 0 0) 0 []) := Lib.hid (by
    have hq := own_kept (World.ownsRow_lit (e := 3) (size := 1) ((w.alloc (.cells #[.int .i64 id, .string nm, .int .i64 z, .slice A1 xs.length c1] 26)).alloc (.cells #[.int .i64 id2, .string nm2, .int .i64 z2, .slice A2 ys.length c2] 26)) #[] 0 (Nat.le_refl _) (by simp [maxLen]) rfl) (show Kept _ (((((w.alloc (.cells #[.int .i64 id, .string nm, .int .i64 z, .slice A1 xs.length c1] 26)).alloc (.cells #[.int .i64 id2, .string nm2, .int .i64 z2, .slice A2 ys.length c2] 26)).alloc (.cells #[] 3)).alloc (.cells #[] 3)).alloc (.cells #[] 3)) from by (repeat (first | exact Kept.refl _ | assumption | refine Kept.alloc ?_ _ | refine Kept.drew ?_ | refine Kept.drewN ?_ _ | refine Kept.setCell ?_ (by first | (simp; done) | (simp; omega) | omega | exact Kept.size (by (repeat (first | exact Kept.refl _ | assumption | refine Kept.alloc ?_ _ | refine Kept.drew ?_ | refine Kept.drewN ?_ _ | refine Kept.trans ?_ (by assumption))))) _ | refine Kept.trans ?_ (by assumption))))
    have hq2 := own_base (base' := w.heap.size + 1 + 1) hq (by first | (simp; done) | (simp; omega))
    simpa only [World.size_alloc] using hq2)
  have E2 : Hid (((((w.alloc (.cells #[.int .i64 id, .string nm, .int .i64 z, .slice A1 xs.length c1] 26)).alloc (.cells #[.int .i64 id2, .string nm2, .int .i64 z2, .slice A2 ys.length c2] 26)).alloc (.cells #[] 3)).alloc (.cells #[] 3)).alloc (.cells #[] 3) |>.ownsRow (w.heap.size + 1 + 1) 3 1 (.slice (some ⟨w.heap.size + 1 + 1 + 1, 0, none⟩) 0 0) 0 []) := Lib.hid (by
    have hq := own_kept (World.ownsRow_lit (e := 3) (size := 1) (((w.alloc (.cells #[.int .i64 id, .string nm, .int .i64 z, .slice A1 xs.length c1] 26)).alloc (.cells #[.int .i64 id2, .string nm2, .int .i64 z2, .slice A2 ys.length c2] 26)).alloc (.cells #[] 3)) #[] 0 (Nat.le_refl _) (by simp [maxLen]) rfl) (show Kept _ (((((w.alloc (.cells #[.int .i64 id, .string nm, .int .i64 z, .slice A1 xs.length c1] 26)).alloc (.cells #[.int .i64 id2, .string nm2, .int .i64 z2, .slice A2 ys.length c2] 26)).alloc (.cells #[] 3)).alloc (.cells #[] 3)).alloc (.cells #[] 3)) from by (repeat (first | exact Kept.refl _ | assumption | refine Kept.alloc ?_ _ | refine Kept.drew ?_ | refine Kept.drewN ?_ _ | refine Kept.setCell ?_ (by first | (simp; done) | (simp; omega) | omega | exact Kept.size (by (repeat (first | exact Kept.refl _ | assumption | refine Kept.alloc ?_ _ | refine Kept.drew ?_ | refine Kept.drewN ?_ _ | refine Kept.trans ?_ (by assumption))))) _ | refine Kept.trans ?_ (by assumption))))
    have hq2 := own_base (base' := w.heap.size + 1 + 1) hq (by first | (simp; done) | (simp; omega))
    simpa only [World.size_alloc] using hq2)
  have E3 : Hid (((((w.alloc (.cells #[.int .i64 id, .string nm, .int .i64 z, .slice A1 xs.length c1] 26)).alloc (.cells #[.int .i64 id2, .string nm2, .int .i64 z2, .slice A2 ys.length c2] 26)).alloc (.cells #[] 3)).alloc (.cells #[] 3)).alloc (.cells #[] 3) |>.ownsRow (w.heap.size + 1 + 1) 3 1 (.slice (some ⟨w.heap.size + 1 + 1 + 1 + 1, 0, none⟩) 0 0) 0 []) := Lib.hid (by
    have hq := World.ownsRow_lit (e := 3) (size := 1) ((((w.alloc (.cells #[.int .i64 id, .string nm, .int .i64 z, .slice A1 xs.length c1] 26)).alloc (.cells #[.int .i64 id2, .string nm2, .int .i64 z2, .slice A2 ys.length c2] 26)).alloc (.cells #[] 3)).alloc (.cells #[] 3)) #[] 0 (Nat.le_refl _) (by simp [maxLen]) rfl
    have hq2 := own_base (base' := w.heap.size + 1 + 1) hq (by first | (simp; done) | (simp; omega))
    simpa only [World.size_alloc] using hq2)
  go_wp2_with fail
  go_loopw [7, 8, 9, 20] (fun v7 v8 v9 i wr => ∃ (k b1 b2 b3 : Nat), k ≤ xs.length ∧ i = .int .i64 (k : Int) ∧ Kept ((w.alloc (.cells #[.int .i64 id, .string nm, .int .i64 z, .slice A1 xs.length c1] 26)).alloc (.cells #[.int .i64 id2, .string nm2, .int .i64 z2, .slice A2 ys.length c2] 26)) wr ∧
    wr.ownsRow (w.heap.size + 1 + 1) 3 1 v7 (cmT xs ys k).length ((cmT xs ys k).flatMap intC) ∧ wr.ownsRow (w.heap.size + 1 + 1) 3 1 v8 (cmF xs ys z k).length ((cmF xs ys z k).flatMap intC) ∧ wr.ownsRow (w.heap.size + 1 + 1) 3 1 v9 (cmS xs ys z2 k).length ((cmS xs ys z2 k).flatMap intC) ∧
    v7.ownBlock = some b1 ∧ v8.ownBlock = some b2 ∧ v9.ownBlock = some b3 ∧ b1 ≠ b2 ∧ b1 ≠ b3 ∧ b2 ≠ b3) (fun _ _ _ i _ => xs.length - (intOf i).toNat)
  case atStart => exact ⟨0, w.heap.size + 1 + 1, w.heap.size + 1 + 1 + 1, w.heap.size + 1 + 1 + 1 + 1, by omega, rfl, by (repeat (first | exact Kept.refl _ | assumption | refine Kept.alloc ?_ _ | refine Kept.drew ?_ | refine Kept.drewN ?_ _ | refine Kept.setCell ?_ (by first | (simp; done) | (simp; omega) | omega | exact Kept.size (by (repeat (first | exact Kept.refl _ | assumption | refine Kept.alloc ?_ _ | refine Kept.drew ?_ | refine Kept.drewN ?_ _ | refine Kept.trans ?_ (by assumption))))) _ | refine Kept.trans ?_ (by assumption))), E1.out, E2.out, E3.out, rfl, rfl, rfl, by omega, by omega, by omega⟩
  case round =>
    clear E1 E2 E3
    obtain ⟨k, b1, b2, b3, hk, rfl, hkw, ho1, ho2, ho3, hb1, hb2, hb3, h12, h13, h23⟩ := hrel
    obtain ⟨A7, c7, rfl, -, -, -⟩ := own_form ho1
    obtain ⟨A8, c8, rfl, -, -, -⟩ := own_form ho2
    obtain ⟨A9, c9, rfl, -, -, -⟩ := own_form ho3
    have l1 := (ho1.lt b1 hb1).2
    have l2 := (ho2.lt b2 hb2).2
    have l3 := (ho3.lt b3 hb3).2
    have HO1 := Lib.hid ho1
    have HO2 := Lib.hid ho2
    have HO3 := Lib.hid ho3
    have HK := Lib.hid hkw
    have HB1' := Lib.hid hb1
    have HB2' := Lib.hid hb2
    have HB3' := Lib.hid hb3
    have zs := hkw.size
    simp only [World.size_alloc] at zs
    have t1 : (cmT xs ys k).length ≤ k := by have := cm_len xs ys k; simpa [cmT] using this
    have t2 : (cmF xs ys z k).length ≤ k := by have := cm_len xs ys k; simpa [cmF] using this
    have t3 : (cmS xs ys z2 k).length ≤ k := by have := cm_len xs ys k; simpa [cmS] using this
    clear ho1 ho2 ho3 hb1 hb2 hb3
    by_cases hlt : k < xs.length
    · obtain ⟨b, off, rfl, hc⟩ := HA.out (by omega)
      have ca := HK.out.keep ((K0.out).keep (hc k hlt).1)
      have cb := HK.out.keep ((K0.out).keep (hc k hlt).2)
      have g0 := HK.out.keep (show ((w.alloc (.cells #[.int .i64 id, .string nm, .int .i64 z, .slice (some ⟨b, off, none⟩) xs.length c1] 26)).alloc (.cells #[.int .i64 id2, .string nm2, .int .i64 z2, .slice A2 ys.length c2] 26)).cell? ⟨w.heap.size + 1, 0, none⟩ = some (.int .i64 id2) by simp [go_sem])
      have g1 := HK.out.keep (show ((w.alloc (.cells #[.int .i64 id, .string nm, .int .i64 z, .slice (some ⟨b, off, none⟩) xs.length c1] 26)).alloc (.cells #[.int .i64 id2, .string nm2, .int .i64 z2, .slice A2 ys.length c2] 26)).cell? ⟨w.heap.size + 1, 1, none⟩ = some (.string nm2) by simp [go_sem])
      have g2 := HK.out.keep (show ((w.alloc (.cells #[.int .i64 id, .string nm, .int .i64 z, .slice (some ⟨b, off, none⟩) xs.length c1] 26)).alloc (.cells #[.int .i64 id2, .string nm2, .int .i64 z2, .slice A2 ys.length c2] 26)).cell? ⟨w.heap.size + 1, 2, none⟩ = some (.int .i64 z2) by simp [go_sem])
      have g3 := HK.out.keep (show ((w.alloc (.cells #[.int .i64 id, .string nm, .int .i64 z, .slice (some ⟨b, off, none⟩) xs.length c1] 26)).alloc (.cells #[.int .i64 id2, .string nm2, .int .i64 z2, .slice A2 ys.length c2] 26)).cell? ⟨w.heap.size + 1, 3, none⟩ = some (.slice A2 ys.length c2) by simp [go_sem])
      have gz := HK.out.keep (show ((w.alloc (.cells #[.int .i64 id, .string nm, .int .i64 z, .slice (some ⟨b, off, none⟩) xs.length c1] 26)).alloc (.cells #[.int .i64 id2, .string nm2, .int .i64 z2, .slice A2 ys.length c2] 26)).cell? ⟨w.heap.size, 2, none⟩ = some (.int .i64 z) by simp [go_sem])
      obtain ⟨⟨p0, p1⟩, ⟨p2, p3⟩, -⟩ := gaugeB_at HB1.out hlt
      have k0 : (0 : Int) ≤ (k : Int) := by omega
      have k1 : (k : Int) < (xs.length : Int) := by omega
      clear hc
      have AL := Lib.hid (Kept.alloc (Kept.refl wr) (.cells #[.int .i64 (P1 xs k), .int .i64 (P2 xs k)] 28))
      have HH := Lib.hid fun W (h : Lies W 2 pairC (.slice A2 ys.length c2) ys) => heightAt_any id2 nm2 z2 (.slice A2 ys.length c2) ys (P1 xs k) W h HB2.out
      have HY : Hid ((htI ys (P1 xs k)).isSome = true → cmI xs ys (k + 1) = cmI xs ys k ++ [k]) := Lib.hid cm_yes
      have HN : Hid ((htI ys (P1 xs k)).isSome = false → cmI xs ys (k + 1) = cmI xs ys k) := Lib.hid cm_no
      have gA0 := AL.out.keep g0
      have gA1 := AL.out.keep g1
      have gA2 := AL.out.keep g2
      have gA3 := AL.out.keep g3
      clear g0 g1 g2 g3
      go_wp2_with fail
      refine (HH.out _ (HM.out.kept (K0.out.trans (HK.out.trans AL.out)))).mono ?_
      rintro e w1 ⟨rfl, kk1⟩
      have K1 := Lib.hid (AL.out.trans kk1)
      have z1 := K1.out.size
      have r0 := kk1.keep (show (wr.alloc (.cells #[.int .i64 (P1 xs k), .int .i64 (P2 xs k)] 28)).cell? ⟨wr.heap.size, 0, none⟩ = some (.int .i64 (P1 xs k)) by simp [go_sem])
      have r1 := kk1.keep (show (wr.alloc (.cells #[.int .i64 (P1 xs k), .int .i64 (P2 xs k)] 28)).cell? ⟨wr.heap.size, 1, none⟩ = some (.int .i64 (P2 xs k)) by simp [go_sem])
      have gz1 := K1.out.keep gz
      have z1b := kk1.size
      simp only [World.size_alloc] at z1b
      clear kk1 gA0 gA1 gA2 gA3 gz HH ca cb
      cases hh : (htI ys (P1 xs k)).isSome
      · have hN := HN.out hh
        have eT := Lib.hid (show cmT xs ys (k + 1) = cmT xs ys k by rw [cmT, cmT, hN])
        have eF := Lib.hid (show cmF xs ys z (k + 1) = cmF xs ys z k by rw [cmF, cmF, hN])
        have eS := Lib.hid (show cmS xs ys z2 (k + 1) = cmS xs ys z2 k by rw [cmS, cmS, hN])
        clear hN
        go_wp2_with fail
        go_roundw
        case rel => exact ⟨k + 1, b1, b2, b3, by omega, by go_num, HK.out.trans K1.out, by rw [eT.out]; exact own_kept HO1.out K1.out, by rw [eF.out]; exact own_kept HO2.out K1.out, by rw [eS.out]; exact own_kept HO3.out K1.out, HB1'.out, HB2'.out, HB3'.out, h12, h13, h23⟩
        case measure => simp [intOf]; omega
      · have hY := HY.out hh
        obtain ⟨hv, hhv⟩ : ∃ hv, htR ys z2 (P1 xs k) = hv := ⟨_, rfl⟩
        have eT := Lib.hid (show cmT xs ys (k + 1) = cmT xs ys k ++ [P1 xs k] by rw [cmT, cmT, hY, List.map_append]; rfl)
        have eF := Lib.hid (show cmF xs ys z (k + 1) = cmF xs ys z k ++ [P2 xs k + z] by rw [cmF, cmF, hY, List.map_append]; rfl)
        have eS := Lib.hid (show cmS xs ys z2 (k + 1) = cmS xs ys z2 k ++ [hv] by rw [cmS, cmS, hY, List.map_append, ← hhv]; rfl)
        rw [hhv]
        clear hhv hY
        go_wp2_with (first
          | (at_builtin
             have Oa1 := Lib.hid (own_kept (own_kept HO1.out K1.out) (Kept.alloc (Kept.refl w1) (.cells #[.int .i64 (P1 xs k)] 3)))
             refine wpList_append_own_at _ rfl (.tmp 32) (.tmp 35) _ rfl (w.heap.size + 1 + 1) 3 i0 _ 1 8 Try.underlying44 hi0 hz0 hz1 hz2 rfl (by decide) _ (cmT xs ys k).length _ rfl Oa1.out ⟨w1.heap.size, 0, none⟩ 1 1 [.int .i64 (P1 xs k)] rfl rfl (news_one _ _ _ rfl) (by simp [Value.oneCell']) (by unfold maxLen; omega) (by omega) (by simp; omega) ?_
             intro q1 x1 hown hgrow _ hob
             have hr1 := own_row_ge1 Oa1.out
             obtain ⟨Ap1, cp1, rfl, -, -, -⟩ := own_form hown
             have O1 := Lib.hid hown
             have G1 := Lib.hid hgrow
             have HOB1 := Lib.hid hob
             have zz1 := hgrow.size
             simp only [World.size_alloc] at zz1
             clear hown hgrow hob
             have AL1 := Lib.hid (Kept.alloc (Kept.refl w1) (.cells #[.int .i64 (P1 xs k)] 3))
             have s0 := cell_of_grown G1.out (p := ⟨wr.heap.size, 1, none⟩) (fun kk hkk => by have e := HB1'.out.symm.trans hkk; injection e with e; simp only []; omega) (AL1.out.keep r1)
             have s1 := cell_of_grown G1.out (p := ⟨w.heap.size, 2, none⟩) (fun kk hkk => by have := hr1 kk hkk; simp only []; omega) (AL1.out.keep gz1)
             have n21 : (Value.slice A8 (cmF xs ys z k).length c8).ownBlock ≠ (Value.slice A7 (cmT xs ys k).length c7).ownBlock := by rw [HB2'.out, HB1'.out]; intro e; injection e with e; omega
             have n31 : (Value.slice A9 (cmS xs ys z2 k).length c9).ownBlock ≠ (Value.slice A7 (cmT xs ys k).length c7).ownBlock := by rw [HB3'.out, HB1'.out]; intro e; injection e with e; omega
             have P2a := Lib.hid ((own_kept HO2.out (K1.out.trans AL1.out)).kept G1.out (Or.inr n21))
             have P3a := Lib.hid ((own_kept HO3.out (K1.out.trans AL1.out)).kept G1.out (Or.inr n31))
             have KW1 := Lib.hid (Kept.of_own HK.out (own_base (base' := ((w.alloc (.cells #[.int .i64 id, .string nm, .int .i64 z, .slice (some ⟨b, off, none⟩) xs.length c1] 26)).alloc (.cells #[.int .i64 id2, .string nm2, .int .i64 z2, .slice A2 ys.length c2] 26)).heap.size) HO1.out (by simp)) G1.out (K1.out.trans AL1.out))
             obtain ⟨b1', hb1', hb1c⟩ := ob_of HOB1.out HB1'.out
             simp only [World.size_alloc] at hb1c
             have lb1 := (O1.out.lt b1' hb1').2
             have HB1n := Lib.hid hb1'
             clear r0 r1 gz1 n21 n31 hr1 HO1 HO2 HO3 Oa1 HOB1 hb1')
          | (at_builtin
             have Oa2 := Lib.hid (own_kept P2a.out (Kept.alloc (Kept.refl x1) (.cells #[.int .i64 (P2 xs k + z)] 3)))
             refine wpList_append_own_at _ rfl (.tmp 37) (.tmp 43) _ rfl (w.heap.size + 1 + 1) 3 i0 _ 1 8 Try.underlying44 hi0 hz0 hz1 hz2 rfl (by decide) _ (cmF xs ys z k).length _ rfl Oa2.out ⟨x1.heap.size, 0, none⟩ 1 1 [.int .i64 (P2 xs k + z)] rfl rfl (news_one _ _ _ rfl) (by simp [Value.oneCell']) (by unfold maxLen; omega) (by omega) (by simp; omega) ?_
             intro q2 x2 hown hgrow _ hob
             have hr2 := own_row_ge1 Oa2.out
             obtain ⟨Ap2, cp2, rfl, -, -, -⟩ := own_form hown
             have O2 := Lib.hid hown
             have G2 := Lib.hid hgrow
             have HOB2 := Lib.hid hob
             have zz2 := hgrow.size
             simp only [World.size_alloc] at zz2
             clear hown hgrow hob
             have AL2 := Lib.hid (Kept.alloc (Kept.refl x1) (.cells #[.int .i64 (P2 xs k + z)] 3))
             have n12 : (Value.slice Ap1 ((cmT xs ys k).length + 1) cp1).ownBlock ≠ (Value.slice A8 (cmF xs ys z k).length c8).ownBlock := by rw [HB2'.out, HB1n.out]; intro e; injection e with e; omega
             have n32 : (Value.slice A9 (cmS xs ys z2 k).length c9).ownBlock ≠ (Value.slice A8 (cmF xs ys z k).length c8).ownBlock := by rw [HB3'.out, HB2'.out]; intro e; injection e with e; omega
             have P1b := Lib.hid ((own_kept O1.out AL2.out).kept G2.out (Or.inr n12))
             have P3b := Lib.hid ((own_kept P3a.out AL2.out).kept G2.out (Or.inr n32))
             have KW2 := Lib.hid (Kept.of_own KW1.out (own_base (base' := ((w.alloc (.cells #[.int .i64 id, .string nm, .int .i64 z, .slice (some ⟨b, off, none⟩) xs.length c1] 26)).alloc (.cells #[.int .i64 id2, .string nm2, .int .i64 z2, .slice A2 ys.length c2] 26)).heap.size) P2a.out (by simp)) G2.out AL2.out)
             obtain ⟨b2', hb2', hb2c⟩ := ob_of HOB2.out HB2'.out
             simp only [World.size_alloc] at hb2c
             have lb2 := (O2.out.lt b2' hb2').2
             have HB2n := Lib.hid hb2'
             clear s0 s1 n12 n32 hr2 O1 P2a P3a Oa2 HOB2 hb2')
          | (at_builtin
             have Oa3 := Lib.hid (own_kept P3b.out (Kept.alloc (Kept.refl x2) (.cells #[.int .i64 hv] 3)))
             refine wpList_append_own_at _ rfl (.tmp 45) (.tmp 47) _ rfl (w.heap.size + 1 + 1) 3 i0 _ 1 8 Try.underlying44 hi0 hz0 hz1 hz2 rfl (by decide) _ (cmS xs ys z2 k).length _ rfl Oa3.out ⟨x2.heap.size, 0, none⟩ 1 1 [.int .i64 hv] rfl rfl (news_one _ _ _ rfl) (by simp [Value.oneCell']) (by unfold maxLen; omega) (by omega) (by simp; omega) ?_
             intro q3 x3 hown hgrow _ hob
             have hr3 := own_row_ge1 Oa3.out
             obtain ⟨Ap3, cp3, rfl, -, -, -⟩ := own_form hown
             have O3 := Lib.hid hown
             have G3 := Lib.hid hgrow
             have HOB3 := Lib.hid hob
             have zz3 := hgrow.size
             simp only [World.size_alloc] at zz3
             clear hown hgrow hob
             have AL3 := Lib.hid (Kept.alloc (Kept.refl x2) (.cells #[.int .i64 hv] 3))
             have n13 : (Value.slice Ap1 ((cmT xs ys k).length + 1) cp1).ownBlock ≠ (Value.slice A9 (cmS xs ys z2 k).length c9).ownBlock := by rw [HB3'.out, HB1n.out]; intro e; injection e with e; omega
             have n23 : (Value.slice Ap2 ((cmF xs ys z k).length + 1) cp2).ownBlock ≠ (Value.slice A9 (cmS xs ys z2 k).length c9).ownBlock := by rw [HB3'.out, HB2n.out]; intro e; injection e with e; omega
             have P1c := Lib.hid ((own_kept P1b.out AL3.out).kept G3.out (Or.inr n13))
             have P2c := Lib.hid ((own_kept O2.out AL3.out).kept G3.out (Or.inr n23))
             have KW3 := Lib.hid (Kept.of_own KW2.out (own_base (base' := ((w.alloc (.cells #[.int .i64 id, .string nm, .int .i64 z, .slice (some ⟨b, off, none⟩) xs.length c1] 26)).alloc (.cells #[.int .i64 id2, .string nm2, .int .i64 z2, .slice A2 ys.length c2] 26)).heap.size) P3b.out (by simp)) G3.out AL3.out)
             obtain ⟨b3', hb3', hb3c⟩ := ob_of HOB3.out HB3'.out
             simp only [World.size_alloc] at hb3c
             have HB3n := Lib.hid hb3'
             clear n13 n23 hr3 P1b P3b O2 Oa3 HOB3 hb3'))
        go_roundw
        case rel => exact ⟨k + 1, b1', b2', b3', by omega, by go_num, KW3.out,
          by rw [eT.out, List.length_append, List.flatMap_append]; exact P1c.out,
          by rw [eF.out, List.length_append, List.flatMap_append]; exact P2c.out,
          by rw [eS.out, List.length_append, List.flatMap_append]; exact O3.out, HB1n.out, HB2n.out, HB3n.out, by omega, by omega, by omega⟩
        case measure => simp [intOf]; omega
    · have e : k = xs.length := by omega
      subst e
      go_wp2_with fail
      go_ret3
      exact ⟨_, _, _, rfl, own_base HO1.out (by omega), own_base HO2.out (by omega), own_base HO3.out (by omega), (K0.out).trans HK.out⟩
end Go.Proofs.Ytopdnhlolfehcaa

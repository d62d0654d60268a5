/-
  Contracts of the reference's l3Common and CommonTimes, of sumInts and ZeroError; ZeroError's law.
  Conditions: none.
-/
import Derived.Test.YtopdnhlolfehcaaCommon2
import Derived.Test.YtopdnhlolfehcaaFrac
namespace Go.Proofs.Ytopdnhlolfehcaa
open Go.ChangeShapes Go.WideShapes Go.ChangeAt Go.RowKit
set_option linter.unusedVariables false
set_option linter.unusedSimpArgs false

def sm (l : List Int) : Nat → Int
  | 0 => 0
  | k + 1 => sm l k + l.getD k 0
theorem sm_bd {l : List Int} (h : ∀ i, i < l.length → -5000 ≤ l.getD i 0 ∧ l.getD i 0 ≤ 5000) : ∀ k : Nat, k ≤ l.length → -(5000 * (k : Int)) ≤ sm l k ∧ sm l k ≤ 5000 * (k : Int)
  | 0, _ => by simp [sm]
  | k + 1, hk => by
    have ih := sm_bd h k (by omega)
    have := h k (by omega)
    rw [sm]
    omega
theorem sumInts_any (v : Value) (l : List Int) (w : World) (hL : Lies w 1 intC v l) (hn : l.length ≤ 1000) (hb : ∀ i, i < l.length → -5000 ≤ l.getD i 0 ∧ l.getD i 0 ≤ 5000) : Calls Try.prog 95 #[v] w fun e w' => e = .returned (.int .i64 (sm l l.length)) ∧ w = w' := by
  obtain ⟨A, c, rfl, hlc, hcm, hA⟩ := lies_ints hL
  have HBD := Lib.hid (sm_bd hb)
  have HB := Lib.hid hb
  clear hL hb
  go_enter Try.func95, Try.ntmps95
  go_wp2_with fail
  go_loopw [3, 8] (fun s i wr => ∃ k : Nat, k ≤ l.length ∧ i = .int .i64 (k : Int) ∧ s = .int .i64 (sm l k) ∧ wr = w) (fun _ i _ => l.length - (intOf i).toNat)
  case atStart => exact ⟨0, by omega, rfl, rfl, rfl⟩
  case round =>
    obtain ⟨k, hk, rfl, rfl, rfl⟩ := hrel
    by_cases hlt : k < l.length
    · obtain ⟨b, off, rfl, hc⟩ := hA (by omega)
      have c0 := hc k hlt
      obtain ⟨s0, s1⟩ := HBD.out k hk
      obtain ⟨e0, e1⟩ := HB.out k hlt
      have k0 : (0 : Int) ≤ (k : Int) := by omega
      have k1 : (k : Int) < (l.length : Int) := by omega
      have HS : Hid (sm l (k + 1) = sm l k + l.getD k 0) := Lib.hid rfl
      clear hc hA
      generalize l.getD k 0 = x at c0 e0 e1 HS
      generalize sm l k = s at s0 s1 HS ⊢
      go_wp2_with fail
      go_roundw
      case rel => exact ⟨k + 1, by omega, by go_num, by rw [HS.out], by trivial⟩
      case measure => simp [intOf]; omega
    · have e : k = l.length := by omega
      subst e
      clear hA
      go_wp2_with fail
      go_ret
      exact ⟨rfl, rfl⟩
theorem ht_self {id z : Int} {nm : ByteArray} {xs : List (Int × Int)} (h : gaugeB id nm z xs = true) {j : Nat} (hj : j < xs.length) : htR xs z (P1 xs j) = P2 xs j + z := by
  have asc : ∀ m i : Nat, i < m → m < xs.length → P1 xs i < P1 xs m := by
    intro m
    induction m with
    | zero => intro i hi; omega
    | succ m ih =>
      intro i hi hm
      have hs := (gaugeB_at h hm).2.2
      have h1 : P1 xs m < P1 xs (m + 1) := by
        rcases hs with hs | hs
        · omega
        · simpa using hs
      by_cases e : i = m
      · subst e; exact h1
      · have := ih i (by omega) (by omega)
        omega
  exact (htR_yes (ht_yes hj (fun i hi => by
    have := asc j i hi hj
    simp only [htAt, decide_eq_false_iff_not]
    omega) rfl)).1
theorem htR_bd {id z : Int} {nm : ByteArray} {xs : List (Int × Int)} (h : gaugeB id nm z xs = true) (t : Int) : -5000 ≤ htR xs z t ∧ htR xs z t ≤ 5000 := by
  obtain ⟨-, ⟨z0, z1⟩, -, -⟩ := gaugeB_1 h
  cases hi : htI xs t with
  | none => rw [(htR_no hi).1]; omega
  | some k =>
    rw [(htR_yes hi).1]
    have hk := (find_is hi).1
    obtain ⟨-, ⟨p0, p1⟩, -⟩ := gaugeB_at h hk
    omega
theorem cm_mem {xs ys : List (Int × Int)} {n : Nat} (hn : n < (cmI xs ys xs.length).length) : (cmI xs ys xs.length).getD n 0 < xs.length := by
  have hm : (cmI xs ys xs.length).getD n 0 ∈ cmI xs ys xs.length := by
    rw [List.getD_eq_getElem?_getD, List.getElem?_eq_getElem hn]
    exact List.getElem_mem hn
  have := List.mem_filter.1 hm
  exact List.mem_range.1 this.1
theorem map_at (f : Nat → Int) (l : List Nat) {n : Nat} (hn : n < l.length) : (l.map f).getD n 0 = f (l.getD n 0) := by
  simp [List.getD_eq_getElem?_getD, hn]
set_option maxRecDepth 100000 in
set_option maxHeartbeats 2000000 in
theorem l3Common_any (id : Int) (nm : ByteArray) (z : Int) (v1 : Value) (xs : List (Int × Int)) (id2 : Int) (nm2 : ByteArray) (z2 : Int) (v2 : Value) (ys : List (Int × Int)) (w : World) (hL : Lies w 2 pairC v1 xs) (hM : Lies w 2 pairC v2 ys) (hB1 : gaugeB id nm z xs = true) :
    Calls Try.prog 89 #[.agg #[.int .i64 id, .string nm, .int .i64 z, v1], .agg #[.int .i64 id2, .string nm2, .int .i64 z2, v2]] w fun e w' => ∃ u1, e = .returned u1 ∧
      w'.ownsRow w.heap.size 3 1 u1 (cmT xs ys xs.length).length ((cmT xs ys xs.length).flatMap intC) ∧ Kept w w' := by
  obtain ⟨i0, hi0, hz0, hz1, hz2⟩ := info_parts infoInt
  have HM := Lib.hid hM
  obtain ⟨A1, c1, rfl, hlc, hcm, hA⟩ := lies_pairs hL
  obtain ⟨A2, c2, rfl, -, -, -⟩ := lies_pairs hM
  have HA := Lib.hid hA
  obtain ⟨-, -, hn15, -⟩ := gaugeB_1 hB1
  clear hL hM hA hB1
  have K0 : Hid (Kept w ((w.alloc (.cells #[.int .i64 id, .string nm, .int .i64 z, .slice A1 xs.length c1] 26)).alloc (.cells #[.int .i64 id2, .string nm2, .int .i64 z2, .slice A2 ys.length c2] 26))) := Lib.hid (by (repeat (first | exact Kept.refl _ | assumption | refine Kept.alloc ?_ _ | refine Kept.drew ?_ | refine Kept.drewN ?_ _ | refine Kept.setCell ?_ (by first | (simp; done) | (simp; omega) | omega | exact Kept.size (by (repeat (first | exact Kept.refl _ | assumption | refine Kept.alloc ?_ _ | refine Kept.drew ?_ | refine Kept.drewN ?_ _ | refine Kept.trans ?_ (by assumption))))) _ | refine Kept.trans ?_ (by assumption))))
  go_enter Try.func89, Try.ntmps89
  have E1 : Hid ((((w.alloc (.cells #[.int .i64 id, .string nm, .int .i64 z, .slice A1 xs.length c1] 26)).alloc (.cells #[.int .i64 id2, .string nm2, .int .i64 z2, .slice A2 ys.length c2] 26)).alloc (.cells #[] 3)).ownsRow (w.heap.size + 1 + 1) 3 1 (.slice (some ⟨w.heap.size + 1 + 1, 0, none⟩) 0 0) 0 []) := Lib.hid (by
    have hq := World.ownsRow_lit (e := 3) (size := 1) ((w.alloc (.cells #[.int .i64 id, .string nm, .int .i64 z, .slice A1 xs.length c1] 26)).alloc (.cells #[.int .i64 id2, .string nm2, .int .i64 z2, .slice A2 ys.length c2] 26)) #[] 0 (Nat.le_refl _) (by simp [maxLen]) rfl
    simpa only [World.size_alloc] using hq)
  go_wp2_with fail
  go_loopw [5, 6] (fun v7 i wr => ∃ (k : Nat), k ≤ xs.length ∧ i = .int .i64 (k : Int) ∧ Kept ((w.alloc (.cells #[.int .i64 id, .string nm, .int .i64 z, .slice A1 xs.length c1] 26)).alloc (.cells #[.int .i64 id2, .string nm2, .int .i64 z2, .slice A2 ys.length c2] 26)) wr ∧ wr.ownsRow (w.heap.size + 1 + 1) 3 1 v7 (cmT xs ys k).length ((cmT xs ys k).flatMap intC)) (fun _ i _ => xs.length - (intOf i).toNat)
  case atStart => exact ⟨0, by omega, rfl, by (repeat (first | exact Kept.refl _ | assumption | refine Kept.alloc ?_ _ | refine Kept.drew ?_ | refine Kept.drewN ?_ _ | refine Kept.setCell ?_ (by first | (simp; done) | (simp; omega) | omega | exact Kept.size (by (repeat (first | exact Kept.refl _ | assumption | refine Kept.alloc ?_ _ | refine Kept.drew ?_ | refine Kept.drewN ?_ _ | refine Kept.trans ?_ (by assumption))))) _ | refine Kept.trans ?_ (by assumption))), E1.out⟩
  case round =>
    clear E1
    obtain ⟨k, hk, rfl, hkw, ho1⟩ := hrel
    obtain ⟨A7, c7, rfl, -, -, -⟩ := own_form ho1
    have HO1 := Lib.hid ho1
    have HK := Lib.hid hkw
    have zs := hkw.size
    simp only [World.size_alloc] at zs
    have t1 : (cmT xs ys k).length ≤ k := by have := cm_len xs ys k; simpa [cmT] using this
    have ga3 := HK.out.keep (show ((w.alloc (.cells #[.int .i64 id, .string nm, .int .i64 z, .slice A1 xs.length c1] 26)).alloc (.cells #[.int .i64 id2, .string nm2, .int .i64 z2, .slice A2 ys.length c2] 26)).cell? ⟨w.heap.size, 3, none⟩ = some (.slice A1 xs.length c1) by simp [go_sem])
    clear ho1
    by_cases hlt : k < xs.length
    · obtain ⟨b, off, rfl, hc⟩ := HA.out (by omega)
      have ca := HK.out.keep ((K0.out).keep (hc k hlt).1)
      have g0 := HK.out.keep (show ((w.alloc (.cells #[.int .i64 id, .string nm, .int .i64 z, .slice (some ⟨b, off, none⟩) xs.length c1] 26)).alloc (.cells #[.int .i64 id2, .string nm2, .int .i64 z2, .slice A2 ys.length c2] 26)).cell? ⟨w.heap.size + 1, 0, none⟩ = some (.int .i64 id2) by simp [go_sem])
      have g1 := HK.out.keep (show ((w.alloc (.cells #[.int .i64 id, .string nm, .int .i64 z, .slice (some ⟨b, off, none⟩) xs.length c1] 26)).alloc (.cells #[.int .i64 id2, .string nm2, .int .i64 z2, .slice A2 ys.length c2] 26)).cell? ⟨w.heap.size + 1, 1, none⟩ = some (.string nm2) by simp [go_sem])
      have g2 := HK.out.keep (show ((w.alloc (.cells #[.int .i64 id, .string nm, .int .i64 z, .slice (some ⟨b, off, none⟩) xs.length c1] 26)).alloc (.cells #[.int .i64 id2, .string nm2, .int .i64 z2, .slice A2 ys.length c2] 26)).cell? ⟨w.heap.size + 1, 2, none⟩ = some (.int .i64 z2) by simp [go_sem])
      have g3 := HK.out.keep (show ((w.alloc (.cells #[.int .i64 id, .string nm, .int .i64 z, .slice (some ⟨b, off, none⟩) xs.length c1] 26)).alloc (.cells #[.int .i64 id2, .string nm2, .int .i64 z2, .slice A2 ys.length c2] 26)).cell? ⟨w.heap.size + 1, 3, none⟩ = some (.slice A2 ys.length c2) by simp [go_sem])
      have k0 : (0 : Int) ≤ (k : Int) := by omega
      have k1 : (k : Int) < (xs.length : Int) := by omega
      clear hc
      have HH := Lib.hid fun W (h : Lies W 2 pairC (.slice A2 ys.length c2) ys) => l3At_any id2 nm2 z2 (.slice A2 ys.length c2) ys (P1 xs k) W h
      have HML := Lib.hid (HM.out.kept (K0.out.trans HK.out))
      have HY : Hid ((htI ys (P1 xs k)).isSome = true → cmI xs ys (k + 1) = cmI xs ys k ++ [k]) := Lib.hid cm_yes
      have HN : Hid ((htI ys (P1 xs k)).isSome = false → cmI xs ys (k + 1) = cmI xs ys k) := Lib.hid cm_no
      have hix : decide (0 ≤ idxI (htI ys (P1 xs k))) = (htI ys (P1 xs k)).isSome := idxI_ge _
      have HIX := Lib.hid hix
      clear hix
      go_wp2_with fail
      have kf1_0 : ∀ w' : World, Root (wr) w' → w'.cell? ⟨w.heap.size + 1, 0, none⟩ = some (.int .i64 id2) := fun w' h => h.keep (by first | assumption | exact (Kept.alloc (Kept.refl _) _).keep (by assumption) | (simp [go_sem]; done) | (simp [go_sem, *]; done))
      have kf1_1 : ∀ w' : World, Root (wr) w' → w'.cell? ⟨w.heap.size + 1, 1, none⟩ = some (.string nm2) := fun w' h => h.keep (by first | assumption | exact (Kept.alloc (Kept.refl _) _).keep (by assumption) | (simp [go_sem]; done) | (simp [go_sem, *]; done))
      have kf1_2 : ∀ w' : World, Root (wr) w' → w'.cell? ⟨w.heap.size + 1, 2, none⟩ = some (.int .i64 z2) := fun w' h => h.keep (by first | assumption | exact (Kept.alloc (Kept.refl _) _).keep (by assumption) | (simp [go_sem]; done) | (simp [go_sem, *]; done))
      have kf1_3 : ∀ w' : World, Root (wr) w' → w'.cell? ⟨w.heap.size + 1, 3, none⟩ = some (.slice A2 ys.length c2) := fun w' h => h.keep (by first | assumption | exact (Kept.alloc (Kept.refl _) _).keep (by assumption) | (simp [go_sem]; done) | (simp [go_sem, *]; done))
      have kf1_4 : ∀ w' : World, Root (wr) w' → w'.cell? ⟨w.heap.size, 3, none⟩ = some (.slice (some ⟨b, off, none⟩) xs.length c1) := fun w' h => h.keep (by first | assumption | exact (Kept.alloc (Kept.refl _) _).keep (by assumption) | (simp [go_sem]; done) | (simp [go_sem, *]; done))
      have kf1_5 : ∀ w' : World, Root (wr) w' → w'.cell? ⟨b, off + k * 2, none⟩ = some (.int .i64 (P1 xs k)) := fun w' h => h.keep (by first | assumption | exact (Kept.alloc (Kept.refl _) _).keep (by assumption) | (simp [go_sem]; done) | (simp [go_sem, *]; done))
      go_region_held3 (fun w' => Root (wr) w')
        (first | assumption | exact Root.trans (by assumption) hk | exact Root.drew (Root.refl _) | (repeat (first | exact Root.refl _ | assumption | refine Root.alloc ?_ _ | refine Root.drew ?_ | refine Root.setCell ?_ (by first | (simp; done) | (simp; omega) | omega | exact Root.size (by assumption)) _ | refine Root.trans ?_ (by assumption))))
        (first | (go_at_call 79; refine (HH.out _ (by exact HML.out.kept (by (repeat (first | exact Kept.refl _ | assumption | refine Kept.alloc ?_ _ | refine Kept.drew ?_ | refine Kept.drewN ?_ _ | refine Kept.setCell ?_ (by first | (simp; done) | (simp; omega) | omega | exact Kept.size (by (repeat (first | exact Kept.refl _ | assumption | refine Kept.alloc ?_ _ | refine Kept.drew ?_ | refine Kept.drewN ?_ _ | refine Kept.trans ?_ (by assumption))))) _ | refine Kept.trans ?_ (by assumption)))))).mono ?_; rintro e w1 ⟨rfl, hk⟩; (have hkr := Root.trans (by assumption) hk); (first | (have hkf := From.step (by assumption) hk; obtain ⟨hc, hf⟩ := hkf.cells) | (have hkf := From.start hk; obtain ⟨hc, hf⟩ := hkf.cells))))
      have K1 := Lib.hid hkr.kept
      have z1 := K1.out.size
      have ga3' := hkr.kept.keep ga3
      have ca' := hkr.kept.keep ca
      clear hk hkr hc hf hkf g0 g1 g2 g3 ga3 ca HH
      cases hh : (htI ys (P1 xs k)).isSome
      · have hN := HN.out hh
        have eT := Lib.hid (show cmT xs ys (k + 1) = cmT xs ys k by rw [cmT, cmT, hN])
        have hneg : ¬ ((0 : Int) ≤ idxI (htI ys (P1 xs k))) := by have := HIX.out; rw [hh] at this; simpa using this
        clear hN
        generalize idxI (htI ys (P1 xs k)) = ix at hneg ⊢
        go_wp2_with fail
        go_roundw
        case rel => exact ⟨k + 1, by omega, by go_num, HK.out.trans K1.out, by rw [eT.out]; exact own_kept HO1.out K1.out⟩
        case measure => simp [intOf]; omega
      · have hY := HY.out hh
        have eT := Lib.hid (show cmT xs ys (k + 1) = cmT xs ys k ++ [P1 xs k] by rw [cmT, cmT, hY, List.map_append]; rfl)
        have hpos : (0 : Int) ≤ idxI (htI ys (P1 xs k)) := by have := HIX.out; rw [hh] at this; simpa using this
        have Oa1 := Lib.hid (own_kept (own_kept HO1.out K1.out) (Kept.alloc (Kept.refl w1) (.cells #[.int .i64 (P1 xs k)] 3)))
        have AL1 := Lib.hid (Kept.alloc (Kept.refl w1) (.cells #[.int .i64 (P1 xs k)] 3))
        clear hY
        generalize idxI (htI ys (P1 xs k)) = ix at hpos ⊢
        go_wp2_with (at_builtin; refine wpList_append_own_at _ rfl (.tmp 24) (.tmp 31) _ rfl (w.heap.size + 1 + 1) 3 i0 _ 1 8 Try.underlying44 hi0 hz0 hz1 hz2 rfl (by decide) _ (cmT xs ys k).length _ rfl Oa1.out ⟨w1.heap.size, 0, none⟩ 1 1 [.int .i64 (P1 xs k)] rfl rfl (news_one _ _ _ rfl) (by simp [Value.oneCell']) (by unfold maxLen; omega) (by omega) (by simp; omega) ?_; intro q1 x1 hown hgrow _ hob)
        have O1 := Lib.hid hown
        have KW1 := Lib.hid (Kept.of_own (HK.out.trans K1.out) (own_base (base' := ((w.alloc (.cells #[.int .i64 id, .string nm, .int .i64 z, .slice (some ⟨b, off, none⟩) xs.length c1] 26)).alloc (.cells #[.int .i64 id2, .string nm2, .int .i64 z2, .slice A2 ys.length c2] 26)).heap.size) (own_kept HO1.out K1.out) (by simp)) hgrow AL1.out)
        clear hown hgrow hob
        go_roundw
        case rel => exact ⟨k + 1, by omega, by go_num, KW1.out, by rw [eT.out, List.length_append, List.flatMap_append]; exact O1.out⟩
        case measure => simp [intOf]; omega
    · have e : k = xs.length := by omega
      subst e
      go_wp2_with fail
      go_ret
      exact ⟨_, rfl, own_base HO1.out (by omega), (K0.out).trans HK.out⟩
end Go.Proofs.Ytopdnhlolfehcaa

/-
  The law of JoinStrings; slices of strings that came in.
  Conditions: none.
-/
import Derived.Test.YtlnhdjajbiahbaaJoin
import Derived.Test.YtlnhdjajbiahbaaOpen
namespace Go.Proofs.Ytlnhdjajbiahbaa
open Go.ChangeShapes Go.WideShapes Go.ChangeAt Go.RowKit Go.Joins Go.Deep
set_option linter.unusedVariables false
set_option linter.unusedSimpArgs false

/-- A slice of strings that came in. -/
theorem strs_arg {H : Type} {enc : TypeId × Value → H} {P : Program} {w : World} {base : Nat} {spare : Nat → Bool} {held : Bool} {r : Reach} {b0 : Nat} {t e : TypeId} {v : Value} {d : DataW H} {p : List MemPlace}
    (ht : P.underlying t = some (.slice e)) (he : P.underlying e = some .string) (hC : P.cellsOf e = 1)
    (hv : Value.okWide P w r b0 t v) (h : DataW.Trod enc P w base spare held t v d p) : ∃ xs : List ByteArray, Lies w 1 strC v xs ∧ ∀ i, i < xs.length → (XZ xs i).size ≤ maxLen := by
  obtain ⟨a0, len, cap, rfl⟩ := okWide_slice ht hv
  obtain ⟨fuel, hf⟩ := h
  rcases open_slice ht hf with ⟨hcs, -⟩ | ⟨a, len', cap', m, n, D, Pl, hcs, -, hl, hm, hmm, -, hx⟩
  · simp [Value.cells] at hcs
    obtain ⟨rfl, rfl, rfl⟩ := hcs
    exact ⟨[], Lies.nil _ _ _, fun i hi => absurd hi (by simp)⟩
  · simp [Value.cells] at hcs
    obtain ⟨rfl, rfl, rfl⟩ := hcs
    have hlm : len ≤ m := by rw [hmm]; split <;> omega
    have each : ∀ i, i < len → ∃ s : ByteArray, w.cell? (a.add i) = some (.string s) ∧ s.size ≤ maxLen := by
      intro i hi
      obtain ⟨cs', hc, hc2⟩ := hx i (by omega)
      rw [hC, Nat.mul_one] at hc
      obtain ⟨_, hcl, hat⟩ := World.cells?_some hc
      match cs', hcl with
      | [c], _ =>
        obtain ⟨s, rfl, hs⟩ := cell_string he hc2
        have h0 := hat (i := 0) (by omega)
        rw [show (a.add i).add 0 = a.add i from by rw [Go.Deep.add_add, Nat.add_zero]] at h0
        exact ⟨s, by simpa using h0, hs⟩
    obtain ⟨q, hq⟩ : ∃ q : Nat → ByteArray, ∀ i, i < len → w.cell? (a.add i) = some (.string (q i)) ∧ (q i).size ≤ maxLen := by
      refine ⟨fun i => if h : i < len then (each i h).choose else ByteArray.empty, fun i hi => ?_⟩
      simp only [hi, dite_true]
      exact (each i hi).choose_spec
    refine ⟨(List.range len).map q, ⟨some a, cap, by simp, by simpa using hl, hm, fun hn => ?_⟩, fun i hi => ?_⟩
    · simp at hn
      obtain ⟨b, off, spot⟩ := a
      have hspot : spot = none := by simpa [Addr.add] using World.cell?_spot (hq 0 hn).1
      subst hspot
      refine ⟨b, off, rfl, fun i hi j u hu => ?_⟩
      simp at hi
      have h2 := (hq i hi).1
      rw [Go.WideShapes.add_plain] at h2
      simp only [List.getElem_map, List.getElem_range] at hu
      match j, hu with
      | 0, hu => simp [strC] at hu; rw [← hu]; simpa using h2
      | j + 1, hu => simp [strC] at hu
    · simp at hi
      simpa [XZ, List.getD_eq_getElem?_getD, hi] using (hq i hi).2
set_option maxHeartbeats 1000000 in
theorem szStringS_any (v : Value) (xs : List ByteArray) (w : World) (hL : Lies w 1 strC v xs) (hz : ∀ i, i < xs.length → (XZ xs i).size ≤ maxLen) : Calls Try.prog 11 #[v, .int .i64 1048576] w fun e w' => ∃ r : Int, e = .returned (.int .i64 r) ∧ (0 ≤ r → xs.length ≤ 1048576 ∧ ∀ i, i < xs.length → (XZ xs i).size ≤ 1048576) ∧ Kept w w' := by
  have hm := hL.len
  obtain ⟨A, c, rfl, hlc, hcm, hA⟩ := lies_strs hL
  have HL := Lib.hid hL
  have HZ := Lib.hid hz
  clear hL hz
  unfold maxLen at hm
  by_cases h1 : (1048576 : Int) - (xs.length : Int) < 0
  · clear hA
    go_enter Try.func11, Try.ntmps11
    go_wp2_with fail
    go_ret
    exact ⟨-1, rfl, fun h => absurd h (by omega), Kept.refl _⟩
  · have hA' := Lib.hid hA
    clear hA
    go_enter Try.func11, Try.ntmps11
    go_wp2_with fail
    go_loopw [1, 5] (fun l i wr => ∃ (k : Nat) (q : Int), k ≤ xs.length ∧ i = .int .i64 (k : Int) ∧ l = .int .i64 q ∧ (0 ≤ q ∧ q ≤ 1048576) ∧ (∀ j, j < k → (XZ xs j).size ≤ 1048576) ∧ wr = w) (fun _ i _ => xs.length - (intOf i).toNat)
    case atStart => exact ⟨0, _, by omega, rfl, rfl, by omega, fun j hj => absurd hj (by omega), rfl⟩
    case round =>
      obtain ⟨k, q, hk, rfl, rfl, ⟨q0, q1⟩, hin, rfl⟩ := hrel
      have HIN := Lib.hid hin
      clear hin
      by_cases hlt : k < xs.length
      · obtain ⟨b, off, rfl, hc⟩ := hA'.out (by omega)
        have c0 : wr.cell? ⟨b, off + k, none⟩ = some (.string (XZ xs k)) := hc k hlt
        have hp := HZ.out k hlt
        have k0 : (0 : Int) ≤ (k : Int) := by omega
        have k1 : (k : Int) < (xs.length : Int) := by omega
        have HFW : Hid ((XZ xs k).size ≤ 1048576 → ∀ j, j < k + 1 → (XZ xs j).size ≤ 1048576) := Lib.hid (fun e => upto_succ HIN.out e)
        clear hc
        unfold maxLen at hp
        generalize XZ xs k = p at c0 hp HFW
        by_cases h2 : q - (p.size : Int) < 0
        · go_wp2_with fail
          go_ret
          exact ⟨-1, rfl, fun h => absurd h (by omega), Kept.refl _⟩
        · go_wp2_with fail
          go_roundw
          case rel => exact ⟨k + 1, _, by omega, by go_num, rfl, by omega, HFW.out (by omega), by trivial⟩
          case measure => simp [intOf]; omega
      · have e : k = xs.length := by omega
        subst e
        go_wp2_with fail
        go_ret
        exact ⟨q, rfl, fun _ => ⟨by omega, HIN.out⟩, Kept.refl _⟩
def StrTo (xs : List ByteArray) (ys : List Value) (k : Nat) : Prop := ∀ j, j < k → ys[j]? = some (.string (XZ xs j))
theorem strto_set {xs : List ByteArray} {ys : List Value} {k : Nat} (hk : k < ys.length) (h : StrTo xs ys k) : StrTo xs (ys.set k (.string (XZ xs k))) (k + 1) := by
  intro j hj
  by_cases e : j = k
  · subst e
    rw [List.getElem?_set_self hk]
  · rw [List.getElem?_set_ne (by omega)]
    exact h j (by omega)
theorem flat_str (xs : List ByteArray) : xs.flatMap strC = xs.map .string := by
  induction xs with
  | nil => rfl
  | cons x xs ih => rw [List.flatMap_cons, ih]; rfl
theorem strto_all {xs : List ByteArray} {ys : List Value} (hl : ys.length = xs.length) (h : StrTo xs ys xs.length) : ys = xs.flatMap strC := by
  rw [flat_str]
  apply List.ext_getElem?
  intro j
  by_cases hj : j < xs.length
  · rw [h j hj]
    simp [XZ, List.getD_eq_getElem?_getD, hj]
  · rw [List.getElem?_eq_none (by omega), List.getElem?_eq_none (by simp; omega)]
set_option maxHeartbeats 1000000 in
theorem toStringS_any (v : Value) (xs : List ByteArray) (w : World) (hL : Lies w 1 strC v xs) (hn : xs.length ≤ 1048576) : Calls Try.prog 13 #[v] w fun e w' => ∃ u, e = .returned u ∧ w'.ownsRow w.heap.size 9 1 u xs.length (xs.flatMap strC) ∧ Kept w w' := by
  obtain ⟨A, c, rfl, hlc, hcm, hA⟩ := lies_strs hL
  clear hL
  obtain ⟨i0, hi0, hz0, hz1, hz2⟩ := info_parts infoStr
  have hmk := fun W => run_make_rowN (P := Try.prog) 22 9 i0 _ Try.underlying22 hi0 hz0 .i64 .i64 xs.length xs.length (Nat.le_refl _) (by rw [hz2]; omega) (by omega) W
  rw [hz1] at hmk
  go_enter Try.func13, Try.ntmps13
  go_wp2_with fail
  go_loopw [4] (fun i wr => ∃ k : Nat, k ≤ xs.length ∧ i = .int .i64 k ∧ Kept w wr ∧ ∃ ys, wr.ownsRow w.heap.size 9 1 (.slice (some ⟨w.heap.size, 0, none⟩) xs.length xs.length) xs.length ys ∧ StrTo xs ys k) (fun i _ => xs.length - (intOf i).toNat)
  case atStart => exact ⟨0, Nat.zero_le _, rfl, (Kept.refl _).alloc _, _, World.ownsRow_lit w _ _ (Nat.le_refl _) (by unfold maxLen; omega) (by simp [size_madeCells, Value.cells]), fun i h => absurd h (by omega)⟩
  case round =>
    clear hmk
    obtain ⟨k, hk, rfl, hkw, ys, hown, hys⟩ := hrel
    have HY := Lib.hid hys
    have HO := Lib.hid hown
    have HK := Lib.hid hkw
    clear hys hown hkw
    by_cases hlt : k < xs.length
    · obtain ⟨b, off, rfl, hc⟩ := hA (by omega)
      have c0 : wr.cell? ⟨b, off + k, none⟩ = some (.string (XZ xs k)) := HK.out.keep (hc k hlt)
      have k0 : (0 : Int) ≤ (k : Int) := by omega
      have k1 : (k : Int) < (xs.length : Int) := by omega
      obtain ⟨u0, -, d0, f0⟩ := own_cell HO.out (j := k) (by omega)
      clear hc
      go_wp2_with fail
      go_roundw
      case rel => exact ⟨k + 1, by omega, by go_num, HK.out.setCell (by simp) _, _, (HO.out.stored k _).1, strto_set (by rw [HO.out.1]; omega) HY.out⟩
      case measure => simp [intOf]; omega
    · have e : k = xs.length := by omega
      have HF := Lib.hid (strto_all (xs := xs) (ys := ys) (by have := HO.out.1; omega) (by rw [← e]; exact HY.out))
      clear e
      go_wp2_with fail
      go_ret
      exact ⟨_, rfl, by rw [← HF.out]; exact HO.out, HK.out⟩
set_option maxRecDepth 100000 in
set_option maxHeartbeats 2000000 in
theorem lawJoinStrings (v : Value) (xs : List ByteArray) (t : ByteArray) (ht : t.size ≤ maxLen) (w : World) (hL : Lies w 1 strC v xs) (hz : ∀ i, i < xs.length → (XZ xs i).size ≤ maxLen) : Calls Try.prog 4 #[v, .string t] w fun e w' => e = .returned (.bool true) ∧ Kept w w' := by
  have ht' := ht
  unfold maxLen at ht
  have HL := Lib.hid hL
  have HZ := Lib.hid hz
  obtain ⟨A, c, rfl, -, -, -⟩ := lies_strs hL
  clear hL hz
  by_cases h1 : (1048576 : Int) < (t.size : Int)
  · go_enter Try.func4, Try.ntmps4
    go_wp2_with fail
    go_ret
    exact ⟨rfl, Kept.refl _⟩
  · go_enter Try.func4, Try.ntmps4
    go_wp2_with fail
    refine (szStringS_any _ xs _ HL.out HZ.out).mono ?_
    rintro e w1 ⟨r, rfl, hr, k1⟩
    have K1 := Lib.hid k1
    clear k1
    by_cases h2 : r < 0
    · go_wp2_with fail
      go_ret
      exact ⟨rfl, K1.out⟩
    · obtain ⟨hn, hzz⟩ := hr (by omega)
      have HZZ := Lib.hid hzz
      clear hr hzz
      go_wp2_with fail
      refine (toStringS_any _ xs _ (HL.out.kept K1.out) hn).mono ?_
      rintro e w2 ⟨u2, rfl, ho2, k2⟩
      obtain ⟨A2, c2, rfl, -, -, -⟩ := own_form ho2
      have L2 := Lib.hid (strs_own ho2)
      have K2 := Lib.hid (K1.out.trans k2)
      clear k2 ho2
      go_wp2_with fail
      refine (sJoinStrings_any _ xs t ht' _ L2.out hn HZZ.out).mono ?_
      rintro e w3 ⟨rfl, k3⟩
      have K3 := Lib.hid (K2.out.trans k3)
      clear k3
      go_wp2_with fail
      refine (toStringS_any _ xs _ (HL.out.kept K3.out) hn).mono ?_
      rintro e w4 ⟨u4, rfl, ho4, k4⟩
      obtain ⟨A4, c4, rfl, -, -, -⟩ := own_form ho4
      have L4 := Lib.hid (strs_own ho4)
      have K4 := Lib.hid (K3.out.trans k4)
      clear k4 ho4
      go_wp2_with fail
      refine (joinStrings_any _ xs t ht' _ L4.out hn HZZ.out).mono ?_
      rintro e w5 ⟨rfl, k5⟩
      have L5 := Lib.hid (L4.out.kept k5)
      have K5 := Lib.hid (K4.out.trans k5)
      clear k5
      generalize jnOk xs t = ok
      generalize jnV xs t = val
      go_wp2_with fail
      refine (toStringS_any _ xs _ (HL.out.kept K5.out) hn).mono ?_
      rintro e w6 ⟨u6, rfl, ho6, k6⟩
      obtain ⟨A6, c6, rfl, -, -, -⟩ := own_form ho6
      have L6 := Lib.hid (strs_own ho6)
      have L56 := Lib.hid (L5.out.kept k6)
      have K6 := Lib.hid (K5.out.trans k6)
      clear k6 ho6
      go_wp2_with fail
      refine (eqStringS_any _ _ xs _ L56.out L6.out).mono ?_
      rintro e w7 ⟨rfl, k7⟩
      have K7 := Lib.hid (K6.out.trans k7)
      clear k7
      go_wp2_with fail
      go_ret
      exact ⟨rfl, K7.out⟩
end Go.Proofs.Ytlnhdjajbiahbaa

/-
  A list of gauges marked by the laws' own function: the row of gauges and each one's readings are written, all else stays.
  Conditions: none.
-/
import Derived.Test.YtopdnhlolfehcaaCommon
import Derived.Laws.IdiomStrings
import Derived.Lib.BufferMore
namespace Go.Proofs.Ytopdnhlolfehcaa
open Go.ChangeShapes Go.WideShapes Go.ChangeAt Go.RowKit
set_option linter.unusedVariables false
set_option linter.unusedSimpArgs false

/-- Blocks outside B .. C are as they were; inside, blocks of cells keep their kind and size. -/
structure Wr (B C : Nat) (w w' : World) : Prop where
  os : w'.os = w.os
  tape : w'.tape = w.tape
  output : w'.output = w.output
  size : w.heap.size ≤ w'.heap.size
  block : ∀ k, k < w.heap.size → (k < B ∨ C ≤ k) → w'.heap[k]? = w.heap[k]?
  cs : ∀ (k : Nat) (cur : Array Value) (t : TypeId) (fr : Nat × Nat), w.heap[k]? = some (Obj.cells cur t fr) → ∃ cur' : Array Value, w'.heap[k]? = some (Obj.cells cur' t fr) ∧ cur'.size = cur.size
theorem gmark_lt {w : World} {b : Nat} {o : Obj} (h : w.heap[b]? = some o) : b < w.heap.size := (Array.getElem?_eq_some_iff.1 h).1
section
variable {B C : Nat} {a w w' w2 : World}
theorem Wr.refl (B C : Nat) (w : World) : Wr B C w w := ⟨rfl, rfl, rfl, Nat.le_refl _, fun _ _ _ => rfl, fun k cur t fr h => ⟨cur, h, rfl⟩⟩
theorem Wr.trans (h : Wr B C a w) (k : Wr B C w w') : Wr B C a w' := by
  refine ⟨k.os.trans h.os, k.tape.trans h.tape, k.output.trans h.output, Nat.le_trans h.size k.size, fun i hi ho => (k.block i (Nat.lt_of_lt_of_le hi h.size) ho).trans (h.block i hi ho), fun i cur t fr hc => ?_⟩
  obtain ⟨c1, h1, e1⟩ := h.cs i cur t fr hc
  obtain ⟨c2, h2, e2⟩ := k.cs i c1 t fr h1
  exact ⟨c2, h2, e2.trans e1⟩
theorem Wr.of_kept (h : Kept w w') : Wr B C w w' :=
  ⟨Below.os h, Below.tape h, Below.output h, Below.size h, fun k hk _ => Below.block h k hk, fun k cur t fr hc => ⟨cur, (Below.block h k (gmark_lt hc)).trans hc, rfl⟩⟩
theorem Wr.set (w : World) {g : Nat} (i : Nat) (u : Value) (hB : B ≤ g) (hC : g < C) : Wr B C w (w.setCell ⟨g, i, none⟩ u) := by
  refine ⟨rfl, rfl, rfl, by simp, fun k hk ho => Below.heap_setCell _ _ _ _ (by simp only []; omega), fun k cur t fr hc => ?_⟩
  by_cases e : k = g
  · subst e
    exact ⟨_, Lib.heap_setCell_same hc u, by simp⟩
  · exact ⟨cur, (Below.heap_setCell _ _ _ _ (by simpa using e)).trans hc, rfl⟩
theorem Wr.kept (h : Wr B C w w') (k : Kept a w) (hB : a.heap.size ≤ B) : Kept a w' :=
  ⟨h.os.trans (Below.os k), h.tape.trans (Below.tape k), h.output.trans (Below.output k), Nat.le_trans (Below.size k) h.size, fun i hi => (h.block i (Nat.lt_of_lt_of_le hi (Below.size k)) (.inl (by omega))).trans (Below.block k i hi)⟩
theorem Wr.own {base size n : Nat} {e : TypeId} {v : Value} {xs : List Value} (h : Wr B C w w') (ho : w.ownsRow base e size v n xs) (hb : ∀ g, v.ownBlock = some g → g < B ∨ C ≤ g) : w'.ownsRow base e size v n xs := by
  refine ⟨ho.1, ?_⟩
  rcases ho.2 with hn | ⟨g, cap, cur, rfl, h1, hg, rest⟩
  · exact .inl hn
  · exact .inr ⟨g, cap, cur, rfl, h1, (h.block g (gmark_lt hg) (hb g rfl)).trans hg, rest⟩
theorem Wr.weak {base size n : Nat} {e : TypeId} {v : Value} (h : Wr B C w w') (ho : ∃ xs, w.ownsRow base e size v n xs) : ∃ xs, w'.ownsRow base e size v n xs := by
  obtain ⟨xs, h0, hx⟩ := ho
  rcases hx with ⟨rfl, rfl⟩ | ⟨g, cap, cur, rfl, h1, hg, hn, hm, hs, ht⟩
  · exact ⟨xs, h0, .inl ⟨rfl, rfl⟩⟩
  · obtain ⟨cur', hg', hs'⟩ := h.cs g cur e (0, 0) hg
    refine ⟨cur'.toList.take (n * size), ?_, .inr ⟨g, cap, cur', rfl, h1, hg', hn, hm, hs'.trans hs, rfl⟩⟩
    rw [List.length_take, Array.length_toList, hs', hs]
    exact Nat.min_eq_left (Nat.mul_le_mul_right _ hn)
theorem Wr.of_grown {base size n : Nat} {e : TypeId} {v : Value} {xs ys : List Value} (h1 : w.ownsRow base e size v n xs) (h2 : w'.ownsRow base e size v n ys) (hg : w.grownBy w' v.ownBlock) (hb : ∀ g, v.ownBlock = some g → B ≤ g ∧ g < C) : Wr B C w w' := by
  refine ⟨hg.os, hg.tape, hg.output, hg.size, fun k hk ho => hg.block k hk ?_, fun k cur t fr hc => ?_⟩
  · intro e
    have := hb k e.symm
    omega
  · by_cases e : v.ownBlock = some k
    · rcases h1.2 with ⟨rfl, -⟩ | ⟨g, cap, cu, rfl, -, hg1, -, -, hs1, -⟩
      · simp [Value.ownBlock] at e
      · simp [Value.ownBlock] at e
        subst e
        rcases h2.2 with ⟨e2, -⟩ | ⟨g2, cap2, cu2, e2, -, hg2, -, -, hs2, -⟩
        · simp at e2
        · simp only [Value.slice.injEq, Option.some.injEq, Addr.mk.injEq] at e2
          obtain ⟨⟨rfl, -, -⟩, -, rfl⟩ := e2
          rw [hg1] at hc
          injection hc with hc
          simp only [Obj.cells.injEq] at hc
          obtain ⟨rfl, rfl, rfl⟩ := hc
          exact ⟨cu2, hg2, hs2.trans hs1.symm⟩
    · exact ⟨cur, (hg.block k (gmark_lt hc) (fun h => e h.symm)).trans hc, rfl⟩
end
theorem sz1 (a : UInt8) (out : ByteArray) : ((⟨#[a]⟩ : ByteArray) ++ out).size = 1 + out.size := by
  rw [ByteArray.size_append]
  rfl
/-- The digits that a mark's text is built of. -/
def mgo : Nat → Nat → ByteArray → ByteArray
  | 0, _, out => out
  | f + 1, k, out => if k = 0 then out else mgo f (k / 10) (⟨#[(48 + UInt8.ofNat (k % 10))]⟩ ++ out)
theorem mgo_zero (f : Nat) (out : ByteArray) : mgo f 0 out = out := by
  cases f <;> simp [mgo]
theorem mgo_step {f k : Nat} {out : ByteArray} (h : 0 < k) : mgo (f + 1) k out = mgo f (k / 10) (⟨#[(48 + UInt8.ofNat (k % 10))]⟩ ++ out) := by
  rw [mgo, if_neg (by omega)]
def mtx (k : Nat) : ByteArray := ⟨#[109]⟩ ++ mgo k k ⟨#[]⟩
theorem run_one (w : World) (k : Nat) : (convert 22 9 (.slice (some ⟨w.heap.size, 0, none⟩) 1 1)).run Try.prog (w.alloc (.cells #[.int .u8 (48 + (k : Int) % 10)] 5)) = .ok (.string ⟨#[(48 + UInt8.ofNat (k % 10))]⟩) (w.alloc (.cells #[.int .u8 (48 + (k : Int) % 10)] 5)) := by
  have h := run_convert_bytes_back (P := Try.prog) (w.alloc (.cells #[.int .u8 (48 + (k : Int) % 10)] 5)) 22 9 5 ⟨w.heap.size, 0, none⟩ 1 [(48 + UInt8.ofNat (k % 10))] Try.underlying22 Try.underlying5 Try.underlying9 (fun j hj => by
    have e : j = 0 := by simpa using hj
    subst e
    have := news_one w (.int .u8 (48 + (k : Int) % 10)) 5 rfl 0 _ rfl
    rw [this]
    simp
    omega)
  simpa using h
set_option maxHeartbeats 1000000 in
theorem markText_any (k : Nat) (h0 : 1 ≤ k) (h1 : k ≤ 1000000000000000) (w : World) : Calls Try.prog 92 #[.int .i64 (k : Int)] w fun e w' => e = .returned (.string (mtx k)) ∧ Kept w w' := by
  have hp : ¬ ((k : Int) ≤ 0) := by omega
  go_enter Try.func92, Try.ntmps92
  go_wp2_with fail
  go_loopw [0, 3] (fun kk o wr => ∃ (f j : Nat) (out : ByteArray), kk = .int .i64 (j : Int) ∧ o = .string out ∧ j ≤ f ∧ out.size + j ≤ k ∧ mgo f j out = mgo k k ⟨#[]⟩ ∧ Kept w wr) (fun kk _ _ => (intOf kk).toNat)
  case atStart => exact ⟨k, k, _, rfl, rfl, Nat.le_refl _, by simp [ByteArray.size], rfl, Kept.refl _⟩
  case round =>
    obtain ⟨f, j, out, rfl, rfl, hjf, hjk, hm, hkw⟩ := hrel
    have HM := Lib.hid hm
    have HK := Lib.hid hkw
    have hz : out.size ≤ 1000000000000000 := by omega
    clear hm hkw
    by_cases hlt : 0 < j
    · have hcv := run_one wr j
      have hb0 : 0 ≤ (j : Int) % 10 := by omega
      have hb1 : (j : Int) % 10 < 10 := by omega
      have ht : (j : Int).tmod 10 = (j : Int) % 10 := Int.tmod_eq_emod_of_nonneg (by omega)
      have hq : (j : Int).tdiv 10 = (j : Int) / 10 := Int.tdiv_eq_ediv_of_nonneg (by omega)
      obtain ⟨f, rfl⟩ : ∃ f', f = f' + 1 := ⟨f - 1, by omega⟩
      have HS := Lib.hid (mgo_step (f := f) (out := out) hlt)
      go_wp2_with fail
      go_roundw
      case rel => exact ⟨f, j / 10, _, by go_num, rfl, by omega, by rw [sz1]; omega, by rw [← HS.out]; exact HM.out, by have hq := HK.out; (repeat (first | exact Kept.refl _ | assumption | refine Kept.alloc ?_ _ | refine Kept.drew ?_ | refine Kept.drewN ?_ _ | refine Kept.setCell ?_ (by first | (simp; done) | (simp; omega) | omega | exact Kept.size (by (repeat (first | exact Kept.refl _ | assumption | refine Kept.alloc ?_ _ | refine Kept.drew ?_ | refine Kept.drewN ?_ _ | refine Kept.trans ?_ (by assumption))))) _ | refine Kept.trans ?_ (by assumption)))⟩
      case measure => simp [intOf]; omega
    · have e : j = 0 := by omega
      subst e
      have HZ := Lib.hid (show out = mgo k k ⟨#[]⟩ from (mgo_zero f out).symm.trans HM.out)
      go_wp2_with fail
      go_ret
      exact ⟨by rw [HZ.out]; rfl, HK.out⟩
theorem markRd_any (B : Nat) (E : TypeId) (u : Value) (n : Nat) (xs : List Value) (s : Int) (h0 : 0 ≤ s) (h1 : s ≤ 1000000000000000) (w : World) (hu : w.ownsRow B E 2 u n xs) (hn : n ≤ 1048576) : Calls Try.prog 41 #[u, .int .i64 s] w fun e w' => e = .returned (.int .i64 (s + 2 * (n : Int))) ∧ (∃ ys, w'.ownsRow B E 2 u n ys) ∧ w.grownBy w' u.ownBlock := by
  obtain ⟨A, c, rfl, hlc, hcm, hA⟩ := own_form hu
  have HU := Lib.hid hu
  clear hu
  go_enter Try.func41, Try.ntmps41
  go_wp2
  go_loopw [1, 5] (fun kk i wr => ∃ k : Nat, k ≤ n ∧ i = .int .i64 k ∧ kk = .int .i64 (s + 2 * (k : Int)) ∧ w.grownBy wr (Value.slice A n c).ownBlock ∧ ∃ ys, wr.ownsRow B E 2 (.slice A n c) n ys) (fun _ i _ => n - (intOf i).toNat)
  case atStart => exact ⟨0, Nat.zero_le _, rfl, by simp, World.grownBy.refl _ _, _, HU.out⟩
  case round =>
    obtain ⟨k, hk, rfl, rfl, hgr, ys, hown⟩ := hrel
    have HO := Lib.hid hown
    have HG := Lib.hid hgr
    clear hown hgr
    by_cases hlt : k < n
    · obtain ⟨g, rfl, hBg, hgw⟩ := hA (by omega)
      obtain ⟨u0, -, d0, f0⟩ := own_cell HO.out (j := k * 2) (by omega)
      obtain ⟨u1, -, d1, f1⟩ := own_cell HO.out (j := k * 2 + 1) (by omega)
      have s0 : s + 2 * (k : Int) ≤ 1000000003000000 := by omega
      go_wp2
      go_roundw
      case rel =>
        exact ⟨k + 1, by omega, by go_num, by go_num, grown_trans' (grown_trans' HG.out (HO.out.stored (k * 2) _).2) ((HO.out.stored (k * 2) _).1.stored (k * 2 + 1) _).2, _, ((HO.out.stored (k * 2) _).1.stored (k * 2 + 1) _).1⟩
      case measure => simp [intOf]; omega
    · have e : k = n := by omega
      have HK := Lib.hid (show s + 2 * (k : Int) = s + 2 * (n : Int) by omega)
      clear e
      go_wp2
      go_ret
      exact ⟨ret_int HK.out, ⟨_, HO.out⟩, HG.out⟩
set_option maxHeartbeats 1000000 in
theorem markGaugeS_any (B C : Nat) (T R : TypeId) (u : Value) (gs : List Gz) (W w : World) (hk : Kept W w) (hW : GOwn W B T R u gs) (hc : W.heap.size ≤ C) (hn : gs.length ≤ 1048576) (hxs : ∀ i, i < gs.length → (GZ gs i).xs.length ≤ 1048576) : Calls Try.prog 56 #[u, .int .i64 1] w fun e w' => ∃ r : Int, e = .returned (.int .i64 r) ∧ 0 ≤ r ∧ Wr B C w w' := by
  have hst : (∀ g, u.ownBlock = some g → g = B ∧ g < C) ∧ ∃ ys, w.ownsRow B T 4 u gs.length ys ∧ ∀ i, i < gs.length → ∃ v, ys[i * 4 + 3]? = some v ∧ (∃ xs, w.ownsRow (B + 1) R 2 v (GZ gs i).xs.length xs) ∧ ∀ g, v.ownBlock = some g → B ≤ g ∧ g < C := by
    obtain ⟨ys, ho, hr, hb⟩ := hW
    refine ⟨fun g hg => ⟨hb g hg, by have := (ho.lt g hg).2; omega⟩, ys, own_kept ho hk, fun i hi => ?_⟩
    obtain ⟨v, hv, hov⟩ := hr i hi
    exact ⟨v, hv.y3, ⟨_, own_kept hov hk⟩, fun g hg => by have := hov.lt g hg; omega⟩
  obtain ⟨hub, ys0, ho0, hr0⟩ := hst
  obtain ⟨A, c, rfl, hlc, hcm, hA⟩ := own_form ho0
  have HU := Lib.hid ho0
  have HR := Lib.hid hr0
  have HXS := Lib.hid hxs
  clear hW hk hc ho0 hr0 hxs
  go_enter Try.func56, Try.ntmps56
  go_wp2_with fail
  go_loopw [1, 5] (fun kk i wr => ∃ (k : Nat) (s : Int), k ≤ gs.length ∧ i = .int .i64 k ∧ kk = .int .i64 s ∧ 1 ≤ s ∧ s ≤ 1 + 3000000 * (k : Int) ∧ Wr B C w wr ∧ ∃ ys, wr.ownsRow B T 4 (.slice A gs.length c) gs.length ys ∧ ∀ i, i < gs.length → ∃ v, ys[i * 4 + 3]? = some v ∧ (∃ xs, wr.ownsRow (B + 1) R 2 v (GZ gs i).xs.length xs) ∧ ∀ g, v.ownBlock = some g → B ≤ g ∧ g < C) (fun _ i _ => gs.length - (intOf i).toNat)
  case atStart => exact ⟨0, 1, Nat.zero_le _, rfl, rfl, by omega, by omega, Wr.refl _ _ _, _, HU.out, HR.out⟩
  case round =>
    obtain ⟨k, s, hk, rfl, rfl, s0, s1, hwr, ys, hown, hys⟩ := hrel
    have HO := Lib.hid hown
    have HY := Lib.hid hys
    have HW := Lib.hid hwr
    clear hown hys hwr
    by_cases hlt : k < gs.length
    · obtain ⟨g, rfl, hBg, -⟩ := hA (by omega)
      obtain ⟨rfl, hgC⟩ := hub g rfl
      obtain ⟨u0, -, d0, f0⟩ := own_cell HO.out (j := k * 4) (by omega)
      obtain ⟨u1, -, d1, f1⟩ := own_cell HO.out (j := k * 4 + 1) (by omega)
      obtain ⟨u2, -, d2, f2⟩ := own_cell HO.out (j := k * 4 + 2) (by omega)
      obtain ⟨v, hv, ⟨xs, hov⟩, hvb⟩ := HY.out k hlt
      have HOV := Lib.hid hov
      have HVB := Lib.hid hvb
      have d3 : wr.cell? ⟨g, k * 4 + 3, none⟩ = some v := (HO.out.cellAt _ (by omega)).trans hv
      obtain ⟨A2, c2, rfl, -, -, -⟩ := own_form hov
      have hxl := HXS.out k hlt
      have s2 : s ≤ 1 + 3000000 * 1048576 := by omega
      obtain ⟨t, rfl⟩ : ∃ t : Nat, s = (t : Int) := ⟨s.toNat, by omega⟩
      clear hov hvb hv
      have HM := Lib.hid (markText_any (t + 1) (by omega) (by omega))
      have hc1 : ((t + 1 : Nat) : Int) = (t : Int) + 1 := by omega
      have HM2 : Hid (∀ W : World, Calls Try.prog 92 #[.int .i64 ((t : Int) + 1)] W fun e w' => e = .returned (.string (mtx (t + 1))) ∧ Kept W w') := Lib.hid (by rw [← hc1]; exact HM.out)
      clear HM hc1
      have HW1 : Hid (Wr g C wr _) := Lib.hid (Wr.set wr (k * 4) (.int .i64 (t : Int)) (Nat.le_refl g) hgC)
      have HO1 := Lib.hid (HO.out.stored (k * 4) (.int .i64 (t : Int))).1
      go_wp2_with fail
      refine (HM2.out _).mono ?_
      rintro e wq ⟨rfl, k2⟩
      have HO2 := Lib.hid (own_kept HO1.out k2)
      have HW2 := Lib.hid ((HW1.out.trans (Wr.of_kept k2)).trans (Wr.set wq (k * 4 + 1) (.string (mtx (t + 1))) (Nat.le_refl g) hgC))
      have HO3 := Lib.hid (HO2.out.stored (k * 4 + 1) (.string (mtx (t + 1)))).1
      have HW3 := Lib.hid (HW2.out.trans (Wr.set _ (k * 4 + 2) (.int .i64 ((t : Int) + 1 + 1)) (Nat.le_refl g) hgC))
      have HO4 := Lib.hid (HO3.out.stored (k * 4 + 2) (.int .i64 ((t : Int) + 1 + 1))).1
      have HV4 := Lib.hid (ownsRow_setCell_below (ownsRow_setCell_below (own_kept (ownsRow_setCell_below HOV.out (a := ⟨g, k * 4, none⟩) (by simp) (.int .i64 (t : Int))) k2) (a := ⟨g, k * 4 + 1, none⟩) (by simp) (.string (mtx (t + 1)))) (a := ⟨g, k * 4 + 2, none⟩) (by simp) (.int .i64 ((t : Int) + 1 + 1)))
      obtain ⟨x1, -, p1, q1⟩ := own_cell HO2.out (j := k * 4 + 1) (by omega)
      obtain ⟨x2, -, p2, q2⟩ := own_cell HO2.out (j := k * 4 + 2) (by omega)
      have p3 : wq.cell? ⟨g, k * 4 + 3, none⟩ = some (.slice A2 (GZ gs k).xs.length c2) := k2.keep (by
        have := HO1.out.cellAt (k * 4 + 3) (by omega)
        rw [this, List.getElem?_set_ne (by omega)]
        exact (HO.out.cellAt (k * 4 + 3) (by omega)).symm.trans d3)
      have HK2 := Lib.hid k2
      clear d0 d1 d2 d3 f0 f1 f2 k2
      go_wp2_with fail
      refine (markRd_any (g + 1) R _ _ _ _ (by omega) (by omega) _ HV4.out hxl).mono ?_
      rintro e d3 ⟨rfl, ho3, g3⟩
      have HQ := Lib.hid (HW3.out.trans (Wr.of_grown HV4.out ho3.choose_spec g3 HVB.out))
      have HO5 := Lib.hid (HO4.out.kept g3 (Or.inr (by
        intro e
        have h2 := HV4.out.lt g e.symm
        omega)))
      clear ho3 g3 p1 p2 p3 q1 q2
      go_wp2_with fail
      go_roundw
      case rel =>
        refine ⟨k + 1, _, by omega, by go_num, rfl, by omega, by omega, HW.out.trans HQ.out, _, HO5.out, fun i hi => ?_⟩
        obtain ⟨v, hv, how, hvb⟩ := HY.out i hi
        refine ⟨v, ?_, HQ.out.weak how, hvb⟩
        rw [List.getElem?_set_ne (by omega), List.getElem?_set_ne (by omega), List.getElem?_set_ne (by omega)]
        exact hv
      case measure => simp [intOf]; omega
    · go_wp2_with fail
      go_ret
      exact ⟨s, rfl, by omega, HW.out⟩
end Go.Proofs.Ytopdnhlolfehcaa

/-
  Contracts of GapsOf, the program's and the reference's, and the law's walk.
  Conditions: none.
-/
import Derived.Test.YtopdnhlolfehcaaHighW2
import Derived.Test.YtopdnhlolfehcaaPRows
namespace Go.Proofs.Ytopdnhlolfehcaa
open Go.ChangeShapes Go.WideShapes Go.ChangeAt Go.RowKit
set_option linter.unusedVariables false
set_option linter.unusedSimpArgs false

/-- Is there a gap behind the j-th reading. -/
def gpAt (xs : List (Int × Int)) (m : Int) (j : Nat) : Bool := decide (m < P1 xs (j + 1) - P1 xs j)
def gpTo (xs : List (Int × Int)) (m : Int) (k : Nat) : List (Int × Int) := ((List.range k).filter (gpAt xs m)).map (fun j => (P1 xs j, P1 xs (j + 1)))
theorem gp_len (xs : List (Int × Int)) (m : Int) (k : Nat) : (gpTo xs m k).length ≤ k := by
  have := List.length_filter_le (gpAt xs m) (List.range k)
  simpa [gpTo] using this
theorem gp_yes {xs : List (Int × Int)} {m : Int} {k : Nat} (h : gpAt xs m k = true) : gpTo xs m (k + 1) = gpTo xs m k ++ [(P1 xs k, P1 xs (k + 1))] := by
  simp [gpTo, List.range_succ, List.filter_append, h]
theorem gp_no {xs : List (Int × Int)} {m : Int} {k : Nat} (h : gpAt xs m k = false) : gpTo xs m (k + 1) = gpTo xs m k := by
  simp [gpTo, List.range_succ, List.filter_append, h]
def gpOk (id : Int) (nm : ByteArray) (z : Int) (xs : List (Int × Int)) (m : Int) : Bool := gaugeB id nm z xs && inB m 1 10000
def gpVal (id : Int) (nm : ByteArray) (z : Int) (xs : List (Int × Int)) (m : Int) : List (Int × Int) := if gpOk id nm z xs m = true then gpTo xs m (xs.length - 1) else []
theorem gpv_no {id z m : Int} {nm : ByteArray} {xs : List (Int × Int)} (h : gpOk id nm z xs m = false) : gpVal id nm z xs m = [] := by simp [gpVal, h]
theorem gpv_yes {id z m : Int} {nm : ByteArray} {xs : List (Int × Int)} {k : Nat} (h : gpOk id nm z xs m = true) (hk : k = xs.length - 1) : gpVal id nm z xs m = gpTo xs m k := by simp [gpVal, h, hk]
theorem gp_bd (id : Int) (nm : ByteArray) (z : Int) (xs : List (Int × Int)) (m : Int) : (gpVal id nm z xs m).length ≤ 1000 := by
  unfold gpVal
  split
  · rename_i h
    simp only [gpOk, Bool.and_eq_true] at h
    have := gp_len xs m (xs.length - 1)
    have := (gaugeB_1 h.1).2.2.1
    omega
  · simp
theorem prs_snoc (L : List (Int × Int)) (x y : Int) : prs (L ++ [(x, y)]) = prs L ++ [(.int .i64 x, .int .i64 y)] := by simp [prs]
/-- What GapsOf returns. -/
def GapsPost (w : World) (ok : Bool) (L : List (Int × Int)) (e : Ending) (w' : World) : Prop := ∃ u, e = .returned (.tuple #[u, .bool ok]) ∧ (∃ bs, PRows w' w.heap.size 44 3 u bs (prs L)) ∧ Kept w w'
theorem infoInts : (Try.prog.info? 44).map (fun i => (i.zero, i.size, i.bytes)) = some (some (.slice none 0 0), 1, 24) := by kernel_rfl
theorem news_one (W : World) (x : Value) (t : TypeId) {g : Nat} (hg : W.heap.size = g) : ∀ (j : Nat) (u : Value), [x][j]? = some u → (W.alloc (.cells #[x] t)).cell? ((⟨g, 0, none⟩ : Addr).add j) = some u := by
  subst hg
  exact World.news_of_block (cs := #[x]) (t := t) (fr := (0, 0)) (heap_alloc_new W _)
theorem row_in (W : World) (o : Obj) {g : Nat} (hg : W.heap.size = g) {W2 : World} (k : Kept (W.alloc o) W2) : W2.heap[g]? = some o := by
  subst hg
  exact (Below.block k W.heap.size (by simp)).trans (heap_alloc_new W o)
theorem gp_ok_no1 {id z m : Int} {nm : ByteArray} {xs : List (Int × Int)} (h : gaugeB id nm z xs = false) : gpOk id nm z xs m = false := by simp [gpOk, h]
theorem gp_ok_no2 {id z m : Int} {nm : ByteArray} {xs : List (Int × Int)} (h : inB m 1 10000 = false) : gpOk id nm z xs m = false := by simp [gpOk, h]
set_option maxRecDepth 100000 in
set_option maxHeartbeats 2000000 in
theorem gapsOf_any (id : Int) (nm : ByteArray) (z : Int) (v : Value) (xs : List (Int × Int)) (m : Int) (hs : nm.size ≤ maxLen) (w : World) (hL : Lies w 2 pairC v xs) : Calls Try.prog 26 #[.agg #[.int .i64 id, .string nm, .int .i64 z, v], .int .i64 m] w (GapsPost w (gpOk id nm z xs m) (gpVal id nm z xs m)) := by
  have HL := Lib.hid hL
  obtain ⟨i0, hi0, hz0, hz1, hz2⟩ := info_parts infoInts
  obtain ⟨A, c, rfl, hlc, hcm, hA⟩ := lies_pairs hL
  clear hL
  cases h1 : gaugeB id nm z xs
  · have HP := Lib.hid (gpv_no (gp_ok_no1 h1 : gpOk id nm z xs m = false))
    have HQ := Lib.hid (gp_ok_no1 h1 : gpOk id nm z xs m = false)
    clear hA
    go_enter Try.func26, Try.ntmps26
    go_wp2_with fail
    refine (isGauge_any _ _ _ _ _ hs _ (by exact HL.out.kept (by (repeat (first | exact Kept.refl _ | assumption | refine Kept.alloc ?_ _ | refine Kept.drew ?_ | refine Kept.drewN ?_ _ | refine Kept.setCell ?_ (by first | (simp; done) | (simp; omega) | omega | exact Kept.size (by (repeat (first | exact Kept.refl _ | assumption | refine Kept.alloc ?_ _ | refine Kept.drew ?_ | refine Kept.drewN ?_ _ | refine Kept.trans ?_ (by assumption))))) _ | refine Kept.trans ?_ (by assumption)))))).mono ?_
    rintro e w' ⟨rfl, hk⟩
    rw [h1]
    go_wp2_with fail
    go_ret2
    exact ⟨_, by rw [HQ.out]; rfl, ⟨[], by rw [HP.out]; exact PRows.nil _ _ _ _ (World.ownsRow_nil _ _ _ _)⟩, by (repeat (first | exact Kept.refl _ | assumption | refine Kept.alloc ?_ _ | refine Kept.drew ?_ | refine Kept.drewN ?_ _ | refine Kept.setCell ?_ (by first | (simp; done) | (simp; omega) | omega | exact Kept.size (by (repeat (first | exact Kept.refl _ | assumption | refine Kept.alloc ?_ _ | refine Kept.drew ?_ | refine Kept.drewN ?_ _ | refine Kept.trans ?_ (by assumption))))) _ | refine Kept.trans ?_ (by assumption)))⟩
  cases h2 : inB m 1 10000
  · have HP := Lib.hid (gpv_no (gp_ok_no2 h2 : gpOk id nm z xs m = false))
    have HQ := Lib.hid (gp_ok_no2 h2 : gpOk id nm z xs m = false)
    clear hA
    go_enter Try.func26, Try.ntmps26
    go_wp2_with fail
    refine (isGauge_any _ _ _ _ _ hs _ (by exact HL.out.kept (by (repeat (first | exact Kept.refl _ | assumption | refine Kept.alloc ?_ _ | refine Kept.drew ?_ | refine Kept.drewN ?_ _ | refine Kept.setCell ?_ (by first | (simp; done) | (simp; omega) | omega | exact Kept.size (by (repeat (first | exact Kept.refl _ | assumption | refine Kept.alloc ?_ _ | refine Kept.drew ?_ | refine Kept.drewN ?_ _ | refine Kept.trans ?_ (by assumption))))) _ | refine Kept.trans ?_ (by assumption)))))).mono ?_
    rintro e w' ⟨rfl, hk⟩
    rw [h1]
    go_wp2_with (go_at_call 74; (with_reducible refine (inside_any _ _ _ _).mono ?_); rintro e w' ⟨rfl, rfl⟩)
    go_ret2
    exact ⟨_, by rw [HQ.out]; rfl, ⟨[], by rw [HP.out]; exact PRows.nil _ _ _ _ (World.ownsRow_nil _ _ _ _)⟩, by (repeat (first | exact Kept.refl _ | assumption | refine Kept.alloc ?_ _ | refine Kept.drew ?_ | refine Kept.drewN ?_ _ | refine Kept.setCell ?_ (by first | (simp; done) | (simp; omega) | omega | exact Kept.size (by (repeat (first | exact Kept.refl _ | assumption | refine Kept.alloc ?_ _ | refine Kept.drew ?_ | refine Kept.drewN ?_ _ | refine Kept.trans ?_ (by assumption))))) _ | refine Kept.trans ?_ (by assumption)))⟩
  have hn := (gaugeB_1 h1).2.2.1
  have hm := inB_true.1 h2
  obtain ⟨m0, m1⟩ := hm
  have HQ := Lib.hid (show gpOk id nm z xs m = true by simp [gpOk, h1, h2])
  have H1 := Lib.hid h1
  have H2 := Lib.hid h2
  have HA := Lib.hid hA
  clear hA
  go_enter Try.func26, Try.ntmps26
  go_wp2_with fail
  refine (isGauge_any _ _ _ _ _ hs _ (by exact HL.out.kept (by (repeat (first | exact Kept.refl _ | assumption | refine Kept.alloc ?_ _ | refine Kept.drew ?_ | refine Kept.drewN ?_ _ | refine Kept.setCell ?_ (by first | (simp; done) | (simp; omega) | omega | exact Kept.size (by (repeat (first | exact Kept.refl _ | assumption | refine Kept.alloc ?_ _ | refine Kept.drew ?_ | refine Kept.drewN ?_ _ | refine Kept.trans ?_ (by assumption))))) _ | refine Kept.trans ?_ (by assumption)))))).mono ?_
  rintro e w' ⟨rfl, hk⟩
  rw [H1.out]
  have HKW : Hid (Kept (w.alloc (.cells #[.int .i64 id, .string nm, .int .i64 z, .slice A xs.length c] 26)) w') := Lib.hid hk
  have HOW := Lib.hid (own_base (World.ownsRow_lit (e := 44) (size := 1) w' #[] 0 (Nat.le_refl _) (by simp [maxLen]) rfl) (show w.heap.size + 1 ≤ w'.heap.size by simpa using hk.size))
  clear hk
  go_wp2_with (go_at_call 74; (with_reducible refine (inside_any _ _ _ _).mono ?_); rintro e w' ⟨rfl, rfl⟩)
  go_loopw [6, 7] (fun v i wr => ∃ k : Nat, (k = 0 ∨ k + 1 ≤ xs.length) ∧ i = .int .i64 ((k : Int) + 1) ∧ Kept (w.alloc (.cells #[.int .i64 id, .string nm, .int .i64 z, .slice A xs.length c] 26)) wr ∧ ∃ bs, PRows wr (w.heap.size + 1) 44 3 v bs (prs (gpTo xs m k))) (fun _ i _ => xs.length - (intOf i).toNat)
  case atStart => exact ⟨0, Or.inl rfl, rfl, by have hq := HKW.out; (repeat (first | exact Kept.refl _ | assumption | refine Kept.alloc ?_ _ | refine Kept.drew ?_ | refine Kept.drewN ?_ _ | refine Kept.setCell ?_ (by first | (simp; done) | (simp; omega) | omega | exact Kept.size (by (repeat (first | exact Kept.refl _ | assumption | refine Kept.alloc ?_ _ | refine Kept.drew ?_ | refine Kept.drewN ?_ _ | refine Kept.trans ?_ (by assumption))))) _ | refine Kept.trans ?_ (by assumption))), [], PRows.nil _ _ _ _ HOW.out⟩
  case round =>
    obtain ⟨k, hk, rfl, hkw, bs, hown⟩ := hrel
    have HO := Lib.hid hown
    have HK := Lib.hid hkw
    have p3 := hkw.keep (show (w.alloc (.cells #[.int .i64 id, .string nm, .int .i64 z, .slice A xs.length c] 26)).cell? ⟨w.heap.size, 3, none⟩ = some (.slice A xs.length c) by simp [go_sem])
    have hz := World.block_lt_of_cell? wr _ p3
    simp only [] at hz
    have z1 : w.heap.size ≤ wr.heap.size := by omega
    have z2 : ¬ w.heap.size = wr.heap.size := by omega
    have z3 : ¬ wr.heap.size = w.heap.size := by omega
    have zb : w.heap.size + 1 ≤ wr.heap.size := by omega
    obtain ⟨Av, cv, rfl, -, -, -⟩ := own_form hown.out
    clear hown
    by_cases hlt : k + 1 < xs.length
    · obtain ⟨b, off, rfl, hc⟩ := HA.out (by omega)
      have c0 := hkw.keep ((Kept.alloc (Kept.refl w) _).keep (hc k (by omega)).1)
      have c1 := hkw.keep ((Kept.alloc (Kept.refl w) _).keep (hc (k + 1) (by omega)).1)
      have hgl := gp_len xs m k
      have hpl : (prs (gpTo xs m k)).length ≤ 15 := by rw [prs_len]; omega
      obtain ⟨⟨t0, t1⟩, -, -⟩ := gaugeB_at H1.out (show k < xs.length by omega)
      obtain ⟨⟨t2, t3⟩, -, -⟩ := gaugeB_at H1.out hlt
      have k0 : (0 : Int) ≤ (k : Int) := by omega
      have k1 : (k : Int) < (xs.length : Int) := by omega
      have k2 : (0 : Int) ≤ (k : Int) + 1 := by omega
      have k3 : (k : Int) + 1 < (xs.length : Int) := by omega
      clear hkw hc
      by_cases g1 : m < P1 xs (k + 1) - P1 xs k
      · have HG := Lib.hid (gp_yes (show gpAt xs m k = true by simp [gpAt, g1]))
        have b1 : 1 ≤ k + 1 := by omega
        go_wp2_with fail
        have e1 : IntKind.i64.wrap ((k : Int) + 1 - 1) = (k : Int) := by rw [Int.add_sub_cancel]; exact IntWalk.i64_in _ (by omega)
        have e2 : IntKind.i64.wrap (P1 xs (k + 1) - P1 xs k) = P1 xs (k + 1) - P1 xs k := IntWalk.i64_in _ (by omega)
        have e3 : ((k : Int) + 1).toNat = k + 1 := by omega
        go_quiet (fail)
        clear e1 e2 e3
        go_wp2_with (at_builtin; refine wpList_append_own_at _ rfl (.tmp 44) (.tmp 48) _ rfl (w.heap.size + 1) 44 i0 _ 1 24 Try.underlying40 hi0 hz0 hz1 hz2 rfl (by decide) _ (prs (gpTo xs m k)).length _ rfl (own_kept HO.out.out (by (repeat (first | exact Kept.refl _ | assumption | refine Kept.alloc ?_ _ | refine Kept.drew ?_ | refine Kept.drewN ?_ _ | refine Kept.setCell ?_ (by first | (simp; done) | (simp; omega) | omega | exact Kept.size (by (repeat (first | exact Kept.refl _ | assumption | refine Kept.alloc ?_ _ | refine Kept.drew ?_ | refine Kept.drewN ?_ _ | refine Kept.trans ?_ (by assumption))))) _ | refine Kept.trans ?_ (by assumption))))) ⟨wr.heap.size + 1, 0, none⟩ 1 1 [rowV wr.heap.size] rfl rfl (news_one _ _ _ (by simp)) (by simp [Value.oneCell', rowV]) (by unfold maxLen; omega) (by omega) (by simp; omega) ?_; intro v1 w1 hown1 hgrow1 _ hob)
        have hgo := Kept.of_own HK.out (own_base HO.out.out (by simp)) hgrow1 (by (repeat (first | exact Kept.refl _ | assumption | refine Kept.alloc ?_ _ | refine Kept.drew ?_ | refine Kept.drewN ?_ _ | refine Kept.setCell ?_ (by first | (simp; done) | (simp; omega) | omega | exact Kept.size (by (repeat (first | exact Kept.refl _ | assumption | refine Kept.alloc ?_ _ | refine Kept.drew ?_ | refine Kept.drewN ?_ _ | refine Kept.trans ?_ (by assumption))))) _ | refine Kept.trans ?_ (by assumption))))
        have hpr := HO.out.push zb (by (repeat (first | exact Kept.refl _ | assumption | refine Kept.alloc ?_ _ | refine Kept.drew ?_ | refine Kept.drewN ?_ _ | refine Kept.setCell ?_ (by first | (simp; done) | (simp; omega) | omega | exact Kept.size (by (repeat (first | exact Kept.refl _ | assumption | refine Kept.alloc ?_ _ | refine Kept.drew ?_ | refine Kept.drewN ?_ _ | refine Kept.trans ?_ (by assumption))))) _ | refine Kept.trans ?_ (by assumption)))) (row_in _ _ (by simp) (Kept.alloc (Kept.refl _) _)) hown1 hgrow1 (hob.elim Or.inl (fun e => Or.inr ⟨_, e, by simp⟩))
        go_roundw
        case rel => exact ⟨k + 1, Or.inr (by omega), by go_num, hgo, _, by rw [HG.out, prs_snoc]; exact hpr⟩
        case measure => simp [intOf]; omega
      · have HG := Lib.hid (gp_no (show gpAt xs m k = false by simp [gpAt]; omega))
        have g2 : decide (m < P1 xs (k + 1) - P1 xs k) = false := decide_eq_false g1
        go_wp2_with fail
        have e1 : IntKind.i64.wrap ((k : Int) + 1 - 1) = (k : Int) := by rw [Int.add_sub_cancel]; exact IntWalk.i64_in _ (by omega)
        have e2 : IntKind.i64.wrap (P1 xs (k + 1) - P1 xs k) = P1 xs (k + 1) - P1 xs k := IntWalk.i64_in _ (by omega)
        have e3 : ((k : Int) + 1).toNat = k + 1 := by omega
        go_quiet (fail)
        clear e1 e2 e3
        go_wp2_with fail
        go_roundw
        case rel => exact ⟨k + 1, Or.inr (by omega), by go_num, by have hq := HK.out; (repeat (first | exact Kept.refl _ | assumption | refine Kept.alloc ?_ _ | refine Kept.drew ?_ | refine Kept.drewN ?_ _ | refine Kept.setCell ?_ (by first | (simp; done) | (simp; omega) | omega | exact Kept.size (by (repeat (first | exact Kept.refl _ | assumption | refine Kept.alloc ?_ _ | refine Kept.drew ?_ | refine Kept.drewN ?_ _ | refine Kept.trans ?_ (by assumption))))) _ | refine Kept.trans ?_ (by assumption))), bs, by rw [HG.out]; exact HO.out.kept (by (repeat (first | exact Kept.refl _ | assumption | refine Kept.alloc ?_ _ | refine Kept.drew ?_ | refine Kept.drewN ?_ _ | refine Kept.setCell ?_ (by first | (simp; done) | (simp; omega) | omega | exact Kept.size (by (repeat (first | exact Kept.refl _ | assumption | refine Kept.alloc ?_ _ | refine Kept.drew ?_ | refine Kept.drewN ?_ _ | refine Kept.trans ?_ (by assumption))))) _ | refine Kept.trans ?_ (by assumption))))⟩
        case measure => simp [intOf]; omega
    · have HF := Lib.hid (gpv_yes (m := m) HQ.out (show k = xs.length - 1 by omega))
      go_wp2_with fail
      go_ret2
      exact ⟨_, by rw [HQ.out]; rfl, ⟨bs, by rw [HF.out]; exact ⟨HO.out.len, own_base HO.out.out (by omega), HO.out.nd, fun i b p hb hp => let ⟨q1, q2, q3⟩ := HO.out.row i b p hb hp; ⟨by omega, q2, q3⟩⟩⟩, (Kept.alloc (Kept.refl w) _).trans HK.out⟩
set_option maxRecDepth 100000 in
set_option maxHeartbeats 2000000 in
theorem sGapsOf_any (id : Int) (nm : ByteArray) (z : Int) (v : Value) (xs : List (Int × Int)) (m : Int) (hs : nm.size ≤ maxLen) (w : World) (hL : Lies w 2 pairC v xs) : Calls Try.prog 27 #[.agg #[.int .i64 id, .string nm, .int .i64 z, v], .int .i64 m] w (GapsPost w (gpOk id nm z xs m) (gpVal id nm z xs m)) := by
  have HL := Lib.hid hL
  obtain ⟨i0, hi0, hz0, hz1, hz2⟩ := info_parts infoInts
  obtain ⟨A, c, rfl, hlc, hcm, hA⟩ := lies_pairs hL
  clear hL
  have HO0 : Hid (((w.alloc (.cells #[.int .i64 id, .string nm, .int .i64 z, .slice A xs.length c] 26)).alloc (.cells #[] 44)).ownsRow (w.heap.size + 1) 44 1 (.slice (some ⟨w.heap.size + 1, 0, none⟩) 0 0) 0 []) := Lib.hid (by have hq := World.ownsRow_lit (e := 44) (size := 1) (w.alloc (.cells #[.int .i64 id, .string nm, .int .i64 z, .slice A xs.length c] 26)) #[] 0 (Nat.le_refl _) (by simp [maxLen]) rfl; simpa only [World.size_alloc] using hq)
  cases h1 : gaugeB id nm z xs
  · have HP := Lib.hid (gpv_no (gp_ok_no1 h1 : gpOk id nm z xs m = false))
    have HQ := Lib.hid (gp_ok_no1 h1 : gpOk id nm z xs m = false)
    clear hA
    go_enter Try.func27, Try.ntmps27
    go_wp2_with fail
    refine (l3One_any _ _ _ _ _ hs _ (by exact HL.out.kept (by (repeat (first | exact Kept.refl _ | assumption | refine Kept.alloc ?_ _ | refine Kept.drew ?_ | refine Kept.drewN ?_ _ | refine Kept.setCell ?_ (by first | (simp; done) | (simp; omega) | omega | exact Kept.size (by (repeat (first | exact Kept.refl _ | assumption | refine Kept.alloc ?_ _ | refine Kept.drew ?_ | refine Kept.drewN ?_ _ | refine Kept.trans ?_ (by assumption))))) _ | refine Kept.trans ?_ (by assumption)))))).mono ?_
    rintro e w' ⟨rfl, hk⟩
    rw [h1]
    go_wp2_with fail
    go_ret2
    exact ⟨_, by rw [HQ.out]; rfl, ⟨[], by rw [HP.out]; exact PRows.nil _ _ _ _ (own_base (own_kept HO0.out hk) (by simp))⟩, by (repeat (first | exact Kept.refl _ | assumption | refine Kept.alloc ?_ _ | refine Kept.drew ?_ | refine Kept.drewN ?_ _ | refine Kept.setCell ?_ (by first | (simp; done) | (simp; omega) | omega | exact Kept.size (by (repeat (first | exact Kept.refl _ | assumption | refine Kept.alloc ?_ _ | refine Kept.drew ?_ | refine Kept.drewN ?_ _ | refine Kept.trans ?_ (by assumption))))) _ | refine Kept.trans ?_ (by assumption)))⟩
  cases h2 : inB m 1 10000
  · have HP := Lib.hid (gpv_no (gp_ok_no2 h2 : gpOk id nm z xs m = false))
    have HQ := Lib.hid (gp_ok_no2 h2 : gpOk id nm z xs m = false)
    clear hA
    go_enter Try.func27, Try.ntmps27
    go_wp2_with fail
    refine (l3One_any _ _ _ _ _ hs _ (by exact HL.out.kept (by (repeat (first | exact Kept.refl _ | assumption | refine Kept.alloc ?_ _ | refine Kept.drew ?_ | refine Kept.drewN ?_ _ | refine Kept.setCell ?_ (by first | (simp; done) | (simp; omega) | omega | exact Kept.size (by (repeat (first | exact Kept.refl _ | assumption | refine Kept.alloc ?_ _ | refine Kept.drew ?_ | refine Kept.drewN ?_ _ | refine Kept.trans ?_ (by assumption))))) _ | refine Kept.trans ?_ (by assumption)))))).mono ?_
    rintro e w' ⟨rfl, hk⟩
    rw [h1]
    go_wp2_with (go_at_call 77; (with_reducible refine (l1In_any _ _ _ _).mono ?_); rintro e w' ⟨rfl, rfl⟩)
    go_ret2
    exact ⟨_, by rw [HQ.out]; rfl, ⟨[], by rw [HP.out]; exact PRows.nil _ _ _ _ (own_base (own_kept HO0.out hk) (by simp))⟩, by (repeat (first | exact Kept.refl _ | assumption | refine Kept.alloc ?_ _ | refine Kept.drew ?_ | refine Kept.drewN ?_ _ | refine Kept.setCell ?_ (by first | (simp; done) | (simp; omega) | omega | exact Kept.size (by (repeat (first | exact Kept.refl _ | assumption | refine Kept.alloc ?_ _ | refine Kept.drew ?_ | refine Kept.drewN ?_ _ | refine Kept.trans ?_ (by assumption))))) _ | refine Kept.trans ?_ (by assumption)))⟩
  have hn := (gaugeB_1 h1).2.2.1
  have hm := inB_true.1 h2
  obtain ⟨m0, m1⟩ := hm
  have HQ := Lib.hid (show gpOk id nm z xs m = true by simp [gpOk, h1, h2])
  have H1 := Lib.hid h1
  have H2 := Lib.hid h2
  have HA := Lib.hid hA
  clear hA
  go_enter Try.func27, Try.ntmps27
  go_wp2_with fail
  refine (l3One_any _ _ _ _ _ hs _ (by exact HL.out.kept (by (repeat (first | exact Kept.refl _ | assumption | refine Kept.alloc ?_ _ | refine Kept.drew ?_ | refine Kept.drewN ?_ _ | refine Kept.setCell ?_ (by first | (simp; done) | (simp; omega) | omega | exact Kept.size (by (repeat (first | exact Kept.refl _ | assumption | refine Kept.alloc ?_ _ | refine Kept.drew ?_ | refine Kept.drewN ?_ _ | refine Kept.trans ?_ (by assumption))))) _ | refine Kept.trans ?_ (by assumption)))))).mono ?_
  rintro e w' ⟨rfl, hk⟩
  rw [H1.out]
  have HKW : Hid (Kept (w.alloc (.cells #[.int .i64 id, .string nm, .int .i64 z, .slice A xs.length c] 26)) w') := Lib.hid ((Kept.alloc (Kept.refl _) _).trans hk)
  have HOW := Lib.hid (own_kept HO0.out hk)
  clear hk
  go_wp2_with (go_at_call 77; (with_reducible refine (l1In_any _ _ _ _).mono ?_); rintro e w' ⟨rfl, rfl⟩)
  go_loopw [6, 7] (fun v i wr => ∃ k : Nat, (k = 0 ∨ k + 1 ≤ xs.length) ∧ i = .int .i64 ((k : Int) + 1) ∧ Kept (w.alloc (.cells #[.int .i64 id, .string nm, .int .i64 z, .slice A xs.length c] 26)) wr ∧ ∃ bs, PRows wr (w.heap.size + 1) 44 3 v bs (prs (gpTo xs m k))) (fun _ i _ => xs.length - (intOf i).toNat)
  case atStart => exact ⟨0, Or.inl rfl, rfl, by have hq := HKW.out; (repeat (first | exact Kept.refl _ | assumption | refine Kept.alloc ?_ _ | refine Kept.drew ?_ | refine Kept.drewN ?_ _ | refine Kept.setCell ?_ (by first | (simp; done) | (simp; omega) | omega | exact Kept.size (by (repeat (first | exact Kept.refl _ | assumption | refine Kept.alloc ?_ _ | refine Kept.drew ?_ | refine Kept.drewN ?_ _ | refine Kept.trans ?_ (by assumption))))) _ | refine Kept.trans ?_ (by assumption))), [], PRows.nil _ _ _ _ HOW.out⟩
  case round =>
    obtain ⟨k, hk, rfl, hkw, bs, hown⟩ := hrel
    have HO := Lib.hid hown
    have HK := Lib.hid hkw
    have p3 := hkw.keep (show (w.alloc (.cells #[.int .i64 id, .string nm, .int .i64 z, .slice A xs.length c] 26)).cell? ⟨w.heap.size, 3, none⟩ = some (.slice A xs.length c) by simp [go_sem])
    have hz := World.block_lt_of_cell? wr _ p3
    simp only [] at hz
    have z1 : w.heap.size ≤ wr.heap.size := by omega
    have z2 : ¬ w.heap.size = wr.heap.size := by omega
    have z3 : ¬ wr.heap.size = w.heap.size := by omega
    have zb : w.heap.size + 1 ≤ wr.heap.size := by omega
    obtain ⟨Av, cv, rfl, -, -, -⟩ := own_form hown.out
    clear hown
    by_cases hlt : k + 1 < xs.length
    · obtain ⟨b, off, rfl, hc⟩ := HA.out (by omega)
      have c0 := hkw.keep ((Kept.alloc (Kept.refl w) _).keep (hc k (by omega)).1)
      have c1 := hkw.keep ((Kept.alloc (Kept.refl w) _).keep (hc (k + 1) (by omega)).1)
      have hgl := gp_len xs m k
      have hpl : (prs (gpTo xs m k)).length ≤ 15 := by rw [prs_len]; omega
      obtain ⟨⟨t0, t1⟩, -, -⟩ := gaugeB_at H1.out (show k < xs.length by omega)
      obtain ⟨⟨t2, t3⟩, -, -⟩ := gaugeB_at H1.out hlt
      have k0 : (0 : Int) ≤ (k : Int) := by omega
      have k1 : (k : Int) < (xs.length : Int) := by omega
      have k2 : (0 : Int) ≤ (k : Int) + 1 := by omega
      have k3 : (k : Int) + 1 < (xs.length : Int) := by omega
      have HC := Lib.hid hc
      clear hkw hc
      by_cases g1 : m < P1 xs (k + 1) - P1 xs k
      · have HG := Lib.hid (gp_yes (show gpAt xs m k = true by simp [gpAt, g1]))
        have b1 : 1 ≤ k + 1 := by omega
        go_wp2_with fail
        have e1 : IntKind.i64.wrap ((k : Int) + 1 - 1) = (k : Int) := by rw [Int.add_sub_cancel]; exact IntWalk.i64_in _ (by omega)
        have e2 : IntKind.i64.wrap (P1 xs (k + 1) - P1 xs k) = P1 xs (k + 1) - P1 xs k := IntWalk.i64_in _ (by omega)
        have e3 : ((k : Int) + 1).toNat = k + 1 := by omega
        go_quiet (fail)
        clear e1 e2 e3
        go_wp2_with fail
        have kf0 : ∀ w' : World, Root (w.alloc (.cells #[.int .i64 id, .string nm, .int .i64 z, .slice (some ⟨b, off, none⟩) xs.length c] 26)) w' → w'.cell? ⟨w.heap.size, 3, none⟩ = some (.slice (some ⟨b, off, none⟩) xs.length c) := fun w' h => h.keep (show (w.alloc (.cells #[.int .i64 id, .string nm, .int .i64 z, .slice (some ⟨b, off, none⟩) xs.length c] 26)).cell? ⟨w.heap.size, 3, none⟩ = some (.slice (some ⟨b, off, none⟩) xs.length c) by simp [go_sem])
        have d0 := (Kept.alloc (Kept.refl w) (.cells #[.int .i64 id, .string nm, .int .i64 z, .slice (some ⟨b, off, none⟩) xs.length c] 26)).keep (HC.out k (by omega)).1
        have kf1 : ∀ w' : World, Root (w.alloc (.cells #[.int .i64 id, .string nm, .int .i64 z, .slice (some ⟨b, off, none⟩) xs.length c] 26)) w' → w'.cell? ⟨b, off + k * 2, none⟩ = some (.int .i64 (P1 xs k)) := fun w' h => h.keep d0
        have d1 := (Kept.alloc (Kept.refl w) (.cells #[.int .i64 id, .string nm, .int .i64 z, .slice (some ⟨b, off, none⟩) xs.length c] 26)).keep (HC.out (k + 1) (by omega)).1
        have kf2 : ∀ w' : World, Root (w.alloc (.cells #[.int .i64 id, .string nm, .int .i64 z, .slice (some ⟨b, off, none⟩) xs.length c] 26)) w' → w'.cell? ⟨b, off + (k + 1) * 2, none⟩ = some (.int .i64 (P1 xs (k + 1))) := fun w' h => h.keep d1
        have e1 : IntKind.i64.wrap ((k : Int) + 1 - 1) = (k : Int) := by rw [Int.add_sub_cancel]; exact IntWalk.i64_in _ (by omega)
        have e3 : ((k : Int) + 1).toNat = k + 1 := by omega
        have e4 : IntKind.i64.wrap (k : Int) = (k : Int) := IntWalk.i64_in _ (by omega)
        refine wp_region_held_drew (S := fun w' => Root (w.alloc (.cells #[.int .i64 id, .string nm, .int .i64 z, .slice (some ⟨b, off, none⟩) xs.length c] 26)) w') (by kernel_rfl) (by (try dsimp only); (repeat first | exact ⟨HK.out⟩ | refine Root.drewN ?_ _ | refine Root.drew ?_)) (fun hHeld => ?_)
        refine wpAnyH_take (i := 0) (v := ?_) rfl (by kernel_rfl) (by kernel_rfl) (by kernel_rfl) (fun _ _ _ h => h) (Or.inl ⟨by kernel_rfl, ?_⟩) (by assumption) ?_
        rotate_left
        focus (intro w hSw; (try dsimp only at hSw); go_simp; (try with_reducible rfl))
        (try simp only [Act.put, List.getElem_toArray, List.getElem_cons_zero, List.getElem_cons_succ, List.setIfInBounds_toArray, List.set_cons_zero, List.set_cons_succ])
        refine wpAnyH_take (i := 1) (v := ?_) rfl (by kernel_rfl) (by kernel_rfl) (by kernel_rfl) (fun _ _ _ h => h) (Or.inl ⟨by kernel_rfl, ?_⟩) (by assumption) ?_
        rotate_left
        focus (intro w hSw; (try dsimp only at hSw); go_simp; (try with_reducible rfl))
        (try simp only [Act.put, List.getElem_toArray, List.getElem_cons_zero, List.getElem_cons_succ, List.setIfInBounds_toArray, List.set_cons_zero, List.set_cons_succ])
        refine wpAnyH_take (i := 2) (v := ?_) rfl (by kernel_rfl) (by kernel_rfl) (by kernel_rfl) (fun _ _ _ h => h) (Or.inl ⟨by kernel_rfl, ?_⟩) (by assumption) ?_
        rotate_left
        focus (intro w hSw; (try dsimp only at hSw); go_simp; (try with_reducible rfl))
        (try simp only [Act.put, List.getElem_toArray, List.getElem_cons_zero, List.getElem_cons_succ, List.setIfInBounds_toArray, List.set_cons_zero, List.set_cons_succ])
        refine wpAnyH_take (i := 3) (v := ?_) rfl (by kernel_rfl) (by kernel_rfl) (by kernel_rfl) (fun _ _ _ h => h) (Or.inl ⟨by kernel_rfl, ?_⟩) (by assumption) ?_
        rotate_left
        focus (intro w hSw; (try dsimp only at hSw); go_simp; (try with_reducible rfl))
        (try simp only [Act.put, List.getElem_toArray, List.getElem_cons_zero, List.getElem_cons_succ, List.setIfInBounds_toArray, List.set_cons_zero, List.set_cons_succ])
        refine wpAnyH_take (i := 4) (v := ?_) rfl (by kernel_rfl) (by kernel_rfl) (by kernel_rfl) (fun _ _ _ h => h) (Or.inl ⟨by kernel_rfl, ?_⟩) (by assumption) ?_
        rotate_left
        focus (intro w hSw; (try dsimp only at hSw); go_simp; (try with_reducible rfl))
        (try simp only [Act.put, List.getElem_toArray, List.getElem_cons_zero, List.getElem_cons_succ, List.setIfInBounds_toArray, List.set_cons_zero, List.set_cons_succ])
        refine wpAnyH_take (i := 5) (v := ?_) rfl (by kernel_rfl) (by kernel_rfl) (by kernel_rfl) (fun _ _ _ h => h) (Or.inl ⟨by kernel_rfl, ?_⟩) (by assumption) ?_
        rotate_left
        focus (intro w hSw; (try dsimp only at hSw); go_simp; (try with_reducible rfl))
        (try simp only [Act.put, List.getElem_toArray, List.getElem_cons_zero, List.getElem_cons_succ, List.setIfInBounds_toArray, List.set_cons_zero, List.set_cons_succ])
        refine wpAnyH_take (i := 6) (v := ?_) rfl (by kernel_rfl) (by kernel_rfl) (by kernel_rfl) (fun _ _ _ h => h) (Or.inl ⟨by kernel_rfl, ?_⟩) (by assumption) ?_
        rotate_left
        focus (intro w hSw; (try dsimp only at hSw); go_simp; (try with_reducible rfl))
        (try simp only [Act.put, List.getElem_toArray, List.getElem_cons_zero, List.getElem_cons_succ, List.setIfInBounds_toArray, List.set_cons_zero, List.set_cons_succ])
        refine wpAnyH_take (i := 7) (v := ?_) rfl (by kernel_rfl) (by kernel_rfl) (by kernel_rfl) (fun _ _ _ h => h) (Or.inl ⟨by kernel_rfl, ?_⟩) (by assumption) ?_
        rotate_left
        focus (intro w hSw; (try dsimp only at hSw); go_simp; (try with_reducible rfl))
        (try simp only [Act.put, List.getElem_toArray, List.getElem_cons_zero, List.getElem_cons_succ, List.setIfInBounds_toArray, List.set_cons_zero, List.set_cons_succ])
        refine wpAnyH_take (i := 8) (v := ?_) rfl (by kernel_rfl) (by kernel_rfl) (by kernel_rfl) (fun _ _ _ h => h) (Or.inl ⟨by kernel_rfl, ?_⟩) (by assumption) ?_
        rotate_left
        focus (intro w hSw; (try dsimp only at hSw); go_simp; (try with_reducible rfl))
        (try simp only [Act.put, List.getElem_toArray, List.getElem_cons_zero, List.getElem_cons_succ, List.setIfInBounds_toArray, List.set_cons_zero, List.set_cons_succ])
        refine wpAnyH_take (i := 9) (v := ?_) rfl (by kernel_rfl) (by kernel_rfl) (by kernel_rfl) (fun _ _ _ h => h) (Or.inl ⟨by kernel_rfl, ?_⟩) (by assumption) ?_
        rotate_left
        focus (intro w hSw; (try dsimp only at hSw); go_simp; (try with_reducible rfl))
        (try simp only [Act.put, List.getElem_toArray, List.getElem_cons_zero, List.getElem_cons_succ, List.setIfInBounds_toArray, List.set_cons_zero, List.set_cons_succ])
        refine wpAnyH_take (i := 10) (v := ?_) rfl (by kernel_rfl) (by kernel_rfl) (by kernel_rfl) (fun _ _ _ h => h) (Or.inl ⟨by kernel_rfl, ?_⟩) (by assumption) ?_
        rotate_left
        focus (intro w hSw; (try dsimp only at hSw); go_simp; (try with_reducible rfl))
        (try simp only [Act.put, List.getElem_toArray, List.getElem_cons_zero, List.getElem_cons_succ, List.setIfInBounds_toArray, List.set_cons_zero, List.set_cons_succ])
        refine wpAnyH_take (i := 11) (v := ?_) rfl (by kernel_rfl) (by kernel_rfl) (by kernel_rfl) (fun _ _ _ h => h) (Or.inl ⟨by kernel_rfl, ?_⟩) (by assumption) ?_
        rotate_left
        focus (intro w hSw; (try dsimp only at hSw); go_simp; (try with_reducible rfl))
        (try simp only [Act.put, List.getElem_toArray, List.getElem_cons_zero, List.getElem_cons_succ, List.setIfInBounds_toArray, List.set_cons_zero, List.set_cons_succ])
        refine wpAnyH_take (i := 12) (v := ?_) rfl (by kernel_rfl) (by kernel_rfl) (by kernel_rfl) (fun _ _ _ h => h) (Or.inl ⟨by kernel_rfl, ?_⟩) (by assumption) ?_
        rotate_left
        focus (intro w hSw; (try dsimp only at hSw); go_simp; (try with_reducible rfl))
        (try simp only [Act.put, List.getElem_toArray, List.getElem_cons_zero, List.getElem_cons_succ, List.setIfInBounds_toArray, List.set_cons_zero, List.set_cons_succ])
        refine wpAnyH_take (i := 13) (v := ?_) rfl (by kernel_rfl) (by kernel_rfl) (by kernel_rfl) (fun _ _ _ h => h) (Or.inl ⟨by kernel_rfl, ?_⟩) (by assumption) ?_
        rotate_left
        focus (intro w hSw; (try dsimp only at hSw); go_simp; (try with_reducible rfl))
        (try simp only [Act.put, List.getElem_toArray, List.getElem_cons_zero, List.getElem_cons_succ, List.setIfInBounds_toArray, List.set_cons_zero, List.set_cons_succ])
        clear e1 e3 e4 kf0 kf1 kf2 d0 d1
        refine wpAnyH_ready (rs := [14]) (by kernel_rfl) (by simp) ?_
        refine AllReadyH.cons rfl (fun K hK => ?_) AllReadyH.nil
        go_simp
        refine hK.out _ _ (by (try dsimp only); exact Root.alloc hHeld _) (fun hHeld => ?_)
        clear hK K
        (try simp only [Act.put, List.getElem_toArray, List.getElem_cons_zero, List.getElem_cons_succ, List.setIfInBounds_toArray, List.set_cons_zero, List.set_cons_succ])
        refine wpAnyH_ready (rs := [15]) (by kernel_rfl) (by simp) ?_
        refine AllReadyH.cons rfl (fun K hK => ?_) AllReadyH.nil
        go_simp
        refine hK.out _ _ (by (try dsimp only); (first | exact Root.alloc hHeld _ | exact Root.alloc (Root.drew hHeld) _)) (fun hHeld => ?_)
        clear hK K
        (try simp only [Act.put, List.getElem_toArray, List.getElem_cons_zero, List.getElem_cons_succ, List.setIfInBounds_toArray, List.set_cons_zero, List.set_cons_succ])
        refine wpAnyH_ready (rs := [16]) (by kernel_rfl) (by simp) ?_
        refine AllReadyH.cons rfl (fun K hK => ?_) AllReadyH.nil
        refine step_append_lies _ (by rfl) _ _ _ (by rfl) (w.heap.size + 1) 44 i0 _ 1 24 Try.underlying40 hi0 hz0 hz1 hz2 rfl (by omega) _ (prs (gpTo xs m k)).length _ (by rfl) (own_kept HO.out.out (by (repeat (first | exact Kept.refl _ | assumption | refine Kept.alloc ?_ _ | refine Kept.drew ?_ | refine Kept.drewN ?_ _ | refine Kept.setCell ?_ (by first | (simp; done) | (simp; omega) | omega | exact Kept.size (by (repeat (first | exact Kept.refl _ | assumption | refine Kept.alloc ?_ _ | refine Kept.drew ?_ | refine Kept.drewN ?_ _ | refine Kept.trans ?_ (by assumption))))) _ | refine Kept.trans ?_ (by assumption))))) ⟨wr.heap.size + 1, 0, none⟩ 1 1 [rowV wr.heap.size] (by rfl) (by rfl) (news_one _ _ _ (by simp)) (by simp [Value.oneCell', rowV]) (by omega) (by unfold maxLen; omega) (by omega) (by simp; omega) (wr.heap.size + 1 + 1) (by simp) ?_
        intro gg cap w1 hown1 hgrow1 hat hlt1
        have hgo := Kept.of_own HK.out (own_base HO.out.out (by simp)) hgrow1 (by (repeat (first | exact Kept.refl _ | assumption | refine Kept.alloc ?_ _ | refine Kept.drew ?_ | refine Kept.drewN ?_ _ | refine Kept.setCell ?_ (by first | (simp; done) | (simp; omega) | omega | exact Kept.size (by (repeat (first | exact Kept.refl _ | assumption | refine Kept.alloc ?_ _ | refine Kept.drew ?_ | refine Kept.drewN ?_ _ | refine Kept.trans ?_ (by assumption))))) _ | refine Kept.trans ?_ (by assumption))))
        have hpr := HO.out.push zb (by (repeat (first | exact Kept.refl _ | assumption | refine Kept.alloc ?_ _ | refine Kept.drew ?_ | refine Kept.drewN ?_ _ | refine Kept.setCell ?_ (by first | (simp; done) | (simp; omega) | omega | exact Kept.size (by (repeat (first | exact Kept.refl _ | assumption | refine Kept.alloc ?_ _ | refine Kept.drew ?_ | refine Kept.drewN ?_ _ | refine Kept.trans ?_ (by assumption))))) _ | refine Kept.trans ?_ (by assumption)))) (row_in _ _ (by simp) (Kept.alloc (Kept.refl _) _)) hown1 hgrow1 (hat.elim (fun e => Or.inl e.symm) (fun e => Or.inr ⟨gg, rfl, by omega⟩))
        refine hK.out _ _ (by (try dsimp only); exact ⟨hgo⟩) (fun hHeld => ?_)
        clear hK K
        (try simp only [Act.put, List.getElem_toArray, List.getElem_cons_zero, List.getElem_cons_succ, List.setIfInBounds_toArray, List.set_cons_zero, List.set_cons_succ])
        refine wpAnyH_ready (rs := [17]) (by kernel_rfl) (by simp) ?_
        refine AllReadyH.cons rfl (fun K hK => ?_) AllReadyH.nil
        go_simp
        refine hK.out _ _ (by (try dsimp only); exact hHeld) (fun hHeld => ?_)
        clear hK K
        (try simp only [Act.put, List.getElem_toArray, List.getElem_cons_zero, List.getElem_cons_succ, List.setIfInBounds_toArray, List.set_cons_zero, List.set_cons_succ])
        refine wpAnyH_done (by kernel_rfl) ?_ _
        go_wp2_with fail
        go_roundw
        case rel => exact ⟨k + 1, Or.inr (by omega), by go_num, hgo, _, by rw [HG.out, prs_snoc]; exact hpr⟩
        case measure => simp [intOf]; omega
      · have HG := Lib.hid (gp_no (show gpAt xs m k = false by simp [gpAt]; omega))
        have g2 : decide (m < P1 xs (k + 1) - P1 xs k) = false := decide_eq_false g1
        go_wp2_with fail
        have e1 : IntKind.i64.wrap ((k : Int) + 1 - 1) = (k : Int) := by rw [Int.add_sub_cancel]; exact IntWalk.i64_in _ (by omega)
        have e2 : IntKind.i64.wrap (P1 xs (k + 1) - P1 xs k) = P1 xs (k + 1) - P1 xs k := IntWalk.i64_in _ (by omega)
        have e3 : ((k : Int) + 1).toNat = k + 1 := by omega
        go_quiet (fail)
        clear e1 e2 e3
        go_wp2_with fail
        go_roundw
        case rel => exact ⟨k + 1, Or.inr (by omega), by go_num, by have hq := HK.out; (repeat (first | exact Kept.refl _ | assumption | refine Kept.alloc ?_ _ | refine Kept.drew ?_ | refine Kept.drewN ?_ _ | refine Kept.setCell ?_ (by first | (simp; done) | (simp; omega) | omega | exact Kept.size (by (repeat (first | exact Kept.refl _ | assumption | refine Kept.alloc ?_ _ | refine Kept.drew ?_ | refine Kept.drewN ?_ _ | refine Kept.trans ?_ (by assumption))))) _ | refine Kept.trans ?_ (by assumption))), bs, by rw [HG.out]; exact HO.out.kept (by (repeat (first | exact Kept.refl _ | assumption | refine Kept.alloc ?_ _ | refine Kept.drew ?_ | refine Kept.drewN ?_ _ | refine Kept.setCell ?_ (by first | (simp; done) | (simp; omega) | omega | exact Kept.size (by (repeat (first | exact Kept.refl _ | assumption | refine Kept.alloc ?_ _ | refine Kept.drew ?_ | refine Kept.drewN ?_ _ | refine Kept.trans ?_ (by assumption))))) _ | refine Kept.trans ?_ (by assumption))))⟩
        case measure => simp [intOf]; omega
    · have HF := Lib.hid (gpv_yes (m := m) HQ.out (show k = xs.length - 1 by omega))
      go_wp2_with fail
      go_ret2
      exact ⟨_, by rw [HQ.out]; rfl, ⟨bs, by rw [HF.out]; exact ⟨HO.out.len, own_base HO.out.out (by omega), HO.out.nd, fun i b p hb hp => let ⟨q1, q2, q3⟩ := HO.out.row i b p hb hp; ⟨by omega, q2, q3⟩⟩⟩, (Kept.alloc (Kept.refl w) _).trans HK.out⟩
end Go.Proofs.Ytopdnhlolfehcaa

/-
  Contracts of HighWaters, the program's and the reference's.
  Conditions: none.
-/
import Derived.Test.YtopdnhlolfehcaaGauge
import Derived.Test.YtopdnhlolfehcaaMark
import Derived.Maps.AppendAt
import Derived.Deep.AppendLies
namespace Go.Proofs.Ytopdnhlolfehcaa
open Go.ChangeShapes Go.WideShapes Go.ChangeAt Go.RowKit
set_option linter.unusedVariables false

/-- Is the reading behind the j-th one a high water. -/
def hwAt (xs : List (Int × Int)) (j : Nat) : Bool := decide (P2 xs j < P2 xs (j + 1)) && decide (P2 xs (j + 2) ≤ P2 xs (j + 1))
def hwTo (xs : List (Int × Int)) (k : Nat) : List (Int × Int) := ((List.range k).filter (hwAt xs)).map (fun j => (P1 xs (j + 1), P2 xs (j + 1)))
theorem hw_len (xs : List (Int × Int)) (k : Nat) : (hwTo xs k).length ≤ k := by
  have := List.length_filter_le (hwAt xs) (List.range k)
  simpa [hwTo] using this
theorem hw_yes {xs : List (Int × Int)} {k : Nat} (h : hwAt xs k = true) : hwTo xs (k + 1) = hwTo xs k ++ [(P1 xs (k + 1), P2 xs (k + 1))] := by
  simp [hwTo, List.range_succ, List.filter_append, h]
theorem hw_no {xs : List (Int × Int)} {k : Nat} (h : hwAt xs k = false) : hwTo xs (k + 1) = hwTo xs k := by
  simp [hwTo, List.range_succ, List.filter_append, h]
def hwVal (id : Int) (nm : ByteArray) (z : Int) (xs : List (Int × Int)) : List (Int × Int) := if gaugeB id nm z xs = true then hwTo xs (xs.length - 2) else []
theorem hwv_no {id z : Int} {nm : ByteArray} {xs : List (Int × Int)} (h : gaugeB id nm z xs = false) : hwVal id nm z xs = [] := by simp [hwVal, h]
theorem hwv_yes {id z : Int} {nm : ByteArray} {xs : List (Int × Int)} {k : Nat} (h : gaugeB id nm z xs = true) (hk : k = xs.length - 2) : hwVal id nm z xs = hwTo xs k := by simp [hwVal, h, hk]
theorem hw_bd (id : Int) (nm : ByteArray) (z : Int) (xs : List (Int × Int)) : (hwVal id nm z xs).length ≤ 1048576 := by
  unfold hwVal
  split
  · rename_i h
    have := hw_len xs (xs.length - 2)
    have := (gaugeB_1 h).2.2.1
    omega
  · simp
theorem ret_vb {u : Value} {b b' : Bool} (h : b = b') : Ending.returned (.tuple #[u, .bool b']) = .returned (.tuple #[u, .bool b]) := by rw [h]
set_option maxRecDepth 100000 in
set_option maxHeartbeats 2000000 in
theorem highWaters_any (id : Int) (nm : ByteArray) (z : Int) (v : Value) (xs : List (Int × Int)) (hs : nm.size ≤ maxLen) (w : World) (hL : Lies w 2 pairC v xs) : Calls Try.prog 38 #[.agg #[.int .i64 id, .string nm, .int .i64 z, v]] w fun e w' => ∃ u, e = .returned (.tuple #[u, .bool (gaugeB id nm z xs)]) ∧ w'.ownsRow w.heap.size 28 2 u (hwVal id nm z xs).length ((hwVal id nm z xs).flatMap pairC) ∧ Kept w w' := by
  have HL := Lib.hid hL
  obtain ⟨i0, hi0, hz0, hz1, hz2⟩ := info_parts infoReading
  obtain ⟨A, c, rfl, hlc, hcm, hA⟩ := lies_pairs hL
  clear hL
  cases h1 : gaugeB id nm z xs
  · have HV := Lib.hid (hwv_no h1)
    clear hA
    rw [HV.out]
    go_enter Try.func38, Try.ntmps38
    go_wp2_with fail
    refine (isGauge_any _ _ _ _ _ hs _ (by exact HL.out.kept (by (repeat (first | exact Kept.refl _ | assumption | refine Kept.alloc ?_ _ | refine Kept.drew ?_ | refine Kept.drewN ?_ _ | refine Kept.setCell ?_ (by first | (simp; done) | (simp; omega) | omega | exact Kept.size (by (repeat (first | exact Kept.refl _ | assumption | refine Kept.alloc ?_ _ | refine Kept.drew ?_ | refine Kept.drewN ?_ _ | refine Kept.trans ?_ (by assumption))))) _ | refine Kept.trans ?_ (by assumption)))))).mono ?_
    rintro e w' ⟨rfl, hk⟩
    go_wp2_with fail
    go_ret2
    exact ⟨_, rfl, World.ownsRow_nil _ _ _ _, by (repeat (first | exact Kept.refl _ | assumption | refine Kept.alloc ?_ _ | refine Kept.drew ?_ | refine Kept.drewN ?_ _ | refine Kept.setCell ?_ (by first | (simp; done) | (simp; omega) | omega | exact Kept.size (by (repeat (first | exact Kept.refl _ | assumption | refine Kept.alloc ?_ _ | refine Kept.drew ?_ | refine Kept.drewN ?_ _ | refine Kept.trans ?_ (by assumption))))) _ | refine Kept.trans ?_ (by assumption)))⟩
  · obtain ⟨-, -, hn, -⟩ := gaugeB_1 h1
    have H1 := Lib.hid h1
    have HA := Lib.hid hA
    clear hA
    go_enter Try.func38, Try.ntmps38
    go_wp2_with fail
    refine (isGauge_any _ _ _ _ _ hs _ (by exact HL.out.kept (by (repeat (first | exact Kept.refl _ | assumption | refine Kept.alloc ?_ _ | refine Kept.drew ?_ | refine Kept.drewN ?_ _ | refine Kept.setCell ?_ (by first | (simp; done) | (simp; omega) | omega | exact Kept.size (by (repeat (first | exact Kept.refl _ | assumption | refine Kept.alloc ?_ _ | refine Kept.drew ?_ | refine Kept.drewN ?_ _ | refine Kept.trans ?_ (by assumption))))) _ | refine Kept.trans ?_ (by assumption)))))).mono ?_
    rintro e w' ⟨rfl, hk⟩
    have HKW := Lib.hid hk
    have HOW := Lib.hid (own_base (World.ownsRow_lit (e := 28) (size := 2) w' #[] 0 (Nat.le_refl _) (by simp [maxLen]) rfl) hk.size)
    clear hk
    go_wp2_with fail
    go_loopw [4, 5] (fun v i wr => ∃ k : Nat, (k = 0 ∨ k + 2 ≤ xs.length) ∧ i = .int .i64 ((k : Int) + 1) ∧ Kept (w.alloc (.cells #[.int .i64 id, .string nm, .int .i64 z, .slice A xs.length c] 26)) wr ∧ wr.ownsRow (w.alloc (.cells #[.int .i64 id, .string nm, .int .i64 z, .slice A xs.length c] 26)).heap.size 28 2 v (hwTo xs k).length ((hwTo xs k).flatMap pairC)) (fun _ i _ => xs.length - (intOf i).toNat)
    case atStart => exact ⟨0, Or.inl rfl, rfl, by have hq := HKW.out; (repeat (first | exact Kept.refl _ | assumption | refine Kept.alloc ?_ _ | refine Kept.drew ?_ | refine Kept.drewN ?_ _ | refine Kept.setCell ?_ (by first | (simp; done) | (simp; omega) | omega | exact Kept.size (by (repeat (first | exact Kept.refl _ | assumption | refine Kept.alloc ?_ _ | refine Kept.drew ?_ | refine Kept.drewN ?_ _ | refine Kept.trans ?_ (by assumption))))) _ | refine Kept.trans ?_ (by assumption))), HOW.out⟩
    case round =>
      obtain ⟨k, hk, rfl, hkw, hown⟩ := hrel
      have HO := Lib.hid hown
      have HK := Lib.hid hkw
      have p3 := hkw.keep (show (w.alloc (.cells #[.int .i64 id, .string nm, .int .i64 z, .slice A xs.length c] 26)).cell? ⟨w.heap.size, 3, none⟩ = some (.slice A xs.length c) by simp [go_sem])
      have hz := World.block_lt_of_cell? wr _ p3
      simp only [] at hz
      have z1 : w.heap.size ≤ wr.heap.size := by omega
      have z2 : ¬ w.heap.size = wr.heap.size := by omega
      have z3 : ¬ wr.heap.size = w.heap.size := by omega
      have p3' : ∀ o : Obj, (wr.alloc o).cell? ⟨w.heap.size, 3, none⟩ = some (.slice A xs.length c) := fun o => (Kept.alloc (Kept.refl _) o).keep p3
      clear hown
      by_cases hlt : k + 2 < xs.length
      · obtain ⟨b, off, rfl, hc⟩ := HA.out (by omega)
        have c0 := hkw.keep ((Kept.alloc (Kept.refl w) _).keep (hc k (by omega)).2)
        have c1 := hkw.keep ((Kept.alloc (Kept.refl w) _).keep (hc (k + 1) (by omega)).1)
        have c2 := hkw.keep ((Kept.alloc (Kept.refl w) _).keep (hc (k + 1) (by omega)).2)
        have c3 := hkw.keep ((Kept.alloc (Kept.refl w) _).keep (hc (k + 2) (by omega)).2)
        have c0' : ∀ o : Obj, (wr.alloc o).cell? ⟨b, off + k * 2 + 1, none⟩ = some (.int .i64 (P2 xs k)) := fun o => (Kept.alloc (Kept.refl _) o).keep c0
        have c3' : ∀ o : Obj, (wr.alloc o).cell? ⟨b, off + (k + 2) * 2 + 1, none⟩ = some (.int .i64 (P2 xs (k + 2))) := fun o => (Kept.alloc (Kept.refl _) o).keep c3
        have hgl := hw_len xs k
        have k0 : (0 : Int) ≤ (k : Int) := by omega
        have k1 : (k : Int) < (xs.length : Int) := by omega
        have k2 : (0 : Int) ≤ (k : Int) + 1 := by omega
        have k3 : (k : Int) + 1 < (xs.length : Int) := by omega
        have k4 : (0 : Int) ≤ (k : Int) + 1 + 1 := by omega
        have k5 : (k : Int) + 1 + 1 < (xs.length : Int) := by omega
        have hbase := HK.out.size
        clear hkw hc
        by_cases g1 : P2 xs k < P2 xs (k + 1)
        · by_cases g2 : P2 xs (k + 2) ≤ P2 xs (k + 1)
          · have HG := Lib.hid (hw_yes (show hwAt xs k = true by simp [hwAt, g1, g2]))
            go_wp2_with fail
            have e1 : IntKind.i64.wrap ((k : Int) + 1 - 1) = (k : Int) := by rw [Int.add_sub_cancel]; exact IntWalk.i64_in _ (by omega)
            have e2 : IntKind.i64.wrap ((k : Int) + 1 + 1) = (k : Int) + 1 + 1 := IntWalk.i64_in _ (by omega)
            have e3 : ((k : Int) + 1 + 1).toNat = k + 2 := by omega
            go_quiet (fail)
            clear e1 e2 e3
            go_wp2_with (at_builtin; refine wpList_append_own _ rfl (.tmp 46) (.tmp 48) _ rfl (w.alloc (.cells #[.int .i64 id, .string nm, .int .i64 z, .slice (some ⟨b, off, none⟩) xs.length c] 26)).heap.size 28 i0 _ 2 16 Try.underlying24 hi0 hz0 hz1 hz2 rfl (by decide) _ (hwTo xs k).length _ rfl ((own_kept HO.out (by (repeat (first | exact Kept.refl _ | assumption | refine Kept.alloc ?_ _ | refine Kept.drew ?_ | refine Kept.drewN ?_ _ | refine Kept.setCell ?_ (by first | (simp; done) | (simp; omega) | omega | exact Kept.size (by (repeat (first | exact Kept.refl _ | assumption | refine Kept.alloc ?_ _ | refine Kept.drew ?_ | refine Kept.drewN ?_ _ | refine Kept.trans ?_ (by assumption))))) _ | refine Kept.trans ?_ (by assumption))))).alloc _) ⟨wr.heap.size + 1, 0, none⟩ 1 1 [.int .i64 (P1 xs (k + 1)), .int .i64 (P2 xs (k + 1))] rfl rfl (World.news_of_block (cs := #[.int .i64 (P1 xs (k + 1)), .int .i64 (P2 xs (k + 1))]) (t := 28) (fr := (0, 0)) (by have h : ∀ n, (((wr.alloc (Obj.cells #[.int .i64 (P1 xs (k + 1)), .int .i64 (P2 xs (k + 1))] 28)).drewN n).alloc (Obj.cells #[.int .i64 (P1 xs (k + 1)), .int .i64 (P2 xs (k + 1))] 28)).heap[wr.heap.size + 1]? = some (Obj.cells #[.int .i64 (P1 xs (k + 1)), .int .i64 (P2 xs (k + 1))] 28) := (fun n => by simpa using heap_alloc_new ((wr.alloc (Obj.cells #[.int .i64 (P1 xs (k + 1)), .int .i64 (P2 xs (k + 1))] 28)).drewN n) (Obj.cells #[.int .i64 (P1 xs (k + 1)), .int .i64 (P2 xs (k + 1))] 28)); exact h _)) (by simp [Value.oneCell']) (by unfold maxLen; omega) (by omega) (by simp; omega) ?_; intro v1 w1 hown1 hgrow1 _)
            have hgo := Kept.of_own HK.out HO.out hgrow1 (by (repeat (first | exact Kept.refl _ | assumption | refine Kept.alloc ?_ _ | refine Kept.drew ?_ | refine Kept.drewN ?_ _ | refine Kept.setCell ?_ (by first | (simp; done) | (simp; omega) | omega | exact Kept.size (by (repeat (first | exact Kept.refl _ | assumption | refine Kept.alloc ?_ _ | refine Kept.drew ?_ | refine Kept.drewN ?_ _ | refine Kept.trans ?_ (by assumption))))) _ | refine Kept.trans ?_ (by assumption))))
            go_roundw
            case rel => exact ⟨k + 1, Or.inr (by omega), by go_num, hgo, by rw [HG.out, List.length_append, List.flatMap_append]; exact hown1⟩
            case measure => simp [intOf]; omega
          · have HG := Lib.hid (hw_no (show hwAt xs k = false by simp [hwAt]; omega))
            have g3 : P2 xs (k + 1) < P2 xs (k + 2) := by omega
            have g4 : decide (P2 xs (k + 2) ≤ P2 xs (k + 1)) = false := decide_eq_false (by omega)
            go_wp2_with fail
            have e1 : IntKind.i64.wrap ((k : Int) + 1 - 1) = (k : Int) := by rw [Int.add_sub_cancel]; exact IntWalk.i64_in _ (by omega)
            have e2 : IntKind.i64.wrap ((k : Int) + 1 + 1) = (k : Int) + 1 + 1 := IntWalk.i64_in _ (by omega)
            have e3 : ((k : Int) + 1 + 1).toNat = k + 2 := by omega
            go_quiet (fail)
            clear e1 e2 e3
            go_wp2
            go_roundw
            case rel => exact ⟨k + 1, Or.inr (by omega), by go_num, by have hq := HK.out; (repeat (first | exact Kept.refl _ | assumption | refine Kept.alloc ?_ _ | refine Kept.drew ?_ | refine Kept.drewN ?_ _ | refine Kept.setCell ?_ (by first | (simp; done) | (simp; omega) | omega | exact Kept.size (by (repeat (first | exact Kept.refl _ | assumption | refine Kept.alloc ?_ _ | refine Kept.drew ?_ | refine Kept.drewN ?_ _ | refine Kept.trans ?_ (by assumption))))) _ | refine Kept.trans ?_ (by assumption))), by rw [HG.out]; exact own_kept HO.out (by (repeat (first | exact Kept.refl _ | assumption | refine Kept.alloc ?_ _ | refine Kept.drew ?_ | refine Kept.drewN ?_ _ | refine Kept.setCell ?_ (by first | (simp; done) | (simp; omega) | omega | exact Kept.size (by (repeat (first | exact Kept.refl _ | assumption | refine Kept.alloc ?_ _ | refine Kept.drew ?_ | refine Kept.drewN ?_ _ | refine Kept.trans ?_ (by assumption))))) _ | refine Kept.trans ?_ (by assumption))))⟩
            case measure => simp [intOf]; omega
        · have HG := Lib.hid (hw_no (show hwAt xs k = false by simp [hwAt]; omega))
          have g3 : P2 xs (k + 1) ≤ P2 xs k := by omega
          have g4 : decide (P2 xs k < P2 xs (k + 1)) = false := decide_eq_false (by omega)
          go_wp2_with fail
          have e1 : IntKind.i64.wrap ((k : Int) + 1 - 1) = (k : Int) := by rw [Int.add_sub_cancel]; exact IntWalk.i64_in _ (by omega)
          have e2 : IntKind.i64.wrap ((k : Int) + 1 + 1) = (k : Int) + 1 + 1 := IntWalk.i64_in _ (by omega)
          have e3 : ((k : Int) + 1 + 1).toNat = k + 2 := by omega
          go_quiet (fail)
          clear e1 e2 e3
          go_wp2
          go_roundw
          case rel => exact ⟨k + 1, Or.inr (by omega), by go_num, by have hq := HK.out; (repeat (first | exact Kept.refl _ | assumption | refine Kept.alloc ?_ _ | refine Kept.drew ?_ | refine Kept.drewN ?_ _ | refine Kept.setCell ?_ (by first | (simp; done) | (simp; omega) | omega | exact Kept.size (by (repeat (first | exact Kept.refl _ | assumption | refine Kept.alloc ?_ _ | refine Kept.drew ?_ | refine Kept.drewN ?_ _ | refine Kept.trans ?_ (by assumption))))) _ | refine Kept.trans ?_ (by assumption))), by rw [HG.out]; exact own_kept HO.out (by (repeat (first | exact Kept.refl _ | assumption | refine Kept.alloc ?_ _ | refine Kept.drew ?_ | refine Kept.drewN ?_ _ | refine Kept.setCell ?_ (by first | (simp; done) | (simp; omega) | omega | exact Kept.size (by (repeat (first | exact Kept.refl _ | assumption | refine Kept.alloc ?_ _ | refine Kept.drew ?_ | refine Kept.drewN ?_ _ | refine Kept.trans ?_ (by assumption))))) _ | refine Kept.trans ?_ (by assumption))))⟩
          case measure => simp [intOf]; omega
      · have e : k = xs.length - 2 := by omega
        have HF := Lib.hid (hwv_yes H1.out e)
        clear e
        go_wp2
        go_ret2
        exact ⟨_, rfl, by rw [HF.out]; exact own_base HO.out (by simp), (Kept.alloc (Kept.refl w) _).trans HK.out⟩
set_option maxRecDepth 100000 in
set_option maxHeartbeats 2000000 in
theorem sHighWaters_any (id : Int) (nm : ByteArray) (z : Int) (v : Value) (xs : List (Int × Int)) (hs : nm.size ≤ maxLen) (w : World) (hL : Lies w 2 pairC v xs) : Calls Try.prog 37 #[.agg #[.int .i64 id, .string nm, .int .i64 z, v]] w fun e w' => ∃ u, e = .returned (.tuple #[u, .bool (gaugeB id nm z xs)]) ∧ w'.ownsRow w.heap.size 28 2 u (hwVal id nm z xs).length ((hwVal id nm z xs).flatMap pairC) ∧ Kept w w' := by
  have HL := Lib.hid hL
  obtain ⟨i0, hi0, hz0, hz1, hz2⟩ := info_parts infoReading
  obtain ⟨A, c, rfl, hlc, hcm, hA⟩ := lies_pairs hL
  have HO0 : Hid (((w.alloc (.cells #[.int .i64 id, .string nm, .int .i64 z, .slice A xs.length c] 26)).alloc (.cells #[] 28)).ownsRow (w.alloc (.cells #[.int .i64 id, .string nm, .int .i64 z, .slice A xs.length c] 26)).heap.size 28 2 (.slice (some ⟨w.heap.size + 1, 0, none⟩) 0 0) 0 []) := by
    have h := World.ownsRow_lit (e := 28) (size := 2) (w.alloc (.cells #[.int .i64 id, .string nm, .int .i64 z, .slice A xs.length c] 26)) #[] 0 (Nat.le_refl _) (by simp [maxLen]) rfl
    have e : (w.alloc (.cells #[.int .i64 id, .string nm, .int .i64 z, .slice A xs.length c] 26)).heap.size = w.heap.size + 1 := by simp
    rw [← e]
    exact h
  clear hL
  cases h1 : gaugeB id nm z xs
  · have HV := Lib.hid (hwv_no h1)
    clear hA
    rw [HV.out]
    go_enter Try.func37, Try.ntmps37
    go_wp2_with fail
    refine (l3One_any _ _ _ _ _ hs _ (by exact HL.out.kept (by (repeat (first | exact Kept.refl _ | assumption | refine Kept.alloc ?_ _ | refine Kept.drew ?_ | refine Kept.drewN ?_ _ | refine Kept.setCell ?_ (by first | (simp; done) | (simp; omega) | omega | exact Kept.size (by (repeat (first | exact Kept.refl _ | assumption | refine Kept.alloc ?_ _ | refine Kept.drew ?_ | refine Kept.drewN ?_ _ | refine Kept.trans ?_ (by assumption))))) _ | refine Kept.trans ?_ (by assumption)))))).mono ?_
    rintro e w' ⟨rfl, hk⟩
    go_wp2_with fail
    go_ret2
    exact ⟨_, rfl, own_base (own_kept HO0.out hk) (by simp), by (repeat (first | exact Kept.refl _ | assumption | refine Kept.alloc ?_ _ | refine Kept.drew ?_ | refine Kept.drewN ?_ _ | refine Kept.setCell ?_ (by first | (simp; done) | (simp; omega) | omega | exact Kept.size (by (repeat (first | exact Kept.refl _ | assumption | refine Kept.alloc ?_ _ | refine Kept.drew ?_ | refine Kept.drewN ?_ _ | refine Kept.trans ?_ (by assumption))))) _ | refine Kept.trans ?_ (by assumption)))⟩
  · obtain ⟨-, -, hn, -⟩ := gaugeB_1 h1
    have H1 := Lib.hid h1
    have HA := Lib.hid hA
    clear hA
    go_enter Try.func37, Try.ntmps37
    go_wp2_with fail
    refine (l3One_any _ _ _ _ _ hs _ (by exact HL.out.kept (by (repeat (first | exact Kept.refl _ | assumption | refine Kept.alloc ?_ _ | refine Kept.drew ?_ | refine Kept.drewN ?_ _ | refine Kept.setCell ?_ (by first | (simp; done) | (simp; omega) | omega | exact Kept.size (by (repeat (first | exact Kept.refl _ | assumption | refine Kept.alloc ?_ _ | refine Kept.drew ?_ | refine Kept.drewN ?_ _ | refine Kept.trans ?_ (by assumption))))) _ | refine Kept.trans ?_ (by assumption)))))).mono ?_
    rintro e w' ⟨rfl, hk⟩
    have HKW := Lib.hid (show Kept (w.alloc (.cells #[.int .i64 id, .string nm, .int .i64 z, .slice A xs.length c] 26)) w' from (Kept.alloc (Kept.refl _) _).trans hk)
    have HOW := Lib.hid (own_kept HO0.out hk)
    clear hk
    go_wp2_with fail
    go_loopw [4, 5] (fun v i wr => ∃ k : Nat, (k = 0 ∨ k + 2 ≤ xs.length) ∧ i = .int .i64 ((k : Int) + 1) ∧ Kept (w.alloc (.cells #[.int .i64 id, .string nm, .int .i64 z, .slice A xs.length c] 26)) wr ∧ wr.ownsRow (w.alloc (.cells #[.int .i64 id, .string nm, .int .i64 z, .slice A xs.length c] 26)).heap.size 28 2 v (hwTo xs k).length ((hwTo xs k).flatMap pairC)) (fun _ i _ => xs.length - (intOf i).toNat)
    case atStart => exact ⟨0, Or.inl rfl, rfl, by have hq := HKW.out; (repeat (first | exact Kept.refl _ | assumption | refine Kept.alloc ?_ _ | refine Kept.drew ?_ | refine Kept.drewN ?_ _ | refine Kept.setCell ?_ (by first | (simp; done) | (simp; omega) | omega | exact Kept.size (by (repeat (first | exact Kept.refl _ | assumption | refine Kept.alloc ?_ _ | refine Kept.drew ?_ | refine Kept.drewN ?_ _ | refine Kept.trans ?_ (by assumption))))) _ | refine Kept.trans ?_ (by assumption))), HOW.out⟩
    case round =>
      obtain ⟨k, hk, rfl, hkw, hown⟩ := hrel
      have HO := Lib.hid hown
      have HK := Lib.hid hkw
      have p3 := hkw.keep (show (w.alloc (.cells #[.int .i64 id, .string nm, .int .i64 z, .slice A xs.length c] 26)).cell? ⟨w.heap.size, 3, none⟩ = some (.slice A xs.length c) by simp [go_sem])
      have hz := World.block_lt_of_cell? wr _ p3
      simp only [] at hz
      have z1 : w.heap.size ≤ wr.heap.size := by omega
      have z2 : ¬ w.heap.size = wr.heap.size := by omega
      have z3 : ¬ wr.heap.size = w.heap.size := by omega
      have p3' : ∀ o : Obj, (wr.alloc o).cell? ⟨w.heap.size, 3, none⟩ = some (.slice A xs.length c) := fun o => (Kept.alloc (Kept.refl _) o).keep p3
      clear hown
      by_cases hlt : k + 2 < xs.length
      · obtain ⟨b, off, rfl, hc⟩ := HA.out (by omega)
        have c0 := hkw.keep ((Kept.alloc (Kept.refl w) _).keep (hc k (by omega)).2)
        have c1 := hkw.keep ((Kept.alloc (Kept.refl w) _).keep (hc (k + 1) (by omega)).1)
        have c2 := hkw.keep ((Kept.alloc (Kept.refl w) _).keep (hc (k + 1) (by omega)).2)
        have c3 := hkw.keep ((Kept.alloc (Kept.refl w) _).keep (hc (k + 2) (by omega)).2)
        have c0' : ∀ o : Obj, (wr.alloc o).cell? ⟨b, off + k * 2 + 1, none⟩ = some (.int .i64 (P2 xs k)) := fun o => (Kept.alloc (Kept.refl _) o).keep c0
        have c3' : ∀ o : Obj, (wr.alloc o).cell? ⟨b, off + (k + 2) * 2 + 1, none⟩ = some (.int .i64 (P2 xs (k + 2))) := fun o => (Kept.alloc (Kept.refl _) o).keep c3
        have hgl := hw_len xs k
        have k0 : (0 : Int) ≤ (k : Int) := by omega
        have k1 : (k : Int) < (xs.length : Int) := by omega
        have k2 : (0 : Int) ≤ (k : Int) + 1 := by omega
        have k3 : (k : Int) + 1 < (xs.length : Int) := by omega
        have k4 : (0 : Int) ≤ (k : Int) + 1 + 1 := by omega
        have k5 : (k : Int) + 1 + 1 < (xs.length : Int) := by omega
        have hbase := HK.out.size
        clear hkw hc
        by_cases g1 : P2 xs k < P2 xs (k + 1)
        · by_cases g2 : P2 xs (k + 2) ≤ P2 xs (k + 1)
          · have HG := Lib.hid (hw_yes (show hwAt xs k = true by simp [hwAt, g1, g2]))
            go_wp2_with fail
            have e1 : IntKind.i64.wrap ((k : Int) + 1 - 1) = (k : Int) := by rw [Int.add_sub_cancel]; exact IntWalk.i64_in _ (by omega)
            have e2 : IntKind.i64.wrap ((k : Int) + 1 + 1) = (k : Int) + 1 + 1 := IntWalk.i64_in _ (by omega)
            have e3 : ((k : Int) + 1 + 1).toNat = k + 2 := by omega
            go_quiet (fail)
            clear e1 e2 e3
            go_wp2_with (at_builtin; refine wpList_append_own _ rfl (.tmp 47) (.tmp 49) _ rfl (w.alloc (.cells #[.int .i64 id, .string nm, .int .i64 z, .slice (some ⟨b, off, none⟩) xs.length c] 26)).heap.size 28 i0 _ 2 16 Try.underlying24 hi0 hz0 hz1 hz2 rfl (by decide) _ (hwTo xs k).length _ rfl ((own_kept HO.out (by (repeat (first | exact Kept.refl _ | assumption | refine Kept.alloc ?_ _ | refine Kept.drew ?_ | refine Kept.drewN ?_ _ | refine Kept.setCell ?_ (by first | (simp; done) | (simp; omega) | omega | exact Kept.size (by (repeat (first | exact Kept.refl _ | assumption | refine Kept.alloc ?_ _ | refine Kept.drew ?_ | refine Kept.drewN ?_ _ | refine Kept.trans ?_ (by assumption))))) _ | refine Kept.trans ?_ (by assumption))))).alloc _) ⟨wr.heap.size + 1, 0, none⟩ 1 1 [.int .i64 (P1 xs (k + 1)), .int .i64 (P2 xs (k + 1))] rfl rfl (World.news_of_block (cs := #[.int .i64 (P1 xs (k + 1)), .int .i64 (P2 xs (k + 1))]) (t := 28) (fr := (0, 0)) (by have h : ∀ n, (((wr.alloc (Obj.cells #[.int .i64 (P1 xs (k + 1)), .int .i64 (P2 xs (k + 1))] 28)).drewN n).alloc (Obj.cells #[.int .i64 (P1 xs (k + 1)), .int .i64 (P2 xs (k + 1))] 28)).heap[wr.heap.size + 1]? = some (Obj.cells #[.int .i64 (P1 xs (k + 1)), .int .i64 (P2 xs (k + 1))] 28) := (fun n => by simpa using heap_alloc_new ((wr.alloc (Obj.cells #[.int .i64 (P1 xs (k + 1)), .int .i64 (P2 xs (k + 1))] 28)).drewN n) (Obj.cells #[.int .i64 (P1 xs (k + 1)), .int .i64 (P2 xs (k + 1))] 28)); exact h _)) (by simp [Value.oneCell']) (by unfold maxLen; omega) (by omega) (by simp; omega) ?_; intro v1 w1 hown1 hgrow1 _)
            have hgo := Kept.of_own HK.out HO.out hgrow1 (by (repeat (first | exact Kept.refl _ | assumption | refine Kept.alloc ?_ _ | refine Kept.drew ?_ | refine Kept.drewN ?_ _ | refine Kept.setCell ?_ (by first | (simp; done) | (simp; omega) | omega | exact Kept.size (by (repeat (first | exact Kept.refl _ | assumption | refine Kept.alloc ?_ _ | refine Kept.drew ?_ | refine Kept.drewN ?_ _ | refine Kept.trans ?_ (by assumption))))) _ | refine Kept.trans ?_ (by assumption))))
            go_roundw
            case rel => exact ⟨k + 1, Or.inr (by omega), by go_num, hgo, by rw [HG.out, List.length_append, List.flatMap_append]; exact hown1⟩
            case measure => simp [intOf]; omega
          · have HG := Lib.hid (hw_no (show hwAt xs k = false by simp [hwAt]; omega))
            have g3 : P2 xs (k + 1) < P2 xs (k + 2) := by omega
            have g4 : decide (P2 xs (k + 2) ≤ P2 xs (k + 1)) = false := decide_eq_false (by omega)
            go_wp2_with fail
            have e1 : IntKind.i64.wrap ((k : Int) + 1 - 1) = (k : Int) := by rw [Int.add_sub_cancel]; exact IntWalk.i64_in _ (by omega)
            have e2 : IntKind.i64.wrap ((k : Int) + 1 + 1) = (k : Int) + 1 + 1 := IntWalk.i64_in _ (by omega)
            have e3 : ((k : Int) + 1 + 1).toNat = k + 2 := by omega
            go_quiet (fail)
            clear e1 e2 e3
            go_wp2
            go_roundw
            case rel => exact ⟨k + 1, Or.inr (by omega), by go_num, by have hq := HK.out; (repeat (first | exact Kept.refl _ | assumption | refine Kept.alloc ?_ _ | refine Kept.drew ?_ | refine Kept.drewN ?_ _ | refine Kept.setCell ?_ (by first | (simp; done) | (simp; omega) | omega | exact Kept.size (by (repeat (first | exact Kept.refl _ | assumption | refine Kept.alloc ?_ _ | refine Kept.drew ?_ | refine Kept.drewN ?_ _ | refine Kept.trans ?_ (by assumption))))) _ | refine Kept.trans ?_ (by assumption))), by rw [HG.out]; exact own_kept HO.out (by (repeat (first | exact Kept.refl _ | assumption | refine Kept.alloc ?_ _ | refine Kept.drew ?_ | refine Kept.drewN ?_ _ | refine Kept.setCell ?_ (by first | (simp; done) | (simp; omega) | omega | exact Kept.size (by (repeat (first | exact Kept.refl _ | assumption | refine Kept.alloc ?_ _ | refine Kept.drew ?_ | refine Kept.drewN ?_ _ | refine Kept.trans ?_ (by assumption))))) _ | refine Kept.trans ?_ (by assumption))))⟩
            case measure => simp [intOf]; omega
        · have HG := Lib.hid (hw_no (show hwAt xs k = false by simp [hwAt]; omega))
          have g3 : P2 xs (k + 1) ≤ P2 xs k := by omega
          have g4 : decide (P2 xs k < P2 xs (k + 1)) = false := decide_eq_false (by omega)
          go_wp2_with fail
          have e1 : IntKind.i64.wrap ((k : Int) + 1 - 1) = (k : Int) := by rw [Int.add_sub_cancel]; exact IntWalk.i64_in _ (by omega)
          have e2 : IntKind.i64.wrap ((k : Int) + 1 + 1) = (k : Int) + 1 + 1 := IntWalk.i64_in _ (by omega)
          have e3 : ((k : Int) + 1 + 1).toNat = k + 2 := by omega
          go_quiet (fail)
          clear e1 e2 e3
          go_wp2
          go_roundw
          case rel => exact ⟨k + 1, Or.inr (by omega), by go_num, by have hq := HK.out; (repeat (first | exact Kept.refl _ | assumption | refine Kept.alloc ?_ _ | refine Kept.drew ?_ | refine Kept.drewN ?_ _ | refine Kept.setCell ?_ (by first | (simp; done) | (simp; omega) | omega | exact Kept.size (by (repeat (first | exact Kept.refl _ | assumption | refine Kept.alloc ?_ _ | refine Kept.drew ?_ | refine Kept.drewN ?_ _ | refine Kept.trans ?_ (by assumption))))) _ | refine Kept.trans ?_ (by assumption))), by rw [HG.out]; exact own_kept HO.out (by (repeat (first | exact Kept.refl _ | assumption | refine Kept.alloc ?_ _ | refine Kept.drew ?_ | refine Kept.drewN ?_ _ | refine Kept.setCell ?_ (by first | (simp; done) | (simp; omega) | omega | exact Kept.size (by (repeat (first | exact Kept.refl _ | assumption | refine Kept.alloc ?_ _ | refine Kept.drew ?_ | refine Kept.drewN ?_ _ | refine Kept.trans ?_ (by assumption))))) _ | refine Kept.trans ?_ (by assumption))))⟩
          case measure => simp [intOf]; omega
      · have e : k = xs.length - 2 := by omega
        have HF := Lib.hid (hwv_yes H1.out e)
        clear e
        go_wp2
        go_ret2
        exact ⟨_, rfl, by rw [HF.out]; exact own_base HO.out (by simp), (Kept.alloc (Kept.refl w) _).trans HK.out⟩
end Go.Proofs.Ytopdnhlolfehcaa

/-
  Contracts of RaiseTides, the program's and the reference's.
  Conditions: none.
-/
import Derived.Test.YtlkbneklmcefcaaGaps
import Derived.Deep.AppendLies
namespace Go.Proofs.Ytlkbneklmcefcaa
open Go.ChangeShapes Go.WideShapes Go.ChangeAt Go.RowKit
set_option linter.unusedVariables false

theorem ret_vb {u : Value} {b b' : Bool} (h : b = b') : Ending.returned (.tuple #[u, .bool b']) = .returned (.tuple #[u, .bool b]) := by rw [h]
/-- A curve raised by a number. -/
def shiftL (xs : List (Int × Int)) (d : Int) : List (Int × Int) := xs.map (fun p => (p.1, p.2 + d))
theorem shift_len (xs : List (Int × Int)) (d : Int) : (shiftL xs d).length = xs.length := by simp [shiftL]
theorem shift_take {xs : List (Int × Int)} {d : Int} {k : Nat} (hk : k < xs.length) : (shiftL xs d).take (k + 1) = (shiftL xs d).take k ++ [(P1 xs k, P2 xs k + d)] := by
  rw [List.take_succ_eq_append_getElem (by rw [shift_len]; exact hk), P1_at hk, P2_at hk]
  simp [shiftL]
def raiseOk (xs : List (Int × Int)) (d : Int) : Bool := tideB xs && inB d (-3000) 3000 && tideB (shiftL xs d)
def raiseVal (xs : List (Int × Int)) (d : Int) : List (Int × Int) := if raiseOk xs d = true then shiftL xs d else []

theorem raiseTides_any (v : Value) (xs : List (Int × Int)) (d : Int) (w : World) (hL : Lies w 2 pairC v xs) : Calls Try.prog 20 #[v, .int .i64 d] w fun e w' => ∃ u, e = .returned (.tuple #[u, .bool (raiseOk xs d)]) ∧ w'.ownsRow w.heap.size 53 2 u (raiseVal xs d).length ((raiseVal xs d).flatMap pairC) ∧ Kept w w' := by
  have HL := Lib.hid hL
  obtain ⟨i0, hi0, hz0, hz1, hz2⟩ := info_parts infoTide
  obtain ⟨A, c, rfl, hlc, hcm, hA⟩ := lies_pairs hL
  clear hL
  cases hB : tideB xs
  · have HV := Lib.hid (show raiseVal xs d = [] by simp [raiseVal, raiseOk, hB])
    have HK := Lib.hid (show raiseOk xs d = false by simp [raiseOk, hB])
    clear hA
    go_enter Try.func20, Try.ntmps20
    go_wp2_with (go_at_call 17; (with_reducible refine (isTideCurve_any _ _ _ HL.out).mono ?_); rintro e w' ⟨rfl, hk⟩; (try have hkr := Root.trans (by assumption) hk); (first | (have hkf := From.step (by assumption) hk; obtain ⟨hc, hf⟩ := hkf.cells) | (have hkf := From.start hk; obtain ⟨hc, hf⟩ := hkf.cells)))
    go_ret2
    exact ⟨_, ret_vb HK.out, by rw [HV.out]; exact World.ownsRow_nil _ _ _ _, by (repeat (first | exact Kept.refl _ | assumption | refine Kept.alloc ?_ _ | refine Kept.drew ?_ | refine Kept.drewN ?_ _ | refine Kept.setCell ?_ (by first | (simp; done) | (simp; omega) | omega | exact Kept.size (by (repeat (first | exact Kept.refl _ | assumption | refine Kept.alloc ?_ _ | refine Kept.drew ?_ | refine Kept.drewN ?_ _ | refine Kept.trans ?_ (by assumption))))) _ | refine Kept.trans ?_ (by assumption)))⟩
  · cases hD : inB d (-3000) 3000
    · have HV := Lib.hid (show raiseVal xs d = [] by simp [raiseVal, raiseOk, hD])
      have HK := Lib.hid (show raiseOk xs d = false by simp [raiseOk, hD])
      clear hA
      go_enter Try.func20, Try.ntmps20
      go_wp2_with (first | (go_at_call 17; (with_reducible refine (isTideCurve_any _ _ _ HL.out).mono ?_); rintro e w' ⟨rfl, hk⟩; (try have hkr := Root.trans (by assumption) hk); (first | (have hkf := From.step (by assumption) hk; obtain ⟨hc, hf⟩ := hkf.cells) | (have hkf := From.start hk; obtain ⟨hc, hf⟩ := hkf.cells))) | (go_at_call 54; (with_reducible refine (inside_any _ _ _ _).mono ?_); rintro e w' ⟨rfl, rfl⟩))
      go_ret2
      exact ⟨_, ret_vb HK.out, by rw [HV.out]; exact World.ownsRow_nil _ _ _ _, by (repeat (first | exact Kept.refl _ | assumption | refine Kept.alloc ?_ _ | refine Kept.drew ?_ | refine Kept.drewN ?_ _ | refine Kept.setCell ?_ (by first | (simp; done) | (simp; omega) | omega | exact Kept.size (by (repeat (first | exact Kept.refl _ | assumption | refine Kept.alloc ?_ _ | refine Kept.drew ?_ | refine Kept.drewN ?_ _ | refine Kept.trans ?_ (by assumption))))) _ | refine Kept.trans ?_ (by assumption)))⟩
    · have hlen := tideB_len hB
      obtain ⟨l1, l2⟩ := hlen
      have HK : Hid (raiseOk xs d = tideB (shiftL xs d)) := by simp [Hid, raiseOk, hB, hD]
      have HT := Lib.hid hB
      have hd2 := inB_true.1 hD
      obtain ⟨d1, d2⟩ := hd2
      obtain ⟨b, off, rfl, hc⟩ := hA (by omega)
      have HC := Lib.hid hc
      clear hA hc
      go_enter Try.func20, Try.ntmps20
      go_wp2_with (first | (go_at_call 17; (with_reducible refine (isTideCurve_any _ _ _ HL.out).mono ?_); rintro e w' ⟨rfl, hk⟩; (try have hkr := Root.trans (by assumption) hk); (first | (have hkf := From.step (by assumption) hk; obtain ⟨hc, hf⟩ := hkf.cells) | (have hkf := From.start hk; obtain ⟨hc, hf⟩ := hkf.cells))) | (go_at_call 54; (with_reducible refine (inside_any _ _ _ _).mono ?_); rintro e w' ⟨rfl, rfl⟩))
      clear hc hf hkf
      have HW := Lib.hid (show Kept w w' by (repeat (first | exact Kept.refl _ | assumption | refine Kept.alloc ?_ _ | refine Kept.drew ?_ | refine Kept.drewN ?_ _ | refine Kept.setCell ?_ (by first | (simp; done) | (simp; omega) | omega | exact Kept.size (by (repeat (first | exact Kept.refl _ | assumption | refine Kept.alloc ?_ _ | refine Kept.drew ?_ | refine Kept.drewN ?_ _ | refine Kept.trans ?_ (by assumption))))) _ | refine Kept.trans ?_ (by assumption))))
      go_loopw [6, 20] (fun v i wr => ∃ k : Nat, k ≤ xs.length ∧ i = .int .i64 (k : Int) ∧ Kept w wr ∧ wr.ownsRow w.heap.size 53 2 v k (((shiftL xs d).take k).flatMap pairC)) (fun _ i _ => xs.length - (intOf i).toNat)
      case atStart => exact ⟨0, by omega, rfl, by have hq := HW.out; (repeat (first | exact Kept.refl _ | assumption | refine Kept.alloc ?_ _ | refine Kept.drew ?_ | refine Kept.drewN ?_ _ | refine Kept.setCell ?_ (by first | (simp; done) | (simp; omega) | omega | exact Kept.size (by (repeat (first | exact Kept.refl _ | assumption | refine Kept.alloc ?_ _ | refine Kept.drew ?_ | refine Kept.drewN ?_ _ | refine Kept.trans ?_ (by assumption))))) _ | refine Kept.trans ?_ (by assumption))), own_base (World.ownsRow_lit (e := 53) (size := 2) w' #[] 0 (Nat.le_refl _) (by simp [maxLen]) rfl) HW.out.size⟩
      case round =>
        obtain ⟨k, hk, rfl, hkw, hown⟩ := hrel
        have HO := Lib.hid hown
        have HQ := Lib.hid hkw
        clear hown hkw
        by_cases hlt : k < xs.length
        · have c0 := HQ.out.keep (HC.out k (by omega)).1
          have c1 := HQ.out.keep (HC.out k (by omega)).2
          obtain ⟨-, ⟨b3, b4⟩, -⟩ := tideB_at HT.out (k := k) (by omega)
          have hbase := HQ.out.size
          have HG := Lib.hid (shift_take (d := d) hlt)
          go_wp2_with (at_builtin; refine wpList_append_own _ rfl (.tmp 29) (.tmp 31) _ rfl w.heap.size 53 i0 _ 2 16 Try.underlying25 hi0 hz0 hz1 hz2 rfl (by decide) _ k _ rfl ((HO.out.alloc _).alloc _) ⟨wr.heap.size + 1, 0, none⟩ 1 1 [.int .i64 (P1 xs k), .int .i64 (P2 xs k + d)] rfl rfl (World.news_of_block (cs := #[.int .i64 (P1 xs k), .int .i64 (P2 xs k + d)]) (t := 53) (fr := (0, 0)) (by simpa using heap_alloc_new (wr.alloc (Obj.cells #[.int .i64 (P1 xs k), .int .i64 (P2 xs k + d)] 53)) (Obj.cells #[.int .i64 (P1 xs k), .int .i64 (P2 xs k + d)] 53))) (by simp [Value.oneCell']) (by unfold maxLen; omega) (by omega) (by simp; omega) ?_; intro v1 w1 hown1 hgrow1 _)
          have hgo := Kept.of_own HQ.out HO.out hgrow1 (by (repeat (first | exact Kept.refl _ | assumption | refine Kept.alloc ?_ _ | refine Kept.drew ?_ | refine Kept.drewN ?_ _ | refine Kept.setCell ?_ (by first | (simp; done) | (simp; omega) | omega | exact Kept.size (by (repeat (first | exact Kept.refl _ | assumption | refine Kept.alloc ?_ _ | refine Kept.drew ?_ | refine Kept.drewN ?_ _ | refine Kept.trans ?_ (by assumption))))) _ | refine Kept.trans ?_ (by assumption))))
          go_roundw
          case rel => exact ⟨k + 1, by omega, by go_num, hgo, by rw [HG.out, List.flatMap_append]; exact hown1⟩
          case measure => simp [intOf]; omega
        · have e : k = xs.length := by omega
          have HS := Lib.hid (show (shiftL xs d).take k = shiftL xs d by rw [e, ← shift_len xs d, List.take_length])
          have HO2 : Hid (wr.ownsRow w.heap.size 53 2 u6 (shiftL xs d).length ((shiftL xs d).flatMap pairC)) := by
            have h := HO.out
            rw [HS.out, e, ← shift_len xs d] at h
            exact h
          clear e
          cases hS : tideB (shiftL xs d)
          · have HV := Lib.hid (show raiseVal xs d = [] by simp [raiseVal, HK.out, hS])
            have HR := Lib.hid (HK.out.trans hS)
            go_wp2_with (go_at_call 17; (with_reducible refine (isTideCurve_any _ _ _ (pairs_own HO2.out)).mono ?_); rintro e w' ⟨rfl, hk⟩; (try have hkr := Root.trans (by assumption) hk); (first | (have hkf := From.step (by assumption) hk; obtain ⟨hc, hf⟩ := hkf.cells) | (have hkf := From.start hk; obtain ⟨hc, hf⟩ := hkf.cells)))
            go_ret2
            exact ⟨_, ret_vb HR.out, by rw [HV.out]; exact World.ownsRow_nil _ _ _ _, by have hq := HQ.out; (repeat (first | exact Kept.refl _ | assumption | refine Kept.alloc ?_ _ | refine Kept.drew ?_ | refine Kept.drewN ?_ _ | refine Kept.setCell ?_ (by first | (simp; done) | (simp; omega) | omega | exact Kept.size (by (repeat (first | exact Kept.refl _ | assumption | refine Kept.alloc ?_ _ | refine Kept.drew ?_ | refine Kept.drewN ?_ _ | refine Kept.trans ?_ (by assumption))))) _ | refine Kept.trans ?_ (by assumption)))⟩
          · have HV := Lib.hid (show raiseVal xs d = shiftL xs d by simp [raiseVal, HK.out, hS])
            have HR := Lib.hid (HK.out.trans hS)
            go_wp2_with (go_at_call 17; (with_reducible refine (isTideCurve_any _ _ _ (pairs_own HO2.out)).mono ?_); rintro e w' ⟨rfl, hk⟩; (try have hkr := Root.trans (by assumption) hk); (first | (have hkf := From.step (by assumption) hk; obtain ⟨hc, hf⟩ := hkf.cells) | (have hkf := From.start hk; obtain ⟨hc, hf⟩ := hkf.cells)))
            go_ret2
            exact ⟨_, ret_vb HR.out, by rw [HV.out]; exact own_kept HO2.out hk, by have hq := HQ.out; (repeat (first | exact Kept.refl _ | assumption | refine Kept.alloc ?_ _ | refine Kept.drew ?_ | refine Kept.drewN ?_ _ | refine Kept.setCell ?_ (by first | (simp; done) | (simp; omega) | omega | exact Kept.size (by (repeat (first | exact Kept.refl _ | assumption | refine Kept.alloc ?_ _ | refine Kept.drew ?_ | refine Kept.drewN ?_ _ | refine Kept.trans ?_ (by assumption))))) _ | refine Kept.trans ?_ (by assumption)))⟩
theorem sRaiseTides_any (v : Value) (xs : List (Int × Int)) (d : Int) (w : World) (hL : Lies w 2 pairC v xs) : Calls Try.prog 19 #[v, .int .i64 d] w fun e w' => ∃ u, e = .returned (.tuple #[u, .bool (raiseOk xs d)]) ∧ w'.ownsRow w.heap.size 53 2 u (raiseVal xs d).length ((raiseVal xs d).flatMap pairC) ∧ Kept w w' := by
  have HL := Lib.hid hL
  obtain ⟨i0, hi0, hz0, hz1, hz2⟩ := info_parts infoTide
  obtain ⟨A, c, rfl, hlc, hcm, hA⟩ := lies_pairs hL
  clear hL
  cases hB : tideB xs
  · have HV := Lib.hid (show raiseVal xs d = [] by simp [raiseVal, raiseOk, hB])
    have HK := Lib.hid (show raiseOk xs d = false by simp [raiseOk, hB])
    clear hA
    go_enter Try.func19, Try.ntmps19
    go_wp2_with (go_at_call 51; (with_reducible refine (l4Good_any _ _ _ (by exact HL.out.kept (by (repeat (first | exact Kept.refl _ | assumption | refine Kept.alloc ?_ _ | refine Kept.drew ?_ | refine Kept.drewN ?_ _ | refine Kept.setCell ?_ (by first | (simp; done) | (simp; omega) | omega | exact Kept.size (by (repeat (first | exact Kept.refl _ | assumption | refine Kept.alloc ?_ _ | refine Kept.drew ?_ | refine Kept.drewN ?_ _ | refine Kept.trans ?_ (by assumption))))) _ | refine Kept.trans ?_ (by assumption)))))).mono ?_); rintro e w' ⟨rfl, hk⟩; (try have hkr := Root.trans (by assumption) hk); (first | (have hkf := From.step (by assumption) hk; obtain ⟨hc, hf⟩ := hkf.cells) | (have hkf := From.start hk; obtain ⟨hc, hf⟩ := hkf.cells)))
    go_ret2
    exact ⟨_, ret_vb HK.out, by rw [HV.out]; exact own_kept (World.ownsRow_lit (e := 53) (size := 2) w #[] 0 (Nat.le_refl _) (by simp [maxLen]) rfl) hk, by (repeat (first | exact Kept.refl _ | assumption | refine Kept.alloc ?_ _ | refine Kept.drew ?_ | refine Kept.drewN ?_ _ | refine Kept.setCell ?_ (by first | (simp; done) | (simp; omega) | omega | exact Kept.size (by (repeat (first | exact Kept.refl _ | assumption | refine Kept.alloc ?_ _ | refine Kept.drew ?_ | refine Kept.drewN ?_ _ | refine Kept.trans ?_ (by assumption))))) _ | refine Kept.trans ?_ (by assumption)))⟩
  · cases hD : inB d (-3000) 3000
    · have HV := Lib.hid (show raiseVal xs d = [] by simp [raiseVal, raiseOk, hD])
      have HK := Lib.hid (show raiseOk xs d = false by simp [raiseOk, hD])
      clear hA
      go_enter Try.func19, Try.ntmps19
      go_wp2_with (first | (go_at_call 51; (with_reducible refine (l4Good_any _ _ _ (by exact HL.out.kept (by (repeat (first | exact Kept.refl _ | assumption | refine Kept.alloc ?_ _ | refine Kept.drew ?_ | refine Kept.drewN ?_ _ | refine Kept.setCell ?_ (by first | (simp; done) | (simp; omega) | omega | exact Kept.size (by (repeat (first | exact Kept.refl _ | assumption | refine Kept.alloc ?_ _ | refine Kept.drew ?_ | refine Kept.drewN ?_ _ | refine Kept.trans ?_ (by assumption))))) _ | refine Kept.trans ?_ (by assumption)))))).mono ?_); rintro e w' ⟨rfl, hk⟩; (try have hkr := Root.trans (by assumption) hk); (first | (have hkf := From.step (by assumption) hk; obtain ⟨hc, hf⟩ := hkf.cells) | (have hkf := From.start hk; obtain ⟨hc, hf⟩ := hkf.cells))) | (go_at_call 56; (with_reducible refine (l1In_any _ _ _ _).mono ?_); rintro e w' ⟨rfl, rfl⟩))
      go_ret2
      exact ⟨_, ret_vb HK.out, by rw [HV.out]; exact own_kept (World.ownsRow_lit (e := 53) (size := 2) w #[] 0 (Nat.le_refl _) (by simp [maxLen]) rfl) hk, by (repeat (first | exact Kept.refl _ | assumption | refine Kept.alloc ?_ _ | refine Kept.drew ?_ | refine Kept.drewN ?_ _ | refine Kept.setCell ?_ (by first | (simp; done) | (simp; omega) | omega | exact Kept.size (by (repeat (first | exact Kept.refl _ | assumption | refine Kept.alloc ?_ _ | refine Kept.drew ?_ | refine Kept.drewN ?_ _ | refine Kept.trans ?_ (by assumption))))) _ | refine Kept.trans ?_ (by assumption)))⟩
    · have hlen := tideB_len hB
      obtain ⟨l1, l2⟩ := hlen
      have HK : Hid (raiseOk xs d = tideB (shiftL xs d)) := by simp [Hid, raiseOk, hB, hD]
      have HT := Lib.hid hB
      have hd2 := inB_true.1 hD
      obtain ⟨d1, d2⟩ := hd2
      obtain ⟨b, off, rfl, hc⟩ := hA (by omega)
      have HC := Lib.hid hc
      clear hA hc
      go_enter Try.func19, Try.ntmps19
      go_wp2_with (first | (go_at_call 51; (with_reducible refine (l4Good_any _ _ _ (by exact HL.out.kept (by (repeat (first | exact Kept.refl _ | assumption | refine Kept.alloc ?_ _ | refine Kept.drew ?_ | refine Kept.drewN ?_ _ | refine Kept.setCell ?_ (by first | (simp; done) | (simp; omega) | omega | exact Kept.size (by (repeat (first | exact Kept.refl _ | assumption | refine Kept.alloc ?_ _ | refine Kept.drew ?_ | refine Kept.drewN ?_ _ | refine Kept.trans ?_ (by assumption))))) _ | refine Kept.trans ?_ (by assumption)))))).mono ?_); rintro e w' ⟨rfl, hk⟩; (try have hkr := Root.trans (by assumption) hk); (first | (have hkf := From.step (by assumption) hk; obtain ⟨hc, hf⟩ := hkf.cells) | (have hkf := From.start hk; obtain ⟨hc, hf⟩ := hkf.cells))) | (go_at_call 56; (with_reducible refine (l1In_any _ _ _ _).mono ?_); rintro e w' ⟨rfl, rfl⟩))
      have HO0 := Lib.hid (own_kept (World.ownsRow_lit (e := 53) (size := 2) w #[] 0 (Nat.le_refl _) (by simp [maxLen]) rfl) hk)
      clear hc hf hkf
      have HW := Lib.hid (show Kept w w' by (repeat (first | exact Kept.refl _ | assumption | refine Kept.alloc ?_ _ | refine Kept.drew ?_ | refine Kept.drewN ?_ _ | refine Kept.setCell ?_ (by first | (simp; done) | (simp; omega) | omega | exact Kept.size (by (repeat (first | exact Kept.refl _ | assumption | refine Kept.alloc ?_ _ | refine Kept.drew ?_ | refine Kept.drewN ?_ _ | refine Kept.trans ?_ (by assumption))))) _ | refine Kept.trans ?_ (by assumption))))
      go_loopw [6, 7] (fun v i wr => ∃ k : Nat, k ≤ xs.length ∧ i = .int .i64 (k : Int) ∧ Kept w wr ∧ wr.ownsRow w.heap.size 53 2 v k (((shiftL xs d).take k).flatMap pairC)) (fun _ i _ => xs.length - (intOf i).toNat)
      case atStart => exact ⟨0, by omega, rfl, HW.out, HO0.out⟩
      case round =>
        obtain ⟨k, hk, rfl, hkw, hown⟩ := hrel
        have HO := Lib.hid hown
        have HQ := Lib.hid hkw
        clear hown hkw
        by_cases hlt : k < xs.length
        · have c0 := HQ.out.keep (HC.out k (by omega)).1
          have c1 := HQ.out.keep (HC.out k (by omega)).2
          obtain ⟨-, ⟨b3, b4⟩, -⟩ := tideB_at HT.out (k := k) (by omega)
          have hbase := HQ.out.size
          have HG := Lib.hid (shift_take (d := d) hlt)
          have k0 : (0 : Int) ≤ (k : Int) := by omega
          have k1 : (k : Int) < (xs.length : Int) := by omega
          have hlo := HO.out.lt
          have hbl := World.block_lt_of_cell? w _ (HC.out k hlt).1
          have hne : u6.ownBlock ≠ some b := fun h => by have := (hlo b h).1; simp at hbl; omega
          have hbw : b < wr.heap.size := by simp at hbl; omega
          clear hlo
          have e1 : IntKind.i64.wrap (P2 xs k + d) = P2 xs k + d := IntWalk.i64_in _ (by omega)
          go_wp2_with fail
          go_region_held3 (fun w' => w'.cell? ⟨b, off + k * 2, none⟩ = some (.int .i64 (P1 xs k)) ∧ w'.cell? ⟨b, off + k * 2 + 1, none⟩ = some (.int .i64 (P2 xs k)))
            (first | (go_keep; done) | (go_split_ands; refine ⟨?_, ?_⟩ <;> (rw [hgrow1.cell_far _ (by simp; omega) (Ne.symm hne)]; assumption)) | (go_split_ands; refine ⟨?_, ?_⟩ <;> (first | (go_keep; done) | (simp [go_sem]; done) | (simp [go_sem, *]; done))))
            ((refine step_append_lies _ (by rfl) _ _ _ (by rfl) w.heap.size 53 i0 _ 2 16 Try.underlying25 hi0 hz0 hz1 hz2 rfl (by omega) _ k _ (by rfl) ((HO.out.alloc _).drew) ⟨wr.heap.size, 0, none⟩ 1 1 [.int .i64 (P1 xs k), .int .i64 (P2 xs k + d)] (by rfl) (by rfl) (World.news_of_block (cs := #[.int .i64 (P1 xs k), .int .i64 (P2 xs k + d)]) (t := 53) (fr := (0, 0)) (heap_alloc_new wr _)) (by simp [Value.oneCell']) (by omega) (by unfold maxLen; omega) (by omega) (by simp; omega) (wr.heap.size + 1) (by simp) ?_; intro gg cap w1 hown1 hgrow1 hat hlt1))
          go_wp2
          have hgo := Kept.of_own HQ.out HO.out hgrow1 (by (repeat (first | exact Kept.refl _ | assumption | refine Kept.alloc ?_ _ | refine Kept.drew ?_ | refine Kept.drewN ?_ _ | refine Kept.setCell ?_ (by first | (simp; done) | (simp; omega) | omega | exact Kept.size (by (repeat (first | exact Kept.refl _ | assumption | refine Kept.alloc ?_ _ | refine Kept.drew ?_ | refine Kept.drewN ?_ _ | refine Kept.trans ?_ (by assumption))))) _ | refine Kept.trans ?_ (by assumption))))
          go_roundw
          case rel => exact ⟨k + 1, by omega, by go_num, hgo, by rw [HG.out, List.flatMap_append]; exact hown1⟩
          case measure => simp [intOf]; omega
        · have e : k = xs.length := by omega
          have HS := Lib.hid (show (shiftL xs d).take k = shiftL xs d by rw [e, ← shift_len xs d, List.take_length])
          have HO2 : Hid (wr.ownsRow w.heap.size 53 2 u6 (shiftL xs d).length ((shiftL xs d).flatMap pairC)) := by
            have h := HO.out
            rw [HS.out, e, ← shift_len xs d] at h
            exact h
          clear e
          cases hS : tideB (shiftL xs d)
          · have HV := Lib.hid (show raiseVal xs d = [] by simp [raiseVal, HK.out, hS])
            have HR := Lib.hid (HK.out.trans hS)
            go_wp2_with (go_at_call 51; (with_reducible refine (l4Good_any _ _ _ (pairs_own HO2.out)).mono ?_); rintro e w' ⟨rfl, hk⟩; (try have hkr := Root.trans (by assumption) hk); (first | (have hkf := From.step (by assumption) hk; obtain ⟨hc, hf⟩ := hkf.cells) | (have hkf := From.start hk; obtain ⟨hc, hf⟩ := hkf.cells)))
            go_ret2
            exact ⟨_, ret_vb HR.out, by rw [HV.out]; exact own_base (World.ownsRow_lit (e := 53) (size := 2) _ #[] 0 (Nat.le_refl _) (by simp [maxLen]) rfl) (Kept.size (by have hq := HQ.out; (repeat (first | exact Kept.refl _ | assumption | refine Kept.alloc ?_ _ | refine Kept.drew ?_ | refine Kept.drewN ?_ _ | refine Kept.setCell ?_ (by first | (simp; done) | (simp; omega) | omega | exact Kept.size (by (repeat (first | exact Kept.refl _ | assumption | refine Kept.alloc ?_ _ | refine Kept.drew ?_ | refine Kept.drewN ?_ _ | refine Kept.trans ?_ (by assumption))))) _ | refine Kept.trans ?_ (by assumption))))), by have hq := HQ.out; (repeat (first | exact Kept.refl _ | assumption | refine Kept.alloc ?_ _ | refine Kept.drew ?_ | refine Kept.drewN ?_ _ | refine Kept.setCell ?_ (by first | (simp; done) | (simp; omega) | omega | exact Kept.size (by (repeat (first | exact Kept.refl _ | assumption | refine Kept.alloc ?_ _ | refine Kept.drew ?_ | refine Kept.drewN ?_ _ | refine Kept.trans ?_ (by assumption))))) _ | refine Kept.trans ?_ (by assumption)))⟩
          · have HV := Lib.hid (show raiseVal xs d = shiftL xs d by simp [raiseVal, HK.out, hS])
            have HR := Lib.hid (HK.out.trans hS)
            go_wp2_with (go_at_call 51; (with_reducible refine (l4Good_any _ _ _ (pairs_own HO2.out)).mono ?_); rintro e w' ⟨rfl, hk⟩; (try have hkr := Root.trans (by assumption) hk); (first | (have hkf := From.step (by assumption) hk; obtain ⟨hc, hf⟩ := hkf.cells) | (have hkf := From.start hk; obtain ⟨hc, hf⟩ := hkf.cells)))
            go_ret2
            exact ⟨_, ret_vb HR.out, by rw [HV.out]; exact own_kept HO2.out hk, by have hq := HQ.out; (repeat (first | exact Kept.refl _ | assumption | refine Kept.alloc ?_ _ | refine Kept.drew ?_ | refine Kept.drewN ?_ _ | refine Kept.setCell ?_ (by first | (simp; done) | (simp; omega) | omega | exact Kept.size (by (repeat (first | exact Kept.refl _ | assumption | refine Kept.alloc ?_ _ | refine Kept.drew ?_ | refine Kept.drewN ?_ _ | refine Kept.trans ?_ (by assumption))))) _ | refine Kept.trans ?_ (by assumption)))⟩
theorem raiseVal_len (xs : List (Int × Int)) (d : Int) : (raiseVal xs d).length ≤ 1048576 := by
  unfold raiseVal
  split
  · rename_i h
    simp only [raiseOk, Bool.and_eq_true] at h
    have := (tideB_len h.2).2
    omega
  · simp
theorem lawRaiseTides (v : Value) (xs : List (Int × Int)) (d : Int) (w : World) (hL : Lies w 2 pairC v xs) : Calls Try.prog 4 #[v, .int .i64 d] w fun e w' => e = .returned (.bool true) ∧ Kept w w' := by
  have HL := Lib.hid hL
  by_cases hn : xs.length ≤ 1048576
  · obtain ⟨A, c, rfl, hlc, hcm, hA⟩ := hL
    clear hA
    have hgl := raiseVal_len xs d
    go_enter Try.func4, Try.ntmps4
    go_wp2_with (go_at_call 14; (with_reducible refine (szTideS_ok _ _ _ HL.out hn).mono ?_); rintro e w' ⟨rfl, rfl⟩)
    refine (toTideS_any _ _ _ HL.out hn).mono ?_
    rintro e W1 ⟨u1, rfl, ho1, k1⟩
    go_wp2_with fail
    refine (sRaiseTides_any _ _ _ _ (pairs_own ho1)).mono ?_
    rintro e W2 ⟨uw, rfl, how, k2⟩
    go_wp2_with fail
    refine (toTideS_any _ _ _ (HL.out.kept (k1.trans k2)) hn).mono ?_
    rintro e W3 ⟨ux, rfl, hox, k3⟩
    go_wp2_with fail
    refine (raiseTides_any _ _ _ _ (pairs_own hox)).mono ?_
    rintro e W4 ⟨ug, rfl, hog, k4⟩
    go_wp2_with fail
    refine (eqTideS_any _ _ _ _ (pairs_own hog) (pairs_own (own_kept how (k3.trans k4)))).mono ?_
    rintro e W5 ⟨rfl, k5⟩
    go_wp2_with fail
    refine (toTideS_any _ _ _ (HL.out.kept (k1.trans (k2.trans (k3.trans (k4.trans k5))))) hn).mono ?_
    rintro e W6 ⟨uy, rfl, hoy, k6⟩
    go_wp2_with fail
    refine (eqTideS_any _ _ _ _ (pairs_own (own_kept hox (k4.trans (k5.trans k6)))) (pairs_own hoy)).mono ?_
    rintro e W7 ⟨rfl, k7⟩
    go_wp2_with fail
    refine (markTideS_any _ _ _ _ _ _ (own_kept hox (k4.trans (k5.trans (k6.trans k7)))) hn).mono ?_
    rintro e W8 ⟨rfl, hmx, g8⟩
    have k07 : Kept w W7 := k1.trans (k2.trans (k3.trans (k4.trans (k5.trans (k6.trans k7)))))
    have k08 : Kept w W8 := Kept.marked k07 hox (by have := k1.size; have := k2.size; omega) g8
    have hog8 := (own_kept hog (k5.trans (k6.trans k7))).kept g8 (own_ne hox hog (Nat.le_refl _)).2
    have how8 := (own_kept how (k3.trans (k4.trans (k5.trans (k6.trans k7))))).kept g8 (own_ne how hox (Nat.le_refl _)).1
    go_wp2_with fail
    refine (eqTideS_any _ _ _ _ (pairs_own hog8) (pairs_own how8)).mono ?_
    rintro e W9 ⟨rfl, k9⟩
    go_wp2_with fail
    refine (markTideS_any _ _ _ _ _ _ (own_kept hog8 k9) hgl).mono ?_
    rintro e W10 ⟨rfl, hmg, g10⟩
    have k010 : Kept w W10 := Kept.marked (k08.trans k9) hog (by have := k1.size; have := k2.size; have := k3.size; omega) g10
    have how10 := (own_kept how8 k9).kept g10 (own_ne how hog k3.size).1
    go_wp2_with fail
    refine (heldTideS_any _ _ _ _ _ hmg hgl).mono ?_
    rintro e W11 ⟨rfl, rfl⟩
    go_wp2_with fail
    refine (toTideS_any _ _ _ (HL.out.kept k010) hn).mono ?_
    rintro e W12 ⟨uz, rfl, hoz, k12⟩
    go_wp2_with fail
    refine (raiseTides_any _ _ _ _ (pairs_own hoz)).mono ?_
    rintro e W13 ⟨uh, rfl, hoh, k13⟩
    go_wp2_with fail
    refine (eqTideS_any _ _ _ _ (pairs_own hoh) (pairs_own (own_kept how10 (k12.trans k13)))).mono ?_
    rintro e W14 ⟨rfl, k14⟩
    go_wp2_with fail
    refine (heldTideS_any _ _ _ _ _ (own_kept hmg (k12.trans (k13.trans k14))) hgl).mono ?_
    rintro e W15 ⟨rfl, rfl⟩
    go_wp2_with fail
    go_ret
    exact ⟨rfl, k010.trans (k12.trans (k13.trans k14))⟩
  · obtain ⟨A, c, rfl, hlc, hcm, hA⟩ := hL
    clear hA
    go_enter Try.func4, Try.ntmps4
    go_wp2_with (go_at_call 14; (with_reducible refine (szTideS_no _ _ _ HL.out (by omega)).mono ?_); rintro e w' ⟨rfl, rfl⟩)
    go_ret
    exact ⟨rfl, by (repeat (first | exact Kept.refl _ | assumption | refine Kept.alloc ?_ _ | refine Kept.drew ?_ | refine Kept.drewN ?_ _ | refine Kept.setCell ?_ (by first | (simp; done) | (simp; omega) | omega | exact Kept.size (by (repeat (first | exact Kept.refl _ | assumption | refine Kept.alloc ?_ _ | refine Kept.drew ?_ | refine Kept.drewN ?_ _ | refine Kept.trans ?_ (by assumption))))) _ | refine Kept.trans ?_ (by assumption)))⟩
end Go.Proofs.Ytlkbneklmcefcaa

/-
  Contracts of the functions over words and craft, the program's and the reference's.
  Conditions: none.
-/
import Derived.Test.YtaaloblkilidoaaMem
namespace Go.Proofs.Ytaaloblkilidoaa
open Go.ChangeShapes Go.WideShapes Go.ChangeAt Go.RowKit
set_option linter.unusedVariables false

def byteI (s : ByteArray) (i : Nat) : Int := ((s.data.toList.getD i 0).toNat : Int)
theorem byteI_at {s : ByteArray} {k : Nat} (h : k < s.size) : byteI s k = (s[k].toNat : Int) := by
  have h' : k < s.data.toList.length := by simpa using h
  rw [byteI, List.getD_eq_getElem?_getD, List.getElem?_eq_getElem h']
  rfl
def wordAt (s : ByteArray) (i : Nat) : Bool := inB (byteI s i) 97 122
def wordB (s : ByteArray) : Bool := allB s.size (wordAt s) && inB s.size 1 10
theorem wordB_all {s : ByteArray} (h : ∀ i, i < s.size → wordAt s i = true) : wordB s = inB s.size 1 10 := by simp [wordB, allB_true h]
theorem wordB_no {s : ByteArray} {k : Nat} (hk : k < s.size) (h : wordAt s k = false) : wordB s = false := by simp [wordB, allB_false hk h]
theorem isWord_any (s : ByteArray) (hs : s.size ≤ maxLen) (w : World) : Calls Try.prog 31 #[.string s] w fun e w' => e = .returned (.bool (wordB s)) ∧ w = w' := by
  unfold maxLen at hs
  go_enter Try.func31, Try.ntmps31
  go_wp2
  go_loop [3] (fun i => ∃ k : Nat, k ≤ s.size ∧ i = .int .i64 k ∧ ∀ i, i < k → wordAt s i = true) (fun i => s.size - (intOf i).toNat)
  case atStart => exact ⟨0, Nat.zero_le _, rfl, fun i h => absurd h (by omega)⟩
  case round =>
    obtain ⟨k, hk, rfl, hall⟩ := hrel
    have HA := Lib.hid hall
    clear hall
    by_cases hlt : k < s.size
    · have hb := byteI_at hlt
      have hb0 : (0 : Int) ≤ s[k].toNat := by omega
      by_cases h1 : (s[k].toNat : Int) < 97
      · have HN := Lib.hid (wordB_no hlt (show wordAt s k = false by simp only [wordAt, hb, inB]; simp; omega))
        clear hb
        go_wp2
        go_ret
        exact ⟨ret_bool HN.out.symm, rfl⟩
      · by_cases h2 : (122 : Int) < s[k].toNat
        · have HN := Lib.hid (wordB_no hlt (show wordAt s k = false by simp only [wordAt, hb, inB]; simp; omega))
          clear hb
          go_wp2
          go_ret
          exact ⟨ret_bool HN.out.symm, rfl⟩
        · have HB := Lib.hid (upto_succ (p := fun i => wordAt s i = true) HA.out (show wordAt s k = true by simp only [wordAt, hb, inB]; simp; omega))
          clear hb
          go_wp2
          go_round
          case rel => exact ⟨k + 1, by omega, by go_num, HB.out⟩
          case measure => simp [intOf]; omega
    · have HF := Lib.hid (wordB_all (s := s) (fun i hi => HA.out i (by omega)))
      go_wp2_with (go_at_call 30; (with_reducible refine (inside_any _ _ _ _).mono ?_); rintro e w' ⟨rfl, rfl⟩)
      go_ret
      exact ⟨ret_bool HF.out.symm, rfl⟩
theorem l2Word_any (s : ByteArray) (hs : s.size ≤ maxLen) (w : World) : Calls Try.prog 47 #[.string s] w fun e w' => e = .returned (.bool (wordB s)) ∧ w = w' := by
  unfold maxLen at hs
  go_enter Try.func47, Try.ntmps47
  go_wp2
  go_loop [3] (fun i => ∃ k : Nat, k ≤ s.size ∧ i = .int .i64 k ∧ ∀ i, i < k → wordAt s i = true) (fun i => s.size - (intOf i).toNat)
  case atStart => exact ⟨0, Nat.zero_le _, rfl, fun i h => absurd h (by omega)⟩
  case round =>
    obtain ⟨k, hk, rfl, hall⟩ := hrel
    have HA := Lib.hid hall
    clear hall
    by_cases hlt : k < s.size
    · have hb := byteI_at hlt
      have hb0 : (0 : Int) ≤ s[k].toNat := by omega
      by_cases h1 : (s[k].toNat : Int) < 97
      · have HN := Lib.hid (wordB_no hlt (show wordAt s k = false by simp only [wordAt, hb, inB]; simp; omega))
        clear hb
        go_wp2
        go_ret
        exact ⟨ret_bool HN.out.symm, rfl⟩
      · by_cases h2 : (122 : Int) < s[k].toNat
        · have HN := Lib.hid (wordB_no hlt (show wordAt s k = false by simp only [wordAt, hb, inB]; simp; omega))
          clear hb
          go_wp2
          go_ret
          exact ⟨ret_bool HN.out.symm, rfl⟩
        · have HB := Lib.hid (upto_succ (p := fun i => wordAt s i = true) HA.out (show wordAt s k = true by simp only [wordAt, hb, inB]; simp; omega))
          clear hb
          go_wp2
          go_round
          case rel => exact ⟨k + 1, by omega, by go_num, HB.out⟩
          case measure => simp [intOf]; omega
    · have HF := Lib.hid (wordB_all (s := s) (fun i hi => HA.out i (by omega)))
      go_wp2_with (go_at_call 46; (with_reducible refine (l1In_any _ _ _ _).mono ?_); rintro e w' ⟨rfl, rfl⟩)
      go_ret
      exact ⟨ret_bool HF.out.symm, rfl⟩

def craftB (id : Int) (nm : ByteArray) (dr ah be sp fu : Int) : Bool := inB id 1 99 && wordB nm && inB dr 10 2000 && inB ah (-500) 500 && inB be (-200) 200 && inB sp 1 60 && inB fu 0 10000
theorem isCraft_any (id : Int) (nm : ByteArray) (dr ah be sp fu : Int) (hs : nm.size ≤ maxLen) (w : World) : Calls Try.prog 13 #[.agg #[.int .i64 id, .string nm, .int .i64 dr, .int .i64 ah, .int .i64 be, .int .i64 sp, .int .i64 fu]] w fun e w' => e = .returned (.bool (craftB id nm dr ah be sp fu)) ∧ Kept w w' := by
  go_enter Try.func13, Try.ntmps13
  go_wp2_with (first | (go_at_call 30; (with_reducible refine (inside_any _ _ _ _).mono ?_); rintro e w' ⟨rfl, rfl⟩) | (go_at_call 31; (with_reducible refine (isWord_any _ hs _).mono ?_); rintro e w' ⟨rfl, rfl⟩))
  all_goals go_ret
  all_goals exact ⟨ret_bool (by (first | (simp [craftB, *]; done) | (simp [craftB, *]; omega) | (simp only [Bool.not_eq_true', Bool.not_eq_false'] at *; simp [craftB, *]; done) | (simp only [Bool.not_eq_true', Bool.not_eq_false'] at *; simp [craftB, *]; omega) | (simp only [Bool.not_eq_false'] at *; simp [craftB, *]; done) | (simp only [Bool.not_eq_false'] at *; simp [craftB, *]; omega))), by (repeat (first | exact Kept.refl _ | assumption | refine Kept.alloc ?_ _ | refine Kept.drew ?_ | refine Kept.drewN ?_ _ | refine Kept.setCell ?_ (by first | (simp; done) | (simp; omega) | omega | exact Kept.size (by (repeat (first | exact Kept.refl _ | assumption | refine Kept.alloc ?_ _ | refine Kept.drew ?_ | refine Kept.drewN ?_ _ | refine Kept.trans ?_ (by assumption))))) _ | refine Kept.trans ?_ (by assumption)))⟩
theorem l5One_any (id : Int) (nm : ByteArray) (dr ah be sp fu : Int) (hs : nm.size ≤ maxLen) (w : World) : Calls Try.prog 29 #[.agg #[.int .i64 id, .string nm, .int .i64 dr, .int .i64 ah, .int .i64 be, .int .i64 sp, .int .i64 fu]] w fun e w' => e = .returned (.bool (craftB id nm dr ah be sp fu)) ∧ Kept w w' := by
  go_enter Try.func29, Try.ntmps29
  go_wp2_with (first | (go_at_call 46; (with_reducible refine (l1In_any _ _ _ _).mono ?_); rintro e w' ⟨rfl, rfl⟩) | (go_at_call 47; (with_reducible refine (l2Word_any _ hs _).mono ?_); rintro e w' ⟨rfl, rfl⟩))
  all_goals go_ret
  all_goals exact ⟨ret_bool (by (first | (simp [craftB, *]; done) | (simp [craftB, *]; omega) | (simp only [Bool.not_eq_true', Bool.not_eq_false'] at *; simp [craftB, *]; done) | (simp only [Bool.not_eq_true', Bool.not_eq_false'] at *; simp [craftB, *]; omega) | (simp only [Bool.not_eq_false'] at *; simp [craftB, *]; done) | (simp only [Bool.not_eq_false'] at *; simp [craftB, *]; omega))), by (repeat (first | exact Kept.refl _ | assumption | refine Kept.alloc ?_ _ | refine Kept.drew ?_ | refine Kept.drewN ?_ _ | refine Kept.setCell ?_ (by first | (simp; done) | (simp; omega) | omega | exact Kept.size (by (repeat (first | exact Kept.refl _ | assumption | refine Kept.alloc ?_ _ | refine Kept.drew ?_ | refine Kept.drewN ?_ _ | refine Kept.trans ?_ (by assumption))))) _ | refine Kept.trans ?_ (by assumption)))⟩
theorem sIsCraft_any (id : Int) (nm : ByteArray) (dr ah be sp fu : Int) (hs : nm.size ≤ maxLen) (w : World) : Calls Try.prog 11 #[.agg #[.int .i64 id, .string nm, .int .i64 dr, .int .i64 ah, .int .i64 be, .int .i64 sp, .int .i64 fu]] w fun e w' => e = .returned (.bool (craftB id nm dr ah be sp fu)) ∧ Kept w w' := by
  go_enter Try.func11, Try.ntmps11
  go_wp2_with (go_at_call 29; (with_reducible refine (l5One_any _ _ _ _ _ _ _ hs _).mono ?_); rintro e w' ⟨rfl, hk⟩; (try have hkr := Root.trans (by assumption) hk); (first | (have hkf := From.step (by assumption) hk; obtain ⟨hc, hf⟩ := hkf.cells) | (have hkf := From.start hk; obtain ⟨hc, hf⟩ := hkf.cells)))
  go_ret
  exact ⟨rfl, by (repeat (first | exact Kept.refl _ | assumption | refine Kept.alloc ?_ _ | refine Kept.drew ?_ | refine Kept.drewN ?_ _ | refine Kept.setCell ?_ (by first | (simp; done) | (simp; omega) | omega | exact Kept.size (by (repeat (first | exact Kept.refl _ | assumption | refine Kept.alloc ?_ _ | refine Kept.drew ?_ | refine Kept.drewN ?_ _ | refine Kept.trans ?_ (by assumption))))) _ | refine Kept.trans ?_ (by assumption)))⟩
theorem toCraft_any (id : Int) (nm : ByteArray) (dr ah be sp fu : Int) (w : World) : Calls Try.prog 12 #[.agg #[.int .i64 id, .string nm, .int .i64 dr, .int .i64 ah, .int .i64 be, .int .i64 sp, .int .i64 fu]] w fun e w' => e = .returned (.agg #[.int .i64 id, .string nm, .int .i64 dr, .int .i64 ah, .int .i64 be, .int .i64 sp, .int .i64 fu]) ∧ Kept w w' := by
  go_enter Try.func12, Try.ntmps12
  go_wp2
  exact bodyPost_ret (v := .agg #[.int .i64 id, .string nm, .int .i64 dr, .int .i64 ah, .int .i64 be, .int .i64 sp, .int .i64 fu]) (by simp [results, Try.results12, go_sem]) rfl ⟨rfl, by (repeat (first | exact Kept.refl _ | assumption | refine Kept.alloc ?_ _ | refine Kept.drew ?_ | refine Kept.drewN ?_ _ | refine Kept.setCell ?_ (by first | (simp; done) | (simp; omega) | omega | exact Kept.size (by (repeat (first | exact Kept.refl _ | assumption | refine Kept.alloc ?_ _ | refine Kept.drew ?_ | refine Kept.drewN ?_ _ | refine Kept.trans ?_ (by assumption))))) _ | refine Kept.trans ?_ (by assumption)))⟩
theorem szCraft_ok (id : Int) (nm : ByteArray) (dr ah be sp fu : Int) (hs : nm.size ≤ 1048576) (w : World) : Calls Try.prog 10 #[.agg #[.int .i64 id, .string nm, .int .i64 dr, .int .i64 ah, .int .i64 be, .int .i64 sp, .int .i64 fu], .int .i64 1048576] w fun e w' => e = .returned (.int .i64 (1048576 - nm.size)) ∧ Kept w w' := by
  go_enter Try.func10, Try.ntmps10
  go_wp2
  go_ret
  exact ⟨rfl, by (repeat (first | exact Kept.refl _ | assumption | refine Kept.alloc ?_ _ | refine Kept.drew ?_ | refine Kept.drewN ?_ _ | refine Kept.setCell ?_ (by first | (simp; done) | (simp; omega) | omega | exact Kept.size (by (repeat (first | exact Kept.refl _ | assumption | refine Kept.alloc ?_ _ | refine Kept.drew ?_ | refine Kept.drewN ?_ _ | refine Kept.trans ?_ (by assumption))))) _ | refine Kept.trans ?_ (by assumption)))⟩
theorem szCraft_no (id : Int) (nm : ByteArray) (dr ah be sp fu : Int) (hs : 1048576 < nm.size) (hm : nm.size ≤ maxLen) (w : World) : Calls Try.prog 10 #[.agg #[.int .i64 id, .string nm, .int .i64 dr, .int .i64 ah, .int .i64 be, .int .i64 sp, .int .i64 fu], .int .i64 1048576] w fun e w' => e = .returned (.int .i64 (-1)) ∧ Kept w w' := by
  unfold maxLen at hm
  go_enter Try.func10, Try.ntmps10
  go_wp2
  go_ret
  exact ⟨rfl, by (repeat (first | exact Kept.refl _ | assumption | refine Kept.alloc ?_ _ | refine Kept.drew ?_ | refine Kept.drewN ?_ _ | refine Kept.setCell ?_ (by first | (simp; done) | (simp; omega) | omega | exact Kept.size (by (repeat (first | exact Kept.refl _ | assumption | refine Kept.alloc ?_ _ | refine Kept.drew ?_ | refine Kept.drewN ?_ _ | refine Kept.trans ?_ (by assumption))))) _ | refine Kept.trans ?_ (by assumption)))⟩
theorem lawIsCraft (id : Int) (nm : ByteArray) (dr ah be sp fu : Int) (hs : nm.size ≤ maxLen) (w : World) : Calls Try.prog 3 #[.agg #[.int .i64 id, .string nm, .int .i64 dr, .int .i64 ah, .int .i64 be, .int .i64 sp, .int .i64 fu]] w fun e w' => e = .returned (.bool true) ∧ Kept w w' := by
  have hs' := hs
  unfold maxLen at hs
  by_cases hz : nm.size ≤ 1048576
  · go_enter Try.func3, Try.ntmps3
    go_wp2_with (first | (go_at_call 10; (with_reducible refine (szCraft_ok _ _ _ _ _ _ _ hz _).mono ?_); rintro e w' ⟨rfl, hk⟩; (try have hkr := Root.trans (by assumption) hk); (first | (have hkf := From.step (by assumption) hk; obtain ⟨hc, hf⟩ := hkf.cells) | (have hkf := From.start hk; obtain ⟨hc, hf⟩ := hkf.cells))) | (go_at_call 12; (with_reducible refine (toCraft_any _ _ _ _ _ _ _ _).mono ?_); rintro e w' ⟨rfl, hk⟩; (try have hkr := Root.trans (by assumption) hk); (first | (have hkf := From.step (by assumption) hk; obtain ⟨hc, hf⟩ := hkf.cells) | (have hkf := From.start hk; obtain ⟨hc, hf⟩ := hkf.cells))) | (go_at_call 11; (with_reducible refine (sIsCraft_any _ _ _ _ _ _ _ hs' _).mono ?_); rintro e w' ⟨rfl, hk⟩; (try have hkr := Root.trans (by assumption) hk); (first | (have hkf := From.step (by assumption) hk; obtain ⟨hc, hf⟩ := hkf.cells) | (have hkf := From.start hk; obtain ⟨hc, hf⟩ := hkf.cells))) | (go_at_call 13; (with_reducible refine (isCraft_any _ _ _ _ _ _ _ hs' _).mono ?_); rintro e w' ⟨rfl, hk⟩; (try have hkr := Root.trans (by assumption) hk); (first | (have hkf := From.step (by assumption) hk; obtain ⟨hc, hf⟩ := hkf.cells) | (have hkf := From.start hk; obtain ⟨hc, hf⟩ := hkf.cells))))
    go_ret
    exact ⟨rfl, by (repeat (first | exact Kept.refl _ | assumption | refine Kept.alloc ?_ _ | refine Kept.drew ?_ | refine Kept.drewN ?_ _ | refine Kept.setCell ?_ (by first | (simp; done) | (simp; omega) | omega | exact Kept.size (by (repeat (first | exact Kept.refl _ | assumption | refine Kept.alloc ?_ _ | refine Kept.drew ?_ | refine Kept.drewN ?_ _ | refine Kept.trans ?_ (by assumption))))) _ | refine Kept.trans ?_ (by assumption)))⟩
  · go_enter Try.func3, Try.ntmps3
    go_wp2_with (go_at_call 10; (with_reducible refine (szCraft_no _ _ _ _ _ _ _ (by omega) hs' _).mono ?_); rintro e w' ⟨rfl, hk⟩; (try have hkr := Root.trans (by assumption) hk); (first | (have hkf := From.step (by assumption) hk; obtain ⟨hc, hf⟩ := hkf.cells) | (have hkf := From.start hk; obtain ⟨hc, hf⟩ := hkf.cells)))
    go_ret
    exact ⟨rfl, by (repeat (first | exact Kept.refl _ | assumption | refine Kept.alloc ?_ _ | refine Kept.drew ?_ | refine Kept.drewN ?_ _ | refine Kept.setCell ?_ (by first | (simp; done) | (simp; omega) | omega | exact Kept.size (by (repeat (first | exact Kept.refl _ | assumption | refine Kept.alloc ?_ _ | refine Kept.drew ?_ | refine Kept.drewN ?_ _ | refine Kept.trans ?_ (by assumption))))) _ | refine Kept.trans ?_ (by assumption)))⟩

/-- Where the sounder is from the antenna. -/
def offE (ah be h : Int) : Int := if h = 0 then be else if h = 1 then ah else if h = 2 then -be else -ah
def offN (ah be h : Int) : Int := if h = 0 then ah else if h = 1 then -be else if h = 2 then -ah else be
theorem off_bd {id dr ah be sp fu : Int} {nm : ByteArray} (hv : craftB id nm dr ah be sp fu = true) (h : Int) : -500 ≤ offE ah be h ∧ offE ah be h ≤ 500 ∧ -500 ≤ offN ah be h ∧ offN ah be h ≤ 500 := by
  simp only [craftB, Bool.and_eq_true, inB_true] at hv
  unfold offE offN
  (repeat' split) <;> omega
theorem craft_bd {id dr ah be sp fu : Int} {nm : ByteArray} (hv : craftB id nm dr ah be sp fu = true) : (-500 ≤ ah ∧ ah ≤ 500) ∧ (-200 ≤ be ∧ be ≤ 200) ∧ (1 ≤ sp ∧ sp ≤ 60) ∧ (0 ≤ fu ∧ fu ≤ 10000) ∧ (10 ≤ dr ∧ dr ≤ 2000) ∧ (1 ≤ id ∧ id ≤ 99) := by
  simp only [craftB, Bool.and_eq_true, inB_true] at hv
  omega
theorem ret_ii {a a' c c' : Int} (h : a = a') (h1 : c = c') : Ending.returned (.tuple #[.int .i64 a', .int .i64 c']) = .returned (.tuple #[.int .i64 a, .int .i64 c]) := by rw [h, h1]
theorem offset_any (id : Int) (nm : ByteArray) (dr ah be sp fu h : Int) (hv : craftB id nm dr ah be sp fu = true) (w : World) : Calls Try.prog 39 #[.agg #[.int .i64 id, .string nm, .int .i64 dr, .int .i64 ah, .int .i64 be, .int .i64 sp, .int .i64 fu], .int .i64 h] w fun e w' => e = .returned (.tuple #[.int .i64 (offE ah be h), .int .i64 (offN ah be h)]) ∧ Kept w w' := by
  have hb := craft_bd hv
  obtain ⟨⟨a1, a2⟩, ⟨b1, b2⟩, -⟩ := hb
  clear hv
  have e1 : IntKind.i64.wrap (-be) = -be := IntWalk.i64_in _ (by omega)
  have e2 : IntKind.i64.wrap (-ah) = -ah := IntWalk.i64_in _ (by omega)
  by_cases h0 : h = 0
  · have HE := Lib.hid (show offE ah be h = be ∧ offN ah be h = ah by simp [offE, offN, h0])
    have q0 : (h == 0) = true := beq_iff_eq.2 h0
    clear h0
    go_enter Try.func39, Try.ntmps39
    go_wp2_with fail
    go_quiet (fail)
    go_wp2
    go_ret2
    exact ⟨ret_ii HE.out.1 HE.out.2, by (repeat (first | exact Kept.refl _ | assumption | refine Kept.alloc ?_ _ | refine Kept.drew ?_ | refine Kept.drewN ?_ _ | refine Kept.setCell ?_ (by first | (simp; done) | (simp; omega) | omega | exact Kept.size (by (repeat (first | exact Kept.refl _ | assumption | refine Kept.alloc ?_ _ | refine Kept.drew ?_ | refine Kept.drewN ?_ _ | refine Kept.trans ?_ (by assumption))))) _ | refine Kept.trans ?_ (by assumption)))⟩
  · have q0 : (h == 0) = false := beq_eq_false_iff_ne.2 h0
    by_cases h1 : h = 1
    · have HE := Lib.hid (show offE ah be h = ah ∧ offN ah be h = -be by simp [offE, offN, h1])
      have q1 : (h == 1) = true := beq_iff_eq.2 h1
      clear h0 h1
      go_enter Try.func39, Try.ntmps39
      go_wp2_with fail
      go_quiet (fail)
      go_wp2
      go_ret2
      exact ⟨ret_ii HE.out.1 HE.out.2, by (repeat (first | exact Kept.refl _ | assumption | refine Kept.alloc ?_ _ | refine Kept.drew ?_ | refine Kept.drewN ?_ _ | refine Kept.setCell ?_ (by first | (simp; done) | (simp; omega) | omega | exact Kept.size (by (repeat (first | exact Kept.refl _ | assumption | refine Kept.alloc ?_ _ | refine Kept.drew ?_ | refine Kept.drewN ?_ _ | refine Kept.trans ?_ (by assumption))))) _ | refine Kept.trans ?_ (by assumption)))⟩
    · have q1 : (h == 1) = false := beq_eq_false_iff_ne.2 h1
      by_cases h2 : h = 2
      · have HE := Lib.hid (show offE ah be h = -be ∧ offN ah be h = -ah by simp [offE, offN, h2])
        have q2 : (h == 2) = true := beq_iff_eq.2 h2
        clear h0 h1 h2
        go_enter Try.func39, Try.ntmps39
        go_wp2_with fail
        go_quiet (fail)
        go_wp2
        go_ret2
        exact ⟨ret_ii HE.out.1 HE.out.2, by (repeat (first | exact Kept.refl _ | assumption | refine Kept.alloc ?_ _ | refine Kept.drew ?_ | refine Kept.drewN ?_ _ | refine Kept.setCell ?_ (by first | (simp; done) | (simp; omega) | omega | exact Kept.size (by (repeat (first | exact Kept.refl _ | assumption | refine Kept.alloc ?_ _ | refine Kept.drew ?_ | refine Kept.drewN ?_ _ | refine Kept.trans ?_ (by assumption))))) _ | refine Kept.trans ?_ (by assumption)))⟩
      · have q2 : (h == 2) = false := beq_eq_false_iff_ne.2 h2
        have HE := Lib.hid (show offE ah be h = -ah ∧ offN ah be h = be by simp [offE, offN, h0, h1, h2])
        clear h0 h1 h2
        go_enter Try.func39, Try.ntmps39
        go_wp2_with fail
        go_quiet (fail)
        go_wp2
        go_ret2
        exact ⟨ret_ii HE.out.1 HE.out.2, by (repeat (first | exact Kept.refl _ | assumption | refine Kept.alloc ?_ _ | refine Kept.drew ?_ | refine Kept.drewN ?_ _ | refine Kept.setCell ?_ (by first | (simp; done) | (simp; omega) | omega | exact Kept.size (by (repeat (first | exact Kept.refl _ | assumption | refine Kept.alloc ?_ _ | refine Kept.drew ?_ | refine Kept.drewN ?_ _ | refine Kept.trans ?_ (by assumption))))) _ | refine Kept.trans ?_ (by assumption)))⟩
theorem l5Turned_any (id : Int) (nm : ByteArray) (dr ah be sp fu h : Int) (hv : craftB id nm dr ah be sp fu = true) (w : World) : Calls Try.prog 37 #[.agg #[.int .i64 id, .string nm, .int .i64 dr, .int .i64 ah, .int .i64 be, .int .i64 sp, .int .i64 fu], .int .i64 h] w fun e w' => e = .returned (.tuple #[.int .i64 (offE ah be h), .int .i64 (offN ah be h)]) ∧ Kept w w' := by
  have hb := craft_bd hv
  obtain ⟨⟨a1, a2⟩, ⟨b1, b2⟩, -⟩ := hb
  clear hv
  have e1 : IntKind.i64.wrap (-be) = -be := IntWalk.i64_in _ (by omega)
  have e2 : IntKind.i64.wrap (-ah) = -ah := IntWalk.i64_in _ (by omega)
  by_cases h0 : h = 0
  · have HE := Lib.hid (show offE ah be h = be ∧ offN ah be h = ah by simp [offE, offN, h0])
    have q0 : (h == 0) = true := beq_iff_eq.2 h0
    clear h0
    go_enter Try.func37, Try.ntmps37
    go_wp2_with fail
    go_quiet (fail)
    go_wp2
    go_ret2
    exact ⟨ret_ii HE.out.1 HE.out.2, by (repeat (first | exact Kept.refl _ | assumption | refine Kept.alloc ?_ _ | refine Kept.drew ?_ | refine Kept.drewN ?_ _ | refine Kept.setCell ?_ (by first | (simp; done) | (simp; omega) | omega | exact Kept.size (by (repeat (first | exact Kept.refl _ | assumption | refine Kept.alloc ?_ _ | refine Kept.drew ?_ | refine Kept.drewN ?_ _ | refine Kept.trans ?_ (by assumption))))) _ | refine Kept.trans ?_ (by assumption)))⟩
  · have q0 : (h == 0) = false := beq_eq_false_iff_ne.2 h0
    by_cases h1 : h = 1
    · have HE := Lib.hid (show offE ah be h = ah ∧ offN ah be h = -be by simp [offE, offN, h1])
      have q1 : (h == 1) = true := beq_iff_eq.2 h1
      clear h0 h1
      go_enter Try.func37, Try.ntmps37
      go_wp2_with fail
      go_quiet (fail)
      go_wp2
      go_ret2
      exact ⟨ret_ii HE.out.1 HE.out.2, by (repeat (first | exact Kept.refl _ | assumption | refine Kept.alloc ?_ _ | refine Kept.drew ?_ | refine Kept.drewN ?_ _ | refine Kept.setCell ?_ (by first | (simp; done) | (simp; omega) | omega | exact Kept.size (by (repeat (first | exact Kept.refl _ | assumption | refine Kept.alloc ?_ _ | refine Kept.drew ?_ | refine Kept.drewN ?_ _ | refine Kept.trans ?_ (by assumption))))) _ | refine Kept.trans ?_ (by assumption)))⟩
    · have q1 : (h == 1) = false := beq_eq_false_iff_ne.2 h1
      by_cases h2 : h = 2
      · have HE := Lib.hid (show offE ah be h = -be ∧ offN ah be h = -ah by simp [offE, offN, h2])
        have q2 : (h == 2) = true := beq_iff_eq.2 h2
        clear h0 h1 h2
        go_enter Try.func37, Try.ntmps37
        go_wp2_with fail
        go_quiet (fail)
        go_wp2
        go_ret2
        exact ⟨ret_ii HE.out.1 HE.out.2, by (repeat (first | exact Kept.refl _ | assumption | refine Kept.alloc ?_ _ | refine Kept.drew ?_ | refine Kept.drewN ?_ _ | refine Kept.setCell ?_ (by first | (simp; done) | (simp; omega) | omega | exact Kept.size (by (repeat (first | exact Kept.refl _ | assumption | refine Kept.alloc ?_ _ | refine Kept.drew ?_ | refine Kept.drewN ?_ _ | refine Kept.trans ?_ (by assumption))))) _ | refine Kept.trans ?_ (by assumption)))⟩
      · have q2 : (h == 2) = false := beq_eq_false_iff_ne.2 h2
        have HE := Lib.hid (show offE ah be h = -ah ∧ offN ah be h = be by simp [offE, offN, h0, h1, h2])
        clear h0 h1 h2
        go_enter Try.func37, Try.ntmps37
        go_wp2_with fail
        go_quiet (fail)
        go_wp2
        go_ret2
        exact ⟨ret_ii HE.out.1 HE.out.2, by (repeat (first | exact Kept.refl _ | assumption | refine Kept.alloc ?_ _ | refine Kept.drew ?_ | refine Kept.drewN ?_ _ | refine Kept.setCell ?_ (by first | (simp; done) | (simp; omega) | omega | exact Kept.size (by (repeat (first | exact Kept.refl _ | assumption | refine Kept.alloc ?_ _ | refine Kept.drew ?_ | refine Kept.drewN ?_ _ | refine Kept.trans ?_ (by assumption))))) _ | refine Kept.trans ?_ (by assumption)))⟩
def placeB (id : Int) (nm : ByteArray) (dr ah be sp fu x y h : Int) : Bool := craftB id nm dr ah be sp fu && inB x 0 10000 && inB y 0 10000 && inB h 0 3
theorem placeB_1 {id dr ah be sp fu x y h : Int} {nm : ByteArray} (hp : placeB id nm dr ah be sp fu x y h = true) : craftB id nm dr ah be sp fu = true := by
  simp only [placeB, Bool.and_eq_true] at hp
  exact hp.1.1.1
theorem placeB_2 {id dr ah be sp fu x y h : Int} {nm : ByteArray} (hp : placeB id nm dr ah be sp fu x y h = true) : (0 ≤ x ∧ x ≤ 10000) ∧ (0 ≤ y ∧ y ≤ 10000) := by
  simp only [placeB, Bool.and_eq_true, inB_true] at hp
  omega
theorem canPlace_any (id : Int) (nm : ByteArray) (dr ah be sp fu x y h : Int) (hs : nm.size ≤ maxLen) (w : World) : Calls Try.prog 38 #[.agg #[.int .i64 id, .string nm, .int .i64 dr, .int .i64 ah, .int .i64 be, .int .i64 sp, .int .i64 fu], .int .i64 x, .int .i64 y, .int .i64 h] w fun e w' => e = .returned (.bool (placeB id nm dr ah be sp fu x y h)) ∧ Kept w w' := by
  go_enter Try.func38, Try.ntmps38
  go_wp2_with (first | (go_at_call 13; (with_reducible refine (isCraft_any _ _ _ _ _ _ _ hs _).mono ?_); rintro e w' ⟨rfl, hk⟩; (try have hkr := Root.trans (by assumption) hk); (first | (have hkf := From.step (by assumption) hk; obtain ⟨hc, hf⟩ := hkf.cells) | (have hkf := From.start hk; obtain ⟨hc, hf⟩ := hkf.cells))) | (go_at_call 30; (with_reducible refine (inside_any _ _ _ _).mono ?_); rintro e w' ⟨rfl, rfl⟩))
  all_goals go_ret
  all_goals exact ⟨ret_bool (by (first | (simp [placeB, *]; done) | (simp [placeB, *]; omega) | (simp only [Bool.not_eq_true', Bool.not_eq_false'] at *; simp [placeB, *]; done) | (simp only [Bool.not_eq_true', Bool.not_eq_false'] at *; simp [placeB, *]; omega) | (simp only [Bool.not_eq_false'] at *; simp [placeB, *]; done) | (simp only [Bool.not_eq_false'] at *; simp [placeB, *]; omega))), by (repeat (first | exact Kept.refl _ | assumption | refine Kept.alloc ?_ _ | refine Kept.drew ?_ | refine Kept.drewN ?_ _ | refine Kept.setCell ?_ (by first | (simp; done) | (simp; omega) | omega | exact Kept.size (by (repeat (first | exact Kept.refl _ | assumption | refine Kept.alloc ?_ _ | refine Kept.drew ?_ | refine Kept.drewN ?_ _ | refine Kept.trans ?_ (by assumption))))) _ | refine Kept.trans ?_ (by assumption)))⟩
theorem l5Place_any (id : Int) (nm : ByteArray) (dr ah be sp fu x y h : Int) (hs : nm.size ≤ maxLen) (w : World) : Calls Try.prog 36 #[.agg #[.int .i64 id, .string nm, .int .i64 dr, .int .i64 ah, .int .i64 be, .int .i64 sp, .int .i64 fu], .int .i64 x, .int .i64 y, .int .i64 h] w fun e w' => e = .returned (.bool (placeB id nm dr ah be sp fu x y h)) ∧ Kept w w' := by
  go_enter Try.func36, Try.ntmps36
  go_wp2_with (first | (go_at_call 29; (with_reducible refine (l5One_any _ _ _ _ _ _ _ hs _).mono ?_); rintro e w' ⟨rfl, hk⟩; (try have hkr := Root.trans (by assumption) hk); (first | (have hkf := From.step (by assumption) hk; obtain ⟨hc, hf⟩ := hkf.cells) | (have hkf := From.start hk; obtain ⟨hc, hf⟩ := hkf.cells))) | (go_at_call 46; (with_reducible refine (l1In_any _ _ _ _).mono ?_); rintro e w' ⟨rfl, rfl⟩))
  all_goals go_ret
  all_goals exact ⟨ret_bool (by (first | (simp [placeB, *]; done) | (simp [placeB, *]; omega) | (simp only [Bool.not_eq_true', Bool.not_eq_false'] at *; simp [placeB, *]; done) | (simp only [Bool.not_eq_true', Bool.not_eq_false'] at *; simp [placeB, *]; omega) | (simp only [Bool.not_eq_false'] at *; simp [placeB, *]; done) | (simp only [Bool.not_eq_false'] at *; simp [placeB, *]; omega))), by (repeat (first | exact Kept.refl _ | assumption | refine Kept.alloc ?_ _ | refine Kept.drew ?_ | refine Kept.drewN ?_ _ | refine Kept.setCell ?_ (by first | (simp; done) | (simp; omega) | omega | exact Kept.size (by (repeat (first | exact Kept.refl _ | assumption | refine Kept.alloc ?_ _ | refine Kept.drew ?_ | refine Kept.drewN ?_ _ | refine Kept.trans ?_ (by assumption))))) _ | refine Kept.trans ?_ (by assumption)))⟩
def sndE (p : Bool) (x ah be h : Int) : Int := if p = true then x + offE ah be h else 0
def sndN (p : Bool) (y ah be h : Int) : Int := if p = true then y + offN ah be h else 0
def antE (p : Bool) (x ah be h : Int) : Int := if p = true then x - offE ah be h else 0
def antN (p : Bool) (y ah be h : Int) : Int := if p = true then y - offN ah be h else 0
theorem sounderAt_any (id : Int) (nm : ByteArray) (dr ah be sp fu x y h : Int) (hs : nm.size ≤ maxLen) (w : World) : Calls Try.prog 19 #[.agg #[.int .i64 id, .string nm, .int .i64 dr, .int .i64 ah, .int .i64 be, .int .i64 sp, .int .i64 fu], .int .i64 x, .int .i64 y, .int .i64 h] w fun e w' => e = .returned (.tuple #[.int .i64 (sndE (placeB id nm dr ah be sp fu x y h) x ah be h), .int .i64 (sndN (placeB id nm dr ah be sp fu x y h) y ah be h), .bool (placeB id nm dr ah be sp fu x y h)]) ∧ Kept w w' := by
  cases hp : placeB id nm dr ah be sp fu x y h
  · go_enter Try.func19, Try.ntmps19
    go_wp2_with (go_at_call 38; (with_reducible refine (canPlace_any _ _ _ _ _ _ _ _ _ _ hs _).mono ?_); rintro e w' ⟨rfl, hk⟩; (try have hkr := Root.trans (by assumption) hk); (first | (have hkf := From.step (by assumption) hk; obtain ⟨hc, hf⟩ := hkf.cells) | (have hkf := From.start hk; obtain ⟨hc, hf⟩ := hkf.cells)))
    go_ret3
    exact ⟨ret_iib rfl rfl rfl, by (repeat (first | exact Kept.refl _ | assumption | refine Kept.alloc ?_ _ | refine Kept.drew ?_ | refine Kept.drewN ?_ _ | refine Kept.setCell ?_ (by first | (simp; done) | (simp; omega) | omega | exact Kept.size (by (repeat (first | exact Kept.refl _ | assumption | refine Kept.alloc ?_ _ | refine Kept.drew ?_ | refine Kept.drewN ?_ _ | refine Kept.trans ?_ (by assumption))))) _ | refine Kept.trans ?_ (by assumption)))⟩
  · have HV := Lib.hid (placeB_1 hp)
    have h1 := placeB_2 hp
    have h2 := off_bd HV.out h
    obtain ⟨⟨x1, x2⟩, y1, y2⟩ := h1
    obtain ⟨e1, e2, e3, e4⟩ := h2
    go_enter Try.func19, Try.ntmps19
    go_wp2_with (first | (go_at_call 38; (with_reducible refine (canPlace_any _ _ _ _ _ _ _ _ _ _ hs _).mono ?_); rintro e w' ⟨rfl, hk⟩; (try have hkr := Root.trans (by assumption) hk); (first | (have hkf := From.step (by assumption) hk; obtain ⟨hc, hf⟩ := hkf.cells) | (have hkf := From.start hk; obtain ⟨hc, hf⟩ := hkf.cells))) | (go_at_call 39; (with_reducible refine (offset_any _ _ _ _ _ _ _ _ HV.out _).mono ?_); rintro e w' ⟨rfl, hk⟩; (try have hkr := Root.trans (by assumption) hk); (first | (have hkf := From.step (by assumption) hk; obtain ⟨hc, hf⟩ := hkf.cells) | (have hkf := From.start hk; obtain ⟨hc, hf⟩ := hkf.cells))))
    go_ret3
    exact ⟨ret_iib rfl rfl rfl, by (repeat (first | exact Kept.refl _ | assumption | refine Kept.alloc ?_ _ | refine Kept.drew ?_ | refine Kept.drewN ?_ _ | refine Kept.setCell ?_ (by first | (simp; done) | (simp; omega) | omega | exact Kept.size (by (repeat (first | exact Kept.refl _ | assumption | refine Kept.alloc ?_ _ | refine Kept.drew ?_ | refine Kept.drewN ?_ _ | refine Kept.trans ?_ (by assumption))))) _ | refine Kept.trans ?_ (by assumption)))⟩
theorem sSounderAt_any (id : Int) (nm : ByteArray) (dr ah be sp fu x y h : Int) (hs : nm.size ≤ maxLen) (w : World) : Calls Try.prog 18 #[.agg #[.int .i64 id, .string nm, .int .i64 dr, .int .i64 ah, .int .i64 be, .int .i64 sp, .int .i64 fu], .int .i64 x, .int .i64 y, .int .i64 h] w fun e w' => e = .returned (.tuple #[.int .i64 (sndE (placeB id nm dr ah be sp fu x y h) x ah be h), .int .i64 (sndN (placeB id nm dr ah be sp fu x y h) y ah be h), .bool (placeB id nm dr ah be sp fu x y h)]) ∧ Kept w w' := by
  cases hp : placeB id nm dr ah be sp fu x y h
  · go_enter Try.func18, Try.ntmps18
    go_wp2_with (go_at_call 36; (with_reducible refine (l5Place_any _ _ _ _ _ _ _ _ _ _ hs _).mono ?_); rintro e w' ⟨rfl, hk⟩; (try have hkr := Root.trans (by assumption) hk); (first | (have hkf := From.step (by assumption) hk; obtain ⟨hc, hf⟩ := hkf.cells) | (have hkf := From.start hk; obtain ⟨hc, hf⟩ := hkf.cells)))
    go_ret3
    exact ⟨ret_iib rfl rfl rfl, by (repeat (first | exact Kept.refl _ | assumption | refine Kept.alloc ?_ _ | refine Kept.drew ?_ | refine Kept.drewN ?_ _ | refine Kept.setCell ?_ (by first | (simp; done) | (simp; omega) | omega | exact Kept.size (by (repeat (first | exact Kept.refl _ | assumption | refine Kept.alloc ?_ _ | refine Kept.drew ?_ | refine Kept.drewN ?_ _ | refine Kept.trans ?_ (by assumption))))) _ | refine Kept.trans ?_ (by assumption)))⟩
  · have HV := Lib.hid (placeB_1 hp)
    have h1 := placeB_2 hp
    have h2 := off_bd HV.out h
    obtain ⟨⟨x1, x2⟩, y1, y2⟩ := h1
    obtain ⟨e1, e2, e3, e4⟩ := h2
    go_enter Try.func18, Try.ntmps18
    go_wp2_with (first | (go_at_call 36; (with_reducible refine (l5Place_any _ _ _ _ _ _ _ _ _ _ hs _).mono ?_); rintro e w' ⟨rfl, hk⟩; (try have hkr := Root.trans (by assumption) hk); (first | (have hkf := From.step (by assumption) hk; obtain ⟨hc, hf⟩ := hkf.cells) | (have hkf := From.start hk; obtain ⟨hc, hf⟩ := hkf.cells))) | (go_at_call 37; (with_reducible refine (l5Turned_any _ _ _ _ _ _ _ _ HV.out _).mono ?_); rintro e w' ⟨rfl, hk⟩; (try have hkr := Root.trans (by assumption) hk); (first | (have hkf := From.step (by assumption) hk; obtain ⟨hc, hf⟩ := hkf.cells) | (have hkf := From.start hk; obtain ⟨hc, hf⟩ := hkf.cells))))
    go_ret3
    exact ⟨ret_iib rfl rfl rfl, by (repeat (first | exact Kept.refl _ | assumption | refine Kept.alloc ?_ _ | refine Kept.drew ?_ | refine Kept.drewN ?_ _ | refine Kept.setCell ?_ (by first | (simp; done) | (simp; omega) | omega | exact Kept.size (by (repeat (first | exact Kept.refl _ | assumption | refine Kept.alloc ?_ _ | refine Kept.drew ?_ | refine Kept.drewN ?_ _ | refine Kept.trans ?_ (by assumption))))) _ | refine Kept.trans ?_ (by assumption)))⟩
theorem antennaFor_any (id : Int) (nm : ByteArray) (dr ah be sp fu x y h : Int) (hs : nm.size ≤ maxLen) (w : World) : Calls Try.prog 17 #[.agg #[.int .i64 id, .string nm, .int .i64 dr, .int .i64 ah, .int .i64 be, .int .i64 sp, .int .i64 fu], .int .i64 x, .int .i64 y, .int .i64 h] w fun e w' => e = .returned (.tuple #[.int .i64 (antE (placeB id nm dr ah be sp fu x y h) x ah be h), .int .i64 (antN (placeB id nm dr ah be sp fu x y h) y ah be h), .bool (placeB id nm dr ah be sp fu x y h)]) ∧ Kept w w' := by
  cases hp : placeB id nm dr ah be sp fu x y h
  · go_enter Try.func17, Try.ntmps17
    go_wp2_with (go_at_call 38; (with_reducible refine (canPlace_any _ _ _ _ _ _ _ _ _ _ hs _).mono ?_); rintro e w' ⟨rfl, hk⟩; (try have hkr := Root.trans (by assumption) hk); (first | (have hkf := From.step (by assumption) hk; obtain ⟨hc, hf⟩ := hkf.cells) | (have hkf := From.start hk; obtain ⟨hc, hf⟩ := hkf.cells)))
    go_ret3
    exact ⟨ret_iib rfl rfl rfl, by (repeat (first | exact Kept.refl _ | assumption | refine Kept.alloc ?_ _ | refine Kept.drew ?_ | refine Kept.drewN ?_ _ | refine Kept.setCell ?_ (by first | (simp; done) | (simp; omega) | omega | exact Kept.size (by (repeat (first | exact Kept.refl _ | assumption | refine Kept.alloc ?_ _ | refine Kept.drew ?_ | refine Kept.drewN ?_ _ | refine Kept.trans ?_ (by assumption))))) _ | refine Kept.trans ?_ (by assumption)))⟩
  · have HV := Lib.hid (placeB_1 hp)
    have h1 := placeB_2 hp
    have h2 := off_bd HV.out h
    obtain ⟨⟨x1, x2⟩, y1, y2⟩ := h1
    obtain ⟨e1, e2, e3, e4⟩ := h2
    go_enter Try.func17, Try.ntmps17
    go_wp2_with (first | (go_at_call 38; (with_reducible refine (canPlace_any _ _ _ _ _ _ _ _ _ _ hs _).mono ?_); rintro e w' ⟨rfl, hk⟩; (try have hkr := Root.trans (by assumption) hk); (first | (have hkf := From.step (by assumption) hk; obtain ⟨hc, hf⟩ := hkf.cells) | (have hkf := From.start hk; obtain ⟨hc, hf⟩ := hkf.cells))) | (go_at_call 39; (with_reducible refine (offset_any _ _ _ _ _ _ _ _ HV.out _).mono ?_); rintro e w' ⟨rfl, hk⟩; (try have hkr := Root.trans (by assumption) hk); (first | (have hkf := From.step (by assumption) hk; obtain ⟨hc, hf⟩ := hkf.cells) | (have hkf := From.start hk; obtain ⟨hc, hf⟩ := hkf.cells))))
    go_ret3
    exact ⟨ret_iib rfl rfl rfl, by (repeat (first | exact Kept.refl _ | assumption | refine Kept.alloc ?_ _ | refine Kept.drew ?_ | refine Kept.drewN ?_ _ | refine Kept.setCell ?_ (by first | (simp; done) | (simp; omega) | omega | exact Kept.size (by (repeat (first | exact Kept.refl _ | assumption | refine Kept.alloc ?_ _ | refine Kept.drew ?_ | refine Kept.drewN ?_ _ | refine Kept.trans ?_ (by assumption))))) _ | refine Kept.trans ?_ (by assumption)))⟩
theorem sAntennaFor_any (id : Int) (nm : ByteArray) (dr ah be sp fu x y h : Int) (hs : nm.size ≤ maxLen) (w : World) : Calls Try.prog 16 #[.agg #[.int .i64 id, .string nm, .int .i64 dr, .int .i64 ah, .int .i64 be, .int .i64 sp, .int .i64 fu], .int .i64 x, .int .i64 y, .int .i64 h] w fun e w' => e = .returned (.tuple #[.int .i64 (antE (placeB id nm dr ah be sp fu x y h) x ah be h), .int .i64 (antN (placeB id nm dr ah be sp fu x y h) y ah be h), .bool (placeB id nm dr ah be sp fu x y h)]) ∧ Kept w w' := by
  cases hp : placeB id nm dr ah be sp fu x y h
  · go_enter Try.func16, Try.ntmps16
    go_wp2_with (go_at_call 36; (with_reducible refine (l5Place_any _ _ _ _ _ _ _ _ _ _ hs _).mono ?_); rintro e w' ⟨rfl, hk⟩; (try have hkr := Root.trans (by assumption) hk); (first | (have hkf := From.step (by assumption) hk; obtain ⟨hc, hf⟩ := hkf.cells) | (have hkf := From.start hk; obtain ⟨hc, hf⟩ := hkf.cells)))
    go_ret3
    exact ⟨ret_iib rfl rfl rfl, by (repeat (first | exact Kept.refl _ | assumption | refine Kept.alloc ?_ _ | refine Kept.drew ?_ | refine Kept.drewN ?_ _ | refine Kept.setCell ?_ (by first | (simp; done) | (simp; omega) | omega | exact Kept.size (by (repeat (first | exact Kept.refl _ | assumption | refine Kept.alloc ?_ _ | refine Kept.drew ?_ | refine Kept.drewN ?_ _ | refine Kept.trans ?_ (by assumption))))) _ | refine Kept.trans ?_ (by assumption)))⟩
  · have HV := Lib.hid (placeB_1 hp)
    have h1 := placeB_2 hp
    have h2 := off_bd HV.out h
    obtain ⟨⟨x1, x2⟩, y1, y2⟩ := h1
    obtain ⟨e1, e2, e3, e4⟩ := h2
    go_enter Try.func16, Try.ntmps16
    go_wp2_with (first | (go_at_call 36; (with_reducible refine (l5Place_any _ _ _ _ _ _ _ _ _ _ hs _).mono ?_); rintro e w' ⟨rfl, hk⟩; (try have hkr := Root.trans (by assumption) hk); (first | (have hkf := From.step (by assumption) hk; obtain ⟨hc, hf⟩ := hkf.cells) | (have hkf := From.start hk; obtain ⟨hc, hf⟩ := hkf.cells))) | (go_at_call 37; (with_reducible refine (l5Turned_any _ _ _ _ _ _ _ _ HV.out _).mono ?_); rintro e w' ⟨rfl, hk⟩; (try have hkr := Root.trans (by assumption) hk); (first | (have hkf := From.step (by assumption) hk; obtain ⟨hc, hf⟩ := hkf.cells) | (have hkf := From.start hk; obtain ⟨hc, hf⟩ := hkf.cells))))
    go_ret3
    exact ⟨ret_iib rfl rfl rfl, by (repeat (first | exact Kept.refl _ | assumption | refine Kept.alloc ?_ _ | refine Kept.drew ?_ | refine Kept.drewN ?_ _ | refine Kept.setCell ?_ (by first | (simp; done) | (simp; omega) | omega | exact Kept.size (by (repeat (first | exact Kept.refl _ | assumption | refine Kept.alloc ?_ _ | refine Kept.drew ?_ | refine Kept.drewN ?_ _ | refine Kept.trans ?_ (by assumption))))) _ | refine Kept.trans ?_ (by assumption)))⟩
theorem lawSounderAt (id : Int) (nm : ByteArray) (dr ah be sp fu : Int) (hs : nm.size ≤ maxLen) (x y h : Int) (w : World) : Calls Try.prog 6 #[.agg #[.int .i64 id, .string nm, .int .i64 dr, .int .i64 ah, .int .i64 be, .int .i64 sp, .int .i64 fu], .int .i64 x, .int .i64 y, .int .i64 h] w fun e w' => e = .returned (.bool true) ∧ Kept w w' := by
  have hs' := hs
  unfold maxLen at hs
  by_cases hz : nm.size ≤ 1048576
  · go_enter Try.func6, Try.ntmps6
    go_wp2_with (first | (go_at_call 10; (with_reducible refine (szCraft_ok _ _ _ _ _ _ _ hz _).mono ?_); rintro e w' ⟨rfl, hk⟩; (try have hkr := Root.trans (by assumption) hk); (first | (have hkf := From.step (by assumption) hk; obtain ⟨hc, hf⟩ := hkf.cells) | (have hkf := From.start hk; obtain ⟨hc, hf⟩ := hkf.cells))) | (go_at_call 12; (with_reducible refine (toCraft_any _ _ _ _ _ _ _ _).mono ?_); rintro e w' ⟨rfl, hk⟩; (try have hkr := Root.trans (by assumption) hk); (first | (have hkf := From.step (by assumption) hk; obtain ⟨hc, hf⟩ := hkf.cells) | (have hkf := From.start hk; obtain ⟨hc, hf⟩ := hkf.cells))) | (go_at_call 18; (with_reducible refine (sSounderAt_any _ _ _ _ _ _ _ _ _ _ hs' _).mono ?_); rintro e w' ⟨rfl, hk⟩; (try have hkr := Root.trans (by assumption) hk); (first | (have hkf := From.step (by assumption) hk; obtain ⟨hc, hf⟩ := hkf.cells) | (have hkf := From.start hk; obtain ⟨hc, hf⟩ := hkf.cells))) | (go_at_call 19; (with_reducible refine (sounderAt_any _ _ _ _ _ _ _ _ _ _ hs' _).mono ?_); rintro e w' ⟨rfl, hk⟩; (try have hkr := Root.trans (by assumption) hk); (first | (have hkf := From.step (by assumption) hk; obtain ⟨hc, hf⟩ := hkf.cells) | (have hkf := From.start hk; obtain ⟨hc, hf⟩ := hkf.cells))))
    go_ret
    exact ⟨rfl, by (repeat (first | exact Kept.refl _ | assumption | refine Kept.alloc ?_ _ | refine Kept.drew ?_ | refine Kept.drewN ?_ _ | refine Kept.setCell ?_ (by first | (simp; done) | (simp; omega) | omega | exact Kept.size (by (repeat (first | exact Kept.refl _ | assumption | refine Kept.alloc ?_ _ | refine Kept.drew ?_ | refine Kept.drewN ?_ _ | refine Kept.trans ?_ (by assumption))))) _ | refine Kept.trans ?_ (by assumption)))⟩
  · go_enter Try.func6, Try.ntmps6
    go_wp2_with (go_at_call 10; (with_reducible refine (szCraft_no _ _ _ _ _ _ _ (by omega) hs' _).mono ?_); rintro e w' ⟨rfl, hk⟩; (try have hkr := Root.trans (by assumption) hk); (first | (have hkf := From.step (by assumption) hk; obtain ⟨hc, hf⟩ := hkf.cells) | (have hkf := From.start hk; obtain ⟨hc, hf⟩ := hkf.cells)))
    go_ret
    exact ⟨rfl, by (repeat (first | exact Kept.refl _ | assumption | refine Kept.alloc ?_ _ | refine Kept.drew ?_ | refine Kept.drewN ?_ _ | refine Kept.setCell ?_ (by first | (simp; done) | (simp; omega) | omega | exact Kept.size (by (repeat (first | exact Kept.refl _ | assumption | refine Kept.alloc ?_ _ | refine Kept.drew ?_ | refine Kept.drewN ?_ _ | refine Kept.trans ?_ (by assumption))))) _ | refine Kept.trans ?_ (by assumption)))⟩
theorem lawAntennaFor (id : Int) (nm : ByteArray) (dr ah be sp fu : Int) (hs : nm.size ≤ maxLen) (x y h : Int) (w : World) : Calls Try.prog 5 #[.agg #[.int .i64 id, .string nm, .int .i64 dr, .int .i64 ah, .int .i64 be, .int .i64 sp, .int .i64 fu], .int .i64 x, .int .i64 y, .int .i64 h] w fun e w' => e = .returned (.bool true) ∧ Kept w w' := by
  have hs' := hs
  unfold maxLen at hs
  by_cases hz : nm.size ≤ 1048576
  · go_enter Try.func5, Try.ntmps5
    go_wp2_with (first | (go_at_call 10; (with_reducible refine (szCraft_ok _ _ _ _ _ _ _ hz _).mono ?_); rintro e w' ⟨rfl, hk⟩; (try have hkr := Root.trans (by assumption) hk); (first | (have hkf := From.step (by assumption) hk; obtain ⟨hc, hf⟩ := hkf.cells) | (have hkf := From.start hk; obtain ⟨hc, hf⟩ := hkf.cells))) | (go_at_call 12; (with_reducible refine (toCraft_any _ _ _ _ _ _ _ _).mono ?_); rintro e w' ⟨rfl, hk⟩; (try have hkr := Root.trans (by assumption) hk); (first | (have hkf := From.step (by assumption) hk; obtain ⟨hc, hf⟩ := hkf.cells) | (have hkf := From.start hk; obtain ⟨hc, hf⟩ := hkf.cells))) | (go_at_call 16; (with_reducible refine (sAntennaFor_any _ _ _ _ _ _ _ _ _ _ hs' _).mono ?_); rintro e w' ⟨rfl, hk⟩; (try have hkr := Root.trans (by assumption) hk); (first | (have hkf := From.step (by assumption) hk; obtain ⟨hc, hf⟩ := hkf.cells) | (have hkf := From.start hk; obtain ⟨hc, hf⟩ := hkf.cells))) | (go_at_call 17; (with_reducible refine (antennaFor_any _ _ _ _ _ _ _ _ _ _ hs' _).mono ?_); rintro e w' ⟨rfl, hk⟩; (try have hkr := Root.trans (by assumption) hk); (first | (have hkf := From.step (by assumption) hk; obtain ⟨hc, hf⟩ := hkf.cells) | (have hkf := From.start hk; obtain ⟨hc, hf⟩ := hkf.cells))))
    go_ret
    exact ⟨rfl, by (repeat (first | exact Kept.refl _ | assumption | refine Kept.alloc ?_ _ | refine Kept.drew ?_ | refine Kept.drewN ?_ _ | refine Kept.setCell ?_ (by first | (simp; done) | (simp; omega) | omega | exact Kept.size (by (repeat (first | exact Kept.refl _ | assumption | refine Kept.alloc ?_ _ | refine Kept.drew ?_ | refine Kept.drewN ?_ _ | refine Kept.trans ?_ (by assumption))))) _ | refine Kept.trans ?_ (by assumption)))⟩
  · go_enter Try.func5, Try.ntmps5
    go_wp2_with (go_at_call 10; (with_reducible refine (szCraft_no _ _ _ _ _ _ _ (by omega) hs' _).mono ?_); rintro e w' ⟨rfl, hk⟩; (try have hkr := Root.trans (by assumption) hk); (first | (have hkf := From.step (by assumption) hk; obtain ⟨hc, hf⟩ := hkf.cells) | (have hkf := From.start hk; obtain ⟨hc, hf⟩ := hkf.cells)))
    go_ret
    exact ⟨rfl, by (repeat (first | exact Kept.refl _ | assumption | refine Kept.alloc ?_ _ | refine Kept.drew ?_ | refine Kept.drewN ?_ _ | refine Kept.setCell ?_ (by first | (simp; done) | (simp; omega) | omega | exact Kept.size (by (repeat (first | exact Kept.refl _ | assumption | refine Kept.alloc ?_ _ | refine Kept.drew ?_ | refine Kept.drewN ?_ _ | refine Kept.trans ?_ (by assumption))))) _ | refine Kept.trans ?_ (by assumption)))⟩
def wayB (m : Int) : Bool := inB m 0 100000
def secI (sp m : Int) : Int := (10 * m + sp - 1) / sp
theorem isWay_any (m : Int) (w : World) : Calls Try.prog 34 #[.int .i64 m] w fun e w' => e = .returned (.bool (wayB m)) ∧ w = w' := by
  go_enter Try.func34, Try.ntmps34
  go_wp2_with (go_at_call 30; (with_reducible refine (inside_any _ _ _ _).mono ?_); rintro e w' ⟨rfl, rfl⟩)
  go_ret
  exact ⟨rfl, rfl⟩
theorem l5Meters_any (m : Int) (w : World) : Calls Try.prog 32 #[.int .i64 m] w fun e w' => e = .returned (.bool (wayB m)) ∧ w = w' := by
  go_enter Try.func32, Try.ntmps32
  go_wp2_with (go_at_call 46; (with_reducible refine (l1In_any _ _ _ _).mono ?_); rintro e w' ⟨rfl, rfl⟩)
  go_ret
  exact ⟨rfl, rfl⟩
theorem secondsFor_any (id : Int) (nm : ByteArray) (dr ah be sp fu m : Int) (h1 : 1 ≤ sp ∧ sp ≤ 60) (h2 : wayB m = true) (w : World) : Calls Try.prog 35 #[.agg #[.int .i64 id, .string nm, .int .i64 dr, .int .i64 ah, .int .i64 be, .int .i64 sp, .int .i64 fu], .int .i64 m] w fun e w' => e = .returned (.int .i64 (secI sp m)) ∧ Kept w w' := by
  obtain ⟨a1, a2⟩ := h1
  simp only [wayB, inB_true] at h2
  obtain ⟨b1, b2⟩ := h2
  go_enter Try.func35, Try.ntmps35
  go_wp2
  go_ret
  exact ⟨rfl, by (repeat (first | exact Kept.refl _ | assumption | refine Kept.alloc ?_ _ | refine Kept.drew ?_ | refine Kept.drewN ?_ _ | refine Kept.setCell ?_ (by first | (simp; done) | (simp; omega) | omega | exact Kept.size (by (repeat (first | exact Kept.refl _ | assumption | refine Kept.alloc ?_ _ | refine Kept.drew ?_ | refine Kept.drewN ?_ _ | refine Kept.trans ?_ (by assumption))))) _ | refine Kept.trans ?_ (by assumption)))⟩
theorem l5Seconds_any (id : Int) (nm : ByteArray) (dr ah be sp fu m : Int) (h1 : 1 ≤ sp ∧ sp ≤ 60) (h2 : wayB m = true) (w : World) : Calls Try.prog 33 #[.agg #[.int .i64 id, .string nm, .int .i64 dr, .int .i64 ah, .int .i64 be, .int .i64 sp, .int .i64 fu], .int .i64 m] w fun e w' => e = .returned (.int .i64 (secI sp m)) ∧ Kept w w' := by
  obtain ⟨a1, a2⟩ := h1
  simp only [wayB, inB_true] at h2
  obtain ⟨b1, b2⟩ := h2
  go_enter Try.func33, Try.ntmps33
  go_wp2
  go_ret
  exact ⟨rfl, by (repeat (first | exact Kept.refl _ | assumption | refine Kept.alloc ?_ _ | refine Kept.drew ?_ | refine Kept.drewN ?_ _ | refine Kept.setCell ?_ (by first | (simp; done) | (simp; omega) | omega | exact Kept.size (by (repeat (first | exact Kept.refl _ | assumption | refine Kept.alloc ?_ _ | refine Kept.drew ?_ | refine Kept.drewN ?_ _ | refine Kept.trans ?_ (by assumption))))) _ | refine Kept.trans ?_ (by assumption)))⟩
def secOk (id : Int) (nm : ByteArray) (dr ah be sp fu m : Int) : Bool := craftB id nm dr ah be sp fu && wayB m
def secVal (p : Bool) (sp m : Int) : Int := if p = true then secI sp m else 0
theorem seconds_any (id : Int) (nm : ByteArray) (dr ah be sp fu m : Int) (hs : nm.size ≤ maxLen) (w : World) : Calls Try.prog 15 #[.agg #[.int .i64 id, .string nm, .int .i64 dr, .int .i64 ah, .int .i64 be, .int .i64 sp, .int .i64 fu], .int .i64 m] w fun e w' => e = .returned (.tuple #[.int .i64 (secVal (secOk id nm dr ah be sp fu m) sp m), .bool (secOk id nm dr ah be sp fu m)]) ∧ Kept w w' := by
  cases h1 : craftB id nm dr ah be sp fu
  · go_enter Try.func15, Try.ntmps15
    go_wp2_with (go_at_call 13; (with_reducible refine (isCraft_any _ _ _ _ _ _ _ hs _).mono ?_); rintro e w' ⟨rfl, hk⟩; (try have hkr := Root.trans (by assumption) hk); (first | (have hkf := From.step (by assumption) hk; obtain ⟨hc, hf⟩ := hkf.cells) | (have hkf := From.start hk; obtain ⟨hc, hf⟩ := hkf.cells)))
    go_ret2
    exact ⟨ret_ib (by simp [secVal, secOk, h1]) (by simp [secOk, h1]), by (repeat (first | exact Kept.refl _ | assumption | refine Kept.alloc ?_ _ | refine Kept.drew ?_ | refine Kept.drewN ?_ _ | refine Kept.setCell ?_ (by first | (simp; done) | (simp; omega) | omega | exact Kept.size (by (repeat (first | exact Kept.refl _ | assumption | refine Kept.alloc ?_ _ | refine Kept.drew ?_ | refine Kept.drewN ?_ _ | refine Kept.trans ?_ (by assumption))))) _ | refine Kept.trans ?_ (by assumption)))⟩
  · cases h2 : wayB m
    · go_enter Try.func15, Try.ntmps15
      go_wp2_with (first | (go_at_call 13; (with_reducible refine (isCraft_any _ _ _ _ _ _ _ hs _).mono ?_); rintro e w' ⟨rfl, hk⟩; (try have hkr := Root.trans (by assumption) hk); (first | (have hkf := From.step (by assumption) hk; obtain ⟨hc, hf⟩ := hkf.cells) | (have hkf := From.start hk; obtain ⟨hc, hf⟩ := hkf.cells))) | (go_at_call 34; (with_reducible refine (isWay_any _ _).mono ?_); rintro e w' ⟨rfl, rfl⟩))
      go_ret2
      exact ⟨ret_ib (by simp [secVal, secOk, h1, h2]) (by simp [secOk, h1, h2]), by (repeat (first | exact Kept.refl _ | assumption | refine Kept.alloc ?_ _ | refine Kept.drew ?_ | refine Kept.drewN ?_ _ | refine Kept.setCell ?_ (by first | (simp; done) | (simp; omega) | omega | exact Kept.size (by (repeat (first | exact Kept.refl _ | assumption | refine Kept.alloc ?_ _ | refine Kept.drew ?_ | refine Kept.drewN ?_ _ | refine Kept.trans ?_ (by assumption))))) _ | refine Kept.trans ?_ (by assumption)))⟩
    · have H1 := Lib.hid (craft_bd h1).2.2.1
      have H2 := Lib.hid h2
      go_enter Try.func15, Try.ntmps15
      go_wp2_with (first | (go_at_call 13; (with_reducible refine (isCraft_any _ _ _ _ _ _ _ hs _).mono ?_); rintro e w' ⟨rfl, hk⟩; (try have hkr := Root.trans (by assumption) hk); (first | (have hkf := From.step (by assumption) hk; obtain ⟨hc, hf⟩ := hkf.cells) | (have hkf := From.start hk; obtain ⟨hc, hf⟩ := hkf.cells))) | (go_at_call 34; (with_reducible refine (isWay_any _ _).mono ?_); rintro e w' ⟨rfl, rfl⟩) | (go_at_call 35; (with_reducible refine (secondsFor_any _ _ _ _ _ _ _ _ H1.out H2.out _).mono ?_); rintro e w' ⟨rfl, hk⟩; (try have hkr := Root.trans (by assumption) hk); (first | (have hkf := From.step (by assumption) hk; obtain ⟨hc, hf⟩ := hkf.cells) | (have hkf := From.start hk; obtain ⟨hc, hf⟩ := hkf.cells))))
      go_ret2
      exact ⟨ret_ib (by simp [secVal, secOk, h1, h2]) (by simp [secOk, h1, h2]), by (repeat (first | exact Kept.refl _ | assumption | refine Kept.alloc ?_ _ | refine Kept.drew ?_ | refine Kept.drewN ?_ _ | refine Kept.setCell ?_ (by first | (simp; done) | (simp; omega) | omega | exact Kept.size (by (repeat (first | exact Kept.refl _ | assumption | refine Kept.alloc ?_ _ | refine Kept.drew ?_ | refine Kept.drewN ?_ _ | refine Kept.trans ?_ (by assumption))))) _ | refine Kept.trans ?_ (by assumption)))⟩
theorem sSeconds_any (id : Int) (nm : ByteArray) (dr ah be sp fu m : Int) (hs : nm.size ≤ maxLen) (w : World) : Calls Try.prog 14 #[.agg #[.int .i64 id, .string nm, .int .i64 dr, .int .i64 ah, .int .i64 be, .int .i64 sp, .int .i64 fu], .int .i64 m] w fun e w' => e = .returned (.tuple #[.int .i64 (secVal (secOk id nm dr ah be sp fu m) sp m), .bool (secOk id nm dr ah be sp fu m)]) ∧ Kept w w' := by
  cases h1 : craftB id nm dr ah be sp fu
  · go_enter Try.func14, Try.ntmps14
    go_wp2_with (go_at_call 29; (with_reducible refine (l5One_any _ _ _ _ _ _ _ hs _).mono ?_); rintro e w' ⟨rfl, hk⟩; (try have hkr := Root.trans (by assumption) hk); (first | (have hkf := From.step (by assumption) hk; obtain ⟨hc, hf⟩ := hkf.cells) | (have hkf := From.start hk; obtain ⟨hc, hf⟩ := hkf.cells)))
    go_ret2
    exact ⟨ret_ib (by simp [secVal, secOk, h1]) (by simp [secOk, h1]), by (repeat (first | exact Kept.refl _ | assumption | refine Kept.alloc ?_ _ | refine Kept.drew ?_ | refine Kept.drewN ?_ _ | refine Kept.setCell ?_ (by first | (simp; done) | (simp; omega) | omega | exact Kept.size (by (repeat (first | exact Kept.refl _ | assumption | refine Kept.alloc ?_ _ | refine Kept.drew ?_ | refine Kept.drewN ?_ _ | refine Kept.trans ?_ (by assumption))))) _ | refine Kept.trans ?_ (by assumption)))⟩
  · cases h2 : wayB m
    · go_enter Try.func14, Try.ntmps14
      go_wp2_with (first | (go_at_call 29; (with_reducible refine (l5One_any _ _ _ _ _ _ _ hs _).mono ?_); rintro e w' ⟨rfl, hk⟩; (try have hkr := Root.trans (by assumption) hk); (first | (have hkf := From.step (by assumption) hk; obtain ⟨hc, hf⟩ := hkf.cells) | (have hkf := From.start hk; obtain ⟨hc, hf⟩ := hkf.cells))) | (go_at_call 32; (with_reducible refine (l5Meters_any _ _).mono ?_); rintro e w' ⟨rfl, rfl⟩))
      go_ret2
      exact ⟨ret_ib (by simp [secVal, secOk, h1, h2]) (by simp [secOk, h1, h2]), by (repeat (first | exact Kept.refl _ | assumption | refine Kept.alloc ?_ _ | refine Kept.drew ?_ | refine Kept.drewN ?_ _ | refine Kept.setCell ?_ (by first | (simp; done) | (simp; omega) | omega | exact Kept.size (by (repeat (first | exact Kept.refl _ | assumption | refine Kept.alloc ?_ _ | refine Kept.drew ?_ | refine Kept.drewN ?_ _ | refine Kept.trans ?_ (by assumption))))) _ | refine Kept.trans ?_ (by assumption)))⟩
    · have H1 := Lib.hid (craft_bd h1).2.2.1
      have H2 := Lib.hid h2
      go_enter Try.func14, Try.ntmps14
      go_wp2_with (first | (go_at_call 29; (with_reducible refine (l5One_any _ _ _ _ _ _ _ hs _).mono ?_); rintro e w' ⟨rfl, hk⟩; (try have hkr := Root.trans (by assumption) hk); (first | (have hkf := From.step (by assumption) hk; obtain ⟨hc, hf⟩ := hkf.cells) | (have hkf := From.start hk; obtain ⟨hc, hf⟩ := hkf.cells))) | (go_at_call 32; (with_reducible refine (l5Meters_any _ _).mono ?_); rintro e w' ⟨rfl, rfl⟩) | (go_at_call 33; (with_reducible refine (l5Seconds_any _ _ _ _ _ _ _ _ H1.out H2.out _).mono ?_); rintro e w' ⟨rfl, hk⟩; (try have hkr := Root.trans (by assumption) hk); (first | (have hkf := From.step (by assumption) hk; obtain ⟨hc, hf⟩ := hkf.cells) | (have hkf := From.start hk; obtain ⟨hc, hf⟩ := hkf.cells))))
      go_ret2
      exact ⟨ret_ib (by simp [secVal, secOk, h1, h2]) (by simp [secOk, h1, h2]), by (repeat (first | exact Kept.refl _ | assumption | refine Kept.alloc ?_ _ | refine Kept.drew ?_ | refine Kept.drewN ?_ _ | refine Kept.setCell ?_ (by first | (simp; done) | (simp; omega) | omega | exact Kept.size (by (repeat (first | exact Kept.refl _ | assumption | refine Kept.alloc ?_ _ | refine Kept.drew ?_ | refine Kept.drewN ?_ _ | refine Kept.trans ?_ (by assumption))))) _ | refine Kept.trans ?_ (by assumption)))⟩
theorem lawSecondsFor (id : Int) (nm : ByteArray) (dr ah be sp fu : Int) (hs : nm.size ≤ maxLen) (m : Int) (w : World) : Calls Try.prog 4 #[.agg #[.int .i64 id, .string nm, .int .i64 dr, .int .i64 ah, .int .i64 be, .int .i64 sp, .int .i64 fu], .int .i64 m] w fun e w' => e = .returned (.bool true) ∧ Kept w w' := by
  have hs' := hs
  unfold maxLen at hs
  by_cases hz : nm.size ≤ 1048576
  · go_enter Try.func4, Try.ntmps4
    go_wp2_with (first | (go_at_call 10; (with_reducible refine (szCraft_ok _ _ _ _ _ _ _ hz _).mono ?_); rintro e w' ⟨rfl, hk⟩; (try have hkr := Root.trans (by assumption) hk); (first | (have hkf := From.step (by assumption) hk; obtain ⟨hc, hf⟩ := hkf.cells) | (have hkf := From.start hk; obtain ⟨hc, hf⟩ := hkf.cells))) | (go_at_call 12; (with_reducible refine (toCraft_any _ _ _ _ _ _ _ _).mono ?_); rintro e w' ⟨rfl, hk⟩; (try have hkr := Root.trans (by assumption) hk); (first | (have hkf := From.step (by assumption) hk; obtain ⟨hc, hf⟩ := hkf.cells) | (have hkf := From.start hk; obtain ⟨hc, hf⟩ := hkf.cells))) | (go_at_call 14; (with_reducible refine (sSeconds_any _ _ _ _ _ _ _ _ hs' _).mono ?_); rintro e w' ⟨rfl, hk⟩; (try have hkr := Root.trans (by assumption) hk); (first | (have hkf := From.step (by assumption) hk; obtain ⟨hc, hf⟩ := hkf.cells) | (have hkf := From.start hk; obtain ⟨hc, hf⟩ := hkf.cells))) | (go_at_call 15; (with_reducible refine (seconds_any _ _ _ _ _ _ _ _ hs' _).mono ?_); rintro e w' ⟨rfl, hk⟩; (try have hkr := Root.trans (by assumption) hk); (first | (have hkf := From.step (by assumption) hk; obtain ⟨hc, hf⟩ := hkf.cells) | (have hkf := From.start hk; obtain ⟨hc, hf⟩ := hkf.cells))))
    go_ret
    exact ⟨rfl, by (repeat (first | exact Kept.refl _ | assumption | refine Kept.alloc ?_ _ | refine Kept.drew ?_ | refine Kept.drewN ?_ _ | refine Kept.setCell ?_ (by first | (simp; done) | (simp; omega) | omega | exact Kept.size (by (repeat (first | exact Kept.refl _ | assumption | refine Kept.alloc ?_ _ | refine Kept.drew ?_ | refine Kept.drewN ?_ _ | refine Kept.trans ?_ (by assumption))))) _ | refine Kept.trans ?_ (by assumption)))⟩
  · go_enter Try.func4, Try.ntmps4
    go_wp2_with (go_at_call 10; (with_reducible refine (szCraft_no _ _ _ _ _ _ _ (by omega) hs' _).mono ?_); rintro e w' ⟨rfl, hk⟩; (try have hkr := Root.trans (by assumption) hk); (first | (have hkf := From.step (by assumption) hk; obtain ⟨hc, hf⟩ := hkf.cells) | (have hkf := From.start hk; obtain ⟨hc, hf⟩ := hkf.cells)))
    go_ret
    exact ⟨rfl, by (repeat (first | exact Kept.refl _ | assumption | refine Kept.alloc ?_ _ | refine Kept.drew ?_ | refine Kept.drewN ?_ _ | refine Kept.setCell ?_ (by first | (simp; done) | (simp; omega) | omega | exact Kept.size (by (repeat (first | exact Kept.refl _ | assumption | refine Kept.alloc ?_ _ | refine Kept.drew ?_ | refine Kept.drewN ?_ _ | refine Kept.trans ?_ (by assumption))))) _ | refine Kept.trans ?_ (by assumption)))⟩
end Go.Proofs.Ytaaloblkilidoaa

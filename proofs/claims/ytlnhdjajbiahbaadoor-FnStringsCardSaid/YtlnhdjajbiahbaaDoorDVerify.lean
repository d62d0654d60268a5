/-
  Contracts of strings.Cut at the checksum's mark, of the program's VerifyChecksum and the reference's; the walk of VerifyChecksum's law.
  Conditions: none but that the tables of the library read as they were laid.
-/
import Derived.Test.YtlnhdjajbiahbaaDoorDSeal
import Derived.Lib.IndexLaws
namespace Go.Proofs.YtlnhdjajbiahbaaDoor
open Go.ChangeShapes Go.WideShapes Go.ChangeAt Go.RowKit
set_option linter.unusedVariables false
set_option linter.unusedSimpArgs false

def cutI (s : ByteArray) : Int := Lib.indexByte s.data.toList 35
theorem cut_none {s : ByteArray} (h : hasIn s 35 = false) : cutI s = -1 := by
  have h1 : ¬ (0 ≤ Lib.indexByte s.data.toList 35) := fun h0 => by rw [(index_hasIn s 35).1 h0] at h; cases h
  have h2 := Lib.indexByte_ge s.data.toList 35
  unfold cutI
  omega
theorem cut_some {s : ByteArray} (h : hasIn s 35 = true) : ∃ o : Nat, cutI s = (o : Int) ∧ o < s.size ∧ bt s o = 35 ∧ ∀ j, j < o → ¬ bt s j = 35 := by
  have h1 := (index_hasIn s 35).2 h
  obtain ⟨o, ho⟩ : ∃ o : Nat, Lib.indexByte s.data.toList 35 = (o : Int) := ⟨_, (Int.toNat_of_nonneg h1).symm⟩
  obtain ⟨e, hn⟩ := Lib.indexByte_some ho
  have hl : o < s.size := by
    have := (List.getElem?_eq_some_iff.1 e).1
    simpa using this
  refine ⟨o, ho, hl, ?_, fun j hj hb => ?_⟩
  · have := bt_list hl
    rw [e] at this
    injection this with this
    exact this.symm
  · exact hn j hj (by rw [bt_list (by omega), hb])
/-- The text up to the mark. -/
def preT (s : ByteArray) : ByteArray := if hasIn s 35 = true then s.extract 0 (cutI s).toNat else s
theorem sp_zero {s : ByteArray} {b : UInt8} : ∀ k, (∀ j, j < k → ¬ bt s j = b) → spTo s b k = ([], 0) := by
  intro k
  induction k with
  | zero => intro _; rfl
  | succ k ih =>
    intro h
    rw [sp_no (h k (by omega))]
    exact ih (fun j hj => h j (by omega))
theorem sp_after {s : ByteArray} {b : UInt8} {o : Nat} (hb : bt s o = b) (h : ∀ j, j < o → ¬ bt s j = b) : ∀ k, o < k → (spTo s b k).1[0]? = some (s.extract 0 o) := by
  intro k
  induction k with
  | zero => intro h0; omega
  | succ k ih =>
    intro h0
    by_cases e : k = o
    · subst e
      rw [sp_yes hb, sp_zero k h]
      rfl
    · have hi := ih (by omega)
      by_cases hk : bt s k = b
      · rw [sp_yes hk]
        rw [List.getElem?_append_left (by have := (List.getElem?_eq_some_iff.1 hi).1; exact this)]
        exact hi
      · rw [sp_no hk]
        exact hi
theorem extract_all (s : ByteArray) : s.extract 0 s.size = s := by
  apply ByteArray.ext
  simp
theorem pre_at (s : ByteArray) : (spAll s 35)[0]? = some (preT s) := by
  unfold spAll preT
  cases h : hasIn s 35
  · have hn : ∀ j, j < s.size → ¬ bt s j = 35 := fun j hj e => by
      have := has_yes hj e
      rw [h] at this
      cases this
    rw [sp_zero s.size hn]
    simp [extract_all]
  · obtain ⟨o, e, hl, hb, hn⟩ := cut_some h
    have h1 := sp_after hb hn s.size hl
    rw [List.getElem?_append_left (by have := (List.getElem?_eq_some_iff.1 h1).1; exact this), h1]
    simp [e]
theorem pre_size (s : ByteArray) : (preT s).size ≤ s.size := by
  unfold preT
  split
  · simp
    omega
  · exact Nat.le_refl _
theorem pre_has {s : ByteArray} : hasIn (preT s) 35 = false := by
  unfold preT
  cases h : hasIn s 35
  · simpa using h
  · obtain ⟨o, e, hl, hb, hn⟩ := cut_some h
    simp only [if_true, e, Int.toNat_natCast]
    refine has_no fun k hk hbk => ?_
    have hz : (s.extract 0 o).size = o := by simp; omega
    rw [hz] at hk
    refine hn k hk ?_
    rw [← hbk, bt_at (by omega), bt_at (by omega)]
    simp [ByteArray.getElem_eq_getElem_data]
def vcOk (s : ByteArray) : Bool := decide (s.size ≤ 4000) && decide (sealT (preT s) = s)
def vcV (s : ByteArray) : ByteArray := if vcOk s = true then preT s else ⟨#[]⟩
theorem vc_no {s : ByteArray} (h : vcOk s = false) : vcV s = ⟨#[]⟩ := by simp [vcV, h]
theorem vc_yes {s : ByteArray} (h : vcOk s = true) : vcV s = preT s := by simp [vcV, h]
theorem vc_long {s : ByteArray} (h : ¬ s.size ≤ 4000) : vcOk s = false := by simp [vcOk, h]
theorem vc_ne {s : ByteArray} (h : ¬ sealT (preT s) = s) : vcOk s = false := by simp [vcOk, h]
theorem vc_good {s : ByteArray} (h1 : s.size ≤ 4000) (h2 : sealT (preT s) = s) : vcOk s = true := by simp [vcOk, h1, h2]
theorem vc_lack {s : ByteArray} (h : hasIn s 35 = false) : vcOk s = false := by
  refine vc_ne fun e => ?_
  have h1 : preT s = s := by simp [preT, h]
  rw [h1] at e
  have h2 := seal_size s
  rw [e] at h2
  omega
theorem vc_bad {s : ByteArray} (h : acOk (preT s) = false) : vcOk s = false := by
  cases hv : vcOk s
  · rfl
  · simp only [vcOk, Bool.and_eq_true, decide_eq_true_eq] at hv
    have h1 : acOk (preT s) = true := ac_good (by have := pre_size s; omega) pre_has (by rw [hv.2]; exact hv.1)
    rw [h1] at h
    cases h
theorem vc_out {s : ByteArray} (h : acOk (preT s) = true) (e : sealT (preT s) = s) : vcOk s = true := by
  simp only [acOk, Bool.and_eq_true, decide_eq_true_eq] at h
  exact vc_good (by have := h.2; rw [e] at this; exact this) e
theorem index_any (s : ByteArray) (w : World) : Calls Tryd.prog 51 #[.string s, .string ⟨#[35]⟩] w fun e w' => e = .returned (.int .i64 (cutI s)) ∧ w = w' := by
  refine (Tryd.stringslite_Index_one s 35 w).mono ?_
  rintro e w' ⟨rfl, rfl⟩
  exact ⟨rfl, rfl⟩
theorem slCut_no (s : ByteArray) (h : hasIn s 35 = false) (w : World) : Calls Tryd.prog 44 #[.string s, .string ⟨#[35]⟩] w fun e w' => e = .returned (.tuple #[.string s, .string ⟨#[]⟩, .bool false]) ∧ Kept w w' := by
  have HI := Lib.hid fun W => index_any s W
  rw [cut_none h] at HI
  clear h
  go_enter Tryd.func44, Tryd.ntmps44
  go_wp2_with (go_at_call 51; (with_reducible refine (HI.out _).mono ?_); rintro e w' ⟨rfl, rfl⟩)
  go_ret3
  exact ⟨rfl, Kept.refl _⟩
theorem slCut_yes (s : ByteArray) (hs : s.size ≤ 9223372036854775807) (o : Nat) (h : cutI s = (o : Int)) (hl : o < s.size) (w : World) : Calls Tryd.prog 44 #[.string s, .string ⟨#[35]⟩] w fun e w' => e = .returned (.tuple #[.string (s.extract 0 o), .string (s.extract (o + 1) s.size), .bool true]) ∧ Kept w w' := by
  have HI := Lib.hid fun W => index_any s W
  rw [h] at HI
  clear h
  have k0 : (0 : Int) ≤ (o : Int) := by omega
  have k1 : (o : Int) ≤ (s.size : Int) := by omega
  have k2 : (o : Int) + 1 ≤ (s.size : Int) := by omega
  have k3 : (0 : Int) ≤ (o : Int) + 1 := by omega
  have e0 : ((o : Int)).toNat = o := by omega
  have e1 : ((o : Int) + 1).toNat = o + 1 := by omega
  have hw : IntKind.i64.wrap ((o : Int) + 1) = (o : Int) + 1 := by rw [IntKind.wrap_i64]; omega
  go_enter Tryd.func44, Tryd.ntmps44
  go_wp2_with (go_at_call 51; (with_reducible refine (HI.out _).mono ?_); rintro e w' ⟨rfl, rfl⟩)
  go_quiet (fail)
  go_wp2_with fail
  go_ret3
  exact ⟨rfl, by (repeat (first | exact Kept.refl _ | assumption | refine Kept.alloc ?_ _ | refine Kept.drew ?_ | refine Kept.drewN ?_ _ | refine Kept.setCell ?_ (by first | (simp; done) | (simp; omega) | omega | exact Kept.size (by (repeat (first | exact Kept.refl _ | assumption | refine Kept.alloc ?_ _ | refine Kept.drew ?_ | refine Kept.drewN ?_ _ | refine Kept.trans ?_ (by assumption))))) _ | refine Kept.trans ?_ (by assumption)))⟩
theorem strCut_no (s : ByteArray) (h : hasIn s 35 = false) (w : World) : Calls Tryd.prog 36 #[.string s, .string ⟨#[35]⟩] w fun e w' => e = .returned (.tuple #[.string s, .string ⟨#[]⟩, .bool false]) ∧ Kept w w' := by
  have HI := Lib.hid fun W => slCut_no s h W
  clear h
  go_enter Tryd.func36, Tryd.ntmps36
  go_wp2_with (go_at_call 44; (with_reducible refine (HI.out _).mono ?_); rintro e w' ⟨rfl, hk⟩; (try have hkr := Root.trans (by assumption) hk); (first | (have hkf := From.step (by assumption) hk; obtain ⟨hc, hf⟩ := hkf.cells) | (have hkf := From.start hk; obtain ⟨hc, hf⟩ := hkf.cells)))
  go_ret3
  exact ⟨rfl, by (repeat (first | exact Kept.refl _ | assumption | refine Kept.alloc ?_ _ | refine Kept.drew ?_ | refine Kept.drewN ?_ _ | refine Kept.setCell ?_ (by first | (simp; done) | (simp; omega) | omega | exact Kept.size (by (repeat (first | exact Kept.refl _ | assumption | refine Kept.alloc ?_ _ | refine Kept.drew ?_ | refine Kept.drewN ?_ _ | refine Kept.trans ?_ (by assumption))))) _ | refine Kept.trans ?_ (by assumption)))⟩
theorem strCut_yes (s : ByteArray) (hs : s.size ≤ 9223372036854775807) (o : Nat) (h : cutI s = (o : Int)) (hl : o < s.size) (w : World) : Calls Tryd.prog 36 #[.string s, .string ⟨#[35]⟩] w fun e w' => e = .returned (.tuple #[.string (s.extract 0 o), .string (s.extract (o + 1) s.size), .bool true]) ∧ Kept w w' := by
  have HI := Lib.hid fun W => slCut_yes s hs o h hl W
  clear h
  go_enter Tryd.func36, Tryd.ntmps36
  go_wp2_with (go_at_call 44; (with_reducible refine (HI.out _).mono ?_); rintro e w' ⟨rfl, hk⟩; (try have hkr := Root.trans (by assumption) hk); (first | (have hkf := From.step (by assumption) hk; obtain ⟨hc, hf⟩ := hkf.cells) | (have hkf := From.start hk; obtain ⟨hc, hf⟩ := hkf.cells)))
  go_ret3
  exact ⟨rfl, by (repeat (first | exact Kept.refl _ | assumption | refine Kept.alloc ?_ _ | refine Kept.drew ?_ | refine Kept.drewN ?_ _ | refine Kept.setCell ?_ (by first | (simp; done) | (simp; omega) | omega | exact Kept.size (by (repeat (first | exact Kept.refl _ | assumption | refine Kept.alloc ?_ _ | refine Kept.drew ?_ | refine Kept.drewN ?_ _ | refine Kept.trans ?_ (by assumption))))) _ | refine Kept.trans ?_ (by assumption)))⟩
theorem verifyChecksum_any (s : ByteArray) (hs : s.size ≤ maxLen) (w : World) (ht : PowTab w) : Calls Tryd.prog 18 #[.string s] w fun e w' => e = .returned (.tuple #[.string (vcV s), .bool (vcOk s)]) ∧ Kept w w' := by
  cases h1 : hasIn s 35
  · rw [vc_no (vc_lack h1), vc_lack h1]
    have HC := Lib.hid fun W => strCut_no s h1 W
    clear h1
    go_enter Tryd.func18, Tryd.ntmps18
    go_wp2_with (go_at_call 36; (with_reducible refine (HC.out _).mono ?_); rintro e w' ⟨rfl, hk⟩; (try have hkr := Root.trans (by assumption) hk); (first | (have hkf := From.step (by assumption) hk; obtain ⟨hc, hf⟩ := hkf.cells) | (have hkf := From.start hk; obtain ⟨hc, hf⟩ := hkf.cells)))
    go_ret2
    exact ⟨rfl, by (repeat (first | exact Kept.refl _ | assumption | refine Kept.alloc ?_ _ | refine Kept.drew ?_ | refine Kept.drewN ?_ _ | refine Kept.setCell ?_ (by first | (simp; done) | (simp; omega) | omega | exact Kept.size (by (repeat (first | exact Kept.refl _ | assumption | refine Kept.alloc ?_ _ | refine Kept.drew ?_ | refine Kept.drewN ?_ _ | refine Kept.trans ?_ (by assumption))))) _ | refine Kept.trans ?_ (by assumption)))⟩
  · obtain ⟨o, e, hl, -, -⟩ := cut_some h1
    have HC := Lib.hid fun W => strCut_yes s (by unfold maxLen at hs; omega) o e hl W
    have hp : preT s = s.extract 0 o := by simp [preT, h1, e]
    rw [← hp] at HC
    have hps := pre_size s
    have HA := Lib.hid fun W (h : Kept w W) => appendChecksum_any (preT s) (by omega) W (ht.kept h)
    cases h2 : acOk (preT s)
    · rw [vc_no (vc_bad h2), vc_bad h2]
      rw [h2] at HA
      clear h1 h2 e hl hp hps
      generalize acV (preT s) = q at HA
      generalize preT s = t at HA HC
      go_enter Tryd.func18, Tryd.ntmps18
      go_wp2_with (first | (go_at_call 36; (with_reducible refine (HC.out _).mono ?_); rintro e w' ⟨rfl, hk⟩; (try have hkr := Root.trans (by assumption) hk); (first | (have hkf := From.step (by assumption) hk; obtain ⟨hc, hf⟩ := hkf.cells) | (have hkf := From.start hk; obtain ⟨hc, hf⟩ := hkf.cells))) | (go_at_call 16; (with_reducible refine (HA.out _ (by (repeat (first | exact Kept.refl _ | assumption | refine Kept.alloc ?_ _ | refine Kept.drew ?_ | refine Kept.drewN ?_ _ | refine Kept.setCell ?_ (by first | (simp; done) | (simp; omega) | omega | exact Kept.size (by (repeat (first | exact Kept.refl _ | assumption | refine Kept.alloc ?_ _ | refine Kept.drew ?_ | refine Kept.drewN ?_ _ | refine Kept.trans ?_ (by assumption))))) _ | refine Kept.trans ?_ (by assumption))))).mono ?_); rintro e w' ⟨rfl, hk⟩; (try have hkr := Root.trans (by assumption) hk); (first | (have hkf := From.step (by assumption) hk; obtain ⟨hc, hf⟩ := hkf.cells) | (have hkf := From.start hk; obtain ⟨hc, hf⟩ := hkf.cells))))
      go_ret2
      exact ⟨rfl, by (repeat (first | exact Kept.refl _ | assumption | refine Kept.alloc ?_ _ | refine Kept.drew ?_ | refine Kept.drewN ?_ _ | refine Kept.setCell ?_ (by first | (simp; done) | (simp; omega) | omega | exact Kept.size (by (repeat (first | exact Kept.refl _ | assumption | refine Kept.alloc ?_ _ | refine Kept.drew ?_ | refine Kept.drewN ?_ _ | refine Kept.trans ?_ (by assumption))))) _ | refine Kept.trans ?_ (by assumption)))⟩
    · rw [h2, ac_yes h2] at HA
      by_cases h3 : sealT (preT s) = s
      · rw [vc_yes (vc_out h2 h3), vc_out h2 h3]
        rw [h3] at HA
        clear h1 h2 h3 e hl hp hps
        generalize preT s = t at HA HC ⊢
        go_enter Tryd.func18, Tryd.ntmps18
        go_wp2_with (first | (go_at_call 36; (with_reducible refine (HC.out _).mono ?_); rintro e w' ⟨rfl, hk⟩; (try have hkr := Root.trans (by assumption) hk); (first | (have hkf := From.step (by assumption) hk; obtain ⟨hc, hf⟩ := hkf.cells) | (have hkf := From.start hk; obtain ⟨hc, hf⟩ := hkf.cells))) | (go_at_call 16; (with_reducible refine (HA.out _ (by (repeat (first | exact Kept.refl _ | assumption | refine Kept.alloc ?_ _ | refine Kept.drew ?_ | refine Kept.drewN ?_ _ | refine Kept.setCell ?_ (by first | (simp; done) | (simp; omega) | omega | exact Kept.size (by (repeat (first | exact Kept.refl _ | assumption | refine Kept.alloc ?_ _ | refine Kept.drew ?_ | refine Kept.drewN ?_ _ | refine Kept.trans ?_ (by assumption))))) _ | refine Kept.trans ?_ (by assumption))))).mono ?_); rintro e w' ⟨rfl, hk⟩; (try have hkr := Root.trans (by assumption) hk); (first | (have hkf := From.step (by assumption) hk; obtain ⟨hc, hf⟩ := hkf.cells) | (have hkf := From.start hk; obtain ⟨hc, hf⟩ := hkf.cells))))
        go_ret2
        exact ⟨rfl, by (repeat (first | exact Kept.refl _ | assumption | refine Kept.alloc ?_ _ | refine Kept.drew ?_ | refine Kept.drewN ?_ _ | refine Kept.setCell ?_ (by first | (simp; done) | (simp; omega) | omega | exact Kept.size (by (repeat (first | exact Kept.refl _ | assumption | refine Kept.alloc ?_ _ | refine Kept.drew ?_ | refine Kept.drewN ?_ _ | refine Kept.trans ?_ (by assumption))))) _ | refine Kept.trans ?_ (by assumption)))⟩
      · rw [vc_no (vc_ne h3), vc_ne h3]
        have hne := txt_ne h3
        clear h1 h2 h3 e hl hp hps
        generalize sealT (preT s) = q at HA hne
        generalize preT s = t at HA HC
        go_enter Tryd.func18, Tryd.ntmps18
        go_wp2_with (first | (go_at_call 36; (with_reducible refine (HC.out _).mono ?_); rintro e w' ⟨rfl, hk⟩; (try have hkr := Root.trans (by assumption) hk); (first | (have hkf := From.step (by assumption) hk; obtain ⟨hc, hf⟩ := hkf.cells) | (have hkf := From.start hk; obtain ⟨hc, hf⟩ := hkf.cells))) | (go_at_call 16; (with_reducible refine (HA.out _ (by (repeat (first | exact Kept.refl _ | assumption | refine Kept.alloc ?_ _ | refine Kept.drew ?_ | refine Kept.drewN ?_ _ | refine Kept.setCell ?_ (by first | (simp; done) | (simp; omega) | omega | exact Kept.size (by (repeat (first | exact Kept.refl _ | assumption | refine Kept.alloc ?_ _ | refine Kept.drew ?_ | refine Kept.drewN ?_ _ | refine Kept.trans ?_ (by assumption))))) _ | refine Kept.trans ?_ (by assumption))))).mono ?_); rintro e w' ⟨rfl, hk⟩; (try have hkr := Root.trans (by assumption) hk); (first | (have hkf := From.step (by assumption) hk; obtain ⟨hc, hf⟩ := hkf.cells) | (have hkf := From.start hk; obtain ⟨hc, hf⟩ := hkf.cells))))
        go_ret2
        exact ⟨rfl, by (repeat (first | exact Kept.refl _ | assumption | refine Kept.alloc ?_ _ | refine Kept.drew ?_ | refine Kept.drewN ?_ _ | refine Kept.setCell ?_ (by first | (simp; done) | (simp; omega) | omega | exact Kept.size (by (repeat (first | exact Kept.refl _ | assumption | refine Kept.alloc ?_ _ | refine Kept.drew ?_ | refine Kept.drewN ?_ _ | refine Kept.trans ?_ (by assumption))))) _ | refine Kept.trans ?_ (by assumption)))⟩
theorem split_first (s : ByteArray) (hs : s.size ≤ 4000) (w : World) : Calls Tryd.prog 37 #[.string s, .int .u8 35] w fun e w' => ∃ g n c, e = .returned (.slice (some ⟨g, 0, none⟩) n c) ∧ 0 < n ∧ n ≤ maxLen ∧ w'.cell? ⟨g, 0, none⟩ = some (.string (preT s)) ∧ Kept w w' := by
  have h0 : Calls Tryd.prog 37 #[.string s, .int .u8 35] w _ := l1Split_any s 35 hs w
  refine h0.mono ?_
  rintro e w' ⟨u, rfl, ho, hk⟩
  obtain ⟨A, c, rfl, hc1, hc2, hA⟩ := own_form ho
  have hn : 0 < (spAll s 35).length := (List.getElem?_eq_some_iff.1 (pre_at s)).1
  obtain ⟨g, rfl, -, -⟩ := hA hn
  obtain ⟨v, hv, hcell, -⟩ := own_cell ho (j := 0) (by omega)
  refine ⟨g, _, c, rfl, hn, by omega, ?_, hk⟩
  rw [hcell]
  have hp := pre_at s
  cases hl : spAll s 35 with
  | nil => rw [hl] at hp; cases hp
  | cons a r =>
    rw [hl] at hp hv
    simp [strC] at hp hv
    rw [← hv, hp]
theorem sVerifyChecksum_any (s : ByteArray) (hs : s.size ≤ maxLen) (w : World) : Calls Tryd.prog 20 #[.string s] w fun e w' => e = .returned (.tuple #[.string (vcV s), .bool (vcOk s)]) ∧ Kept w w' := by
  unfold maxLen at hs
  by_cases h1 : s.size ≤ 4000
  · have z1 : ¬ ((4000 : Int) < (s.size : Int)) := by omega
    have HC := Lib.hid fun W => split_first s h1 W
    have hps := pre_size s
    have HA := Lib.hid fun W => l1Seal_any (preT s) (by omega) W
    by_cases h3 : sealT (preT s) = s
    · rw [vc_yes (vc_good h1 h3), vc_good h1 h3]
      rw [h3] at HA
      clear h3 hps h1
      generalize preT s = t at HA HC ⊢
      go_enter Tryd.func20, Tryd.ntmps20
      go_wp2_with fail
      refine (HC.out _).mono ?_
      rintro e w1 ⟨g, n, c, rfl, n0, n1, hcell, k1⟩
      have n2 : (0 : Int) < (n : Int) := by omega
      go_wp2_with fail
      refine (HA.out _).mono ?_
      rintro e w2 ⟨rfl, k2⟩
      go_wp2_with fail
      go_ret2
      exact ⟨rfl, k1.trans k2⟩
    · rw [vc_no (vc_ne h3), vc_ne h3]
      have hne := txt_ne h3
      clear h3 hps h1
      generalize sealT (preT s) = q at HA hne
      generalize preT s = t at HA HC
      go_enter Tryd.func20, Tryd.ntmps20
      go_wp2_with fail
      refine (HC.out _).mono ?_
      rintro e w1 ⟨g, n, c, rfl, n0, n1, hcell, k1⟩
      have n2 : (0 : Int) < (n : Int) := by omega
      go_wp2_with fail
      refine (HA.out _).mono ?_
      rintro e w2 ⟨rfl, k2⟩
      go_wp2_with fail
      go_ret2
      exact ⟨rfl, k1.trans k2⟩
  · rw [vc_no (vc_long h1), vc_long h1]
    have z1 : ((4000 : Int) < (s.size : Int)) := by omega
    go_enter Tryd.func20, Tryd.ntmps20
    go_wp2_with fail
    go_ret2
    exact ⟨rfl, Kept.refl _⟩
theorem lawVerifyChecksum (s : ByteArray) (hs : s.size ≤ 9223372036854775807) (w : World) (ht : PowTab w) : Calls Tryd.prog 7 #[.string s] w fun e w' => e = .returned (.bool true) ∧ Kept w w' := by
  by_cases hz : 1048576 < s.size
  · have z1 : (1048576 : Int) < (s.size : Int) := by omega
    go_enter Tryd.func7, Tryd.ntmps7
    go_wp2_with fail
    go_ret
    exact ⟨rfl, Kept.refl _⟩
  have z1 : ¬ ((1048576 : Int) < (s.size : Int)) := by omega
  have HS := Lib.hid (sVerifyChecksum_any s (by unfold maxLen; omega) w)
  have HI := Lib.hid fun W (h : Kept w W) => verifyChecksum_any s (by unfold maxLen; omega) W (ht.kept h)
  generalize vcV s = t at HS HI
  generalize vcOk s = b at HS HI
  go_enter Tryd.func7, Tryd.ntmps7
  go_wp2_with fail
  refine HS.out.mono ?_
  rintro e w1 ⟨rfl, k1⟩
  go_wp2_with fail
  refine (HI.out _ k1).mono ?_
  rintro e w2 ⟨rfl, k2⟩
  go_wp2_with fail
  go_ret
  exact ⟨rfl, k1.trans k2⟩
end Go.Proofs.YtlnhdjajbiahbaaDoor

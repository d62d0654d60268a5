/-
  Contracts of the program's AppendChecksum and the reference's; the walk of AppendChecksum's law.
  Conditions: none but that the tables of the library read as they were laid.
-/
import Derived.Test.YtlnhdjajbiahbaaDoorDParse2
import Derived.Test.YtlnhdjajbiahbaaDoorSplit
import Derived.Test.YtlnhdjajbiahbaaDoorStr1
namespace Go.Proofs.YtlnhdjajbiahbaaDoor
open Go.ChangeShapes Go.WideShapes Go.ChangeAt Go.RowKit
set_option linter.unusedVariables false
set_option linter.unusedSimpArgs false

/-- Does a byte stand in a text. -/
def hasIn (s : ByteArray) (b : UInt8) : Bool := decide (b ∈ s.data.toList)
theorem bt_list {s : ByteArray} {k : Nat} (h : k < s.size) : s.data.toList[k]? = some (bt s k) := by
  rw [bt_at h, List.getElem?_eq_getElem (by simpa using h)]
  rfl
theorem has_yes {s : ByteArray} {b : UInt8} {k : Nat} (h : k < s.size) (e : bt s k = b) : hasIn s b = true := by
  rw [hasIn, decide_eq_true_eq]
  exact List.mem_of_getElem? (by rw [← e]; exact bt_list h)
theorem has_no {s : ByteArray} {b : UInt8} (h : ∀ k, k < s.size → ¬ bt s k = b) : hasIn s b = false := by
  rw [hasIn, decide_eq_false_iff_not]
  intro hm
  obtain ⟨k, hk, e⟩ := List.getElem_of_mem hm
  have hk' : k < s.size := by simpa using hk
  refine h k hk' ?_
  have := bt_list hk'
  rw [List.getElem?_eq_getElem hk, e] at this
  injection this with this
  exact this.symm
theorem index_has (l : List UInt8) (c : UInt8) : (0 ≤ Lib.indexByte l c) ↔ c ∈ l := by
  induction l with
  | nil => simp [Lib.indexByte]
  | cons b l ih =>
    have hg := Lib.indexByte_ge l c
    unfold Lib.indexByte
    by_cases hb : (b == c) = true
    · rw [if_pos hb]
      have e : b = c := by simpa using hb
      simp [e]
    · rw [if_neg hb]
      have e : ¬ b = c := by simpa using hb
      have e2 : ¬ c = b := fun h => e h.symm
      by_cases h1 : (Lib.indexByte l c == -1) = true
      · rw [if_pos h1]
        have h2 : Lib.indexByte l c = -1 := by simpa using h1
        rw [h2] at ih
        simp [e2]
        intro hm
        have := ih.2 hm
        omega
      · rw [if_neg h1]
        have h2 : ¬ Lib.indexByte l c = -1 := by simpa using h1
        have h3 : 0 ≤ Lib.indexByte l c := by omega
        simp [e2, ih.1 h3]
        omega
theorem index_hasIn (s : ByteArray) (c : UInt8) : (0 ≤ Lib.indexByte s.data.toList c) ↔ hasIn s c = true := by
  rw [index_has, hasIn, decide_eq_true_eq]
theorem l1Stands_any (s : ByteArray) (b : UInt8) (hs : s.size ≤ maxLen) (w : World) : Calls Tryd.prog 34 #[.string s, .int .u8 (b.toNat : Int)] w fun e w' => e = .returned (.bool (hasIn s b)) ∧ Kept w w' := by
  unfold maxLen at hs
  go_enter Tryd.func34, Tryd.ntmps34
  go_wp2_with fail
  go_loopw [5] (fun i wr => ∃ k : Nat, k ≤ s.size ∧ i = .int .i64 (k : Int) ∧ (∀ j, j < k → ¬ bt s j = b) ∧ Kept w wr) (fun i _ => s.size - (intOf i).toNat)
  case atStart => exact ⟨0, by omega, rfl, fun j hj => absurd hj (by omega), Kept.refl _⟩
  case round =>
    obtain ⟨k, hk, rfl, hn, hkw⟩ := hrel
    have HN := Lib.hid hn
    have HK := Lib.hid hkw
    clear hn hkw
    by_cases hlt : k < s.size
    · have k0 : (0 : Int) ≤ (k : Int) := by omega
      have k1 : (k : Int) < (s.size : Int) := by omega
      by_cases hb : bt s k = b
      · have HY := Lib.hid (has_yes hlt hb)
        rw [bt_at hlt] at hb
        have hbe := u8_eq hb
        clear hb
        go_wp2_with fail
        go_ret
        exact ⟨by rw [HY.out]; rfl, HK.out⟩
      · have HX := Lib.hid hb
        rw [bt_at hlt] at hb
        have hbe := u8_ne hb
        clear hb
        go_wp2_with fail
        go_roundw
        case rel => exact ⟨k + 1, by omega, by go_num, upto_succ HN.out HX.out, HK.out⟩
        case measure => simp [intOf]; omega
    · have HF := Lib.hid (has_no (s := s) (b := b) (fun j hj => HN.out j (by omega)))
      go_wp2_with fail
      go_ret
      exact ⟨by rw [HF.out]; rfl, HK.out⟩

def sumT (s : ByteArray) : Int := sumOf s.data.toList
theorem sumT_bd (s : ByteArray) : -1000000 ≤ sumT s ∧ sumT s ≤ 1000000 := by
  have := sumOf_bd s.data.toList
  unfold sumT
  omega
/-- The text with its checksum. -/
def sealT (s : ByteArray) : ByteArray := s ++ ⟨#[35]⟩ ++ itx (sumT s)
theorem seal_size (s : ByteArray) : (sealT s).size = s.size + 1 + (itx (sumT s)).size := by
  simp [sealT, ByteArray.size_append]
  rfl
theorem seal_le (s : ByteArray) : (sealT s).size ≤ s.size + 22 := by
  have h := sumT_bd s
  have := itx_size h.1 h.2
  rw [seal_size]
  omega
def acOk (s : ByteArray) : Bool := decide (s.size ≤ 4000) && !hasIn s 35 && decide ((sealT s).size ≤ 4000)
def acV (s : ByteArray) : ByteArray := if acOk s = true then sealT s else ⟨#[]⟩
theorem ac_no {s : ByteArray} (h : acOk s = false) : acV s = ⟨#[]⟩ := by simp [acV, h]
theorem ac_yes {s : ByteArray} (h : acOk s = true) : acV s = sealT s := by simp [acV, h]
theorem ac_long {s : ByteArray} (h : ¬ s.size ≤ 4000) : acOk s = false := by simp [acOk, h]
theorem ac_has {s : ByteArray} (h : hasIn s 35 = true) : acOk s = false := by simp [acOk, h]
theorem ac_over {s : ByteArray} (h : ¬ (sealT s).size ≤ 4000) : acOk s = false := by simp [acOk, h]
theorem ac_good {s : ByteArray} (h1 : s.size ≤ 4000) (h2 : hasIn s 35 = false) (h3 : (sealT s).size ≤ 4000) : acOk s = true := by simp [acOk, h1, h2, h3]
theorem contains_any (s : ByteArray) (w : World) : Calls Tryd.prog 32 #[.string s, .string ⟨#[35]⟩] w fun e w' => e = .returned (.bool (hasIn s 35)) ∧ w = w' := by
  refine (Tryd.strings_Contains_one s 35 w).mono ?_
  rintro e w' ⟨rfl, rfl⟩
  refine ⟨ret_bool ?_, rfl⟩
  rw [Bool.eq_iff_iff, decide_eq_true_eq, index_hasIn]
theorem appendChecksum_any (s : ByteArray) (hs : s.size ≤ maxLen) (w : World) (ht : PowTab w) : Calls Tryd.prog 16 #[.string s] w fun e w' => e = .returned (.tuple #[.string (acV s), .bool (acOk s)]) ∧ Kept w w' := by
  by_cases h1 : s.size ≤ 4000
  · have z1 : ¬ ((4000 : Int) < (s.size : Int)) := by omega
    have HC := Lib.hid fun W => contains_any s W
    cases h2 : hasIn s 35
    · rw [h2] at HC
      have HS := Lib.hid fun W => checksum_any s hs W
      have hbd := sumT_bd s
      have HN := Lib.hid fun W (h : Kept w W) => itoa_any (sumT s) hbd.1 hbd.2 W (ht.kept h)
      have hq := itx_size hbd.1 hbd.2
      have hzz := seal_size s
      have hX : Hid (sealT s = s ++ ⟨#[35]⟩ ++ itx (sumT s)) := Lib.hid rfl
      change Hid (∀ W, Calls _ _ _ _ fun e w' => e = .returned (.int .i64 (sumT s)) ∧ _) at HS
      generalize itx (sumT s) = q at HN hq hX hzz
      generalize sumT s = m at HN HS
      have hsum : ¬ 9223372036854775807 < s.size + 1 := by omega
      have hsum2 : ¬ 9223372036854775807 < s.size + 1 + q.size := by omega
      by_cases h3 : (sealT s).size ≤ 4000
      · rw [ac_yes (ac_good h1 h2 h3), ac_good h1 h2 h3, hX.out]
        have z3 : ¬ ((4000 : Int) < ((s.size + 1 + q.size : Nat) : Int)) := by omega
        clear h2 h3 hzz hbd
        go_enter Tryd.func16, Tryd.ntmps16
        go_wp2_with (first | (go_at_call 32; (with_reducible refine (HC.out _).mono ?_); rintro e w' ⟨rfl, rfl⟩) | (go_at_call 33; (with_reducible refine (HS.out _).mono ?_); rintro e w' ⟨rfl, rfl⟩) | (go_at_call 24; (with_reducible refine (HN.out _ (by (repeat (first | exact Kept.refl _ | assumption | refine Kept.alloc ?_ _ | refine Kept.drew ?_ | refine Kept.drewN ?_ _ | refine Kept.setCell ?_ (by first | (simp; done) | (simp; omega) | omega | exact Kept.size (by (repeat (first | exact Kept.refl _ | assumption | refine Kept.alloc ?_ _ | refine Kept.drew ?_ | refine Kept.drewN ?_ _ | refine Kept.trans ?_ (by assumption))))) _ | refine Kept.trans ?_ (by assumption))))).mono ?_); rintro e w' ⟨rfl, hk⟩; (try have hkr := Root.trans (by assumption) hk); (first | (have hkf := From.step (by assumption) hk; obtain ⟨hc, hf⟩ := hkf.cells) | (have hkf := From.start hk; obtain ⟨hc, hf⟩ := hkf.cells))))
        go_ret2
        exact ⟨rfl, by (repeat (first | exact Kept.refl _ | assumption | refine Kept.alloc ?_ _ | refine Kept.drew ?_ | refine Kept.drewN ?_ _ | refine Kept.setCell ?_ (by first | (simp; done) | (simp; omega) | omega | exact Kept.size (by (repeat (first | exact Kept.refl _ | assumption | refine Kept.alloc ?_ _ | refine Kept.drew ?_ | refine Kept.drewN ?_ _ | refine Kept.trans ?_ (by assumption))))) _ | refine Kept.trans ?_ (by assumption)))⟩
      · rw [ac_no (ac_over h3), ac_over h3]
        have z3 : ((4000 : Int) < ((s.size + 1 + q.size : Nat) : Int)) := by omega
        clear h2 h3 hzz hbd hX
        go_enter Tryd.func16, Tryd.ntmps16
        go_wp2_with (first | (go_at_call 32; (with_reducible refine (HC.out _).mono ?_); rintro e w' ⟨rfl, rfl⟩) | (go_at_call 33; (with_reducible refine (HS.out _).mono ?_); rintro e w' ⟨rfl, rfl⟩) | (go_at_call 24; (with_reducible refine (HN.out _ (by (repeat (first | exact Kept.refl _ | assumption | refine Kept.alloc ?_ _ | refine Kept.drew ?_ | refine Kept.drewN ?_ _ | refine Kept.setCell ?_ (by first | (simp; done) | (simp; omega) | omega | exact Kept.size (by (repeat (first | exact Kept.refl _ | assumption | refine Kept.alloc ?_ _ | refine Kept.drew ?_ | refine Kept.drewN ?_ _ | refine Kept.trans ?_ (by assumption))))) _ | refine Kept.trans ?_ (by assumption))))).mono ?_); rintro e w' ⟨rfl, hk⟩; (try have hkr := Root.trans (by assumption) hk); (first | (have hkf := From.step (by assumption) hk; obtain ⟨hc, hf⟩ := hkf.cells) | (have hkf := From.start hk; obtain ⟨hc, hf⟩ := hkf.cells))))
        go_ret2
        exact ⟨rfl, by (repeat (first | exact Kept.refl _ | assumption | refine Kept.alloc ?_ _ | refine Kept.drew ?_ | refine Kept.drewN ?_ _ | refine Kept.setCell ?_ (by first | (simp; done) | (simp; omega) | omega | exact Kept.size (by (repeat (first | exact Kept.refl _ | assumption | refine Kept.alloc ?_ _ | refine Kept.drew ?_ | refine Kept.drewN ?_ _ | refine Kept.trans ?_ (by assumption))))) _ | refine Kept.trans ?_ (by assumption)))⟩
    · rw [ac_no (ac_has h2), ac_has h2]
      rw [h2] at HC
      clear h2
      go_enter Tryd.func16, Tryd.ntmps16
      go_wp2_with (first | (go_at_call 32; (with_reducible refine (HC.out _).mono ?_); rintro e w' ⟨rfl, rfl⟩))
      go_ret2
      exact ⟨rfl, Kept.refl _⟩
  · rw [ac_no (ac_long h1), ac_long h1]
    have z1 : ((4000 : Int) < (s.size : Int)) := by omega
    go_enter Tryd.func16, Tryd.ntmps16
    go_wp2_with fail
    go_ret2
    exact ⟨rfl, Kept.refl _⟩
theorem l1Seal_any (s : ByteArray) (hs : s.size ≤ 1048576) (w : World) : Calls Tryd.prog 35 #[.string s] w fun e w' => e = .returned (.string (sealT s)) ∧ Kept w w' := by
  have hs' : s.size ≤ maxLen := by unfold maxLen; omega
  have HS := Lib.hid fun W => l1Sum_any s hs' W
  have hbd := sumT_bd s
  have HN := Lib.hid fun W => l1Num_any (sumT s) hbd.1 hbd.2 W
  have hq := itx_size hbd.1 hbd.2
  have hX : Hid (sealT s = s ++ ⟨#[35]⟩ ++ itx (sumT s)) := Lib.hid rfl
  change Hid (∀ W, Calls _ _ _ _ fun e w' => e = .returned (.int .i64 (sumT s)) ∧ _) at HS
  rw [hX.out]
  generalize itx (sumT s) = q at HN hq hX ⊢
  generalize sumT s = m at HN HS
  have hsum : ¬ 9223372036854775807 < s.size + 1 := by omega
  have hsum2 : ¬ 9223372036854775807 < s.size + 1 + q.size := by omega
  clear hbd hX hs'
  go_enter Tryd.func35, Tryd.ntmps35
  go_wp2_with (first | (go_at_call 43; (with_reducible refine (HS.out _).mono ?_); rintro e w' ⟨rfl, rfl⟩) | (go_at_call 28; (with_reducible refine (HN.out _).mono ?_); rintro e w' ⟨rfl, hk⟩; (try have hkr := Root.trans (by assumption) hk); (first | (have hkf := From.step (by assumption) hk; obtain ⟨hc, hf⟩ := hkf.cells) | (have hkf := From.start hk; obtain ⟨hc, hf⟩ := hkf.cells))))
  go_ret
  exact ⟨rfl, by (repeat (first | exact Kept.refl _ | assumption | refine Kept.alloc ?_ _ | refine Kept.drew ?_ | refine Kept.drewN ?_ _ | refine Kept.setCell ?_ (by first | (simp; done) | (simp; omega) | omega | exact Kept.size (by (repeat (first | exact Kept.refl _ | assumption | refine Kept.alloc ?_ _ | refine Kept.drew ?_ | refine Kept.drewN ?_ _ | refine Kept.trans ?_ (by assumption))))) _ | refine Kept.trans ?_ (by assumption)))⟩
theorem sAppendChecksum_any (s : ByteArray) (hs : s.size ≤ 1048576) (w : World) : Calls Tryd.prog 17 #[.string s] w fun e w' => e = .returned (.tuple #[.string (acV s), .bool (acOk s)]) ∧ Kept w w' := by
  have hs' : s.size ≤ maxLen := by unfold maxLen; omega
  by_cases h1 : s.size ≤ 4000
  · have z1 : ¬ ((4000 : Int) < (s.size : Int)) := by omega
    have HC : Hid (∀ W : World, Calls Tryd.prog 34 #[.string s, .int .u8 35] W fun e w' => e = .returned (.bool (hasIn s 35)) ∧ Kept W w') := Lib.hid fun W => l1Stands_any s 35 hs' W
    cases h2 : hasIn s 35
    · rw [h2] at HC
      have HS := Lib.hid fun W => l1Seal_any s hs W
      by_cases h3 : (sealT s).size ≤ 4000
      · rw [ac_yes (ac_good h1 h2 h3), ac_good h1 h2 h3]
        generalize sealT s = q at HS h3 ⊢
        have z3 : ¬ ((4000 : Int) < (q.size : Int)) := by omega
        clear h2 h3
        go_enter Tryd.func17, Tryd.ntmps17
        go_wp2_with (first | (go_at_call 34; (with_reducible refine (HC.out _).mono ?_); rintro e w' ⟨rfl, hk⟩; (try have hkr := Root.trans (by assumption) hk); (first | (have hkf := From.step (by assumption) hk; obtain ⟨hc, hf⟩ := hkf.cells) | (have hkf := From.start hk; obtain ⟨hc, hf⟩ := hkf.cells))) | (go_at_call 35; (with_reducible refine (HS.out _).mono ?_); rintro e w' ⟨rfl, hk⟩; (try have hkr := Root.trans (by assumption) hk); (first | (have hkf := From.step (by assumption) hk; obtain ⟨hc, hf⟩ := hkf.cells) | (have hkf := From.start hk; obtain ⟨hc, hf⟩ := hkf.cells))))
        go_ret2
        exact ⟨rfl, by (repeat (first | exact Kept.refl _ | assumption | refine Kept.alloc ?_ _ | refine Kept.drew ?_ | refine Kept.drewN ?_ _ | refine Kept.setCell ?_ (by first | (simp; done) | (simp; omega) | omega | exact Kept.size (by (repeat (first | exact Kept.refl _ | assumption | refine Kept.alloc ?_ _ | refine Kept.drew ?_ | refine Kept.drewN ?_ _ | refine Kept.trans ?_ (by assumption))))) _ | refine Kept.trans ?_ (by assumption)))⟩
      · rw [ac_no (ac_over h3), ac_over h3]
        generalize sealT s = q at HS h3
        have z3 : ((4000 : Int) < (q.size : Int)) := by omega
        clear h2 h3
        go_enter Tryd.func17, Tryd.ntmps17
        go_wp2_with (first | (go_at_call 34; (with_reducible refine (HC.out _).mono ?_); rintro e w' ⟨rfl, hk⟩; (try have hkr := Root.trans (by assumption) hk); (first | (have hkf := From.step (by assumption) hk; obtain ⟨hc, hf⟩ := hkf.cells) | (have hkf := From.start hk; obtain ⟨hc, hf⟩ := hkf.cells))) | (go_at_call 35; (with_reducible refine (HS.out _).mono ?_); rintro e w' ⟨rfl, hk⟩; (try have hkr := Root.trans (by assumption) hk); (first | (have hkf := From.step (by assumption) hk; obtain ⟨hc, hf⟩ := hkf.cells) | (have hkf := From.start hk; obtain ⟨hc, hf⟩ := hkf.cells))))
        go_ret2
        exact ⟨rfl, by (repeat (first | exact Kept.refl _ | assumption | refine Kept.alloc ?_ _ | refine Kept.drew ?_ | refine Kept.drewN ?_ _ | refine Kept.setCell ?_ (by first | (simp; done) | (simp; omega) | omega | exact Kept.size (by (repeat (first | exact Kept.refl _ | assumption | refine Kept.alloc ?_ _ | refine Kept.drew ?_ | refine Kept.drewN ?_ _ | refine Kept.trans ?_ (by assumption))))) _ | refine Kept.trans ?_ (by assumption)))⟩
    · rw [ac_no (ac_has h2), ac_has h2]
      rw [h2] at HC
      clear h2
      go_enter Tryd.func17, Tryd.ntmps17
      go_wp2_with (first | (go_at_call 34; (with_reducible refine (HC.out _).mono ?_); rintro e w' ⟨rfl, hk⟩; (try have hkr := Root.trans (by assumption) hk); (first | (have hkf := From.step (by assumption) hk; obtain ⟨hc, hf⟩ := hkf.cells) | (have hkf := From.start hk; obtain ⟨hc, hf⟩ := hkf.cells))))
      go_ret2
      exact ⟨rfl, by (repeat (first | exact Kept.refl _ | assumption | refine Kept.alloc ?_ _ | refine Kept.drew ?_ | refine Kept.drewN ?_ _ | refine Kept.setCell ?_ (by first | (simp; done) | (simp; omega) | omega | exact Kept.size (by (repeat (first | exact Kept.refl _ | assumption | refine Kept.alloc ?_ _ | refine Kept.drew ?_ | refine Kept.drewN ?_ _ | refine Kept.trans ?_ (by assumption))))) _ | refine Kept.trans ?_ (by assumption)))⟩
  · rw [ac_no (ac_long h1), ac_long h1]
    have z1 : ((4000 : Int) < (s.size : Int)) := by omega
    go_enter Tryd.func17, Tryd.ntmps17
    go_wp2_with fail
    go_ret2
    exact ⟨rfl, Kept.refl _⟩
theorem lawAppendChecksum (s : ByteArray) (hs : s.size ≤ 9223372036854775807) (w : World) (ht : PowTab w) : Calls Tryd.prog 6 #[.string s] w fun e w' => e = .returned (.bool true) ∧ Kept w w' := by
  by_cases hz : 1048576 < s.size
  · have z1 : (1048576 : Int) < (s.size : Int) := by omega
    go_enter Tryd.func6, Tryd.ntmps6
    go_wp2_with fail
    go_ret
    exact ⟨rfl, Kept.refl _⟩
  have z1 : ¬ ((1048576 : Int) < (s.size : Int)) := by omega
  have HS := Lib.hid (sAppendChecksum_any s (by omega) w)
  have HI := Lib.hid fun W (h : Kept w W) => appendChecksum_any s (by unfold maxLen; omega) W (ht.kept h)
  generalize acV s = t at HS HI
  generalize acOk s = b at HS HI
  go_enter Tryd.func6, Tryd.ntmps6
  go_wp2_with fail
  refine HS.out.mono ?_
  rintro e w1 ⟨rfl, k1⟩
  go_wp2_with fail
  refine (HI.out _ k1).mono ?_
  rintro e w2 ⟨rfl, k2⟩
  go_wp2_with fail
  go_ret
  exact ⟨rfl, k1.trans k2⟩
end Go.Proofs.YtlnhdjajbiahbaaDoor

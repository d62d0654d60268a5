/-
  Contracts of ParseInt, the program's and the reference's; the walk of its law.
  Conditions: none but that the listed variables read as they were laid.
-/
import Derived.Test.YtlnhdjajbiahbaaDoorDNum
import Derived.Test.YtlnhdjajbiahbaaDoorSplit
import Derived.Lib.AtoiErrMem
import Derived.Lib.Atoi
namespace Go.Proofs.YtlnhdjajbiahbaaDoor
open Go.ChangeShapes Go.WideShapes Go.ChangeAt Go.RowKit
set_option linter.unusedVariables false
set_option linter.unusedSimpArgs false

theorem dv : ∀ d : Fin 10, Lib.digitVal (UInt8.ofNat (48 + d.val)) = some d.val := by decide +kernel
theorem dv_at {d : Nat} (h : d < 10) : Lib.digitVal (UInt8.ofNat (48 + d)) = some d := dv ⟨d, h⟩
theorem dv_none {b : UInt8} (h : Lib.digitVal b = none) : b.toNat < 48 ∨ 57 < b.toNat := by
  unfold Lib.digitVal at h
  split at h
  · cases h
  · omega
theorem ba_get {t : ByteArray} {k : Nat} (h : k < t.size) : t.data.toList[k]? = some t[k] := by
  have h' : k < t.data.toList.length := by simpa using h
  rw [List.getElem?_eq_getElem h']
  simp
  rfl
theorem dec_round (u : Nat) : Lib.decFrom 0 (Lib.decDigits u) = some u := by
  induction u using Nat.strongRecOn with
  | ind u ih =>
    by_cases h : u < 10
    · rw [Lib.decDigits_one h]
      simp only [Lib.decFrom, dv_at h]
      simp
    · rw [Lib.decDigits, dif_neg h]
      have h1 := ih (u / 10) (by omega)
      have := Lib.decFrom_take (Lib.decDigits (u / 10) ++ [UInt8.ofNat (48 + u % 10)]) (Lib.decDigits (u / 10)).length 0 (u / 10) (UInt8.ofNat (48 + u % 10)) (u % 10) (by simpa using h1) (by simp) (dv_at (by omega))
      rw [List.take_of_length_le (by simp)] at this
      rw [this]
      congr 1
      omega
theorem dec_len {u : Nat} (h : u ≤ 999999) : 1 ≤ (Lib.decDigits u).length ∧ (Lib.decDigits u).length ≤ 6 := by
  rw [Lib.decDigits_length]
  refine ⟨Lib.nDigits_pos u, ?_⟩
  by_cases h1 : u < 10
  · rw [Lib.nDigits_small h1]; omega
  by_cases h2 : u < 100
  · rw [Lib.nDigits_unique 1 u (by omega) (by omega)]; omega
  by_cases h3 : u < 1000
  · rw [Lib.nDigits_unique 2 u (by omega) (by omega)]; omega
  by_cases h4 : u < 10000
  · rw [Lib.nDigits_unique 3 u (by omega) (by omega)]; omega
  by_cases h5 : u < 100000
  · rw [Lib.nDigits_unique 4 u (by omega) (by omega)]; omega
  · rw [Lib.nDigits_unique 5 u (by omega) (by omega)]; omega
theorem dec_head {u : Nat} : ∃ b r, Lib.decDigits u = b :: r ∧ 48 ≤ b.toNat ∧ b.toNat ≤ 57 := by
  cases h : Lib.decDigits u with
  | nil =>
    have := Lib.decDigits_length u
    have := Lib.nDigits_pos u
    rw [h] at *
    simp at *
    omega
  | cons b r =>
    obtain ⟨d, hd⟩ := Lib.digit_of_decFrom _ _ _ (dec_round u) 0 b (by rw [h]; rfl)
    obtain ⟨h1, h2, -⟩ := Lib.digitVal_eq hd
    exact ⟨b, r, rfl, h1, h2⟩
theorem atoi_round (n : Int) : Lib.atoi (Lib.itoa n) = some n := by
  unfold Lib.itoa
  split
  · rename_i h
    obtain ⟨b, r, e, -, -⟩ := dec_head (u := n.natAbs)
    have hr := dec_round n.natAbs
    rw [e] at hr ⊢
    simp only [Lib.atoi, Lib.decNat, hr]
    simp
    omega
  · rename_i h
    obtain ⟨b, r, e, b0, b1⟩ := dec_head (u := n.toNat)
    have hr := dec_round n.toNat
    rw [e] at hr ⊢
    have n1 : (b == 45) = false := by rw [beq_eq_false_iff_ne]; rintro rfl; revert b0; decide
    have n2 : (b == 43) = false := by rw [beq_eq_false_iff_ne]; rintro rfl; revert b0; decide
    simp only [Lib.atoi, Lib.decNat, hr, n1, n2]
    simp
    omega
def piN (s : ByteArray) : Option Int := match Lib.atoi s.data.toList with
  | some n => if inB n (-999999) 999999 = true ∧ itx n = s then some n else none
  | none => none
def piV (s : ByteArray) : Int := (piN s).getD 0
def piOk (s : ByteArray) : Bool := (piN s).isSome
theorem pi_of {s : ByteArray} {n : Int} (h : inB n (-999999) 999999 = true) (e : itx n = s) : piN s = some n := by
  subst e
  have ha : Lib.atoi (itx n).data.toList = some n := by simpa [itx] using atoi_round n
  simp [piN, ha, h]
theorem pi_is {s : ByteArray} {n : Int} (h : piN s = some n) : inB n (-999999) 999999 = true ∧ itx n = s := by
  unfold piN at h
  split at h
  · split at h
    · rename_i hh
      injection h with h
      subst h
      exact hh
    · cases h
  · cases h
theorem pi_none {s : ByteArray} (h : ∀ n, inB n (-999999) 999999 = true → itx n = s → False) : piN s = none := by
  cases hp : piN s with
  | none => rfl
  | some n => exact (h n (pi_is hp).1 (pi_is hp).2).elim
theorem pi_no {s : ByteArray} (h : piN s = none) : piV s = 0 ∧ piOk s = false := by simp [piV, piOk, h]
theorem pi_yes {s : ByteArray} {n : Int} (h : piN s = some n) : piV s = n ∧ piOk s = true := by simp [piV, piOk, h]
/-- What a numeral in range looks like. -/
theorem itx_form {n : Int} (h : inB n (-999999) 999999 = true) : (0 ≤ n ∧ (itx n).data.toList = Lib.decDigits n.toNat ∧ n.toNat ≤ 999999) ∨ (n < 0 ∧ (itx n).data.toList = 45 :: Lib.decDigits n.natAbs ∧ n.natAbs ≤ 999999) := by
  simp [inB] at h
  by_cases hn : n < 0
  · exact Or.inr ⟨hn, by simp [itx, Lib.itoa, hn], by omega⟩
  · exact Or.inl ⟨by omega, by simp [itx, Lib.itoa, hn], by omega⟩
theorem itx_size7 {n : Int} (h : inB n (-999999) 999999 = true) : (itx n).size ≤ 7 := by
  rcases itx_form h with ⟨-, e, hu⟩ | ⟨-, e, hu⟩
  · have := dec_len hu
    rw [Lib.size_eq, e]
    omega
  · have := dec_len hu
    rw [Lib.size_eq, e]
    simp
    omega
theorem dec_take_lt {l : List UInt8} {k m : Nat} (h : Lib.decFrom 0 (l.take k) = some m) (hk : k ≤ 6) : m < 1000000 := by
  have h1 := Lib.decFrom_lt _ _ _ h
  have h2 : (l.take k).length ≤ 6 := by rw [List.length_take]; omega
  have h3 : 10 ^ (l.take k).length ≤ 10 ^ 6 := Nat.pow_le_pow_right (by omega) h2
  omega
theorem dec_all_lt {t : ByteArray} {m : Nat} (h : Lib.decFrom 0 t.data.toList = some m) (hk : t.size ≤ 6) : m < 1000000 := by
  refine dec_take_lt (l := t.data.toList) (k := 6) ?_ (Nat.le_refl _)
  rw [List.take_of_length_le (by rw [← Lib.size_eq]; omega)]
  exact h
/-- How the text's digits lie, where there is no sign, or a sign. -/
theorem pi_plain {s : ByteArray} (hns : ¬ (1 < s.size ∧ bt s 0 = 45)) : (¬ (1 ≤ s.size ∧ s.size ≤ 6) → piN s = none) ∧ ((∀ u, Lib.decFrom 0 s.data.toList = some u → False) → piN s = none) ∧
    (∀ m : Nat, Lib.decFrom 0 s.data.toList = some m → itx (m : Int) = s → s.size ≤ 6 → piN s = some (m : Int)) ∧ (∀ m : Nat, Lib.decFrom 0 s.data.toList = some m → ¬ itx (m : Int) = s → piN s = none) := by
  have key : ∀ n, inB n (-999999) 999999 = true → itx n = s → 0 ≤ n ∧ s.data.toList = Lib.decDigits n.toNat ∧ n.toNat ≤ 999999 := by
    intro n h e
    rcases itx_form h with ⟨h0, e1, hu⟩ | ⟨h0, e1, hu⟩
    · rw [e] at e1
      exact ⟨h0, e1, hu⟩
    · rw [e] at e1
      have hl := dec_len hu
      have hs : 1 < s.size := by rw [Lib.size_eq, e1]; simp; omega
      refine (hns ⟨hs, ?_⟩).elim
      have hg := ba_get (t := s) (k := 0) (by omega)
      rw [e1] at hg
      simp only [List.getElem?_cons_zero, Option.some.injEq] at hg
      rw [bt_at (by omega)]
      exact hg.symm
  refine ⟨fun h => pi_none fun n hn e => ?_, fun h => pi_none fun n hn e => ?_, fun m hm e hz => ?_, fun m hm e => pi_none fun n hn e2 => ?_⟩
  · obtain ⟨-, e1, hu⟩ := key n hn e
    have := dec_len hu
    rw [← e1, ← Lib.size_eq] at this
    exact h this
  · obtain ⟨-, e1, hu⟩ := key n hn e
    exact h _ (by rw [e1]; exact dec_round _)
  · have := dec_all_lt hm hz
    exact pi_of (by simp [inB]; omega) e
  · obtain ⟨h0, e1, hu⟩ := key n hn e2
    have h2 := dec_round n.toNat
    rw [← e1, hm] at h2
    injection h2 with h2
    apply e
    rw [h2, show ((n.toNat : Nat) : Int) = n by omega]
    exact e2
theorem tail_list {s : ByteArray} (h : 1 < s.size) (hb : bt s 0 = 45) : s.data.toList = 45 :: (s.extract 1 s.size).data.toList := by
  have hg := ba_get (t := s) (k := 0) (by omega)
  rw [← bt_at (by omega), hb] at hg
  have hx : (s.extract 1 s.size).data.toList = s.data.toList.drop 1 := by
    have hz := Lib.size_eq s
    simp [ByteArray.data_extract, Array.toList_extract]
    (try rw [List.take_of_length_le (by first | (simp; done) | (simp; omega))])
  rw [hx]
  cases hl : s.data.toList with
  | nil => rw [hl] at hg; simp at hg
  | cons a r => rw [hl] at hg; simp at hg; simp [hg]
theorem pi_sign {s : ByteArray} (h1 : 1 < s.size) (hb : bt s 0 = 45) : let t := s.extract 1 s.size
    (¬ (1 ≤ t.size ∧ t.size ≤ 6) → piN s = none) ∧ ((∀ u, Lib.decFrom 0 t.data.toList = some u → False) → piN s = none) ∧
    (∀ m : Nat, Lib.decFrom 0 t.data.toList = some m → itx (-(m : Int)) = s → t.size ≤ 6 → piN s = some (-(m : Int))) ∧ (∀ m : Nat, Lib.decFrom 0 t.data.toList = some m → ¬ itx (-(m : Int)) = s → piN s = none) := by
  intro t
  have hs := tail_list h1 hb
  change s.data.toList = 45 :: t.data.toList at hs
  have key : ∀ n, inB n (-999999) 999999 = true → itx n = s → n < 0 ∧ t.data.toList = Lib.decDigits n.natAbs ∧ n.natAbs ≤ 999999 := by
    intro n h e
    rcases itx_form h with ⟨h0, e1, hu⟩ | ⟨h0, e1, hu⟩
    · rw [e, hs] at e1
      obtain ⟨b, r, e2, b0, -⟩ := dec_head (u := n.toNat)
      rw [e2] at e1
      simp only [List.cons.injEq] at e1
      obtain ⟨rfl, -⟩ := e1
      exact absurd b0 (by decide)
    · rw [e, hs] at e1
      simp only [List.cons.injEq, true_and] at e1
      exact ⟨h0, e1, hu⟩
  refine ⟨fun h => pi_none fun n hn e => ?_, fun h => pi_none fun n hn e => ?_, fun m hm e hz => ?_, fun m hm e => pi_none fun n hn e2 => ?_⟩
  · obtain ⟨-, e1, hu⟩ := key n hn e
    have := dec_len hu
    rw [← e1, ← Lib.size_eq] at this
    exact h this
  · obtain ⟨-, e1, hu⟩ := key n hn e
    exact h _ (by rw [e1]; exact dec_round _)
  · have := dec_all_lt hm hz
    exact pi_of (by simp [inB]; omega) e
  · obtain ⟨h0, e1, hu⟩ := key n hn e2
    have h2 := dec_round n.natAbs
    rw [← e1, hm] at h2
    injection h2 with h2
    apply e
    rw [h2, show -((n.natAbs : Nat) : Int) = n by omega]
    exact e2
set_option maxHeartbeats 1000000 in
theorem l1Read_any (s : ByteArray) (hz : s.size ≤ 1048576) (w : World) : Calls Tryd.prog 21 #[.string s] w fun e w' => e = .returned (.tuple #[.int .i64 (piV s), .bool (piOk s)]) ∧ Kept w w' := by
  have hno := pi_no (s := s)
  by_cases hm : 1 < s.size ∧ bt s 0 = 45
  · obtain ⟨m0, m1⟩ := hm
    obtain ⟨p1, p2, p3, p4⟩ := pi_sign m0 m1
    have HNL := Lib.hid fun h => hno (p1 h)
    have HNO := Lib.hid fun h => hno (p2 h)
    have hts : (s.extract 1 s.size).size < s.size := by simp; omega
    have HY := Lib.hid fun m h e hz6 => pi_yes (p3 m h e hz6)
    have HNE := Lib.hid fun m h e => hno (p4 m h e)
    rw [bt_at (by omega)] at m1
    have hbe : ((s[0].toNat : Int) == 45) = true := by rw [m1]; rfl
    have z1 : (1 : Int) < (s.size : Int) := by omega
    have z2 : (0 : Int) < (s.size : Int) := by omega
    have z3 : (1 : Int) ≤ (s.size : Int) := by omega
    clear m1 hno p1 p2 p3 p4
    go_enter Tryd.func21, Tryd.ntmps21
    go_wp2_with fail
    have hsz : (s.extract 1 s.size).size = s.size - 1 := by simp
    rw [← hsz]
    clear hsz
    generalize s.extract 1 s.size = t at HNL HNO hts HY HNE ⊢
    by_cases hl : 1 ≤ t.size ∧ t.size ≤ 6
    · obtain ⟨l0, l1⟩ := hl
      have hin : inB (t.size : Int) 1 6 = true := by simp [inB]; omega
      have HI := Lib.hid fun W => l1In_any (t.size : Int) 1 6 W
      rw [hin] at HI
      have hlt : (t.size : Int) < (s.size : Int) := by omega
      clear hin
      go_wp2_with (go_at_call 27; (with_reducible refine (HI.out _).mono ?_); rintro e w' ⟨rfl, rfl⟩)
      go_loopw [5, 6] (fun n i wr => ∃ k m : Nat, k ≤ t.size ∧ i = .int .i64 (k : Int) ∧ n = .int .i64 (m : Int) ∧ Lib.decFrom 0 (t.data.toList.take k) = some m ∧ wr = w) (fun _ i _ => t.size - (intOf i).toNat)
      case atStart => exact ⟨0, 0, by omega, rfl, rfl, by simp [Lib.decFrom], rfl⟩
      case round =>
        obtain ⟨k, m, hk, rfl, rfl, hm, rfl⟩ := hrel
        have HM := Lib.hid hm
        clear hm
        by_cases hkt : k < t.size
        · have k0 : (0 : Int) ≤ (k : Int) := by omega
          have k1 : (k : Int) < (t.size : Int) := by omega
          have hg : t.data.toList[k]? = some t[k] := ba_get hkt
          cases hd : Lib.digitVal t[k] with
          | none =>
            have HP := Lib.hid (HNO.out (fun u hu => by obtain ⟨x, hx⟩ := Lib.digit_of_decFrom _ _ _ hu k _ hg; rw [hd] at hx; cases hx))
            have hv := dv_none hd
            clear hg hd
            generalize hb : t[k] = b at hv
            by_cases hb1 : (b.toNat : Int) < 48
            · go_wp2_with fail
              go_ret2
              exact ⟨by rw [HP.out.1, HP.out.2]; rfl, by (repeat (first | exact Kept.refl _ | assumption | refine Kept.alloc ?_ _ | refine Kept.drew ?_ | refine Kept.drewN ?_ _ | refine Kept.setCell ?_ (by first | (simp; done) | (simp; omega) | omega | exact Kept.size (by (repeat (first | exact Kept.refl _ | assumption | refine Kept.alloc ?_ _ | refine Kept.drew ?_ | refine Kept.drewN ?_ _ | refine Kept.trans ?_ (by assumption))))) _ | refine Kept.trans ?_ (by assumption)))⟩
            · have hb2 : (57 : Int) < (b.toNat : Int) := by omega
              go_wp2_with fail
              go_ret2
              exact ⟨by rw [HP.out.1, HP.out.2]; rfl, by (repeat (first | exact Kept.refl _ | assumption | refine Kept.alloc ?_ _ | refine Kept.drew ?_ | refine Kept.drewN ?_ _ | refine Kept.setCell ?_ (by first | (simp; done) | (simp; omega) | omega | exact Kept.size (by (repeat (first | exact Kept.refl _ | assumption | refine Kept.alloc ?_ _ | refine Kept.drew ?_ | refine Kept.drewN ?_ _ | refine Kept.trans ?_ (by assumption))))) _ | refine Kept.trans ?_ (by assumption)))⟩
          | some d =>
            have HS := Lib.hid (Lib.decFrom_take _ k 0 m _ d HM.out hg hd)
            obtain ⟨d0, d1, d2⟩ := Lib.digitVal_eq hd
            have hmb := dec_take_lt HM.out (show k ≤ 6 by omega)
            clear hg hd
            generalize hb : t[k] = b at d0 d1 d2
            have b1 : ¬ ((b.toNat : Int) < 48) := by omega
            have b2 : ¬ ((57 : Int) < (b.toNat : Int)) := by omega
            have w1 : IntKind.u8.wrap ((b.toNat : Int) - 48) = (d : Int) := by rw [IntKind.wrap_u8]; omega
            have w2 : IntKind.i64.wrap (10 * (m : Int)) = 10 * (m : Int) := by rw [IntKind.wrap_i64]; omega
            have w3 : IntKind.i64.wrap (10 * (m : Int) + (d : Int)) = 10 * (m : Int) + (d : Int) := by rw [IntKind.wrap_i64]; omega
            have w4 : IntKind.i64.wrap (d : Int) = (d : Int) := by rw [IntKind.wrap_i64]; omega
            go_wp2_with fail
            go_roundw
            case rel => exact ⟨k + 1, m * 10 + d, by omega, by go_num, by go_num, HS.out, by trivial⟩
            case measure => simp [intOf]; omega
        · have e : t.data.toList.take k = t.data.toList := List.take_of_length_le (by rw [← Lib.size_eq]; omega)
          have HD : Hid (Lib.decFrom 0 t.data.toList = some m) := Lib.hid (by rw [← e]; exact HM.out)
          have hmb := dec_all_lt HD.out (show t.size ≤ 6 by omega)
          have HN := Lib.hid fun W => l1Num_any (-(m : Int)) (by omega) (by omega) W
          clear e HM
          by_cases he : itx (-(m : Int)) = s
          · have HP := Lib.hid (HY.out m HD.out he l1)
            rw [he] at HN
            go_wp2_with (go_at_call 28; (with_reducible refine (HN.out _).mono ?_); rintro e w' ⟨rfl, hk⟩; (try have hkr := Root.trans (by assumption) hk); (first | (have hkf := From.step (by assumption) hk; obtain ⟨hc, hf⟩ := hkf.cells) | (have hkf := From.start hk; obtain ⟨hc, hf⟩ := hkf.cells)))
            go_ret2
            exact ⟨by rw [HP.out.1, HP.out.2]; rfl, by (repeat (first | exact Kept.refl _ | assumption | refine Kept.alloc ?_ _ | refine Kept.drew ?_ | refine Kept.drewN ?_ _ | refine Kept.setCell ?_ (by first | (simp; done) | (simp; omega) | omega | exact Kept.size (by (repeat (first | exact Kept.refl _ | assumption | refine Kept.alloc ?_ _ | refine Kept.drew ?_ | refine Kept.drewN ?_ _ | refine Kept.trans ?_ (by assumption))))) _ | refine Kept.trans ?_ (by assumption)))⟩
          · have HP := Lib.hid (HNE.out m HD.out he)
            have hq := txt_ne he
            generalize itx (-(m : Int)) = x at HN hq
            clear he
            go_wp2_with (go_at_call 28; (with_reducible refine (HN.out _).mono ?_); rintro e w' ⟨rfl, hk⟩; (try have hkr := Root.trans (by assumption) hk); (first | (have hkf := From.step (by assumption) hk; obtain ⟨hc, hf⟩ := hkf.cells) | (have hkf := From.start hk; obtain ⟨hc, hf⟩ := hkf.cells)))
            go_ret2
            exact ⟨by rw [HP.out.1, HP.out.2]; rfl, by (repeat (first | exact Kept.refl _ | assumption | refine Kept.alloc ?_ _ | refine Kept.drew ?_ | refine Kept.drewN ?_ _ | refine Kept.setCell ?_ (by first | (simp; done) | (simp; omega) | omega | exact Kept.size (by (repeat (first | exact Kept.refl _ | assumption | refine Kept.alloc ?_ _ | refine Kept.drew ?_ | refine Kept.drewN ?_ _ | refine Kept.trans ?_ (by assumption))))) _ | refine Kept.trans ?_ (by assumption)))⟩
    · have hin : inB (t.size : Int) 1 6 = false := by simp [inB]; omega
      have HI := Lib.hid fun W => l1In_any (t.size : Int) 1 6 W
      rw [hin] at HI
      have HP := Lib.hid (HNL.out hl)
      clear hin hl
      go_wp2_with (go_at_call 27; (with_reducible refine (HI.out _).mono ?_); rintro e w' ⟨rfl, rfl⟩)
      go_ret2
      exact ⟨by rw [HP.out.1, HP.out.2]; rfl, by (repeat (first | exact Kept.refl _ | assumption | refine Kept.alloc ?_ _ | refine Kept.drew ?_ | refine Kept.drewN ?_ _ | refine Kept.setCell ?_ (by first | (simp; done) | (simp; omega) | omega | exact Kept.size (by (repeat (first | exact Kept.refl _ | assumption | refine Kept.alloc ?_ _ | refine Kept.drew ?_ | refine Kept.drewN ?_ _ | refine Kept.trans ?_ (by assumption))))) _ | refine Kept.trans ?_ (by assumption)))⟩
  · obtain ⟨p1, p2, p3, p4⟩ := pi_plain hm
    have HNL := Lib.hid fun h => hno (p1 h)
    have HNO := Lib.hid fun h => hno (p2 h)
    have HY := Lib.hid fun m h e hz6 => pi_yes (p3 m h e hz6)
    have HNE := Lib.hid fun m h e => hno (p4 m h e)
    clear hno p1 p2 p3 p4
    by_cases m0 : 1 < s.size
    · have m1 : ¬ bt s 0 = 45 := fun h => hm ⟨m0, h⟩
      rw [bt_at (by omega)] at m1
      have hbe : ((s[0].toNat : Int) == 45) = false := u8_ne (b := 45) m1
      have z1 : (1 : Int) < (s.size : Int) := by omega
      have z2 : (0 : Int) < (s.size : Int) := by omega
      clear m1 hm
      go_enter Tryd.func21, Tryd.ntmps21
      go_wp2_with fail
      by_cases hl : 1 ≤ s.size ∧ s.size ≤ 6
      · obtain ⟨l0, l1⟩ := hl
        have hin : inB (s.size : Int) 1 6 = true := by simp [inB]; omega
        have HI := Lib.hid fun W => l1In_any (s.size : Int) 1 6 W
        rw [hin] at HI
        have hlt : ¬ ((s.size : Int) < (s.size : Int)) := by omega
        clear hin
        go_wp2_with (go_at_call 27; (with_reducible refine (HI.out _).mono ?_); rintro e w' ⟨rfl, rfl⟩)
        go_loopw [5, 6] (fun n i wr => ∃ k m : Nat, k ≤ s.size ∧ i = .int .i64 (k : Int) ∧ n = .int .i64 (m : Int) ∧ Lib.decFrom 0 (s.data.toList.take k) = some m ∧ wr = w) (fun _ i _ => s.size - (intOf i).toNat)
        case atStart => exact ⟨0, 0, by omega, rfl, rfl, by simp [Lib.decFrom], rfl⟩
        case round =>
          obtain ⟨k, m, hk, rfl, rfl, hm, rfl⟩ := hrel
          have HM := Lib.hid hm
          clear hm
          by_cases hkt : k < s.size
          · have k0 : (0 : Int) ≤ (k : Int) := by omega
            have k1 : (k : Int) < (s.size : Int) := by omega
            have hg : s.data.toList[k]? = some s[k] := ba_get hkt
            cases hd : Lib.digitVal s[k] with
            | none =>
              have HP := Lib.hid (HNO.out (fun u hu => by obtain ⟨x, hx⟩ := Lib.digit_of_decFrom _ _ _ hu k _ hg; rw [hd] at hx; cases hx))
              have hv := dv_none hd
              clear hg hd
              generalize hb : s[k] = b at hv
              by_cases hb1 : (b.toNat : Int) < 48
              · go_wp2_with fail
                go_ret2
                exact ⟨by rw [HP.out.1, HP.out.2]; rfl, by (repeat (first | exact Kept.refl _ | assumption | refine Kept.alloc ?_ _ | refine Kept.drew ?_ | refine Kept.drewN ?_ _ | refine Kept.setCell ?_ (by first | (simp; done) | (simp; omega) | omega | exact Kept.size (by (repeat (first | exact Kept.refl _ | assumption | refine Kept.alloc ?_ _ | refine Kept.drew ?_ | refine Kept.drewN ?_ _ | refine Kept.trans ?_ (by assumption))))) _ | refine Kept.trans ?_ (by assumption)))⟩
              · have hb2 : (57 : Int) < (b.toNat : Int) := by omega
                go_wp2_with fail
                go_ret2
                exact ⟨by rw [HP.out.1, HP.out.2]; rfl, by (repeat (first | exact Kept.refl _ | assumption | refine Kept.alloc ?_ _ | refine Kept.drew ?_ | refine Kept.drewN ?_ _ | refine Kept.setCell ?_ (by first | (simp; done) | (simp; omega) | omega | exact Kept.size (by (repeat (first | exact Kept.refl _ | assumption | refine Kept.alloc ?_ _ | refine Kept.drew ?_ | refine Kept.drewN ?_ _ | refine Kept.trans ?_ (by assumption))))) _ | refine Kept.trans ?_ (by assumption)))⟩
            | some d =>
              have HS := Lib.hid (Lib.decFrom_take _ k 0 m _ d HM.out hg hd)
              obtain ⟨d0, d1, d2⟩ := Lib.digitVal_eq hd
              have hmb := dec_take_lt HM.out (show k ≤ 6 by omega)
              clear hg hd
              generalize hb : s[k] = b at d0 d1 d2
              have b1 : ¬ ((b.toNat : Int) < 48) := by omega
              have b2 : ¬ ((57 : Int) < (b.toNat : Int)) := by omega
              have w1 : IntKind.u8.wrap ((b.toNat : Int) - 48) = (d : Int) := by rw [IntKind.wrap_u8]; omega
              have w2 : IntKind.i64.wrap (10 * (m : Int)) = 10 * (m : Int) := by rw [IntKind.wrap_i64]; omega
              have w3 : IntKind.i64.wrap (10 * (m : Int) + (d : Int)) = 10 * (m : Int) + (d : Int) := by rw [IntKind.wrap_i64]; omega
              have w4 : IntKind.i64.wrap (d : Int) = (d : Int) := by rw [IntKind.wrap_i64]; omega
              go_wp2_with fail
              go_roundw
              case rel => exact ⟨k + 1, m * 10 + d, by omega, by go_num, by go_num, HS.out, by trivial⟩
              case measure => simp [intOf]; omega
          · have e : s.data.toList.take k = s.data.toList := List.take_of_length_le (by rw [← Lib.size_eq]; omega)
            have HD : Hid (Lib.decFrom 0 s.data.toList = some m) := Lib.hid (by rw [← e]; exact HM.out)
            have hmb := dec_all_lt HD.out (show s.size ≤ 6 by omega)
            have HN := Lib.hid fun W => l1Num_any (m : Int) (by omega) (by omega) W
            clear e HM
            by_cases he : itx (m : Int) = s
            · have HP := Lib.hid (HY.out m HD.out he l1)
              rw [he] at HN
              go_wp2_with (go_at_call 28; (with_reducible refine (HN.out _).mono ?_); rintro e w' ⟨rfl, hk⟩; (try have hkr := Root.trans (by assumption) hk); (first | (have hkf := From.step (by assumption) hk; obtain ⟨hc, hf⟩ := hkf.cells) | (have hkf := From.start hk; obtain ⟨hc, hf⟩ := hkf.cells)))
              go_ret2
              exact ⟨by rw [HP.out.1, HP.out.2]; rfl, by (repeat (first | exact Kept.refl _ | assumption | refine Kept.alloc ?_ _ | refine Kept.drew ?_ | refine Kept.drewN ?_ _ | refine Kept.setCell ?_ (by first | (simp; done) | (simp; omega) | omega | exact Kept.size (by (repeat (first | exact Kept.refl _ | assumption | refine Kept.alloc ?_ _ | refine Kept.drew ?_ | refine Kept.drewN ?_ _ | refine Kept.trans ?_ (by assumption))))) _ | refine Kept.trans ?_ (by assumption)))⟩
            · have HP := Lib.hid (HNE.out m HD.out he)
              have hq := txt_ne he
              generalize itx (m : Int) = x at HN hq
              clear he
              go_wp2_with (go_at_call 28; (with_reducible refine (HN.out _).mono ?_); rintro e w' ⟨rfl, hk⟩; (try have hkr := Root.trans (by assumption) hk); (first | (have hkf := From.step (by assumption) hk; obtain ⟨hc, hf⟩ := hkf.cells) | (have hkf := From.start hk; obtain ⟨hc, hf⟩ := hkf.cells)))
              go_ret2
              exact ⟨by rw [HP.out.1, HP.out.2]; rfl, by (repeat (first | exact Kept.refl _ | assumption | refine Kept.alloc ?_ _ | refine Kept.drew ?_ | refine Kept.drewN ?_ _ | refine Kept.setCell ?_ (by first | (simp; done) | (simp; omega) | omega | exact Kept.size (by (repeat (first | exact Kept.refl _ | assumption | refine Kept.alloc ?_ _ | refine Kept.drew ?_ | refine Kept.drewN ?_ _ | refine Kept.trans ?_ (by assumption))))) _ | refine Kept.trans ?_ (by assumption)))⟩
      · have hin : inB (s.size : Int) 1 6 = false := by simp [inB]; omega
        have HI := Lib.hid fun W => l1In_any (s.size : Int) 1 6 W
        rw [hin] at HI
        have HP := Lib.hid (HNL.out hl)
        clear hin hl
        go_wp2_with (go_at_call 27; (with_reducible refine (HI.out _).mono ?_); rintro e w' ⟨rfl, rfl⟩)
        go_ret2
        exact ⟨by rw [HP.out.1, HP.out.2]; rfl, by (repeat (first | exact Kept.refl _ | assumption | refine Kept.alloc ?_ _ | refine Kept.drew ?_ | refine Kept.drewN ?_ _ | refine Kept.setCell ?_ (by first | (simp; done) | (simp; omega) | omega | exact Kept.size (by (repeat (first | exact Kept.refl _ | assumption | refine Kept.alloc ?_ _ | refine Kept.drew ?_ | refine Kept.drewN ?_ _ | refine Kept.trans ?_ (by assumption))))) _ | refine Kept.trans ?_ (by assumption)))⟩
    · have z1 : ¬ ((1 : Int) < (s.size : Int)) := by omega
      clear hm
      go_enter Tryd.func21, Tryd.ntmps21
      go_wp2_with fail
      by_cases hl : 1 ≤ s.size ∧ s.size ≤ 6
      · obtain ⟨l0, l1⟩ := hl
        have hin : inB (s.size : Int) 1 6 = true := by simp [inB]; omega
        have HI := Lib.hid fun W => l1In_any (s.size : Int) 1 6 W
        rw [hin] at HI
        have hlt : ¬ ((s.size : Int) < (s.size : Int)) := by omega
        clear hin
        go_wp2_with (go_at_call 27; (with_reducible refine (HI.out _).mono ?_); rintro e w' ⟨rfl, rfl⟩)
        go_loopw [5, 6] (fun n i wr => ∃ k m : Nat, k ≤ s.size ∧ i = .int .i64 (k : Int) ∧ n = .int .i64 (m : Int) ∧ Lib.decFrom 0 (s.data.toList.take k) = some m ∧ wr = w) (fun _ i _ => s.size - (intOf i).toNat)
        case atStart => exact ⟨0, 0, by omega, rfl, rfl, by simp [Lib.decFrom], rfl⟩
        case round =>
          obtain ⟨k, m, hk, rfl, rfl, hm, rfl⟩ := hrel
          have HM := Lib.hid hm
          clear hm
          by_cases hkt : k < s.size
          · have k0 : (0 : Int) ≤ (k : Int) := by omega
            have k1 : (k : Int) < (s.size : Int) := by omega
            have hg : s.data.toList[k]? = some s[k] := ba_get hkt
            cases hd : Lib.digitVal s[k] with
            | none =>
              have HP := Lib.hid (HNO.out (fun u hu => by obtain ⟨x, hx⟩ := Lib.digit_of_decFrom _ _ _ hu k _ hg; rw [hd] at hx; cases hx))
              have hv := dv_none hd
              clear hg hd
              generalize hb : s[k] = b at hv
              by_cases hb1 : (b.toNat : Int) < 48
              · go_wp2_with fail
                go_ret2
                exact ⟨by rw [HP.out.1, HP.out.2]; rfl, by (repeat (first | exact Kept.refl _ | assumption | refine Kept.alloc ?_ _ | refine Kept.drew ?_ | refine Kept.drewN ?_ _ | refine Kept.setCell ?_ (by first | (simp; done) | (simp; omega) | omega | exact Kept.size (by (repeat (first | exact Kept.refl _ | assumption | refine Kept.alloc ?_ _ | refine Kept.drew ?_ | refine Kept.drewN ?_ _ | refine Kept.trans ?_ (by assumption))))) _ | refine Kept.trans ?_ (by assumption)))⟩
              · have hb2 : (57 : Int) < (b.toNat : Int) := by omega
                go_wp2_with fail
                go_ret2
                exact ⟨by rw [HP.out.1, HP.out.2]; rfl, by (repeat (first | exact Kept.refl _ | assumption | refine Kept.alloc ?_ _ | refine Kept.drew ?_ | refine Kept.drewN ?_ _ | refine Kept.setCell ?_ (by first | (simp; done) | (simp; omega) | omega | exact Kept.size (by (repeat (first | exact Kept.refl _ | assumption | refine Kept.alloc ?_ _ | refine Kept.drew ?_ | refine Kept.drewN ?_ _ | refine Kept.trans ?_ (by assumption))))) _ | refine Kept.trans ?_ (by assumption)))⟩
            | some d =>
              have HS := Lib.hid (Lib.decFrom_take _ k 0 m _ d HM.out hg hd)
              obtain ⟨d0, d1, d2⟩ := Lib.digitVal_eq hd
              have hmb := dec_take_lt HM.out (show k ≤ 6 by omega)
              clear hg hd
              generalize hb : s[k] = b at d0 d1 d2
              have b1 : ¬ ((b.toNat : Int) < 48) := by omega
              have b2 : ¬ ((57 : Int) < (b.toNat : Int)) := by omega
              have w1 : IntKind.u8.wrap ((b.toNat : Int) - 48) = (d : Int) := by rw [IntKind.wrap_u8]; omega
              have w2 : IntKind.i64.wrap (10 * (m : Int)) = 10 * (m : Int) := by rw [IntKind.wrap_i64]; omega
              have w3 : IntKind.i64.wrap (10 * (m : Int) + (d : Int)) = 10 * (m : Int) + (d : Int) := by rw [IntKind.wrap_i64]; omega
              have w4 : IntKind.i64.wrap (d : Int) = (d : Int) := by rw [IntKind.wrap_i64]; omega
              go_wp2_with fail
              go_roundw
              case rel => exact ⟨k + 1, m * 10 + d, by omega, by go_num, by go_num, HS.out, by trivial⟩
              case measure => simp [intOf]; omega
          · have e : s.data.toList.take k = s.data.toList := List.take_of_length_le (by rw [← Lib.size_eq]; omega)
            have HD : Hid (Lib.decFrom 0 s.data.toList = some m) := Lib.hid (by rw [← e]; exact HM.out)
            have hmb := dec_all_lt HD.out (show s.size ≤ 6 by omega)
            have HN := Lib.hid fun W => l1Num_any (m : Int) (by omega) (by omega) W
            clear e HM
            by_cases he : itx (m : Int) = s
            · have HP := Lib.hid (HY.out m HD.out he l1)
              rw [he] at HN
              go_wp2_with (go_at_call 28; (with_reducible refine (HN.out _).mono ?_); rintro e w' ⟨rfl, hk⟩; (try have hkr := Root.trans (by assumption) hk); (first | (have hkf := From.step (by assumption) hk; obtain ⟨hc, hf⟩ := hkf.cells) | (have hkf := From.start hk; obtain ⟨hc, hf⟩ := hkf.cells)))
              go_ret2
              exact ⟨by rw [HP.out.1, HP.out.2]; rfl, by (repeat (first | exact Kept.refl _ | assumption | refine Kept.alloc ?_ _ | refine Kept.drew ?_ | refine Kept.drewN ?_ _ | refine Kept.setCell ?_ (by first | (simp; done) | (simp; omega) | omega | exact Kept.size (by (repeat (first | exact Kept.refl _ | assumption | refine Kept.alloc ?_ _ | refine Kept.drew ?_ | refine Kept.drewN ?_ _ | refine Kept.trans ?_ (by assumption))))) _ | refine Kept.trans ?_ (by assumption)))⟩
            · have HP := Lib.hid (HNE.out m HD.out he)
              have hq := txt_ne he
              generalize itx (m : Int) = x at HN hq
              clear he
              go_wp2_with (go_at_call 28; (with_reducible refine (HN.out _).mono ?_); rintro e w' ⟨rfl, hk⟩; (try have hkr := Root.trans (by assumption) hk); (first | (have hkf := From.step (by assumption) hk; obtain ⟨hc, hf⟩ := hkf.cells) | (have hkf := From.start hk; obtain ⟨hc, hf⟩ := hkf.cells)))
              go_ret2
              exact ⟨by rw [HP.out.1, HP.out.2]; rfl, by (repeat (first | exact Kept.refl _ | assumption | refine Kept.alloc ?_ _ | refine Kept.drew ?_ | refine Kept.drewN ?_ _ | refine Kept.setCell ?_ (by first | (simp; done) | (simp; omega) | omega | exact Kept.size (by (repeat (first | exact Kept.refl _ | assumption | refine Kept.alloc ?_ _ | refine Kept.drew ?_ | refine Kept.drewN ?_ _ | refine Kept.trans ?_ (by assumption))))) _ | refine Kept.trans ?_ (by assumption)))⟩
      · have hin : inB (s.size : Int) 1 6 = false := by simp [inB]; omega
        have HI := Lib.hid fun W => l1In_any (s.size : Int) 1 6 W
        rw [hin] at HI
        have HP := Lib.hid (HNL.out hl)
        clear hin hl
        go_wp2_with (go_at_call 27; (with_reducible refine (HI.out _).mono ?_); rintro e w' ⟨rfl, rfl⟩)
        go_ret2
        exact ⟨by rw [HP.out.1, HP.out.2]; rfl, by (repeat (first | exact Kept.refl _ | assumption | refine Kept.alloc ?_ _ | refine Kept.drew ?_ | refine Kept.drewN ?_ _ | refine Kept.setCell ?_ (by first | (simp; done) | (simp; omega) | omega | exact Kept.size (by (repeat (first | exact Kept.refl _ | assumption | refine Kept.alloc ?_ _ | refine Kept.drew ?_ | refine Kept.drewN ?_ _ | refine Kept.trans ?_ (by assumption))))) _ | refine Kept.trans ?_ (by assumption)))⟩
end Go.Proofs.YtlnhdjajbiahbaaDoor

/-
  The plain law of the checksum: a sealed text is open, and with one byte changed it is not.
  Conditions: none.
-/
import Derived.Test.YtlnhdjajbiahbaaDoorDVerify
namespace Go.Proofs.YtlnhdjajbiahbaaDoor
open Go.ChangeShapes Go.WideShapes Go.ChangeAt Go.RowKit
set_option linter.unusedVariables false
set_option linter.unusedSimpArgs false

theorem step_left {h1 h2 : Int} (c : UInt8) (a1 : 0 ≤ h1) (a2 : h1 < 999979) (b1 : 0 ≤ h2) (b2 : h2 < 999979) (e : sumStep h1 c = sumStep h2 c) : h1 = h2 := by
  unfold sumStep at e
  omega
theorem step_right {h : Int} {a c : UInt8} (e : sumStep h a = sumStep h c) : a = c := by
  unfold sumStep at e
  have h1 := a.toNat_lt
  have h2 := c.toNat_lt
  have : a.toNat = c.toNat := by omega
  exact UInt8.toNat_inj.1 this
theorem step_bd (h : Int) (c : UInt8) : 0 ≤ sumStep h c ∧ sumStep h c < 999979 := by
  unfold sumStep
  omega
theorem fold_inj : ∀ (l : List UInt8) {h1 h2 : Int}, 0 ≤ h1 → h1 < 999979 → 0 ≤ h2 → h2 < 999979 → l.foldl sumStep h1 = l.foldl sumStep h2 → h1 = h2
  | [], h1, h2, _, _, _, _, e => e
  | c :: l, h1, h2, a1, a2, b1, b2, e => by
    simp only [List.foldl_cons] at e
    exact step_left c a1 a2 b1 b2 (fold_inj l (step_bd h1 c).1 (step_bd h1 c).2 (step_bd h2 c).1 (step_bd h2 c).2 e)
theorem sum_set {X : List UInt8} {k : Nat} {c : UInt8} (hk : k < X.length) (e : sumOf (X.set k c) = sumOf X) : X[k] = c := by
  have h1 : X.set k c = X.take k ++ c :: X.drop (k + 1) := List.set_eq_take_append_cons_drop .. |>.trans (by rw [if_pos hk])
  have h2 : X = X.take k ++ X[k] :: X.drop (k + 1) := by rw [List.getElem_cons_drop, List.take_append_drop]
  have h3 : sumOf X = (X.drop (k + 1)).foldl sumStep (sumStep ((X.take k).foldl sumStep 7) X[k]) := by
    have h5 : sumOf (X.take k ++ X[k] :: X.drop (k + 1)) = (X.drop (k + 1)).foldl sumStep (sumStep ((X.take k).foldl sumStep 7) X[k]) := by
      simp only [sumOf, List.foldl_append, List.foldl_cons]
    rw [← h2] at h5
    exact h5
  have h4 : sumOf (X.set k c) = (X.drop (k + 1)).foldl sumStep (sumStep ((X.take k).foldl sumStep 7) c) := by
    rw [h1]
    simp only [sumOf, List.foldl_append, List.foldl_cons]
  rw [h3, h4] at e
  have h5 := fold_inj _ (step_bd _ _).1 (step_bd _ _).2 (step_bd _ _).1 (step_bd _ _).2 e
  exact (step_right h5).symm
theorem dec_mem : ∀ (u : Nat), ¬ (35 : UInt8) ∈ Lib.decDigits u := by
  intro u
  induction u using Nat.strongRecOn with
  | ind u ih =>
    have hd : ∀ i, i < 10 → ¬ (35 : UInt8) = UInt8.ofNat (48 + i) := by
      intro i hi e
      have := congrArg UInt8.toNat e
      rw [UInt8.toNat_ofNat'] at this
      have e35 : (35 : UInt8).toNat = 35 := rfl
      omega
    by_cases h : u < 10
    · rw [Lib.decDigits_one h, List.mem_singleton]
      exact hd u h
    · rw [Lib.decDigits, dif_neg h, List.mem_append, List.mem_singleton]
      rintro (hm | hm)
      · exact ih (u / 10) (by omega) hm
      · exact hd (u % 10) (by omega) hm
def dg (l : List UInt8) : List UInt8 := Lib.itoa (sumOf l)
theorem dg_mem (l : List UInt8) : ¬ (35 : UInt8) ∈ dg l := by
  have h := (sumOf_bd l).1
  unfold dg Lib.itoa
  rw [if_neg (by omega)]
  exact dec_mem _
theorem dg_inj {a b : List UInt8} (h : dg a = dg b) : sumOf a = sumOf b := by
  have h1 := atoi_round (sumOf a)
  have h2 := atoi_round (sumOf b)
  unfold dg at h
  rw [h, h2] at h1
  injection h1 with h1
  exact h1.symm
theorem split_uniq : ∀ {A P B Q : List UInt8}, ¬ (35 : UInt8) ∈ A → ¬ (35 : UInt8) ∈ P → A ++ 35 :: B = P ++ 35 :: Q → A = P ∧ B = Q
  | [], [], B, Q, _, _, e => by simpa using e
  | [], p :: P, B, Q, _, hp, e => by
    simp at e
    exact absurd (by rw [← e.1]; exact List.mem_cons_self) hp
  | a :: A, [], B, Q, ha, _, e => by
    simp at e
    exact absurd (by rw [e.1]; exact List.mem_cons_self) ha
  | a :: A, p :: P, B, Q, ha, hp, e => by
    simp only [List.cons_append, List.cons.injEq] at e
    obtain ⟨rfl, e⟩ := e
    obtain ⟨rfl, rfl⟩ := split_uniq (fun h => ha (List.mem_cons_of_mem _ h)) (fun h => hp (List.mem_cons_of_mem _ h)) e
    exact ⟨rfl, rfl⟩
theorem bad_list {X P : List UInt8} {k : Nat} {c : UInt8} (hX : ¬ (35 : UInt8) ∈ X) (hP : ¬ (35 : UInt8) ∈ P) (hk : k < (X ++ 35 :: dg X).length) (hne : (X ++ 35 :: dg X)[k] ≠ c) (h : (X ++ 35 :: dg X).set k c = P ++ 35 :: dg P) : False := by
  have hR : (P ++ 35 :: dg P).count 35 = 1 := by
    rw [List.count_append, List.count_cons, List.count_eq_zero_of_not_mem hP, List.count_eq_zero_of_not_mem (dg_mem P)]
    simp
  by_cases h1 : k < X.length
  · rw [List.set_append_left _ _ h1] at h
    rw [List.getElem_append_left h1] at hne
    by_cases hc : c = 35
    · subst hc
      have hm : (35 : UInt8) ∈ X.set k 35 := List.mem_set h1 35
      have h2 := List.count_pos_iff.2 hm
      rw [← h, List.count_append, List.count_cons] at hR
      simp at hR
      omega
    · have hA : ¬ (35 : UInt8) ∈ X.set k c := fun hm => by
        rcases List.mem_or_eq_of_mem_set hm with hm | hm
        · exact hX hm
        · exact hc hm.symm
      obtain ⟨e1, e2⟩ := split_uniq hA hP h
      rw [← e1] at e2
      exact hne (sum_set h1 (dg_inj e2).symm)
  · by_cases h2 : k = X.length
    · subst h2
      have hc : ¬ c = 35 := fun e => by
        apply hne
        rw [List.getElem_append_right (Nat.le_refl _)]
        simp [e]
      rw [List.set_append_right _ _ (Nat.le_refl _)] at h
      simp only [Nat.sub_self, List.set_cons_zero] at h
      rw [← h, List.count_append, List.count_cons, List.count_eq_zero_of_not_mem hX, List.count_eq_zero_of_not_mem (dg_mem X)] at hR
      simp [hc] at hR
    · obtain ⟨j, rfl⟩ : ∃ j, k = X.length + (j + 1) := ⟨k - X.length - 1, by omega⟩
      have hj : j < (dg X).length := by simp at hk; omega
      rw [List.set_append_right _ _ (by omega)] at h
      rw [show X.length + (j + 1) - X.length = j + 1 by omega, List.set_cons_succ] at h
      obtain ⟨e1, e2⟩ := split_uniq hX hP h
      rw [← e1] at e2
      apply hne
      rw [List.getElem_append_right (by omega)]
      simp only [show X.length + (j + 1) - X.length = j + 1 by omega, List.getElem_cons_succ]
      have h3 := congrArg (fun l => l[j]?) e2
      simp only [List.getElem?_set_self hj] at h3
      rw [List.getElem?_eq_getElem hj] at h3
      injection h3 with h3
      exact h3.symm
theorem seal_list (s : ByteArray) : (sealT s).data.toList = s.data.toList ++ 35 :: dg s.data.toList := by
  unfold sealT
  rw [ByteArray.data_append, ByteArray.data_append, Array.toList_append, Array.toList_append, List.append_assoc]
  rfl
theorem has_mem {s : ByteArray} : hasIn s 35 = false ↔ ¬ (35 : UInt8) ∈ s.data.toList := by
  unfold hasIn
  exact decide_eq_false_iff_not
theorem ac_hash {s : ByteArray} (h : acOk s = true) : hasIn s 35 = false := by
  simp [acOk] at h
  exact h.1.2
theorem ac_size {s : ByteArray} (h : acOk s = true) : (sealT s).size ≤ 4000 := by
  simp [acOk] at h
  exact h.2
/-- One byte of a text put in another's place. -/
def putB (s : ByteArray) (k : Nat) (c : UInt8) : ByteArray := ⟨(s.data.toList.set k c).toArray⟩
theorem putB_size (s : ByteArray) (k : Nat) (c : UInt8) : (putB s k c).size = s.size := by
  rw [Lib.size_eq, Lib.size_eq s]
  exact List.length_set
theorem changed_shut {s : ByteArray} {k : Nat} {c : UInt8} (h : acOk s = true) (hk : k < (sealT s).size) (hc : bt (sealT s) k ≠ c) : vcOk (putB (sealT s) k c) = false := by
  cases hv : vcOk (putB (sealT s) k c)
  · rfl
  · simp only [vcOk, Bool.and_eq_true, decide_eq_true_eq] at hv
    have e := congrArg (fun b => b.data.toList) hv.2
    simp only [seal_list] at e
    have h1 : (putB (sealT s) k c).data.toList = (s.data.toList ++ 35 :: dg s.data.toList).set k c := by
      simp [putB, seal_list]
    rw [h1] at e
    have hk' : k < (s.data.toList ++ 35 :: dg s.data.toList).length := by
      rw [← seal_list]
      simpa using hk
    refine (bad_list (has_mem.1 (ac_hash h)) (has_mem.1 (pre_has (s := putB (sealT s) k c))) hk' (fun e2 => hc ?_) e.symm).elim
    have h2 := bt_list hk
    rw [seal_list, List.getElem?_eq_getElem hk', e2] at h2
    injection h2 with h2
    exact h2.symm
theorem seal_has (s : ByteArray) : hasIn (sealT s) 35 = true := by
  unfold hasIn
  rw [decide_eq_true_eq, seal_list]
  simp
theorem ba_ext (a b : ByteArray) (h : a.data.toList = b.data.toList) : a = b := ByteArray.ext (Array.toList_inj.1 h)
theorem pre_seal {s : ByteArray} (h : hasIn s 35 = false) : preT (sealT s) = s := by
  have hs := seal_has s
  obtain ⟨o, e, hl, hb, hn⟩ := cut_some hs
  have h1 : preT (sealT s) = (sealT s).extract 0 o := by simp [preT, hs, e]
  have hl2 : (preT (sealT s)).data.toList = (sealT s).data.toList.take o := by rw [h1]; simp [ByteArray.data_extract, Array.toList_extract]
  have h2 : (sealT s).data.toList = (sealT s).data.toList.take o ++ 35 :: (sealT s).data.toList.drop (o + 1) := by
    have ho : o < (sealT s).data.toList.length := by simpa using hl
    have h3 := bt_list hl
    rw [List.getElem?_eq_getElem ho, hb] at h3
    injection h3 with h3
    rw [← h3, List.getElem_cons_drop, List.take_append_drop]
  rw [← hl2, seal_list] at h2
  have h4 := split_uniq (has_mem.1 h) (has_mem.1 (pre_has (s := sealT s))) h2
  exact ba_ext _ _ h4.1.symm
theorem vc_seal {s : ByteArray} (h : acOk s = true) : vcOk (sealT s) = true ∧ vcV (sealT s) = s := by
  have h1 := pre_seal (ac_hash h)
  have h2 : vcOk (sealT s) = true := vc_good (ac_size h) (by rw [h1])
  exact ⟨h2, by rw [vc_yes h2, h1]⟩
theorem xor_byte (a : UInt8) (d : Int) (d0 : 1 ≤ d) (d1 : d ≤ 255) : ∃ c : UInt8, bits BinOp.xor .u8 (a.toNat : Int) d = (c.toNat : Int) ∧ a ≠ c := by
  have e : bits BinOp.xor .u8 (a.toNat : Int) d = IntKind.u8.wrap (((BitVec.ofInt 8 (a.toNat : Int) ^^^ BitVec.ofInt 8 d).toNat : Nat) : Int) := rfl
  have ha : BitVec.ofInt 8 (a.toNat : Int) = a.toBitVec := by
    apply BitVec.eq_of_toNat_eq
    have := a.toNat_lt
    simp [BitVec.toNat_ofInt]
  rw [ha] at e
  refine ⟨UInt8.ofBitVec (a.toBitVec ^^^ BitVec.ofInt 8 d), ?_, fun h => ?_⟩
  · rw [e]
    have hlt := (a.toBitVec ^^^ BitVec.ofInt 8 d).isLt
    have hto : (UInt8.ofBitVec (a.toBitVec ^^^ BitVec.ofInt 8 d)).toNat = (a.toBitVec ^^^ BitVec.ofInt 8 d).toNat := rfl
    rw [hto]
    generalize (a.toBitVec ^^^ BitVec.ofInt 8 d).toNat = m at hlt
    rw [IntKind.wrap_u8]
    omega
  · have h1 := congrArg UInt8.toBitVec h
    have h2 := congrArg (fun x => a.toBitVec ^^^ x) h1
    simp only [BitVec.xor_self, ← BitVec.xor_assoc, BitVec.zero_xor] at h2
    have h3 := congrArg BitVec.toNat h2
    simp [BitVec.toNat_ofInt] at h3
    omega
end Go.Proofs.YtlnhdjajbiahbaaDoor

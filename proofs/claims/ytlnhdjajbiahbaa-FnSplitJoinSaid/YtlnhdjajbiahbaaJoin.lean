/-
  Contracts of JoinStrings, the program's and the reference's.
  Conditions: none.
-/
import Derived.Test.YtlnhdjajbiahbaaSplit2
import Derived.Test.YtlnhdjajbiahbaaShelf
import Derived.BigRegion
namespace Go.Proofs.Ytlnhdjajbiahbaa
open Go.ChangeShapes Go.WideShapes Go.ChangeAt Go.RowKit
set_option linter.unusedVariables false
set_option linter.unusedSimpArgs false

/-- Does a byte stand in a text. -/
def hasIn (s : ByteArray) (b : UInt8) : Bool := decide (b ∈ s.data.toList)
theorem bt_list {s : ByteArray} {k : Nat} (h : k < s.size) : s.data.toList[k]? = some (bt s k) := by
  rw [bt_at h, List.getElem?_eq_getElem (by simpa using h)]
  rfl
theorem has_yes {s : ByteArray} {b : UInt8} {k : Nat} (h : k < s.size) (e : bt s k = b) : hasIn s b = true := by
  rw [hasIn, decide_eq_true_eq]
  exact List.mem_of_getElem? (by rw [← e]; exact bt_list h)
theorem has_no {s : ByteArray} {b : UInt8} (h : ∀ k, k < s.size → ¬ bt s k = b) : hasIn s b = false := by
  rw [hasIn, decide_eq_false_iff_not]
  intro hm
  obtain ⟨k, hk, e⟩ := List.getElem_of_mem hm
  have hk' : k < s.size := by simpa using hk
  refine h k hk' ?_
  have := bt_list hk'
  rw [List.getElem?_eq_getElem hk, e] at this
  injection this with this
  exact this.symm
theorem index_has (l : List UInt8) (c : UInt8) : (0 ≤ Lib.indexByte l c) ↔ c ∈ l := by
  induction l with
  | nil => simp [Lib.indexByte]
  | cons b l ih =>
    have hg := Lib.indexByte_ge l c
    unfold Lib.indexByte
    by_cases hb : (b == c) = true
    · rw [if_pos hb]
      have e : b = c := by simpa using hb
      simp [e]
    · rw [if_neg hb]
      have e : ¬ b = c := by simpa using hb
      have e2 : ¬ c = b := fun h => e h.symm
      by_cases h1 : (Lib.indexByte l c == -1) = true
      · rw [if_pos h1]
        have h2 : Lib.indexByte l c = -1 := by simpa using h1
        rw [h2] at ih
        simp [e2]
        intro hm
        have := ih.2 hm
        omega
      · rw [if_neg h1]
        have h2 : ¬ Lib.indexByte l c = -1 := by simpa using h1
        have h3 : 0 ≤ Lib.indexByte l c := by omega
        simp [e2, ih.1 h3]
        omega
theorem index_hasIn (s : ByteArray) (c : UInt8) : (0 ≤ Lib.indexByte s.data.toList c) ↔ hasIn s c = true := by
  rw [index_has, hasIn, decide_eq_true_eq]
def XZ (xs : List ByteArray) (i : Nat) : ByteArray := xs.getD i ByteArray.empty
def ls (xs : List ByteArray) : List (List UInt8) := xs.map (·.data.toList)
def tk (xs : List ByteArray) (k : Nat) : Nat := Lib.lens ((ls xs).take k)
theorem ls_at {xs : List ByteArray} {k : Nat} (h : k < xs.length) : (ls xs)[k]? = some (XZ xs k).data.toList := by
  simp [ls, XZ, List.getD_eq_getElem?_getD, h]
theorem tk_succ {xs : List ByteArray} {k : Nat} (h : k < xs.length) : tk xs (k + 1) = tk xs k + (XZ xs k).size := by
  rw [tk, Lib.lens_take_succ _ _ _ (ls_at h)]
  rfl
theorem tk_0 (xs : List ByteArray) : tk xs 0 = 0 := rfl
theorem tk_mono (xs : List ByteArray) {k : Nat} (h : k ≤ xs.length) : tk xs k ≤ tk xs xs.length := by
  have e : (ls xs).take xs.length = ls xs := List.take_of_length_le (by simp [ls])
  rw [tk, tk, e]
  exact Lib.lens_take_le _ _
def cleanB (xs : List ByteArray) (b : UInt8) : Bool := allB xs.length (fun i => !hasIn (XZ xs i) b)
def jnOk (xs : List ByteArray) (t : ByteArray) : Bool := decide (0 < xs.length) && decide (t.size = 1) && cleanB xs (bt t 0) && decide (tk xs xs.length + xs.length ≤ 4001)
/-- The text of the first k parts. -/
def jo (xs : List ByteArray) (t : ByteArray) (k : Nat) : ByteArray := ⟨(Lib.join ((ls xs).take k) t.data.toList).toArray⟩
def jnV (xs : List ByteArray) (t : ByteArray) : ByteArray := if jnOk xs t = true then jo xs t xs.length else ⟨#[]⟩
theorem jn_no {xs : List ByteArray} {t : ByteArray} (h : jnOk xs t = false) : jnV xs t = ⟨#[]⟩ := by simp [jnV, h]
theorem jn_yes {xs : List ByteArray} {t : ByteArray} (h : jnOk xs t = true) : jnV xs t = jo xs t xs.length := by simp [jnV, h]
theorem jn_has {xs : List ByteArray} {t : ByteArray} {k : Nat} (hk : k < xs.length) (h : hasIn (XZ xs k) (bt t 0) = true) : jnOk xs t = false := by
  have : cleanB xs (bt t 0) = false := allB_false hk (by simp [h])
  simp [jnOk, this]
theorem jn_long {xs : List ByteArray} {t : ByteArray} (h : 4001 < tk xs xs.length + xs.length) : jnOk xs t = false := by
  have : ¬ tk xs xs.length + xs.length ≤ 4001 := by omega
  simp [jnOk, this]
theorem jn_good {xs : List ByteArray} {t : ByteArray} (h0 : 0 < xs.length) (h1 : t.size = 1) (h2 : ∀ j, j < xs.length → hasIn (XZ xs j) (bt t 0) = false) (h3 : tk xs xs.length + xs.length ≤ 4001) : jnOk xs t = true := by
  have : cleanB xs (bt t 0) = true := allB_true (fun i hi => by simp [h2 i hi])
  simp [jnOk, h0, h1, this, h3]
theorem join_snoc (l : List (List UInt8)) (x sep : List UInt8) (h : l ≠ []) : Lib.join (l ++ [x]) sep = Lib.join l sep ++ sep ++ x := by
  cases l with
  | nil => exact absurd rfl h
  | cons y r =>
    rw [List.cons_append, Lib.join_cons, Lib.join_cons]
    simp [Lib.joinTail, List.append_assoc]
theorem take_ls {xs : List ByteArray} {k : Nat} (h : k < xs.length) : (ls xs).take (k + 1) = (ls xs).take k ++ [(XZ xs k).data.toList] := by
  rw [List.take_add_one, ls_at h]
  rfl
theorem ba_list (a b : ByteArray) (h : a.data.toList = b.data.toList) : a = b := by
  apply ByteArray.ext
  exact Array.toList_inj.1 h
theorem jo_0 (xs : List ByteArray) (t : ByteArray) : jo xs t 0 = ⟨#[]⟩ := rfl
theorem jo_first {xs : List ByteArray} {t : ByteArray} (h : 0 < xs.length) : (⟨#[]⟩ : ByteArray) ++ XZ xs 0 = jo xs t 1 := by
  apply ba_list
  rw [ByteArray.data_append, jo, take_ls h]
  simp [Lib.join_one]
theorem jo_next {xs : List ByteArray} {t : ByteArray} {k : Nat} (h0 : 0 < k) (h : k < xs.length) : jo xs t k ++ t ++ XZ xs k = jo xs t (k + 1) := by
  apply ba_list
  rw [ByteArray.data_append, ByteArray.data_append, jo, jo, take_ls h, join_snoc _ _ _ (by
    intro e
    have h2 : ([] : List (List UInt8)).length = min k xs.length := by rw [← e]; simp [ls]
    rw [List.length_nil] at h2
    omega)]
  simp
theorem tail_len (sep : List UInt8) (r : List (List UInt8)) : (Lib.joinTail sep r).length = Lib.lens r + r.length * sep.length := by
  induction r with
  | nil => simp [Lib.joinTail, Lib.lens]
  | cons y r ih =>
    have e1 : Lib.joinTail sep (y :: r) = (sep ++ y) ++ Lib.joinTail sep r := by simp [Lib.joinTail]
    have e2 : Lib.lens (y :: r) = y.length + Lib.lens r := by simp [Lib.lens]
    rw [e1, List.length_append, List.length_append, ih, e2, List.length_cons, Nat.add_mul]
    omega
theorem jo_size {xs : List ByteArray} {t : ByteArray} (ht : t.size = 1) : ∀ k, k ≤ xs.length → (jo xs t k).size + (if k = 0 then 0 else 1) = tk xs k + k := by
  intro k hk
  have hsz : (jo xs t k).size = (Lib.join ((ls xs).take k) t.data.toList).length := by simp [jo, ByteArray.size]
  have ht' : t.data.toList.length = 1 := by simpa using ht
  rw [hsz, tk]
  cases hl : (ls xs).take k with
  | nil =>
    have hk0 : k = 0 := by
      have h2 : ([] : List (List UInt8)).length = min k xs.length := by rw [← hl]; simp [ls]
      rw [List.length_nil] at h2
      omega
    subst hk0
    simp [Lib.join_nil, Lib.lens]
  | cons y r =>
    have hk1 : r.length + 1 = k := by
      have h2 : (y :: r).length = min k xs.length := by rw [← hl]; simp [ls]
      rw [List.length_cons] at h2
      omega
    have e2 : Lib.lens (y :: r) = y.length + Lib.lens r := by simp [Lib.lens]
    rw [Lib.join_cons, List.length_append, tail_len, e2, ht', if_neg (by omega)]
    omega
theorem l1Stands_any (s : ByteArray) (b : UInt8) (hs : s.size ≤ maxLen) (w : World) : Calls Try.prog 23 #[.string s, .int .u8 (b.toNat : Int)] w fun e w' => e = .returned (.bool (hasIn s b)) ∧ Kept w w' := by
  unfold maxLen at hs
  go_enter Try.func23, Try.ntmps23
  go_wp2_with fail
  go_loopw [5] (fun i wr => ∃ k : Nat, k ≤ s.size ∧ i = .int .i64 (k : Int) ∧ (∀ j, j < k → ¬ bt s j = b) ∧ Kept w wr) (fun i _ => s.size - (intOf i).toNat)
  case atStart => exact ⟨0, by omega, rfl, fun j hj => absurd hj (by omega), Kept.refl _⟩
  case round =>
    obtain ⟨k, hk, rfl, hn, hkw⟩ := hrel
    have HN := Lib.hid hn
    have HK := Lib.hid hkw
    clear hn hkw
    by_cases hlt : k < s.size
    · have k0 : (0 : Int) ≤ (k : Int) := by omega
      have k1 : (k : Int) < (s.size : Int) := by omega
      by_cases hb : bt s k = b
      · have HY := Lib.hid (has_yes hlt hb)
        rw [bt_at hlt] at hb
        have hbe := u8_eq hb
        clear hb
        go_wp2_with fail
        go_ret
        exact ⟨by rw [HY.out]; rfl, HK.out⟩
      · have HX := Lib.hid hb
        rw [bt_at hlt] at hb
        have hbe := u8_ne hb
        clear hb
        go_wp2_with fail
        go_roundw
        case rel => exact ⟨k + 1, by omega, by go_num, upto_succ HN.out HX.out, HK.out⟩
        case measure => simp [intOf]; omega
    · have HF := Lib.hid (has_no (s := s) (b := b) (fun j hj => HN.out j (by omega)))
      go_wp2_with fail
      go_ret
      exact ⟨by rw [HF.out]; rfl, HK.out⟩
set_option maxHeartbeats 2000000 in
theorem sJoinStrings_any (v : Value) (xs : List ByteArray) (t : ByteArray) (ht : t.size ≤ maxLen) (w : World) (hL : Lies w 1 strC v xs) (hn : xs.length ≤ 1048576) (hz : ∀ i, i < xs.length → (XZ xs i).size ≤ 1048576) : Calls Try.prog 12 #[v, .string t] w fun e w' => e = .returned (.tuple #[.string (jnV xs t), .bool (jnOk xs t)]) ∧ Kept w w' := by
  obtain ⟨A, c, rfl, hlc, hcm, hA⟩ := lies_strs hL
  clear hL
  unfold maxLen at ht
  by_cases h1 : t.size = 1
  · have t1 : ((t.size : Int) == 1) = true := by simp [h1]
    by_cases h0 : 0 < xs.length
    · have x0 : ((xs.length : Int) == 0) = false := beq_eq_false_iff_ne.2 (by omega)
      obtain ⟨b, off, rfl, hc⟩ := hA h0
      have HC := Lib.hid hc
      have HZ := Lib.hid hz
      have hz0 : 0 < t.size := by omega
      have HB := Lib.hid (bt_at hz0)
      have z0 : (0 : Int) < (t.size : Int) := by omega
      clear hc hA hz
      go_enter Try.func12, Try.ntmps12
      go_wp2_with fail
      go_loopw [6, 7] (fun o i wr => ∃ k : Nat, k ≤ xs.length ∧ i = .int .i64 (k : Int) ∧ o = .string (jo xs t k) ∧ (∀ j, j < k → hasIn (XZ xs j) (bt t 0) = false) ∧ (k = 0 ∨ tk xs k + k ≤ 4001) ∧ Kept w wr) (fun _ i _ => xs.length - (intOf i).toNat)
      case atStart => exact ⟨0, by omega, rfl, rfl, fun j hj => absurd hj (by omega), Or.inl rfl, Kept.refl _⟩
      case round =>
        obtain ⟨k, hk, rfl, rfl, hno, hle, hkw⟩ := hrel
        have HN := Lib.hid hno
        have HK := Lib.hid hkw
        have hsz := jo_size (xs := xs) (t := t) h1 k hk
        clear hno hkw
        by_cases hlt : k < xs.length
        · have k0 : (0 : Int) ≤ (k : Int) := by omega
          have k1 : (k : Int) < (xs.length : Int) := by omega
          have c0 := HK.out.keep (HC.out k hlt)
          have hp := HZ.out k hlt
          have hts := tk_succ hlt
          have hmo := tk_mono xs (show k + 1 ≤ xs.length by omega)
          have HJ1 : Hid (k = 0 → (⟨#[]⟩ : ByteArray) ++ XZ xs k = jo xs t (k + 1)) := Lib.hid (fun e => by subst e; exact jo_first h0)
          have HJ2 : Hid (0 < k → jo xs t k ++ t ++ XZ xs k = jo xs t (k + 1)) := Lib.hid (fun e => jo_next e hlt)
          have HH := Lib.hid (jn_has (xs := xs) (t := t) hlt)
          change wr.cell? ⟨b, off + k, none⟩ = some (.string (XZ xs k)) at c0
          have HJ0 : Hid (k = 0 → jo xs t k = ⟨#[]⟩) := Lib.hid (fun e => by subst e; rfl)
          have hbs : hasIn (XZ xs k) t[0] = hasIn (XZ xs k) (bt t 0) := by rw [HB.out]
          have HBS := Lib.hid hbs
          have HFW : Hid (hasIn (XZ xs k) (bt t 0) = false → ∀ j, j < k + 1 → hasIn (XZ xs j) (bt t 0) = false) := Lib.hid (fun e => upto_succ HN.out e)
          clear hbs HN
          generalize XZ xs k = p at c0 hp hts HJ1 HJ2 HH HBS HFW
          generalize jo xs t k = out at hsz HJ2 HJ0 ⊢
          have HS := Lib.hid (fun W => l1Stands_any p t[0] (by unfold maxLen; omega) W)
          go_wp2_with fail
          have kf1_0 : ∀ w' : World, Root (wr) w' → w'.cell? ⟨b, off + k, none⟩ = some (.string p) := fun w' h => h.keep (by first | assumption | exact (Kept.alloc (Kept.refl _) _).keep (by assumption) | (simp [go_sem]; done) | (simp [go_sem, *]; done))
          go_region_held3 (fun w' => Root (wr) w')
            (first | assumption | exact Root.trans (by assumption) hk | exact Root.drew (Root.refl _) | (repeat (first | exact Root.refl _ | assumption | refine Root.alloc ?_ _ | refine Root.drew ?_ | refine Root.setCell ?_ (by first | (simp; done) | (simp; omega) | omega | exact Root.size (by assumption)) _ | refine Root.trans ?_ (by assumption))))
            (first | (go_at_call 23; refine (HS.out _).mono ?_; rintro e w1 ⟨rfl, hk⟩; (have hkr := Root.trans (by assumption) hk); (first | (have hkf := From.step (by assumption) hk; obtain ⟨hc, hf⟩ := hkf.cells) | (have hkf := From.start hk; obtain ⟨hc, hf⟩ := hkf.cells))))
          rw [HBS.out]
          have HK1 := Lib.hid (HK.out.trans hkr.kept)
          have c1 := hkr.kept.keep c0
          clear hk hkr hc hf hkf c0
          cases hh : hasIn p (bt t 0)
          · by_cases e0 : k = 0
            · subst e0
              have eo := HJ0.out rfl
              subst eo
              have hpz : ((⟨#[]⟩ : ByteArray) ++ p).size = p.size := by rw [ByteArray.size_append]; exact Nat.zero_add _
              rw [Nat.add_zero] at c1
              simp only [Nat.zero_add, tk_0] at hts hmo
              have HX := Lib.hid (HJ1.out rfl)
              by_cases h4 : 4000 < p.size
              · have HF := Lib.hid (jn_long (xs := xs) (t := t) (by omega))
                have HV := Lib.hid (jn_no HF.out)
                go_wp2_with fail
                go_ret2
                exact ⟨by rw [HF.out, HV.out]; rfl, HK1.out⟩
              · go_wp2_with fail
                go_roundw
                case rel => exact ⟨1, by omega, by go_num, by rw [HX.out], HFW.out hh, Or.inr (by omega), HK1.out⟩
                case measure => simp [intOf]; omega
            · have e1 : 0 < k := by omega
              have e2 : (0 : Int) < (k : Int) := by omega
              have HX := Lib.hid (HJ2.out e1)
              rw [if_neg e0] at hsz
              have hos : out.size ≤ 4000 := by omega
              have hot : (out ++ t).size = out.size + 1 := by rw [ByteArray.size_append, h1]
              by_cases h4 : 4000 < out.size + 1 + p.size
              · have HF := Lib.hid (jn_long (xs := xs) (t := t) (by omega))
                have HV := Lib.hid (jn_no HF.out)
                go_wp2_with fail
                go_ret2
                exact ⟨by rw [HF.out, HV.out]; rfl, HK1.out⟩
              · go_wp2_with fail
                go_roundw
                case rel => exact ⟨k + 1, by omega, by go_num, by rw [HX.out], HFW.out hh, Or.inr (by omega), HK1.out⟩
                case measure => simp [intOf]; omega
          · have HF := Lib.hid (HH.out hh)
            have HV := Lib.hid (jn_no HF.out)
            go_wp2_with fail
            go_ret2
            exact ⟨by rw [HF.out, HV.out]; rfl, HK1.out⟩
        · have e : k = xs.length := by omega
          subst e
          have HF := Lib.hid (jn_good h0 h1 HN.out (by omega))
          have HV := Lib.hid (jn_yes HF.out)
          go_wp2_with fail
          go_ret2
          exact ⟨by rw [HF.out, HV.out]; rfl, HK.out⟩
    · have x0 : ((xs.length : Int) == 0) = true := beq_iff_eq.2 (by omega)
      have HF := Lib.hid (show jnOk xs t = false by simp [jnOk, h0])
      have HV := Lib.hid (jn_no HF.out)
      clear hA
      go_enter Try.func12, Try.ntmps12
      go_wp2_with fail
      go_ret2
      exact ⟨by rw [HF.out, HV.out]; rfl, Kept.refl _⟩
  · have t1 : ((t.size : Int) == 1) = false := by simp; omega
    have HF := Lib.hid (show jnOk xs t = false by simp [jnOk, h1])
    have HV := Lib.hid (jn_no HF.out)
    clear hA
    go_enter Try.func12, Try.ntmps12
    go_wp2_with fail
    go_ret2
    exact ⟨by rw [HF.out, HV.out]; rfl, Kept.refl _⟩
set_option maxHeartbeats 2000000 in
theorem joinStrings_any (v : Value) (xs : List ByteArray) (t : ByteArray) (ht : t.size ≤ maxLen) (w : World) (hL : Lies w 1 strC v xs) (hn : xs.length ≤ 1048576) (hz : ∀ i, i < xs.length → (XZ xs i).size ≤ 1048576) : Calls Try.prog 14 #[v, .string t] w fun e w' => e = .returned (.tuple #[.string (jnV xs t), .bool (jnOk xs t)]) ∧ Kept w w' := by
  obtain ⟨A, c, rfl, hlc, hcm, hA⟩ := lies_strs hL
  clear hL
  unfold maxLen at ht
  by_cases h0 : 0 < xs.length
  · have x0 : ((xs.length : Int) == 0) = false := beq_eq_false_iff_ne.2 (by omega)
    by_cases h1 : t.size = 1
    · have t1 : ((t.size : Int) == 1) = true := by simp [h1]
      obtain ⟨b, off, rfl, hc⟩ := hA h0
      have HC := Lib.hid hc
      have HZ := Lib.hid hz
      have hz0 : 0 < t.size := by omega
      have HB := Lib.hid (bt_at hz0)
      have z0 : (0 : Int) < (t.size : Int) := by omega
      clear hc hA hz
      go_enter Try.func14, Try.ntmps14
      go_wp2_with fail
      go_loopw [6, 22] (fun z i wr => ∃ k : Nat, k ≤ xs.length ∧ i = .int .i64 (k : Int) ∧ z = .int .i64 ((xs.length : Int) - 1 + (tk xs k : Int)) ∧ (∀ j, j < k → hasIn (XZ xs j) (bt t 0) = false) ∧ (k = 0 ∨ tk xs k + xs.length ≤ 4001) ∧ wr = w) (fun _ i _ => xs.length - (intOf i).toNat)
      case atStart => exact ⟨0, by omega, rfl, by simp [tk_0], fun j hj => absurd hj (by omega), Or.inl rfl, rfl⟩
      case round =>
        obtain ⟨k, hk, rfl, rfl, hno, hle, rfl⟩ := hrel
        have HN := Lib.hid hno
        clear hno
        by_cases hlt : k < xs.length
        · have k0 : (0 : Int) ≤ (k : Int) := by omega
          have k1 : (k : Int) < (xs.length : Int) := by omega
          have c0 := HC.out k hlt
          have hp := HZ.out k hlt
          have hts := tk_succ hlt
          have hmo := tk_mono xs (show k + 1 ≤ xs.length by omega)
          have HH := Lib.hid (jn_has (xs := xs) (t := t) hlt)
          change wr.cell? ⟨b, off + k, none⟩ = some (.string (XZ xs k)) at c0
          have HI := Lib.hid (fun W => Try.strings_IndexByte (XZ xs k) (t[0].toNat : Int) W)
          have hix := index_hasIn (XZ xs k) t[0]
          rw [show (bt t 0) = t[0] from HB.out] at HH
          have HFW : Hid (hasIn (XZ xs k) t[0] = false → ∀ j, j < k + 1 → hasIn (XZ xs j) (bt t 0) = false) := Lib.hid (fun e => upto_succ HN.out (by rw [HB.out]; exact e))
          clear HN
          have hu : (t[0].toNat : Int).toNat.toUInt8 = t[0] := by simp
          rw [hu] at HI
          generalize XZ xs k = p at c0 hp hts HH HFW HI hix
          generalize Lib.indexByte p.data.toList t[0] = ix at HI hix
          have hsm : tk xs k + xs.length - 1 + 0 ≤ 1100000 := by
            rcases hle with e | e
            · subst e
              rw [tk_0]
              omega
            · omega
          by_cases h4 : 4000 < xs.length - 1 + tk xs (k + 1)
          · have h4' : (4000 : Int) < (xs.length : Int) - 1 + (tk xs k : Int) + (p.size : Int) := by omega
            have HF := Lib.hid (jn_long (xs := xs) (t := t) (by omega))
            have HV := Lib.hid (jn_no HF.out)
            clear hix
            go_wp2_with fail
            go_ret2
            exact ⟨by rw [HF.out, HV.out]; rfl, Kept.refl _⟩
          · have h4' : ¬ ((4000 : Int) < (xs.length : Int) - 1 + (tk xs k : Int) + (p.size : Int)) := by omega
            cases hh : hasIn p t[0]
            · rw [hh] at hix
              have hneg : ¬ ((0 : Int) ≤ ix) := fun h => by simpa using hix.1 h
              clear hix
              go_wp2_with (go_at_call 24; refine (HI.out _).mono ?_; rintro e w' ⟨rfl, rfl⟩)
              go_roundw
              case rel => exact ⟨k + 1, by omega, by go_num, by congr 1; omega, HFW.out hh, Or.inr (by omega), by trivial⟩
              case measure => simp [intOf]; omega
            · rw [hh] at hix
              have hpos : (0 : Int) ≤ ix := hix.2 rfl
              clear hix
              have HF := Lib.hid (HH.out hh)
              have HV := Lib.hid (jn_no HF.out)
              go_wp2_with (go_at_call 24; refine (HI.out _).mono ?_; rintro e w' ⟨rfl, rfl⟩)
              go_ret2
              exact ⟨by rw [HF.out, HV.out]; rfl, Kept.refl _⟩
        · have e : k = xs.length := by omega
          subst e
          have hfin : tk xs xs.length + xs.length ≤ 4001 := by omega
          have HF := Lib.hid (jn_good h0 h1 HN.out hfin)
          have HV := Lib.hid (jn_yes HF.out)
          have hsz := jo_size (xs := xs) (t := t) h1 xs.length (Nat.le_refl _)
          have htake : (ls xs).take xs.length = ls xs := List.take_of_length_le (by simp [ls])
          have HJ : Hid (jo xs t xs.length = ⟨(Lib.join (xs.map (·.data.toList)) t.data.toList).toArray⟩) := Lib.hid (by rw [jo, htake]; rfl)
          have hjl : (Lib.join (xs.map (·.data.toList)) t.data.toList).length ≤ 140737488355328 := by
            have e2 : (jo xs t xs.length).size = (Lib.join (xs.map (·.data.toList)) t.data.toList).length := by rw [HJ.out]; simp [ByteArray.size]
            rw [← e2]
            rw [if_neg (by omega)] at hsz
            omega
          have HCALL := Lib.hid (Try.strings_Join b off c xs t wr (fun j x hj => by
            obtain ⟨hjl, hjx⟩ := List.getElem?_eq_some_iff.1 hj
            have := HC.out j hjl
            rw [this]
            simp [List.getD_eq_getElem?_getD, hj]) (World.block_lt_of_cell? wr _ (HC.out 0 h0)) (by omega) hlc hjl)
          clear hsz htake hjl hfin
          go_wp2_with fail
          refine HCALL.out.mono ?_
          rintro e w' ⟨rfl, hk1⟩
          have HK1 : Hid (Kept wr w') := Lib.hid hk1
          clear hk1
          go_wp2_with fail
          go_ret2
          exact ⟨by rw [HF.out, HV.out, HJ.out]; rfl, HK1.out⟩
    · have t1 : ((t.size : Int) == 1) = false := by simp; omega
      have HF := Lib.hid (show jnOk xs t = false by simp [jnOk, h1])
      have HV := Lib.hid (jn_no HF.out)
      clear hA
      go_enter Try.func14, Try.ntmps14
      go_wp2_with fail
      go_ret2
      exact ⟨by rw [HF.out, HV.out]; rfl, Kept.refl _⟩
  · have x0 : ((xs.length : Int) == 0) = true := beq_iff_eq.2 (by omega)
    have HF := Lib.hid (show jnOk xs t = false by simp [jnOk, h0])
    have HV := Lib.hid (jn_no HF.out)
    clear hA
    go_enter Try.func14, Try.ntmps14
    go_wp2_with fail
    go_ret2
    exact ⟨by rw [HF.out, HV.out]; rfl, Kept.refl _⟩
end Go.Proofs.Ytlnhdjajbiahbaa

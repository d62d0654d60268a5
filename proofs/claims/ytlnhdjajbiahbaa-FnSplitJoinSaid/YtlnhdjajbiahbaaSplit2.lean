/-
  Slices of strings: compared, marked, and looked at whether the marks are held; the law of SplitString.
  Conditions: none.
-/
import Derived.Test.YtlnhdjajbiahbaaSplit
import Derived.Laws.IdiomStrings
import Derived.BigRegion
namespace Go.Proofs.Ytlnhdjajbiahbaa
open Go.ChangeShapes Go.WideShapes Go.ChangeAt Go.RowKit
set_option linter.unusedVariables false
set_option linter.unusedSimpArgs false

theorem lies_strs {w : World} {v : Value} {xs : List ByteArray} (h : Lies w 1 strC v xs) : ∃ A c, v = .slice A xs.length c ∧ xs.length ≤ c ∧ c ≤ maxLen ∧ (0 < xs.length → ∃ b off, A = some ⟨b, off, none⟩ ∧
    ∀ i, i < xs.length → w.cell? ⟨b, off + i, none⟩ = some (.string (xs.getD i ByteArray.empty))) := by
  obtain ⟨A, c, e, h1, h2, h3⟩ := h
  refine ⟨A, c, e, h1, h2, fun h0 => ?_⟩
  obtain ⟨b, off, ea, hc⟩ := h3 h0
  refine ⟨b, off, ea, fun i hi => ?_⟩
  have := hc i hi 0 _ rfl
  simpa [List.getD_eq_getElem?_getD, hi] using this
theorem strs_own {w : World} {base : Nat} {e : TypeId} {v : Value} {xs : List ByteArray} (h : w.ownsRow base e 1 v xs.length (xs.flatMap strC)) : Lies w 1 strC v xs := Lies.of_own (g := strC) (fun _ => rfl) h
theorem eqStringS_any (u v : Value) (xs : List ByteArray) (w : World) (hU : Lies w 1 strC u xs) (hV : Lies w 1 strC v xs) : Calls Try.prog 8 #[u, v] w fun e w' => e = .returned (.bool true) ∧ Kept w w' := by
  have hm := hU.len
  unfold maxLen at hm
  obtain ⟨A, c, rfl, hlc, hcm, hA⟩ := lies_strs hU
  obtain ⟨A', c', rfl, hlc', hcm', hA'⟩ := lies_strs hV
  clear hU hV
  go_enter Try.func8, Try.ntmps8
  go_wp2
  go_loopw [5] (fun i wr => ∃ k : Nat, k ≤ xs.length ∧ i = .int .i64 k ∧ Kept w wr) (fun i _ => xs.length - (intOf i).toNat)
  case atStart => exact ⟨0, Nat.zero_le _, rfl, Kept.refl _⟩
  case round =>
    obtain ⟨k, hk, rfl, hkw⟩ := hrel
    by_cases hlt : k < xs.length
    · obtain ⟨b, off, rfl, hc⟩ := hA (by omega)
      obtain ⟨b', off', rfl, hc'⟩ := hA' (by omega)
      have c0 := hkw.keep (hc k hlt)
      have d0 := hkw.keep (hc' k hlt)
      have k0 : (0 : Int) ≤ (k : Int) := by omega
      have k1 : (k : Int) < (xs.length : Int) := by omega
      clear hc hc' hA hA'
      go_wp2_with fail
      go_quiet (fail)
      go_wp2
      go_roundw
      case rel => exact ⟨k + 1, by omega, by go_num, by (repeat (first | exact Kept.refl _ | assumption | refine Kept.alloc ?_ _ | refine Kept.drew ?_ | refine Kept.drewN ?_ _ | refine Kept.setCell ?_ (by first | (simp; done) | (simp; omega) | omega | exact Kept.size (by (repeat (first | exact Kept.refl _ | assumption | refine Kept.alloc ?_ _ | refine Kept.drew ?_ | refine Kept.drewN ?_ _ | refine Kept.trans ?_ (by assumption))))) _ | refine Kept.trans ?_ (by assumption)))⟩
      case measure => simp [intOf]; omega
    · go_wp2
      go_ret
      exact ⟨rfl, by (repeat (first | exact Kept.refl _ | assumption | refine Kept.alloc ?_ _ | refine Kept.drew ?_ | refine Kept.drewN ?_ _ | refine Kept.setCell ?_ (by first | (simp; done) | (simp; omega) | omega | exact Kept.size (by (repeat (first | exact Kept.refl _ | assumption | refine Kept.alloc ?_ _ | refine Kept.drew ?_ | refine Kept.drewN ?_ _ | refine Kept.trans ?_ (by assumption))))) _ | refine Kept.trans ?_ (by assumption)))⟩
theorem sz1 (a : UInt8) (out : ByteArray) : ((⟨#[a]⟩ : ByteArray) ++ out).size = 1 + out.size := by
  rw [ByteArray.size_append]
  rfl
/-- The digits that a mark's text is built of. -/
def mgo : Nat → Nat → ByteArray → ByteArray
  | 0, _, out => out
  | f + 1, k, out => if k = 0 then out else mgo f (k / 10) (⟨#[(48 + UInt8.ofNat (k % 10))]⟩ ++ out)
theorem mgo_zero (f : Nat) (out : ByteArray) : mgo f 0 out = out := by
  cases f <;> simp [mgo]
theorem mgo_step {f k : Nat} {out : ByteArray} (h : 0 < k) : mgo (f + 1) k out = mgo f (k / 10) (⟨#[(48 + UInt8.ofNat (k % 10))]⟩ ++ out) := by
  rw [mgo, if_neg (by omega)]
def mtx (k : Nat) : ByteArray := ⟨#[109]⟩ ++ mgo k k ⟨#[]⟩
theorem run_one (w : World) (k : Nat) : (convert 32 9 (.slice (some ⟨w.heap.size, 0, none⟩) 1 1)).run Try.prog (w.alloc (.cells #[.int .u8 (48 + (k : Int) % 10)] 5)) = .ok (.string ⟨#[(48 + UInt8.ofNat (k % 10))]⟩) (w.alloc (.cells #[.int .u8 (48 + (k : Int) % 10)] 5)) := by
  have h := run_convert_bytes_back (P := Try.prog) (w.alloc (.cells #[.int .u8 (48 + (k : Int) % 10)] 5)) 32 9 5 ⟨w.heap.size, 0, none⟩ 1 [(48 + UInt8.ofNat (k % 10))] Try.underlying32 Try.underlying5 Try.underlying9 (fun j hj => by
    have e : j = 0 := by simpa using hj
    subst e
    have := news_one w (.int .u8 (48 + (k : Int) % 10)) 5 rfl 0 _ rfl
    rw [this]
    simp
    omega)
  simpa using h
set_option maxHeartbeats 1000000 in
theorem markText_any (k : Nat) (h0 : 1 ≤ k) (h1 : k ≤ 1000000) (w : World) : Calls Try.prog 22 #[.int .i64 (k : Int)] w fun e w' => e = .returned (.string (mtx k)) ∧ Kept w w' := by
  have hp : ¬ ((k : Int) ≤ 0) := by omega
  go_enter Try.func22, Try.ntmps22
  go_wp2_with fail
  go_loopw [0, 3] (fun kk o wr => ∃ (f j : Nat) (out : ByteArray), kk = .int .i64 (j : Int) ∧ o = .string out ∧ j ≤ f ∧ out.size + j ≤ k ∧ mgo f j out = mgo k k ⟨#[]⟩ ∧ Kept w wr) (fun kk _ _ => (intOf kk).toNat)
  case atStart => exact ⟨k, k, _, rfl, rfl, Nat.le_refl _, by simp [ByteArray.size], rfl, Kept.refl _⟩
  case round =>
    obtain ⟨f, j, out, rfl, rfl, hjf, hjk, hm, hkw⟩ := hrel
    have HM := Lib.hid hm
    have HK := Lib.hid hkw
    have hz : out.size ≤ 1000000 := by omega
    clear hm hkw
    by_cases hlt : 0 < j
    · have hcv := run_one wr j
      have hb0 : 0 ≤ (j : Int) % 10 := by omega
      have hb1 : (j : Int) % 10 < 10 := by omega
      have ht : (j : Int).tmod 10 = (j : Int) % 10 := Int.tmod_eq_emod_of_nonneg (by omega)
      have hq : (j : Int).tdiv 10 = (j : Int) / 10 := Int.tdiv_eq_ediv_of_nonneg (by omega)
      obtain ⟨f, rfl⟩ : ∃ f', f = f' + 1 := ⟨f - 1, by omega⟩
      have HS := Lib.hid (mgo_step (f := f) (out := out) hlt)
      go_wp2_with fail
      go_roundw
      case rel => exact ⟨f, j / 10, _, by go_num, rfl, by omega, by rw [sz1]; omega, by rw [← HS.out]; exact HM.out, by have hq := HK.out; (repeat (first | exact Kept.refl _ | assumption | refine Kept.alloc ?_ _ | refine Kept.drew ?_ | refine Kept.drewN ?_ _ | refine Kept.setCell ?_ (by first | (simp; done) | (simp; omega) | omega | exact Kept.size (by (repeat (first | exact Kept.refl _ | assumption | refine Kept.alloc ?_ _ | refine Kept.drew ?_ | refine Kept.drewN ?_ _ | refine Kept.trans ?_ (by assumption))))) _ | refine Kept.trans ?_ (by assumption)))⟩
      case measure => simp [intOf]; omega
    · have e : j = 0 := by omega
      subst e
      have HZ := Lib.hid (show out = mgo k k ⟨#[]⟩ from (mgo_zero f out).symm.trans HM.out)
      go_wp2_with fail
      go_ret
      exact ⟨by rw [HZ.out]; rfl, HK.out⟩
def smarks (n : Nat) : List Value := (List.range n).map fun (j : Nat) => .string (mtx (1 + j))
def SMarked (ys : List Value) (k : Nat) : Prop := ∀ j, j < k → ys[j]? = some (.string (mtx (1 + j)))
theorem smarked_set {ys : List Value} {k : Nat} (hk : k < ys.length) (h : SMarked ys k) : SMarked (ys.set k (.string (mtx (1 + k)))) (k + 1) := by
  intro j hj
  by_cases e : j = k
  · subst e
    rw [List.getElem?_set_self hk]
  · rw [List.getElem?_set_ne (by omega)]
    exact h j (by omega)
theorem smarked_all {ys : List Value} {n : Nat} (hl : ys.length = n) (h : SMarked ys n) : ys = smarks n := by
  apply List.ext_getElem?
  intro j
  by_cases hj : j < n
  · rw [h j hj]
    simp [smarks, hj]
  · rw [List.getElem?_eq_none (by omega), List.getElem?_eq_none (by simp [smarks]; omega)]
theorem smarks_at {n j : Nat} (h : j < n) : (smarks n)[j]? = some (.string (mtx (1 + j))) := by simp [smarks, h]
set_option maxHeartbeats 1000000 in
theorem markStringS_any (W0 : World) (E : TypeId) (u : Value) (n : Nat) (xs : List Value) (w : World) (hk0 : Kept W0 w) (hu : w.ownsRow W0.heap.size E 1 u n xs) (hn : n ≤ 5000) : Calls Try.prog 9 #[u, .int .i64 1] w fun e w' => e = .returned (.int .i64 (1 + (n : Int))) ∧ w'.ownsRow W0.heap.size E 1 u n (smarks n) ∧ Kept W0 w' := by
  obtain ⟨A, c, rfl, hlc, hcm, hA⟩ := own_form hu
  have HU := Lib.hid hu
  have HK0 := Lib.hid hk0
  clear hu hk0
  go_enter Try.func9, Try.ntmps9
  go_wp2_with fail
  go_loopw [1, 5] (fun kk i wr => ∃ k : Nat, k ≤ n ∧ i = .int .i64 k ∧ kk = .int .i64 (1 + (k : Int)) ∧ Kept W0 wr ∧ ∃ ys, wr.ownsRow W0.heap.size E 1 (.slice A n c) n ys ∧ SMarked ys k) (fun _ i _ => n - (intOf i).toNat)
  case atStart => exact ⟨0, Nat.zero_le _, rfl, rfl, HK0.out, _, HU.out, fun j h => absurd h (by omega)⟩
  case round =>
    obtain ⟨k, hk, rfl, rfl, hkw, ys, hown, hys⟩ := hrel
    have HY := Lib.hid hys
    have HO := Lib.hid hown
    have HK := Lib.hid hkw
    clear hys hown hkw
    by_cases hlt : k < n
    · obtain ⟨g, rfl, hBg, hgw⟩ := hA (by omega)
      have k0 : (0 : Int) ≤ (k : Int) := by omega
      have k1 : (k : Int) < (n : Int) := by omega
      have HC1 : Hid ((1 : Int) + (k : Int) = ((1 + k : Nat) : Int)) := Lib.hid (by omega)
      go_wp2_with fail
      rw [HC1.out]
      refine (markText_any (1 + k) (by omega) (by omega) _).mono ?_
      rintro e w1 ⟨rfl, k1'⟩
      have HO1 := Lib.hid (own_kept HO.out k1')
      have HK1 := Lib.hid (HK.out.trans k1')
      clear k1' HO HK
      obtain ⟨u0, -, d0, f0⟩ := own_cell HO1.out (j := k) (by omega)
      go_wp2_with fail
      go_roundw
      case rel => exact ⟨k + 1, by omega, by go_num, by go_num, HK1.out.setCell (by simp; omega) _, _, (HO1.out.stored k _).1, smarked_set (by rw [HO1.out.1]; omega) HY.out⟩
      case measure => simp [intOf]; omega
    · have e : k = n := by omega
      have HF := Lib.hid (smarked_all (n := n) (by rw [HO.out.1]; omega) (by rw [← e]; exact HY.out))
      have HC := Lib.hid (show (1 : Int) + (k : Int) = 1 + (n : Int) by omega)
      clear e
      go_wp2_with fail
      go_ret
      exact ⟨ret_int HC.out, by rw [← HF.out]; exact HO.out, HK.out⟩
set_option maxHeartbeats 1000000 in
theorem heldStringS_any (B : Nat) (E : TypeId) (u : Value) (n : Nat) (w : World) (hu : w.ownsRow B E 1 u n (smarks n)) (hn : n ≤ 5000) : Calls Try.prog 10 #[u, .int .i64 1] w fun e w' => e = .returned (.int .i64 (1 + (n : Int))) ∧ Kept w w' := by
  obtain ⟨A, c, rfl, hlc, hcm, hA⟩ := own_form hu
  have HU := Lib.hid hu
  clear hu
  go_enter Try.func10, Try.ntmps10
  go_wp2_with fail
  go_loopw [1, 5] (fun kk i wr => ∃ k : Nat, k ≤ n ∧ i = .int .i64 k ∧ kk = .int .i64 (1 + (k : Int)) ∧ Kept w wr) (fun _ i _ => n - (intOf i).toNat)
  case atStart => exact ⟨0, Nat.zero_le _, rfl, rfl, Kept.refl _⟩
  case round =>
    obtain ⟨k, hk, rfl, rfl, hkw⟩ := hrel
    have HK := Lib.hid hkw
    clear hkw
    by_cases hlt : k < n
    · obtain ⟨g, rfl, hBg, hgw⟩ := hA (by omega)
      have k0 : (0 : Int) ≤ (k : Int) := by omega
      have k1 : (k : Int) < (n : Int) := by omega
      have d0 : wr.cell? ⟨g, k, none⟩ = some (.string (mtx (1 + k))) := by
        obtain ⟨u0, hu0, d0, -⟩ := own_cell HU.out (j := k) (by omega)
        rw [smarks_at hlt] at hu0
        injection hu0 with hu0
        subst hu0
        exact HK.out.keep d0
      have HC1 : Hid ((1 : Int) + (k : Int) = ((1 + k : Nat) : Int)) := Lib.hid (by omega)
      go_wp2_with fail
      rw [HC1.out]
      have kf1_0 : ∀ w' : World, Root (wr) w' → w'.cell? ⟨g, k, none⟩ = some (.string (mtx (1 + k))) := fun w' h => h.keep (by first | assumption | exact (Kept.alloc (Kept.refl _) _).keep (by assumption) | (simp [go_sem]; done) | (simp [go_sem, *]; done))
      go_region_held3 (fun w' => Root (wr) w')
        (first | assumption | exact Root.trans (by assumption) hk | exact Root.drew (Root.refl _) | (repeat (first | exact Root.refl _ | assumption | refine Root.alloc ?_ _ | refine Root.drew ?_ | refine Root.setCell ?_ (by first | (simp; done) | (simp; omega) | omega | exact Root.size (by assumption)) _ | refine Root.trans ?_ (by assumption))))
        (first | (go_at_call 22; refine (markText_any (1 + k) (by omega) (by omega) _).mono ?_; rintro e w1 ⟨rfl, hk⟩; (have hkr := Root.trans (by assumption) hk); (first | (have hkf := From.step (by assumption) hk; obtain ⟨hc, hf⟩ := hkf.cells) | (have hkf := From.start hk; obtain ⟨hc, hf⟩ := hkf.cells))))
      have HK1 := Lib.hid (HK.out.trans hkr.kept)
      clear hk hkr hc hf hkf
      go_wp2_with fail
      go_roundw
      case rel => exact ⟨k + 1, by omega, by go_num, by go_num, HK1.out⟩
      case measure => simp [intOf]; omega
    · have e : k = n := by omega
      have HC := Lib.hid (show (1 : Int) + (k : Int) = 1 + (n : Int) by omega)
      clear e
      go_wp2_with fail
      go_ret
      exact ⟨ret_int HC.out, HK.out⟩
set_option maxRecDepth 100000 in
set_option maxHeartbeats 2000000 in
theorem lawSplitString (s : ByteArray) (hs : s.size ≤ maxLen) (t : ByteArray) (ht : t.size ≤ maxLen) (w : World) : Calls Try.prog 3 #[.string s, .string t] w fun e w' => e = .returned (.bool true) ∧ Kept w w' := by
  have hs' := hs
  have ht' := ht
  unfold maxLen at hs ht
  have hln := spl_len s t
  by_cases h1 : (1048576 : Int) < (s.size : Int)
  · go_enter Try.func3, Try.ntmps3
    go_wp2_with fail
    go_ret
    exact ⟨rfl, Kept.refl _⟩
  · by_cases h2 : (1048576 : Int) < (t.size : Int)
    · go_enter Try.func3, Try.ntmps3
      go_wp2_with fail
      go_ret
      exact ⟨rfl, Kept.refl _⟩
    · go_enter Try.func3, Try.ntmps3
      go_wp2_with fail
      refine (sSplitString_any s t hs' ht' _).mono ?_
      rintro e w1 ⟨uw, rfl, how, k1⟩
      obtain ⟨Aw, cw, rfl, -, -, -⟩ := own_form how
      have HW := Lib.hid how
      have K1 := Lib.hid k1
      clear how k1
      go_wp2_with fail
      refine (splitString_any s t hs' ht' _).mono ?_
      rintro e w2 ⟨ug, rfl, hog, k2⟩
      obtain ⟨Ag, cg, rfl, -, -, -⟩ := own_form hog
      have HG := Lib.hid hog
      have K2 := Lib.hid k2
      clear hog k2
      go_wp2_with fail
      refine (eqStringS_any _ _ _ _ (strs_own HG.out) (strs_own (own_kept HW.out K2.out))).mono ?_
      rintro e w3 ⟨rfl, k3⟩
      have HG3 := Lib.hid (own_kept HG.out k3)
      have K3 := Lib.hid (K2.out.trans k3)
      clear k3 HG K2
      go_wp2_with fail
      refine (markStringS_any w1 _ _ _ _ _ K3.out HG3.out (by omega)).mono ?_
      rintro e w4 ⟨rfl, hm4, k4⟩
      have HM4 := Lib.hid hm4
      have K4 := Lib.hid k4
      clear hm4 k4 K3 HG3
      go_wp2_with fail
      refine (heldStringS_any _ _ _ _ _ HM4.out (by omega)).mono ?_
      rintro e w5 ⟨rfl, k5⟩
      have HM5 := Lib.hid (own_kept HM4.out k5)
      have K5 := Lib.hid (K4.out.trans k5)
      clear k5 K4 HM4
      go_wp2_with fail
      refine (splitString_any s t hs' ht' _).mono ?_
      rintro e w6 ⟨uh, rfl, hoh, k6⟩
      obtain ⟨Ah, ch, rfl, -, -, -⟩ := own_form hoh
      have HH := Lib.hid hoh
      have HM6 := Lib.hid (own_kept HM5.out k6)
      have K6 := Lib.hid (K5.out.trans k6)
      clear k6 K5 HM5 hoh
      go_wp2_with fail
      refine (eqStringS_any _ _ _ _ (strs_own HH.out) (strs_own (own_kept HW.out K6.out))).mono ?_
      rintro e w7 ⟨rfl, k7⟩
      have HM7 := Lib.hid (own_kept HM6.out k7)
      have K7 := Lib.hid (K1.out.trans (K6.out.trans k7))
      clear k7 K6 HM6
      go_wp2_with fail
      refine (heldStringS_any _ _ _ _ _ HM7.out (by omega)).mono ?_
      rintro e w8 ⟨rfl, k8⟩
      have K8 := Lib.hid (K7.out.trans k8)
      clear k8
      go_wp2_with fail
      go_ret
      exact ⟨rfl, K8.out⟩
end Go.Proofs.Ytlnhdjajbiahbaa

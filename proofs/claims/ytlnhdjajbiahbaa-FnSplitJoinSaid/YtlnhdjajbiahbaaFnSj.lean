/-
  FnSplitJoin's walk: what is split is joined to what it was, and the order of texts is strict.
  Conditions: none.
-/
import Derived.Test.YtlnhdjajbiahbaaDrawS2
import Derived.Test.YtlnhdjajbiahbaaSj
namespace Go.Proofs.Ytlnhdjajbiahbaa
open Go.ChangeShapes Go.WideShapes Go.ChangeAt Go.RowKit
set_option linter.unusedVariables false
set_option linter.unusedSimpArgs false

theorem lessString_any (a b : ByteArray) (w : World) : Calls Try.prog 19 #[.string a, .string b] w fun e w' => e = .returned (.bool (Op.bytesLess a.toList b.toList)) ∧ w = w' := by
  go_enter Try.func19, Try.ntmps19
  go_wp2
  go_ret
  exact ⟨rfl, rfl⟩
theorem sLessString_any (a b : ByteArray) (w : World) : Calls Try.prog 20 #[.string a, .string b] w fun e w' => e = .returned (.bool (Op.bytesLess a.toList b.toList)) ∧ w = w' := by
  go_enter Try.func20, Try.ntmps20
  go_wp2
  go_ret
  exact ⟨rfl, rfl⟩
set_option maxRecDepth 100000 in
set_option maxHeartbeats 2000000 in
theorem lawFnSj (v : Value) (w : World) (hc : CodeW w v) : Calls Try.prog 5 #[v] w fun e w' => e = .returned (.bool true) ∧ Kept w w' := by
  have HC := Lib.hid hc
  obtain ⟨A, len, cap, rfl, -⟩ := hc
  by_cases hbig : (65536 : Int) < (len : Int)
  · have hd : decide ((65536 : Int) < (len : Int)) = true := by simp [hbig]
    go_enter Try.func5, Try.ntmps5
    go_wp2_with (go_at_call 15; (with_reducible refine (vBig_any _ _ _ _).mono ?_); rintro e w' ⟨rfl, rfl⟩)
    go_ret
    exact ⟨rfl, Kept.refl _⟩
  · have hd : decide ((65536 : Int) < (len : Int)) = false := by simp [hbig]
    go_enter Try.func5, Try.ntmps5
    go_wp2_with (go_at_call 15; (with_reducible refine (vBig_any _ _ _ _).mono ?_); rintro e w' ⟨rfl, rfl⟩)
    refine (drawSplitString_any _ _ HC.out).mono ?_
    rintro e d1 ⟨s, t, rfl, hs, ht, k1⟩
    have K1 := Lib.hid k1
    clear k1
    go_wp2_with fail
    refine (splitString_any s t (by unfold maxLen; omega) (by unfold maxLen; omega) _).mono ?_
    rintro e d2 ⟨u, rfl, hu, k2⟩
    obtain ⟨Au, cu, rfl, -, -, -⟩ := own_form hu
    have L2 := Lib.hid (strs_own hu)
    have K2 := Lib.hid (K1.out.trans k2)
    clear hu k2 K1
    go_wp2_with fail
    refine (drawJoinStrings_any _ _ (HC.out.kept K2.out)).mono ?_
    rintro e d3 ⟨l, xs, m, rfl, hx, hxs, hm, hl, k3⟩
    obtain ⟨Al, cl, rfl, -, -, -⟩ := lies_strs hl
    have L3 := Lib.hid (L2.out.kept k3)
    have J3 := Lib.hid hl
    have K3 := Lib.hid (K2.out.trans k3)
    have HZ : Hid (∀ i, i < xs.length → (XZ xs i).size ≤ 1048576) := Lib.hid (fun i hi => by have := hxs _ (xz_mem hi); omega)
    clear hl k3 K2 L2 hxs
    go_wp2_with fail
    refine (joinStrings_any _ xs m (by unfold maxLen; omega) _ J3.out (by omega) HZ.out).mono ?_
    rintro e d4 ⟨rfl, k4⟩
    have L4 := Lib.hid (L3.out.kept k4)
    have J4 := Lib.hid (J3.out.kept k4)
    have K4 := Lib.hid (K3.out.trans k4)
    clear k4 K3 L3 J3
    go_wp2_with fail
    refine (sJoinStrings_any _ xs m (by unfold maxLen; omega) _ J4.out (by omega) HZ.out).mono ?_
    rintro e d5 ⟨rfl, k5⟩
    have L5 := Lib.hid (L4.out.kept k5)
    have K5 := Lib.hid (K4.out.trans k5)
    clear k5 K4 L4 J4 HZ
    generalize jnOk xs m = jok
    generalize jnV xs m = jv
    go_wp2_with fail
    refine (drawLessString_any _ _ (HC.out.kept K5.out)).mono ?_
    rintro e d6 ⟨a, b, rfl, -, -, k6⟩
    have L6 := Lib.hid (L5.out.kept k6)
    have K6 := Lib.hid (K5.out.trans k6)
    clear k6 K5 L5
    have hAB := Lib.hid fun W => lessString_any a b W
    have hSAB := Lib.hid fun W => sLessString_any a b W
    have hBA := Lib.hid fun W => lessString_any b a W
    have hasym := less_asym a.toList b.toList
    generalize Op.bytesLess a.toList b.toList = lab at hAB hSAB hasym
    generalize Op.bytesLess b.toList a.toList = lba at hBA hasym
    go_upto_region 9 with fail
    go_cut [78] (fun s78 wx => s78 = .bool false ∧ wx = d6)
    case first =>
      go_wp2_with fail
      refine (hAB.out _).mono ?_
      rintro e d7 ⟨rfl, rfl⟩
      go_wp2_with fail
      refine (hSAB.out _).mono ?_
      rintro e d7 ⟨rfl, rfl⟩
      cases lab
      · go_wp2_with fail
        refine (hAB.out _).mono ?_
        rintro e d7 ⟨rfl, rfl⟩
        go_wp2_with fail
        go_meet
        exact ⟨rfl, rfl⟩
      · have hf := hasym (by trivial)
        subst hf
        go_wp2_with fail
        refine (hAB.out _).mono ?_
        rintro e d7 ⟨rfl, rfl⟩
        go_wp2_with fail
        refine (hBA.out _).mono ?_
        rintro e d7 ⟨rfl, rfl⟩
        go_wp2_with fail
        go_meet
        exact ⟨rfl, rfl⟩
    case rest =>
      obtain ⟨rfl, rfl⟩ := hcut
      clear hAB hSAB hBA hasym
      by_cases h1 : t.size = 1
      · have t1 : ((t.size : Int) == 1) = true := by simp [h1]
        obtain ⟨b1, b2, b3, b4⟩ := back s t (by omega) h1
        have hok : splOk s t = true := by simp [splOk, h1]; omega
        have hJ := Lib.hid fun W (hL : Lies W 1 strC (.slice Au (splV s t).length cu) (splV s t)) => joinStrings_any _ (splV s t) t (by unfold maxLen; omega) W hL b4 b3
        rw [b1, b2] at hJ
        rw [hok]
        clear b1 b2 b3 b4 hok
        have HL6 := Lib.hid L6.out
        generalize splV s t = sv at hJ HL6 ⊢
        go_wp2_with fail
        refine (hJ.out _ HL6.out).mono ?_
        rintro e d7 ⟨rfl, k7⟩
        have K7 := Lib.hid (K6.out.trans k7)
        clear k7
        go_wp2_with fail
        go_ret
        exact ⟨rfl, K7.out⟩
      · have t1 : ((t.size : Int) == 1) = false := by simp; omega
        have hok : splOk s t = false := by simp [splOk, h1]
        rw [hok, spl_no hok]
        clear hok
        go_wp2_with fail
        go_ret
        exact ⟨rfl, K6.out⟩
end Go.Proofs.Ytlnhdjajbiahbaa

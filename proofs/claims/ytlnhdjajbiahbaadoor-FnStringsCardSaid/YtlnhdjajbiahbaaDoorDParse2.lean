/-
  Contracts of the program's ParseInt and the reference's; the walk of ParseInt's law.
  Conditions: none but that the tables of the library read as they were laid.
-/
import Derived.Test.YtlnhdjajbiahbaaDoorDParse
import Derived.Lib.AtoiErrMem
namespace Go.Proofs.YtlnhdjajbiahbaaDoor
open Go.ChangeShapes Go.WideShapes Go.ChangeAt Go.RowKit
set_option linter.unusedVariables false
set_option linter.unusedSimpArgs false

def SynVar (w : World) : Prop := ∃ tp p, w.var? Tryd.prog "strconv.ErrSyntax" = some #[.iface tp p]
theorem SynVar.kept {w w' : World} (h : SynVar w) (k : Kept w w') : SynVar w' := by
  obtain ⟨tp, p, e⟩ := h
  exact ⟨tp, p, Go.Joins.var_stays (g := 0) (by kernel_rfl) e k (Nat.le_refl _)⟩
theorem atoi_yes (s : ByteArray) (n : Int) (hl : s.size ≤ 18) (h : Lib.atoi s.data.toList = some n) (w : World) : Calls Tryd.prog 22 #[.string s] w fun e w' => e = .returned (.tuple #[.int .i64 n, .nilIface]) ∧ Kept w w' := by
  refine (Tryd.strconv_Atoi s n hl h w).mono ?_
  rintro e w' ⟨rfl, t, rfl⟩
  exact ⟨rfl, Lib.bytesWorld_below _ _ _⟩
theorem atoi_no (s : ByteArray) (hl : s.size ≤ 18) (h : Lib.atoi s.data.toList = none) (w : World) (hv : SynVar w) : Calls Tryd.prog 22 #[.string s] w fun e w' => ∃ N, e = .returned (.tuple #[.int .i64 0, .iface 63 (.pointer (some ⟨N, 0, none⟩))]) ∧ Kept w w' := by
  obtain ⟨tp, p, e⟩ := hv
  refine (Tryd.strconv_Atoi_err_var s hl h tp p w e).mono ?_
  rintro e w' ⟨N, rfl, -, -, k⟩
  exact ⟨N, rfl, k⟩
theorem parseInt_any (s : ByteArray) (w : World) (ht : PowTab w) (hv : SynVar w) : Calls Tryd.prog 9 #[.string s] w fun e w' => e = .returned (.tuple #[.int .i64 (piV s), .bool (piOk s)]) ∧ Kept w w' := by
  by_cases hz : 7 < s.size
  · have hp : piN s = none := pi_none fun n hn e => by have := itx_size7 hn; rw [e] at this; omega
    obtain ⟨hV, hO⟩ := pi_no hp
    rw [hV, hO]
    have z1 : (7 : Int) < (s.size : Int) := by omega
    clear hp hV hO
    go_enter Tryd.func9, Tryd.ntmps9
    go_wp2_with fail
    go_ret2
    exact ⟨rfl, Kept.refl _⟩
  have z1 : ¬ ((7 : Int) < (s.size : Int)) := by omega
  cases ha : Lib.atoi s.data.toList with
  | none =>
    have hp : piN s = none := by simp [piN, ha]
    obtain ⟨hV, hO⟩ := pi_no hp
    rw [hV, hO]
    have HA := Lib.hid fun W (h : Kept w W) => atoi_no s (by omega) ha W (hv.kept h)
    clear hp hV hO ha
    go_enter Tryd.func9, Tryd.ntmps9
    go_wp2_with fail
    refine (HA.out _ (by (repeat (first | exact Kept.refl _ | assumption | refine Kept.alloc ?_ _ | refine Kept.drew ?_ | refine Kept.drewN ?_ _ | refine Kept.setCell ?_ (by first | (simp; done) | (simp; omega) | omega | exact Kept.size (by (repeat (first | exact Kept.refl _ | assumption | refine Kept.alloc ?_ _ | refine Kept.drew ?_ | refine Kept.drewN ?_ _ | refine Kept.trans ?_ (by assumption))))) _ | refine Kept.trans ?_ (by assumption))))).mono ?_
    rintro e w1 ⟨N, rfl, k1⟩
    go_wp2_with fail
    go_ret2
    exact ⟨rfl, k1⟩
  | some n =>
    have HA := Lib.hid fun W => atoi_yes s n (by omega) ha W
    have HI := Lib.hid fun W => inside_any n (-999999) 999999 W
    cases hb : inB n (-999999) 999999
    · have hp : piN s = none := pi_none fun m hm e => by
        have h2 : Lib.atoi (itx m).data.toList = some m := atoi_round m
        rw [e, ha] at h2
        injection h2 with h2
        rw [h2, hm] at hb
        cases hb
      obtain ⟨hV, hO⟩ := pi_no hp
      rw [hV, hO]
      rw [hb] at HI
      clear hp hV hO ha hb
      go_enter Tryd.func9, Tryd.ntmps9
      go_wp2_with fail
      refine (HA.out _).mono ?_
      rintro e w1 ⟨rfl, k1⟩
      go_wp2_with (first | (go_at_call 23; (with_reducible refine (HI.out _).mono ?_); rintro e w' ⟨rfl, rfl⟩))
      go_ret2
      exact ⟨rfl, k1⟩
    · have hbd := fi_bd hb
      have HN := Lib.hid fun W (h : Kept w W) => itoa_any n hbd.1 hbd.2 W (ht.kept h)
      by_cases he : itx n = s
      · obtain ⟨hV, hO⟩ := pi_yes (pi_of hb he)
        rw [hV, hO]
        rw [hb] at HI
        rw [he] at HN
        clear hV hO ha hb he
        go_enter Tryd.func9, Tryd.ntmps9
        go_wp2_with fail
        refine (HA.out _).mono ?_
        rintro e w1 ⟨rfl, k1⟩
        go_wp2_with (first | (go_at_call 23; (with_reducible refine (HI.out _).mono ?_); rintro e w' ⟨rfl, rfl⟩))
        refine (HN.out _ (by (repeat (first | exact Kept.refl _ | assumption | refine Kept.alloc ?_ _ | refine Kept.drew ?_ | refine Kept.drewN ?_ _ | refine Kept.setCell ?_ (by first | (simp; done) | (simp; omega) | omega | exact Kept.size (by (repeat (first | exact Kept.refl _ | assumption | refine Kept.alloc ?_ _ | refine Kept.drew ?_ | refine Kept.drewN ?_ _ | refine Kept.trans ?_ (by assumption))))) _ | refine Kept.trans ?_ (by assumption))))).mono ?_
        rintro e w2 ⟨rfl, k2⟩
        go_wp2_with fail
        go_ret2
        exact ⟨rfl, k1.trans k2⟩
      · have hp : piN s = none := pi_none fun m hm e => by
          have h2 : Lib.atoi (itx m).data.toList = some m := atoi_round m
          rw [e, ha] at h2
          injection h2 with h2
          rw [h2] at he
          exact he e
        obtain ⟨hV, hO⟩ := pi_no hp
        rw [hV, hO]
        rw [hb] at HI
        have hne := txt_ne he
        clear hp hV hO ha hb he
        generalize itx n = t at HN hne
        go_enter Tryd.func9, Tryd.ntmps9
        go_wp2_with fail
        refine (HA.out _).mono ?_
        rintro e w1 ⟨rfl, k1⟩
        go_wp2_with (first | (go_at_call 23; (with_reducible refine (HI.out _).mono ?_); rintro e w' ⟨rfl, rfl⟩))
        refine (HN.out _ (by (repeat (first | exact Kept.refl _ | assumption | refine Kept.alloc ?_ _ | refine Kept.drew ?_ | refine Kept.drewN ?_ _ | refine Kept.setCell ?_ (by first | (simp; done) | (simp; omega) | omega | exact Kept.size (by (repeat (first | exact Kept.refl _ | assumption | refine Kept.alloc ?_ _ | refine Kept.drew ?_ | refine Kept.drewN ?_ _ | refine Kept.trans ?_ (by assumption))))) _ | refine Kept.trans ?_ (by assumption))))).mono ?_
        rintro e w2 ⟨rfl, k2⟩
        go_wp2_with fail
        go_ret2
        exact ⟨rfl, k1.trans k2⟩
theorem sParseInt_any (s : ByteArray) (hz : s.size ≤ 1048576) (w : World) : Calls Tryd.prog 8 #[.string s] w fun e w' => e = .returned (.tuple #[.int .i64 (piV s), .bool (piOk s)]) ∧ Kept w w' := by
  have HR := Lib.hid fun W => l1Read_any s hz W
  generalize piV s = a at HR ⊢
  generalize piOk s = b at HR ⊢
  go_enter Tryd.func8, Tryd.ntmps8
  go_wp2_with (go_at_call 21; (with_reducible refine (HR.out _).mono ?_); rintro e w' ⟨rfl, hk⟩; (try have hkr := Root.trans (by assumption) hk); (first | (have hkf := From.step (by assumption) hk; obtain ⟨hc, hf⟩ := hkf.cells) | (have hkf := From.start hk; obtain ⟨hc, hf⟩ := hkf.cells)))
  go_ret2
  exact ⟨rfl, by (repeat (first | exact Kept.refl _ | assumption | refine Kept.alloc ?_ _ | refine Kept.drew ?_ | refine Kept.drewN ?_ _ | refine Kept.setCell ?_ (by first | (simp; done) | (simp; omega) | omega | exact Kept.size (by (repeat (first | exact Kept.refl _ | assumption | refine Kept.alloc ?_ _ | refine Kept.drew ?_ | refine Kept.drewN ?_ _ | refine Kept.trans ?_ (by assumption))))) _ | refine Kept.trans ?_ (by assumption)))⟩
theorem lawParseInt (s : ByteArray) (hs : s.size ≤ 9223372036854775807) (w : World) (ht : PowTab w) (hv : SynVar w) : Calls Tryd.prog 3 #[.string s] w fun e w' => e = .returned (.bool true) ∧ Kept w w' := by
  by_cases hz : 1048576 < s.size
  · have z1 : (1048576 : Int) < (s.size : Int) := by omega
    go_enter Tryd.func3, Tryd.ntmps3
    go_wp2_with fail
    go_ret
    exact ⟨rfl, Kept.refl _⟩
  have z1 : ¬ ((1048576 : Int) < (s.size : Int)) := by omega
  have HS := Lib.hid (sParseInt_any s (by omega) w)
  have HI := Lib.hid fun W (h : Kept w W) => parseInt_any s W (ht.kept h) (hv.kept h)
  generalize piV s = t at HS HI
  generalize piOk s = b at HS HI
  go_enter Tryd.func3, Tryd.ntmps3
  go_wp2_with fail
  refine HS.out.mono ?_
  rintro e w1 ⟨rfl, k1⟩
  go_wp2_with fail
  refine (HI.out _ k1).mono ?_
  rintro e w2 ⟨rfl, k2⟩
  go_wp2_with fail
  go_ret
  exact ⟨rfl, k1.trans k2⟩
end Go.Proofs.YtlnhdjajbiahbaaDoor

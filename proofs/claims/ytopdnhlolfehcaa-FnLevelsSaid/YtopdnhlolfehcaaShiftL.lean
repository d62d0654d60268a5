/-
  FnExactShiftZero's walk.
  Conditions: none.
-/
import Derived.Test.YtopdnhlolfehcaaShift3
import Derived.Test.YtopdnhlolfehcaaHighW2
namespace Go.Proofs.Ytopdnhlolfehcaa
open Go.ChangeShapes Go.WideShapes Go.ChangeAt Go.RowKit
set_option linter.unusedVariables false
set_option linter.unusedSimpArgs false

/-- Four values lie in block b. -/
def G4 (w : World) (b : Nat) (v0 v1 v2 v3 : Value) : Prop := w.cell? ⟨b, 0, none⟩ = some v0 ∧ w.cell? ⟨b, 1, none⟩ = some v1 ∧ w.cell? ⟨b, 2, none⟩ = some v2 ∧ w.cell? ⟨b, 3, none⟩ = some v3
section
variable {w w' : World} {b : Nat} {v0 v1 v2 v3 : Value}
theorem G4.kept (h : G4 w b v0 v1 v2 v3) (k : Kept w w') : G4 w' b v0 v1 v2 v3 := ⟨k.keep h.1, k.keep h.2.1, k.keep h.2.2.1, k.keep h.2.2.2⟩
theorem G4.alloc (h : G4 w b v0 v1 v2 v3) (o : Obj) : G4 (w.alloc o) b v0 v1 v2 v3 := h.kept (Kept.alloc (Kept.refl _) _)
theorem G4.grown {r : Option Nat} (h : G4 w b v0 v1 v2 v3) (k : w.grownBy w' r) (hne : some b ≠ r) : G4 w' b v0 v1 v2 v3 := ⟨k.cell h.1 hne, k.cell h.2.1 hne, k.cell h.2.2.1 hne, k.cell h.2.2.2 hne⟩
theorem G4.new (w : World) (v0 v1 v2 v3 : Value) (t : TypeId) : G4 (w.alloc (.cells #[v0, v1, v2, v3] t)) w.heap.size v0 v1 v2 v3 := by simp [G4, go_sem]
theorem G4.lt (h : G4 w b v0 v1 v2 v3) : b < w.heap.size := by
  have := World.block_lt_of_cell? w _ h.1
  simpa using this
end
theorem own_not {w : World} {base size n : Nat} {e : TypeId} {v : Value} {xs : List Value} (h : w.ownsRow base e size v n xs) {b : Nat} (hb : b < base ∨ w.heap.size ≤ b) : some b ≠ v.ownBlock := fun e => by
  have := h.lt b e.symm
  omega
theorem markGauge_all (B : Nat) (E : TypeId) (id : Int) (nm : ByteArray) (z : Int) (u : Value) (n : Nat) (xs : List Value) (w : World) (hu : w.ownsRow B E 2 u n xs) (hn : n ≤ 1048576) : Calls Try.prog 40 #[.agg #[.int .i64 id, .string nm, .int .i64 z, u], .int .i64 1] w fun e w' => e = .returned (.int .i64 (1 + 2 * (n : Int))) ∧ w'.ownsRow B E 2 u n (marks (n * 2)) ∧ w.grownBy w' u.ownBlock := by
  obtain ⟨A, c, rfl, -, -, -⟩ := own_form hu
  have HU := Lib.hid hu
  clear hu
  go_enter Try.func40, Try.ntmps40
  go_wp2_with fail
  refine (markReadingS_any B E _ n xs _ (HU.out.alloc _) hn).mono ?_
  rintro e w1 ⟨rfl, hm, hg⟩
  have HM := Lib.hid hm
  have HG := Lib.hid hg
  clear hg hm
  go_wp2_with fail
  go_ret
  exact ⟨rfl, HM.out, (World.grownBy_alloc w _ _).trans HG.out⟩
theorem heldGauge_any (B : Nat) (E : TypeId) (id : Int) (nm : ByteArray) (z : Int) (u : Value) (n : Nat) (w : World) (hu : w.ownsRow B E 2 u n (marks (n * 2))) (hn : n ≤ 1048576) : Calls Try.prog 48 #[.agg #[.int .i64 id, .string nm, .int .i64 z, u], .int .i64 1] w fun e w' => e = .returned (.int .i64 (1 + 2 * (n : Int))) ∧ Kept w w' := by
  obtain ⟨A, c, rfl, -, -, -⟩ := own_form hu
  have HU := Lib.hid hu
  clear hu
  go_enter Try.func48, Try.ntmps48
  go_wp2_with fail
  refine (heldReadingS_any B E _ n _ (HU.out.alloc _) hn).mono ?_
  rintro e w1 ⟨rfl, rfl⟩
  go_wp2_with fail
  go_ret
  exact ⟨rfl, by (repeat (first | exact Kept.refl _ | assumption | refine Kept.alloc ?_ _ | refine Kept.drew ?_ | refine Kept.drewN ?_ _ | refine Kept.setCell ?_ (by first | (simp; done) | (simp; omega) | omega | exact Kept.size (by (repeat (first | exact Kept.refl _ | assumption | refine Kept.alloc ?_ _ | refine Kept.drew ?_ | refine Kept.drewN ?_ _ | refine Kept.trans ?_ (by assumption))))) _ | refine Kept.trans ?_ (by assumption)))⟩
set_option maxRecDepth 100000 in
set_option maxHeartbeats 4000000 in
theorem lawShift1 (id : Int) (nm : ByteArray) (z : Int) (v : Value) (xs : List (Int × Int)) (hs : nm.size ≤ maxLen) (to : Int) (w : World) (hL : Lies w 2 pairC v xs) (I : Int) (NM : ByteArray) (Z : Int) (ok : Bool) (L : List (Int × Int)) (hgl : L.length ≤ 1048576)
    (hS : Hid (∀ (W : World) (v : Value), Lies W 2 pairC v xs → Calls Try.prog 24 #[.agg #[.int .i64 id, .string nm, .int .i64 z, v], .int .i64 to] W fun e w' => ∃ u, e = .returned (.tuple #[.agg #[.int .i64 I, .string NM, .int .i64 Z, u], .bool ok]) ∧ w'.ownsRow W.heap.size 28 2 u L.length (L.flatMap pairC) ∧ Kept W w'))
    (hI : Hid (∀ (W : World) (v : Value), Lies W 2 pairC v xs → Calls Try.prog 23 #[.agg #[.int .i64 id, .string nm, .int .i64 z, v], .int .i64 to] W fun e w' => ∃ u, e = .returned (.tuple #[.agg #[.int .i64 I, .string NM, .int .i64 Z, u], .bool ok]) ∧ w'.ownsRow W.heap.size 28 2 u L.length (L.flatMap pairC) ∧ Kept W w')) :
    Calls Try.prog 9 #[.agg #[.int .i64 id, .string nm, .int .i64 z, v], .int .i64 to] w fun e w' => e = .returned (.bool true) ∧ Kept w w' := by
  have HL := Lib.hid hL
  have hs' := hs
  unfold maxLen at hs
  obtain ⟨A, c, rfl, hlc, hcm, hA⟩ := hL
  clear hA
  go_enter Try.func9, Try.ntmps9
  go_wp2_with fail
  refine (szGauge_left _ _ _ _ _ hs' _ (by omega) (by omega) _ (by exact HL.out.kept (by (repeat (first | exact Kept.refl _ | assumption | refine Kept.alloc ?_ _ | refine Kept.drew ?_ | refine Kept.drewN ?_ _ | refine Kept.setCell ?_ (by first | (simp; done) | (simp; omega) | omega | exact Kept.size (by (repeat (first | exact Kept.refl _ | assumption | refine Kept.alloc ?_ _ | refine Kept.drew ?_ | refine Kept.drewN ?_ _ | refine Kept.trans ?_ (by assumption))))) _ | refine Kept.trans ?_ (by assumption)))))).mono ?_
  rintro e W0 ⟨r, rfl, ⟨r0, r1, hr⟩, k0⟩
  by_cases hneg : r < 0
  · go_wp2_with fail
    go_ret
    exact ⟨rfl, by (repeat (first | exact Kept.refl _ | assumption | refine Kept.alloc ?_ _ | refine Kept.drew ?_ | refine Kept.drewN ?_ _ | refine Kept.setCell ?_ (by first | (simp; done) | (simp; omega) | omega | exact Kept.size (by (repeat (first | exact Kept.refl _ | assumption | refine Kept.alloc ?_ _ | refine Kept.drew ?_ | refine Kept.drewN ?_ _ | refine Kept.trans ?_ (by assumption))))) _ | refine Kept.trans ?_ (by assumption)))⟩
  · have hn := hr (by omega)
    clear hr
    have ka : Kept w (w.alloc (.cells #[.int .i64 id, .string nm, .int .i64 z, .slice A xs.length c] 47)) := Kept.alloc (Kept.refl w) _
    have GB : Hid (G4 W0 w.heap.size (.int .i64 id) (.string nm) (.int .i64 z) (.slice A xs.length c)) := Lib.hid ((G4.new w _ _ _ _ 47).kept k0)
    have K0 : Hid (Kept w W0) := Lib.hid (ka.trans k0)
    clear k0 ka
    have p0 := (GB.out).1
    have p1 := (GB.out).2.1
    have p2 := (GB.out).2.2.1
    have p3 := (GB.out).2.2.2
    go_wp2_with fail
    refine (toGauge_any _ _ _ _ _ _ (HL.out.kept K0.out) hn).mono ?_
    rintro e W1 ⟨u1, rfl, hu1, k1⟩
    have L1 := Lib.hid (pairs_own hu1)
    have K1 := Lib.hid k1
    clear p0 p1 p2 p3
    clear hu1 k1
    go_wp2_with fail
    refine (hS.out _ _ L1.out).mono ?_
    rintro e W2 ⟨uw, rfl, how, k2⟩
    obtain ⟨AW, cw, rfl, -, -, -⟩ := own_form how
    have HOW := Lib.hid how
    have K2 := Lib.hid (K0.out.trans (K1.out.trans k2))
    have GB2 := Lib.hid (GB.out.kept (K1.out.trans k2))
    have GW : Hid (G4 (W2.alloc (.cells #[.int .i64 I, .string NM, .int .i64 Z, .slice AW L.length cw] 26)) W2.heap.size (.int .i64 I) (.string NM) (.int .i64 Z) (.slice AW L.length cw)) := Lib.hid (G4.new W2 _ _ _ _ 26)
    clear how k2
    have q0 := fun o => (G4.alloc (GB2.out) o).1
    have q1 := fun o => (G4.alloc (GB2.out) o).2.1
    have q2 := fun o => (G4.alloc (GB2.out) o).2.2.1
    have q3 := fun o => (G4.alloc (GB2.out) o).2.2.2
    go_wp2_with fail
    refine (toGauge_any _ _ _ _ _ _ (HL.out.kept (Kept.alloc K2.out _)) hn).mono ?_
    rintro e W3 ⟨u3, rfl, hu3, k3⟩
    obtain ⟨A3, c3, rfl, -, -, -⟩ := own_form hu3
    have HU3 := Lib.hid hu3
    have K3 := Lib.hid k3
    clear q0 q1 q2 q3
    clear hu3 k3
    have GX : Hid (G4 (W3.alloc (.cells #[.int .i64 id, .string nm, .int .i64 z, .slice A3 xs.length c3] 26)) W3.heap.size (.int .i64 id) (.string nm) (.int .i64 z) (.slice A3 xs.length c3)) := Lib.hid (G4.new W3 _ _ _ _ 26)
    go_wp2_with fail
    refine (hI.out _ _ ((pairs_own HU3.out).kept (by (repeat (first | exact Kept.refl _ | assumption | refine Kept.alloc ?_ _ | refine Kept.drew ?_ | refine Kept.drewN ?_ _ | refine Kept.setCell ?_ (by first | (simp; done) | (simp; omega) | omega | exact Kept.size (by (repeat (first | exact Kept.refl _ | assumption | refine Kept.alloc ?_ _ | refine Kept.drew ?_ | refine Kept.drewN ?_ _ | refine Kept.trans ?_ (by assumption))))) _ | refine Kept.trans ?_ (by assumption)))))).mono ?_
    rintro e W4 ⟨ug, rfl, hog, k4⟩
    obtain ⟨AG, cg, rfl, -, -, -⟩ := own_form hog
    have HOG := Lib.hid hog
    have K4 := Lib.hid k4
    have K34 : Hid (Kept W3 W4) := Lib.hid ((Kept.alloc (Kept.refl _) _).trans k4)
    clear hog k4
    have GG : Hid (G4 (W4.alloc (.cells #[.int .i64 I, .string NM, .int .i64 Z, .slice AG L.length cg] 26)) W4.heap.size (.int .i64 I) (.string NM) (.int .i64 Z) (.slice AG L.length cg)) := Lib.hid (G4.new W4 _ _ _ _ 26)
    have GW4 := Lib.hid ((GW.out.kept K3.out).kept K34.out)
    have s0 := fun o => (G4.alloc (GW4.out) o).1
    have s1 := fun o => (G4.alloc (GW4.out) o).2.1
    have s2 := fun o => (G4.alloc (GW4.out) o).2.2.1
    have s3 := fun o => (G4.alloc (GW4.out) o).2.2.2
    go_wp2_with fail
    refine (eqGauge_any _ _ _ _ _ _ _ ((pairs_own HOG.out).kept (by (repeat (first | exact Kept.refl _ | assumption | refine Kept.alloc ?_ _ | refine Kept.drew ?_ | refine Kept.drewN ?_ _ | refine Kept.setCell ?_ (by first | (simp; done) | (simp; omega) | omega | exact Kept.size (by (repeat (first | exact Kept.refl _ | assumption | refine Kept.alloc ?_ _ | refine Kept.drew ?_ | refine Kept.drewN ?_ _ | refine Kept.trans ?_ (by assumption))))) _ | refine Kept.trans ?_ (by assumption))))) ((pairs_own HOW.out).kept (((Kept.alloc (Kept.refl _) _).trans K3.out).trans (K34.out.trans (Kept.alloc (Kept.refl _) _))))).mono ?_
    rintro e W5 ⟨rfl, k5⟩
    have K5 := Lib.hid k5
    have K45 : Hid (Kept W4 W5) := Lib.hid ((Kept.alloc (Kept.refl _) _).trans k5)
    clear s0 s1 s2 s3
    clear k5
    have GX5 := Lib.hid ((GX.out.kept K4.out).kept K45.out)
    have GB5 := Lib.hid (GB2.out.kept ((Kept.alloc (Kept.refl _) _).trans (K3.out.trans (K34.out.trans K45.out))))
    have K05 := Lib.hid (K2.out.trans ((Kept.alloc (Kept.refl _) _).trans (K3.out.trans (K34.out.trans K45.out))))
    have x0 := (GX5.out).1
    have x1 := (GX5.out).2.1
    have x2 := (GX5.out).2.2.1
    have x3 := (GX5.out).2.2.2
    have y0 := (GB5.out).1
    have y1 := (GB5.out).2.1
    have y2 := (GB5.out).2.2.1
    have y3 := (GB5.out).2.2.2
    have k05 := K05.out
    have k35 := K34.out.trans K45.out
    go_wp2_with fail
    have kf1_0 : ∀ w' : World, Root (W5) w' → w'.cell? ⟨W3.heap.size, 0, none⟩ = some (.int .i64 id) := fun w' h => h.keep (by first | assumption | exact (Kept.alloc (Kept.refl _) _).keep (by assumption) | (simp [go_sem]; done) | (simp [go_sem, *]; done))
    have kf1_1 : ∀ w' : World, Root (W5) w' → w'.cell? ⟨W3.heap.size, 1, none⟩ = some (.string nm) := fun w' h => h.keep (by first | assumption | exact (Kept.alloc (Kept.refl _) _).keep (by assumption) | (simp [go_sem]; done) | (simp [go_sem, *]; done))
    have kf1_2 : ∀ w' : World, Root (W5) w' → w'.cell? ⟨W3.heap.size, 2, none⟩ = some (.int .i64 z) := fun w' h => h.keep (by first | assumption | exact (Kept.alloc (Kept.refl _) _).keep (by assumption) | (simp [go_sem]; done) | (simp [go_sem, *]; done))
    have kf1_3 : ∀ w' : World, Root (W5) w' → w'.cell? ⟨W3.heap.size, 3, none⟩ = some (.slice A3 xs.length c3) := fun w' h => h.keep (by first | assumption | exact (Kept.alloc (Kept.refl _) _).keep (by assumption) | (simp [go_sem]; done) | (simp [go_sem, *]; done))
    have kf1_4 : ∀ w' : World, Root (W5) w' → w'.cell? ⟨w.heap.size, 0, none⟩ = some (.int .i64 id) := fun w' h => h.keep (by first | assumption | exact (Kept.alloc (Kept.refl _) _).keep (by assumption) | (simp [go_sem]; done) | (simp [go_sem, *]; done))
    have kf1_5 : ∀ w' : World, Root (W5) w' → w'.cell? ⟨w.heap.size, 1, none⟩ = some (.string nm) := fun w' h => h.keep (by first | assumption | exact (Kept.alloc (Kept.refl _) _).keep (by assumption) | (simp [go_sem]; done) | (simp [go_sem, *]; done))
    have kf1_6 : ∀ w' : World, Root (W5) w' → w'.cell? ⟨w.heap.size, 2, none⟩ = some (.int .i64 z) := fun w' h => h.keep (by first | assumption | exact (Kept.alloc (Kept.refl _) _).keep (by assumption) | (simp [go_sem]; done) | (simp [go_sem, *]; done))
    have kf1_7 : ∀ w' : World, Root (W5) w' → w'.cell? ⟨w.heap.size, 3, none⟩ = some (.slice A xs.length c) := fun w' h => h.keep (by first | assumption | exact (Kept.alloc (Kept.refl _) _).keep (by assumption) | (simp [go_sem]; done) | (simp [go_sem, *]; done))
    go_region_held3 (fun w' => Root (W5) w')
      (first | assumption | exact Root.trans (by assumption) hk | exact Root.drew (Root.refl _) | (repeat (first | exact Root.refl _ | assumption | refine Root.alloc ?_ _ | refine Root.drew ?_ | refine Root.setCell ?_ (by first | (simp; done) | (simp; omega) | omega | exact Root.size (by assumption)) _ | refine Root.trans ?_ (by assumption))))
      (first | (go_at_call 33; refine (toGauge_any _ _ _ _ _ _ (by exact HL.out.kept (by (repeat (first | exact Kept.refl _ | assumption | refine Kept.alloc ?_ _ | refine Kept.drew ?_ | refine Kept.drewN ?_ _ | refine Kept.setCell ?_ (by first | (simp; done) | (simp; omega) | omega | exact Kept.size (by (repeat (first | exact Kept.refl _ | assumption | refine Kept.alloc ?_ _ | refine Kept.drew ?_ | refine Kept.drewN ?_ _ | refine Kept.trans ?_ (by assumption))))) _ | refine Kept.trans ?_ (by assumption))))) hn).mono ?_; rintro e w1 ⟨u1, rfl, hu1, hk⟩; (have hkr := Root.trans (by assumption) hk); have hl1 := pairs_own hu1; clear hu1) | (go_at_call 34; refine (eqGauge_any _ _ _ _ _ _ _ (by exact (pairs_own HU3.out).kept (by (repeat (first | exact Kept.refl _ | assumption | refine Kept.alloc ?_ _ | refine Kept.drew ?_ | refine Kept.drewN ?_ _ | refine Kept.setCell ?_ (by first | (simp; done) | (simp; omega) | omega | exact Kept.size (by (repeat (first | exact Kept.refl _ | assumption | refine Kept.alloc ?_ _ | refine Kept.drew ?_ | refine Kept.drewN ?_ _ | refine Kept.trans ?_ (by assumption))))) _ | refine Kept.trans ?_ (by assumption))))) (by first | assumption | exact Lies.kept (by assumption) (by (repeat (first | exact Kept.refl _ | assumption | refine Kept.alloc ?_ _ | refine Kept.drew ?_ | refine Kept.drewN ?_ _ | refine Kept.setCell ?_ (by first | (simp; done) | (simp; omega) | omega | exact Kept.size (by (repeat (first | exact Kept.refl _ | assumption | refine Kept.alloc ?_ _ | refine Kept.drew ?_ | refine Kept.drewN ?_ _ | refine Kept.trans ?_ (by assumption))))) _ | refine Kept.trans ?_ (by assumption)))))).mono ?_; rintro e w1 ⟨rfl, hk⟩; (have hkr := Root.trans (by assumption) hk); (first | (have hkf := From.step (by assumption) hk; obtain ⟨hc, hf⟩ := hkf.cells) | (have hkf := From.start hk; obtain ⟨hc, hf⟩ := hkf.cells))))
    have K57 := Lib.hid hkr.kept
    clear hk hkr hl1 hc hf hkf k05 k35
    clear x0 x1 x2 x3 y0 y1 y2 y3
    have x0 := (GX5.out.kept K57.out).1
    have x1 := (GX5.out.kept K57.out).2.1
    have x2 := (GX5.out.kept K57.out).2.2.1
    have x3 := (GX5.out.kept K57.out).2.2.2
    have hb3 : (W2.alloc (.cells #[.int .i64 I, .string NM, .int .i64 Z, .slice AW L.length cw] 26)).heap.size = W2.heap.size + 1 := by simp
    have hb4 : (W3.alloc (.cells #[.int .i64 id, .string nm, .int .i64 z, .slice A3 xs.length c3] 26)).heap.size = W3.heap.size + 1 := by simp
    have hb5 := K3.out.size
    have hb6 := K34.out.size
    have hb7 := K2.out.size
    have hb8 := GB2.out.lt
    rw [hb3] at hb5
    have HB := Lib.hid (And.intro hb3 hb4)
    clear hb3 hb4
    go_wp2_with fail
    refine (markGauge_all _ _ _ _ _ _ _ _ _ (own_kept HU3.out (K34.out.trans (K45.out.trans K57.out))) hn).mono ?_
    rintro e W8 ⟨rfl, -, g8⟩
    have K8 := Lib.hid (Kept.marked (K05.out.trans K57.out) HU3.out (by rw [HB.out.1]; omega) g8)
    have HOG8 := Lib.hid ((own_kept HOG.out (K45.out.trans K57.out)).kept g8 (own_ne HU3.out HOG.out (by rw [HB.out.2]; omega)).2)
    have HOW8 := Lib.hid ((own_kept HOW.out ((Kept.alloc (Kept.refl _) _).trans (K3.out.trans (K34.out.trans (K45.out.trans K57.out))))).kept g8 (own_ne HOW.out HU3.out (by rw [HB.out.1]; omega)).1)
    have GG8 := Lib.hid ((GG.out.kept (K5.out.trans K57.out)).grown g8 (own_not HU3.out (Or.inr (by omega))))
    have GW8 := Lib.hid ((GW4.out.kept (K45.out.trans K57.out)).grown g8 (own_not HU3.out (Or.inl (by rw [HB.out.1]; omega))))
    have GB8 := Lib.hid ((GB5.out.kept K57.out).grown g8 (own_not HU3.out (Or.inl (by rw [HB.out.1]; omega))))
    clear g8
    clear x0 x1 x2 x3
    have x0 := (GG8.out).1
    have x1 := (GG8.out).2.1
    have x2 := (GG8.out).2.2.1
    have x3 := (GG8.out).2.2.2
    have y0 := (GW8.out).1
    have y1 := (GW8.out).2.1
    have y2 := (GW8.out).2.2.1
    have y3 := (GW8.out).2.2.2
    go_wp2_with fail
    refine (eqGauge_any _ _ _ _ _ _ _ (pairs_own HOG8.out) (pairs_own HOW8.out)).mono ?_
    rintro e W9 ⟨rfl, k9⟩
    have K9 := Lib.hid k9
    clear k9
    clear x0 x1 x2 x3 y0 y1 y2 y3
    have x0 := (GG8.out.kept K9.out).1
    have x1 := (GG8.out.kept K9.out).2.1
    have x2 := (GG8.out.kept K9.out).2.2.1
    have x3 := (GG8.out.kept K9.out).2.2.2
    go_wp2_with fail
    refine (markGauge_all _ _ _ _ _ _ _ _ _ (own_kept HOG8.out K9.out) hgl).mono ?_
    rintro e W10 ⟨rfl, hmg, g10⟩
    have HMG := Lib.hid hmg
    have K10 := Lib.hid (Kept.marked (K8.out.trans K9.out) HOG.out (by rw [HB.out.2]; omega) g10)
    have HOW10 := Lib.hid ((own_kept HOW8.out K9.out).kept g10 (own_ne HOW.out HOG.out (by rw [HB.out.2]; omega)).1)
    have GG10 := Lib.hid ((GG8.out.kept K9.out).grown g10 (own_not HOG.out (Or.inr (by omega))))
    have GW10 := Lib.hid ((GW8.out.kept K9.out).grown g10 (own_not HOG.out (Or.inl (by rw [HB.out.2]; omega))))
    have GB10 := Lib.hid ((GB8.out.kept K9.out).grown g10 (own_not HOG.out (Or.inl (by rw [HB.out.2]; omega))))
    clear g10 hmg
    clear x0 x1 x2 x3
    have x0 := (GG10.out).1
    have x1 := (GG10.out).2.1
    have x2 := (GG10.out).2.2.1
    have x3 := (GG10.out).2.2.2
    go_wp2_with fail
    refine (heldGauge_any _ _ _ _ _ _ _ _ HMG.out hgl).mono ?_
    rintro e W11 ⟨rfl, k11⟩
    have K11 := Lib.hid k11
    clear k11
    clear x0 x1 x2 x3
    have x0 := (GB10.out.kept K11.out).1
    have x1 := (GB10.out.kept K11.out).2.1
    have x2 := (GB10.out.kept K11.out).2.2.1
    have x3 := (GB10.out.kept K11.out).2.2.2
    go_wp2_with fail
    refine (toGauge_any _ _ _ _ _ _ (HL.out.kept (K10.out.trans K11.out)) hn).mono ?_
    rintro e W12 ⟨u12, rfl, hu12, k12⟩
    have HU12 := Lib.hid hu12
    have K12 := Lib.hid k12
    clear hu12 k12
    clear x0 x1 x2 x3
    go_wp2_with fail
    refine (hI.out _ _ (pairs_own HU12.out)).mono ?_
    rintro e W13 ⟨uh, rfl, hoh, k13⟩
    obtain ⟨AH, ch, rfl, -, -, -⟩ := own_form hoh
    have HOH := Lib.hid hoh
    have K13 := Lib.hid k13
    clear hoh k13
    have x0 := fun o => (G4.alloc (GW10.out.kept (K11.out.trans (K12.out.trans K13.out))) o).1
    have x1 := fun o => (G4.alloc (GW10.out.kept (K11.out.trans (K12.out.trans K13.out))) o).2.1
    have x2 := fun o => (G4.alloc (GW10.out.kept (K11.out.trans (K12.out.trans K13.out))) o).2.2.1
    have x3 := fun o => (G4.alloc (GW10.out.kept (K11.out.trans (K12.out.trans K13.out))) o).2.2.2
    go_wp2_with fail
    refine (eqGauge_any _ _ _ _ _ _ _ ((pairs_own HOH.out).kept (Kept.alloc (Kept.refl _) _)) ((pairs_own HOW10.out).kept (Kept.alloc (K11.out.trans (K12.out.trans K13.out)) _))).mono ?_
    rintro e W14 ⟨rfl, k14⟩
    have K14 := Lib.hid ((Kept.alloc (Kept.refl _) _).trans k14)
    clear k14
    clear x0 x1 x2 x3
    have x0 := (GG10.out.kept (K11.out.trans (K12.out.trans (K13.out.trans K14.out)))).1
    have x1 := (GG10.out.kept (K11.out.trans (K12.out.trans (K13.out.trans K14.out)))).2.1
    have x2 := (GG10.out.kept (K11.out.trans (K12.out.trans (K13.out.trans K14.out)))).2.2.1
    have x3 := (GG10.out.kept (K11.out.trans (K12.out.trans (K13.out.trans K14.out)))).2.2.2
    go_wp2_with fail
    refine (heldGauge_any _ _ _ _ _ _ _ _ (own_kept HMG.out (K11.out.trans (K12.out.trans (K13.out.trans K14.out)))) hgl).mono ?_
    rintro e W15 ⟨rfl, k15⟩
    have K15 := Lib.hid k15
    clear k15
    go_wp2_with fail
    go_ret
    exact ⟨rfl, K10.out.trans (K11.out.trans (K12.out.trans (K13.out.trans (K14.out.trans K15.out))))⟩
theorem sz_bd (id : Int) (nm : ByteArray) (z : Int) (xs : List (Int × Int)) (to : Int) : (szL id nm z xs to).length ≤ 1048576 := by
  unfold szL
  split
  · rename_i h
    simp only [szOk, Bool.and_eq_true] at h
    have := (gaugeB_1 h.1.1).2.2.1
    rw [shift_len]
    omega
  · simp
theorem lawShiftZero (id : Int) (nm : ByteArray) (z : Int) (v : Value) (xs : List (Int × Int)) (hs : nm.size ≤ maxLen) (to : Int) (w : World) (hL : Lies w 2 pairC v xs) : Calls Try.prog 9 #[.agg #[.int .i64 id, .string nm, .int .i64 z, v], .int .i64 to] w fun e w' => e = .returned (.bool true) ∧ Kept w w' :=
  lawShift1 id nm z v xs hs to w hL _ _ _ _ (szL id nm z xs to) (sz_bd _ _ _ _ _) (Lib.hid fun W u h => sShiftZero_any id nm z u xs to hs W h) (Lib.hid fun W u h => shiftZero_any id nm z u xs to hs W h)
end Go.Proofs.Ytopdnhlolfehcaa

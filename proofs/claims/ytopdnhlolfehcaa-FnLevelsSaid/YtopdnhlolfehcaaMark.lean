/-
  Contracts of the laws' own functions that mark a list's memory and look whether the marks are held.
  Conditions: none.
-/
import Derived.Test.YtopdnhlolfehcaaMem
import Derived.Maps.AppendAt
namespace Go.Proofs.Ytopdnhlolfehcaa
open Go.ChangeShapes Go.WideShapes Go.ChangeAt Go.RowKit
set_option linter.unusedVariables false

theorem own_drewN {w : World} {base size n : Nat} {e : TypeId} {v : Value} {xs : List Value} (h : w.ownsRow base e size v n xs) (k : Nat) : (w.drewN k).ownsRow base e size v n xs := h
theorem infoInt : (Try.prog.info? 3).map (fun i => (i.zero, i.size, i.bytes)) = some (some (.int .i64 0), 1, 8) := by kernel_rfl
/-- An append to a row of the call's own, in a world that has grown. -/
theorem Kept.of_own {a b b' c : World} {size n : Nat} {e : TypeId} {v : Value} {xs : List Value} (h : Kept a b) (ho : b.ownsRow a.heap.size e size v n xs) (hg : b'.grownBy c v.ownBlock) (hb : Kept b b') : Kept a c :=
  (h.trans hb).grown hg (fun k hk => (ho.lt k hk).1)
/-- What two slices of the call's own that were made one behind the other have apart. -/
theorem own_ne {W1 W2 : World} {b1 b2 s1 s2 n1 n2 : Nat} {e1 e2 : TypeId} {u1 u2 : Value} {x1 x2 : List Value} (h1 : W1.ownsRow b1 e1 s1 u1 n1 x1) (h2 : W2.ownsRow b2 e2 s2 u2 n2 x2) (hle : W1.heap.size ≤ b2) : (u1.ownBlock = none ∨ u1.ownBlock ≠ u2.ownBlock) ∧ (u2.ownBlock = none ∨ u2.ownBlock ≠ u1.ownBlock) := by
  have a := h1.lt
  have b := h2.lt
  cases ha : u1.ownBlock <;> cases hb : u2.ownBlock <;> simp
  rename_i k1 k2
  have := (a k1 ha).2
  have := (b k2 hb).1
  omega
theorem Kept.marked {a b c : World} {base size n : Nat} {e : TypeId} {v : Value} {xs : List Value} {b0 : World} (h : Kept a b) (ho : b0.ownsRow base e size v n xs) (hb : a.heap.size ≤ base) (hg : b.grownBy c v.ownBlock) : Kept a c :=
  h.grown hg (fun k hk => Nat.le_trans hb (ho.lt k hk).1)
/-- The cells 1, 2, 3, .. -/
def marks (n : Nat) : List Value := (List.range n).map fun (j : Nat) => .int .i64 (1 + (j : Int))
/-- The first k cells bear their marks. -/
def Marked (ys : List Value) (k : Nat) : Prop := ∀ j, j < k → ys[j]? = some (.int .i64 (1 + (j : Int)))
theorem marked_set {ys : List Value} {k : Nat} (hk : k < ys.length) (h : Marked ys k) {v : Value} (hv : v = .int .i64 (1 + (k : Int))) : Marked (ys.set k v) (k + 1) := by
  intro j hj
  by_cases e : j = k
  · subst e
    rw [List.getElem?_set_self hk, hv]
  · rw [List.getElem?_set_ne (by omega)]
    exact h j (by omega)
theorem marked_all {ys : List Value} {n : Nat} (hl : ys.length = n) (h : Marked ys n) : ys = marks n := by
  apply List.ext_getElem?
  intro j
  by_cases hj : j < n
  · rw [h j hj]
    simp [marks, hj]
  · rw [List.getElem?_eq_none (by omega), List.getElem?_eq_none (by simp [marks]; omega)]
theorem marks_at {n j : Nat} (h : j < n) : (marks n)[j]? = some (.int .i64 (1 + (j : Int))) := by simp [marks, h]
theorem marks_len (n : Nat) : (marks n).length = n := by simp [marks]

theorem markIntS_any (B : Nat) (E : TypeId) (u : Value) (n : Nat) (xs : List Value) (w : World) (hu : w.ownsRow B E 1 u n xs) (hn : n ≤ 1048576) : Calls Try.prog 57 #[u, .int .i64 1] w fun e w' => e = .returned (.int .i64 (1 + (n : Int))) ∧ w'.ownsRow B E 1 u n (marks n) ∧ w.grownBy w' u.ownBlock := by
  obtain ⟨A, c, rfl, hlc, hcm, hA⟩ := own_form hu
  have HU := Lib.hid hu
  clear hu
  go_enter Try.func57, Try.ntmps57
  go_wp2
  go_loopw [1, 5] (fun kk i wr => ∃ k : Nat, k ≤ n ∧ i = .int .i64 k ∧ kk = .int .i64 (1 + (k : Int)) ∧ w.grownBy wr (Value.slice A n c).ownBlock ∧ ∃ ys, wr.ownsRow B E 1 (.slice A n c) n ys ∧ Marked ys k) (fun _ i _ => n - (intOf i).toNat)
  case atStart => exact ⟨0, Nat.zero_le _, rfl, rfl, World.grownBy.refl _ _, _, HU.out, fun j h => absurd h (by omega)⟩
  case round =>
    obtain ⟨k, hk, rfl, rfl, hgr, ys, hown, hys⟩ := hrel
    have HY := Lib.hid hys
    have HO := Lib.hid hown
    have HG := Lib.hid hgr
    clear hys hown hgr
    by_cases hlt : k < n
    · obtain ⟨g, rfl, hBg, hgw⟩ := hA (by omega)
      obtain ⟨u0, -, d0, f0⟩ := own_cell HO.out (j := k) (by omega)
      go_wp2
      go_roundw
      case rel => exact ⟨k + 1, by omega, by go_num, by go_num, grown_trans' HG.out (HO.out.stored k _).2, _, (HO.out.stored k _).1, marked_set (by rw [HO.out.1]; omega) HY.out rfl⟩
      case measure => simp [intOf]; omega
    · have e : k = n := by omega
      have HF := Lib.hid (marked_all (n := n) (by rw [HO.out.1]; omega) (by rw [← e]; exact HY.out))
      have HK := Lib.hid (show (1 : Int) + (k : Int) = 1 + (n : Int) by omega)
      clear e
      go_wp2
      go_ret
      exact ⟨ret_int HK.out, by rw [← HF.out]; exact HO.out, HG.out⟩
theorem heldIntS_any (B : Nat) (E : TypeId) (u : Value) (n : Nat) (w : World) (hu : w.ownsRow B E 1 u n (marks n)) (hn : n ≤ 1048576) : Calls Try.prog 58 #[u, .int .i64 1] w fun e w' => e = .returned (.int .i64 (1 + (n : Int))) ∧ w = w' := by
  obtain ⟨A, c, rfl, hlc, hcm, hA⟩ := own_form hu
  have HU := Lib.hid hu
  clear hu
  go_enter Try.func58, Try.ntmps58
  go_wp2
  go_loop [1, 5] (fun kk i => ∃ k : Nat, k ≤ n ∧ i = .int .i64 k ∧ kk = .int .i64 (1 + (k : Int))) (fun _ i => n - (intOf i).toNat)
  case atStart => exact ⟨0, Nat.zero_le _, rfl, rfl⟩
  case round =>
    obtain ⟨k, hk, rfl, rfl⟩ := hrel
    by_cases hlt : k < n
    · obtain ⟨g, rfl, hBg, hgw⟩ := hA (by omega)
      have d0 := (HU.out.cellAt k (by omega)).trans (marks_at hlt)
      go_wp2
      go_round
      case rel => exact ⟨k + 1, by omega, by go_num, by go_num⟩
      case measure => simp [intOf]; omega
    · have HK := Lib.hid (show (1 : Int) + (k : Int) = 1 + (n : Int) by omega)
      go_wp2
      go_ret
      exact ⟨ret_int HK.out, rfl⟩
theorem eqIntS_any (u v : Value) (xs : List Int) (w : World) (hU : Lies w 1 intC u xs) (hV : Lies w 1 intC v xs) : Calls Try.prog 55 #[u, v] w fun e w' => e = .returned (.bool true) ∧ Kept w w' := by
  have hm := hU.len
  unfold maxLen at hm
  obtain ⟨A, c, rfl, hlc, hcm, hA⟩ := lies_ints hU
  obtain ⟨A', c', rfl, hlc', hcm', hA'⟩ := lies_ints hV
  clear hU hV
  go_enter Try.func55, Try.ntmps55
  go_wp2
  go_loopw [5] (fun i wr => ∃ k : Nat, k ≤ xs.length ∧ i = .int .i64 k ∧ Kept w wr) (fun i _ => xs.length - (intOf i).toNat)
  case atStart => exact ⟨0, Nat.zero_le _, rfl, Kept.refl _⟩
  case round =>
    obtain ⟨k, hk, rfl, hkw⟩ := hrel
    by_cases hlt : k < xs.length
    · obtain ⟨b, off, rfl, hc⟩ := hA (by omega)
      obtain ⟨b', off', rfl, hc'⟩ := hA' (by omega)
      have c0 := hkw.keep (hc k hlt)
      have d0 := hkw.keep (hc' k hlt)
      have k0 : (0 : Int) ≤ (k : Int) := by omega
      have k1 : (k : Int) < (xs.length : Int) := by omega
      clear hc hc' hA hA'
      go_wp2_with fail
      go_quiet (fail)
      go_wp2
      go_roundw
      case rel => exact ⟨k + 1, by omega, by go_num, by (repeat (first | exact Kept.refl _ | assumption | refine Kept.alloc ?_ _ | refine Kept.drew ?_ | refine Kept.drewN ?_ _ | refine Kept.setCell ?_ (by first | (simp; done) | (simp; omega) | omega | exact Kept.size (by (repeat (first | exact Kept.refl _ | assumption | refine Kept.alloc ?_ _ | refine Kept.drew ?_ | refine Kept.drewN ?_ _ | refine Kept.trans ?_ (by assumption))))) _ | refine Kept.trans ?_ (by assumption)))⟩
      case measure => simp [intOf]; omega
    · go_wp2
      go_ret
      exact ⟨rfl, by (repeat (first | exact Kept.refl _ | assumption | refine Kept.alloc ?_ _ | refine Kept.drew ?_ | refine Kept.drewN ?_ _ | refine Kept.setCell ?_ (by first | (simp; done) | (simp; omega) | omega | exact Kept.size (by (repeat (first | exact Kept.refl _ | assumption | refine Kept.alloc ?_ _ | refine Kept.drew ?_ | refine Kept.drewN ?_ _ | refine Kept.trans ?_ (by assumption))))) _ | refine Kept.trans ?_ (by assumption)))⟩
theorem markReadingS_any (B : Nat) (E : TypeId) (u : Value) (n : Nat) (xs : List Value) (w : World) (hu : w.ownsRow B E 2 u n xs) (hn : n ≤ 1048576) : Calls Try.prog 41 #[u, .int .i64 1] w fun e w' => e = .returned (.int .i64 (1 + 2 * (n : Int))) ∧ w'.ownsRow B E 2 u n (marks (n * 2)) ∧ w.grownBy w' u.ownBlock := by
  obtain ⟨A, c, rfl, hlc, hcm, hA⟩ := own_form hu
  have HU := Lib.hid hu
  clear hu
  go_enter Try.func41, Try.ntmps41
  go_wp2
  go_loopw [1, 5] (fun kk i wr => ∃ k : Nat, k ≤ n ∧ i = .int .i64 k ∧ kk = .int .i64 (1 + 2 * (k : Int)) ∧ w.grownBy wr (Value.slice A n c).ownBlock ∧ ∃ ys, wr.ownsRow B E 2 (.slice A n c) n ys ∧ Marked ys (k * 2)) (fun _ i _ => n - (intOf i).toNat)
  case atStart => exact ⟨0, Nat.zero_le _, rfl, rfl, World.grownBy.refl _ _, _, HU.out, fun j h => absurd h (by omega)⟩
  case round =>
    obtain ⟨k, hk, rfl, rfl, hgr, ys, hown, hys⟩ := hrel
    have HY := Lib.hid hys
    have HO := Lib.hid hown
    have HG := Lib.hid hgr
    clear hys hown hgr
    by_cases hlt : k < n
    · obtain ⟨g, rfl, hBg, hgw⟩ := hA (by omega)
      obtain ⟨u0, -, d0, f0⟩ := own_cell HO.out (j := k * 2) (by omega)
      obtain ⟨u1, -, d1, f1⟩ := own_cell HO.out (j := k * 2 + 1) (by omega)
      go_wp2
      go_roundw
      case rel =>
        refine ⟨k + 1, by omega, by go_num, by go_num, grown_trans' (grown_trans' HG.out (HO.out.stored (k * 2) _).2) ((HO.out.stored (k * 2) _).1.stored (k * 2 + 1) _).2, _, ((HO.out.stored (k * 2) _).1.stored (k * 2 + 1) _).1, ?_⟩
        rw [show (k + 1) * 2 = k * 2 + 1 + 1 by omega]
        exact marked_set (by rw [List.length_set, HO.out.1]; omega) (marked_set (by rw [HO.out.1]; omega) HY.out (by go_num)) (by go_num)
      case measure => simp [intOf]; omega
    · have e : k = n := by omega
      have HF := Lib.hid (marked_all (n := n * 2) (by rw [HO.out.1]) (by rw [← e]; exact HY.out))
      have HK := Lib.hid (show (1 : Int) + 2 * (k : Int) = 1 + 2 * (n : Int) by omega)
      clear e
      go_wp2
      go_ret
      exact ⟨ret_int HK.out, by rw [← HF.out]; exact HO.out, HG.out⟩
theorem heldReadingS_any (B : Nat) (E : TypeId) (u : Value) (n : Nat) (w : World) (hu : w.ownsRow B E 2 u n (marks (n * 2))) (hn : n ≤ 1048576) : Calls Try.prog 42 #[u, .int .i64 1] w fun e w' => e = .returned (.int .i64 (1 + 2 * (n : Int))) ∧ w = w' := by
  obtain ⟨A, c, rfl, hlc, hcm, hA⟩ := own_form hu
  have HU := Lib.hid hu
  clear hu
  go_enter Try.func42, Try.ntmps42
  go_wp2
  go_loop [1, 5] (fun kk i => ∃ k : Nat, k ≤ n ∧ i = .int .i64 k ∧ kk = .int .i64 (1 + 2 * (k : Int))) (fun _ i => n - (intOf i).toNat)
  case atStart => exact ⟨0, Nat.zero_le _, rfl, rfl⟩
  case round =>
    obtain ⟨k, hk, rfl, rfl⟩ := hrel
    by_cases hlt : k < n
    · obtain ⟨g, rfl, hBg, hgw⟩ := hA (by omega)
      have e0 : (1 : Int) + ((k * 2 : Nat) : Int) = 1 + 2 * (k : Int) := by omega
      have e1 : (1 : Int) + ((k * 2 + 1 : Nat) : Int) = 1 + 2 * (k : Int) + 1 := by omega
      have d0 := (HU.out.cellAt (k * 2) (by omega)).trans (marks_at (by omega))
      have d1 := (HU.out.cellAt (k * 2 + 1) (by omega)).trans (marks_at (by omega))
      rw [e0] at d0
      rw [e1] at d1
      clear e0 e1
      go_wp2
      go_round
      case rel => exact ⟨k + 1, by omega, by go_num, by go_num⟩
      case measure => simp [intOf]; omega
    · have HK := Lib.hid (show (1 : Int) + 2 * (k : Int) = 1 + 2 * (n : Int) by omega)
      go_wp2
      go_ret
      exact ⟨ret_int HK.out, rfl⟩
end Go.Proofs.Ytopdnhlolfehcaa

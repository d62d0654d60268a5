/-
  Contracts of SplitString, the program's and the reference's.
  Conditions: none.
-/
import Derived.Test.YtlnhdjajbiahbaaDoorMem
import Derived.Maps.AppendAt
import Derived.Deep.AppendLies
namespace Go.Proofs.YtlnhdjajbiahbaaDoor
open Go.ChangeShapes Go.WideShapes Go.ChangeAt Go.RowKit
set_option linter.unusedVariables false
set_option linter.unusedSimpArgs false

theorem news_one (W : World) (x : Value) (t : TypeId) {g : Nat} (hg : W.heap.size = g) : ∀ (j : Nat) (u : Value), [x][j]? = some u → (W.alloc (.cells #[x] t)).cell? ((⟨g, 0, none⟩ : Addr).add j) = some u := by
  subst hg
  exact World.news_of_block (cs := #[x]) (t := t) (fr := (0, 0)) (heap_alloc_new W _)
theorem kept_of_own {a b b' c : World} {size n : Nat} {e : TypeId} {v : Value} {xs : List Value} (h : Kept a b) (ho : b.ownsRow a.heap.size e size v n xs) (hg : b'.grownBy c v.ownBlock) (hb : Kept b b') : Kept a c :=
  (h.trans hb).grown hg (fun k hk => (ho.lt k hk).1)
theorem infoStr : (Tryd.prog.info? 9).map (fun i => (i.zero, i.size, i.bytes)) = some (some (.string ByteArray.empty), 1, 16) := by kernel_rfl
/-- The k-th byte, 0 behind the end. -/
def bt (s : ByteArray) (k : Nat) : UInt8 := if h : k < s.size then s[k] else 0
theorem bt_at {s : ByteArray} {k : Nat} (h : k < s.size) : bt s k = s[k] := by simp [bt, h]
/-- The parts that are whole behind k bytes, and where the next one begins. -/
def spTo (s : ByteArray) (b : UInt8) : Nat → List ByteArray × Nat
  | 0 => ([], 0)
  | k + 1 => if bt s k = b then ((spTo s b k).1 ++ [s.extract (spTo s b k).2 k], k + 1) else spTo s b k
theorem sp_le (s : ByteArray) (b : UInt8) : ∀ k, (spTo s b k).2 ≤ k ∧ (spTo s b k).1.length ≤ k
  | 0 => by simp [spTo]
  | k + 1 => by
    have := sp_le s b k
    rw [spTo]
    split
    · simp
      omega
    · omega
theorem sp_yes {s : ByteArray} {b : UInt8} {k : Nat} (h : bt s k = b) : spTo s b (k + 1) = ((spTo s b k).1 ++ [s.extract (spTo s b k).2 k], k + 1) := by rw [spTo, if_pos h]
theorem sp_no {s : ByteArray} {b : UInt8} {k : Nat} (h : ¬ bt s k = b) : spTo s b (k + 1) = spTo s b k := by rw [spTo, if_neg h]
def spAll (s : ByteArray) (b : UInt8) : List ByteArray := (spTo s b s.size).1 ++ [s.extract (spTo s b s.size).2 s.size]
def splOk (s t : ByteArray) : Bool := decide (s.size ≤ 4000) && decide (t.size = 1)
def splV (s t : ByteArray) : List ByteArray := if splOk s t = true then spAll s (bt t 0) else []
theorem spl_no {s t : ByteArray} (h : splOk s t = false) : splV s t = [] := by simp [splV, h]
theorem spl_yes {s t : ByteArray} (h : splOk s t = true) : splV s t = spAll s (bt t 0) := by simp [splV, h]
theorem spl_len (s t : ByteArray) : (splV s t).length ≤ 4001 := by
  unfold splV
  split
  · rename_i h
    simp only [splOk, Bool.and_eq_true, decide_eq_true_eq] at h
    have := (sp_le s (bt t 0) s.size).2
    simp [spAll]
    omega
  · simp
theorem u8_eq {a b : UInt8} (h : a = b) : ((a.toNat : Int) == (b.toNat : Int)) = true := by simp [h]
theorem u8_ne {a b : UInt8} (h : ¬ a = b) : ((a.toNat : Int) == (b.toNat : Int)) = false := by
  rw [beq_eq_false_iff_ne]
  intro e
  exact h (UInt8.toNat_inj.1 (by omega))
set_option maxHeartbeats 1000000 in
theorem l1Split_any (s : ByteArray) (b : UInt8) (hs : s.size ≤ 4000) (w : World) : Calls Tryd.prog 37 #[.string s, .int .u8 (b.toNat : Int)] w fun e w' => ∃ u, e = .returned u ∧ w'.ownsRow w.heap.size 9 1 u (spAll s b).length ((spAll s b).flatMap strC) ∧ Kept w w' := by
  obtain ⟨i0, hi0, hz0, hz1, hz2⟩ := info_parts infoStr
  go_enter Tryd.func37, Tryd.ntmps37
  go_wp2_with fail
  go_loopw [5, 6, 7] (fun v f i wr => ∃ k : Nat, k ≤ s.size ∧ i = .int .i64 (k : Int) ∧ f = .int .i64 ((spTo s b k).2 : Int) ∧ Kept w wr ∧ wr.ownsRow w.heap.size 9 1 v (spTo s b k).1.length ((spTo s b k).1.flatMap strC)) (fun _ _ i _ => s.size - (intOf i).toNat)
  case atStart => exact ⟨0, by omega, rfl, rfl, by (repeat (first | exact Kept.refl _ | assumption | refine Kept.alloc ?_ _ | refine Kept.drew ?_ | refine Kept.drewN ?_ _ | refine Kept.setCell ?_ (by first | (simp; done) | (simp; omega) | omega | exact Kept.size (by (repeat (first | exact Kept.refl _ | assumption | refine Kept.alloc ?_ _ | refine Kept.drew ?_ | refine Kept.drewN ?_ _ | refine Kept.trans ?_ (by assumption))))) _ | refine Kept.trans ?_ (by assumption))), World.ownsRow_lit (e := 9) (size := 1) w #[] 0 (Nat.le_refl _) (by simp [maxLen]) rfl⟩
  case round =>
    obtain ⟨k, hk, rfl, rfl, hkw, ho⟩ := hrel
    obtain ⟨Av, cv, rfl, -, -, -⟩ := own_form ho
    have HO := Lib.hid ho
    have HK := Lib.hid hkw
    have zs := hkw.size
    obtain ⟨q0, q1⟩ := sp_le s b k
    clear ho hkw
    by_cases hlt : k < s.size
    · have k0 : (0 : Int) ≤ (k : Int) := by omega
      have k1 : (k : Int) < (s.size : Int) := by omega
      by_cases hb : bt s k = b
      · have HY := Lib.hid (sp_yes hb)
        rw [bt_at hlt] at hb
        have hbe := u8_eq hb
        clear hb
        have l0 : (0 : Int) ≤ ((spTo s b k).2 : Int) := by omega
        have l1 : ((spTo s b k).2 : Int) ≤ (k : Int) := by omega
        generalize hpt : (spTo s b k).2 = p at HY l0 l1 q0 ⊢
        have e0 : ((p : Int)).toNat = p := by omega
        have e1 : ((k : Int)).toNat = k := by omega
        go_wp2_with (at_builtin; refine wpList_append_own_at _ rfl (.tmp 20) (.tmp 25) _ rfl w.heap.size 9 i0 _ 1 16 Tryd.underlying48 hi0 hz0 hz1 hz2 rfl (by decide) _ (spTo s b k).1.length _ rfl (own_kept HO.out (by (repeat (first | exact Kept.refl _ | assumption | refine Kept.alloc ?_ _ | refine Kept.drew ?_ | refine Kept.drewN ?_ _ | refine Kept.setCell ?_ (by first | (simp; done) | (simp; omega) | omega | exact Kept.size (by (repeat (first | exact Kept.refl _ | assumption | refine Kept.alloc ?_ _ | refine Kept.drew ?_ | refine Kept.drewN ?_ _ | refine Kept.trans ?_ (by assumption))))) _ | refine Kept.trans ?_ (by assumption))))) ⟨wr.heap.size, 0, none⟩ 1 1 [.string (s.extract p k)] rfl rfl (news_one _ _ _ (by simp)) (by simp [Value.oneCell']) (by unfold maxLen; omega) (by omega) (by simp; omega) ?_; intro v1 w1 hown1 hgrow1 _ _)
        have hgo := kept_of_own HK.out HO.out hgrow1 (by (repeat (first | exact Kept.refl _ | assumption | refine Kept.alloc ?_ _ | refine Kept.drew ?_ | refine Kept.drewN ?_ _ | refine Kept.setCell ?_ (by first | (simp; done) | (simp; omega) | omega | exact Kept.size (by (repeat (first | exact Kept.refl _ | assumption | refine Kept.alloc ?_ _ | refine Kept.drew ?_ | refine Kept.drewN ?_ _ | refine Kept.trans ?_ (by assumption))))) _ | refine Kept.trans ?_ (by assumption))))
        go_roundw
        case rel => exact ⟨k + 1, by omega, by go_num, by rw [HY.out]; go_num, hgo, by rw [HY.out, List.length_append, List.flatMap_append]; exact hown1⟩
        case measure => simp [intOf]; omega
      · have HN := Lib.hid (sp_no hb)
        rw [bt_at hlt] at hb
        have hbe := u8_ne hb
        clear hb
        go_wp2_with fail
        go_roundw
        case rel => exact ⟨k + 1, by omega, by go_num, by rw [HN.out], by have hq := HK.out; (repeat (first | exact Kept.refl _ | assumption | refine Kept.alloc ?_ _ | refine Kept.drew ?_ | refine Kept.drewN ?_ _ | refine Kept.setCell ?_ (by first | (simp; done) | (simp; omega) | omega | exact Kept.size (by (repeat (first | exact Kept.refl _ | assumption | refine Kept.alloc ?_ _ | refine Kept.drew ?_ | refine Kept.drewN ?_ _ | refine Kept.trans ?_ (by assumption))))) _ | refine Kept.trans ?_ (by assumption))), by rw [HN.out]; exact own_kept HO.out (by (repeat (first | exact Kept.refl _ | assumption | refine Kept.alloc ?_ _ | refine Kept.drew ?_ | refine Kept.drewN ?_ _ | refine Kept.setCell ?_ (by first | (simp; done) | (simp; omega) | omega | exact Kept.size (by (repeat (first | exact Kept.refl _ | assumption | refine Kept.alloc ?_ _ | refine Kept.drew ?_ | refine Kept.drewN ?_ _ | refine Kept.trans ?_ (by assumption))))) _ | refine Kept.trans ?_ (by assumption))))⟩
        case measure => simp [intOf]; omega
    · have e : k = s.size := by omega
      subst e
      have l0 : (0 : Int) ≤ ((spTo s b s.size).2 : Int) := by omega
      have l1 : ((spTo s b s.size).2 : Int) ≤ (s.size : Int) := by omega
      have HF : Hid (spAll s b = (spTo s b s.size).1 ++ [s.extract (spTo s b s.size).2 s.size]) := Lib.hid rfl
      generalize hpt : (spTo s b s.size).2 = p at HF l0 l1 q0 ⊢
      have e0 : ((p : Int)).toNat = p := by omega
      go_wp2_with (at_builtin; refine wpList_append_own_at _ rfl (.tmp 29) (.tmp 33) _ rfl w.heap.size 9 i0 _ 1 16 Tryd.underlying48 hi0 hz0 hz1 hz2 rfl (by decide) _ (spTo s b s.size).1.length _ rfl (own_kept HO.out (by (repeat (first | exact Kept.refl _ | assumption | refine Kept.alloc ?_ _ | refine Kept.drew ?_ | refine Kept.drewN ?_ _ | refine Kept.setCell ?_ (by first | (simp; done) | (simp; omega) | omega | exact Kept.size (by (repeat (first | exact Kept.refl _ | assumption | refine Kept.alloc ?_ _ | refine Kept.drew ?_ | refine Kept.drewN ?_ _ | refine Kept.trans ?_ (by assumption))))) _ | refine Kept.trans ?_ (by assumption))))) ⟨wr.heap.size, 0, none⟩ 1 1 [.string (s.extract p s.size)] rfl rfl (news_one _ _ _ (by simp)) (by simp [Value.oneCell']) (by unfold maxLen; omega) (by omega) (by simp; omega) ?_; intro v1 w1 hown1 hgrow1 _ _)
      have hgo := kept_of_own HK.out HO.out hgrow1 (by (repeat (first | exact Kept.refl _ | assumption | refine Kept.alloc ?_ _ | refine Kept.drew ?_ | refine Kept.drewN ?_ _ | refine Kept.setCell ?_ (by first | (simp; done) | (simp; omega) | omega | exact Kept.size (by (repeat (first | exact Kept.refl _ | assumption | refine Kept.alloc ?_ _ | refine Kept.drew ?_ | refine Kept.drewN ?_ _ | refine Kept.trans ?_ (by assumption))))) _ | refine Kept.trans ?_ (by assumption))))
      obtain ⟨A2, c2, rfl, -, -, -⟩ := own_form hown1
      go_wp2_with fail
      go_ret
      exact ⟨_, rfl, by rw [HF.out, List.length_append, List.flatMap_append]; exact hown1, hgo⟩
end Go.Proofs.YtlnhdjajbiahbaaDoor

/-
  FnExactAddReading: the program's AddReading returns what the reference's returns, for all arguments.
  Conditions: none.
-/
import Derived.Test.YtopdnhlolfehcaaAddL
import Derived.Test.YtopdnhlolfehcaaOpen
import Derived.Test.YtopdnhlolfehcaaOpen2
namespace Go.Proofs.Ytopdnhlolfehcaa
open Go.ChangeShapes Go.WideShapes Go.ChangeAt Go.RowKit Go.Joins
open Go.ChangeMaps (open_string)
set_option linter.unusedVariables false
namespace fnExactAddReading
set_option maxRecDepth 100000 in
theorem lifted (os : Os) (started : os.Started) (H : Type) (enc : TypeId × Value → H) :
    ReturnsInHanded {} Try.checked os 11 .any (Rows.fnExactAddReadingSpec.pre6 enc Try.prog Try.f11 Rows.fnExactAddReadingRow.domain false) (Rows.fnExactAddReadingSpec.post enc Try.prog Try.f11 false true false false) := by
  refine returnsInHanded_of_change (C := Try.checked) own started (by kernel_rfl) Try.func11
    (ChangeSpec.witness6 (enc := enc) (C := Try.checked) false ⟨#[], #[.agg #[.int .i64 0, .string ByteArray.empty, .int .i64 0, .slice none 0 0], .agg #[.int .i64 0, .int .i64 0]], []⟩ 8 (by kernel_rfl) (by kernel_rfl) (by kernel_rfl) (by kernel_rfl)) ?_
  intro W base args ds gs before hval0 hW hcnd _
  have hval : ∀ (j : Nat) t v, Try.f11.params[j]? = some t → args[j]? = some v → Value.okWide Try.prog W .any base t v := hval0
  have hW' := hW
  obtain ⟨p, q, hA0, hV, rfl, hfz, hnd⟩ := hW
  have hA : DataW.TrodAll enc Try.prog W 0 (fun _ => true) true Try.f11.params.toList args.toList ds p := hA0
  rw [Try.params11] at hA hval
  obtain ⟨v0, vs0, d0, ds0, p0, q0, hargs, rfl, rfl, h0, r0⟩ := trodAll_cons hA
  obtain ⟨v1, vs1, d1, ds1, p1, q1, rfl, rfl, rfl, h1, r1⟩ := trodAll_cons r0
  obtain ⟨rfl, rfl, rfl⟩ := trodAll_nil r1
  obtain rfl : args = #[v0, v1] := by cases args; simp_all
  obtain ⟨rfl, rfl⟩ := trodVars_none hV
  clear hA0 hval0
  obtain ⟨c0_0, c0_1, c0_2, c0_3, y0_0, y0_1, y0_2, y0_3, n0, rfl, -, -, e0_0, e0_1, e0_2, e0_3⟩ := open_agg4 Try.underlying47 (by kernel_rfl) (by kernel_rfl) (hval 0 47 v0 rfl rfl) h0
  obtain ⟨g0, rfl⟩ := cell_int Try.underlying3 e0_0
  obtain ⟨nm0, rfl, hs0⟩ := cell_string Try.underlying9 e0_1
  obtain ⟨zz0, rfl⟩ := cell_int Try.underlying3 e0_2
  obtain ⟨x0, l0⟩ := cell_pairs Try.underlying45 Try.underlying67 (by kernel_rfl) (by kernel_rfl) Try.underlying3 Try.underlying3 e0_3
  obtain ⟨c1_0, c1_1, y1_0, y1_1, n1, rfl, -, -, e1_0, e1_1⟩ := open_agg2 Try.underlying67 (by kernel_rfl) (by kernel_rfl) (hval 1 67 v1 rfl rfl) h1
  obtain ⟨x1_0, rfl⟩ := cell_int Try.underlying3 e1_0
  obtain ⟨x1_1, rfl⟩ := cell_int Try.underlying3 e1_1
  refine (lawAddReading g0 nm0 zz0 c0_3 x0 hs0 x1_0 x1_1 W l0).mono fun e W' ⟨he, hb⟩ => ?_
  subst he
  exact ⟨_, rfl, post_law laidOut Try.underlying4 rfl (by kernel_rfl) rfl hW' ⟨rfl, rfl, rfl⟩ hb⟩
theorem over : Rows.fnExactAddReadingRow.holds Try.pinned (OpenSpec.ofChange Rows.fnExactAddReadingSpec) :=
  OpenClaim.holds_of_wide 11 Try.f11 rfl rfl rfl rfl rfl rfl rfl ⟨rfl, rfl, rfl, rfl, rfl⟩ rfl rfl rfl rfl rfl (by kernel_rfl) Try.func11 (by kernel_rfl)
    (of_decide_eq_true (by kernel_rfl)) (by unfold Func.isWrapper; first | (rw [if_pos (by decide +kernel)]; kernel_rfl) | (rw [if_neg (by decide +kernel)]; exact ⟨rfl, rfl⟩))
    (fun os started H enc _ => lifted os started H enc)
/-- The statement. -/
theorem proved : Rows.FnExactAddReadingSaid := over
end fnExactAddReading
end Go.Proofs.Ytopdnhlolfehcaa

/- TableauExamples: for every input the law returns true and its arguments read afterwards as before. No condition. -/
import Derived.Test.YtknbjfefeeojlaaMgqlm6
namespace Go.Proofs.Ytknbjfefeeojlaa
open Go.ChangeShapes Go.WideShapes Go.ChangeAt Go.RowKit
attribute [local irreducible] RV VH V OpF Calls
set_option maxRecDepth 100000 in
theorem tableauExamples_lifted (os : Os) (started : os.Started) (H : Type) (enc : TypeId × Value → H) :
    ReturnsInHanded {} Try.checked os 6 .any (Rows.tableauExamplesSpec.pre6 enc Try.prog Try.f6 Rows.tableauExamplesRow.domain false) (Rows.tableauExamplesSpec.post enc Try.prog Try.f6 false true false false) := by
  refine returnsInHanded_of_change (C := Try.checked) Try.own started (by kernel_rfl) Try.func6
    (ChangeSpec.witness6 (enc := enc) (C := Try.checked) false ⟨#[], #[], []⟩ 8 (by kernel_rfl) (by kernel_rfl) (by kernel_rfl) (by kernel_rfl)) ?_
  intro W base args ds gs before hval0 hW hcnd _
  have hW' := hW
  obtain ⟨p, q, hA, hV, rfl, hfz, hnd⟩ := hW
  obtain ⟨rfl, rfl⟩ := trodVars_none hV
  have hA' : DataW.TrodAll enc Try.prog W 0 (fun _ => true) true Try.f6.params.toList args.toList ds p := hA
  rw [Try.params6] at hA'
  obtain ⟨ha, rfl, rfl⟩ := trodAll_nil hA'
  obtain rfl : args = #[] := by cases args; simp_all
  refine (tableauEx_ok (w := W)).mono fun e W' ⟨he, hx⟩ => ?_
  subst he
  exact ⟨_, rfl, post_law (tb := 4) hW' rfl Try.laidOut (by kernel_rfl) hx rfl (by kernel_rfl) (by kernel_rfl)⟩
theorem tableauExamples_holds : Rows.TableauExamplesSaid :=
  OpenClaim.holds_of_wide 6 Try.f6 rfl rfl rfl rfl rfl rfl rfl ⟨rfl, rfl, rfl, rfl, rfl⟩ rfl rfl rfl rfl rfl (by kernel_rfl) Try.func6 (by kernel_rfl)
    (of_decide_eq_true (by kernel_rfl)) (by unfold Func.isWrapper; first | (rw [if_pos (by decide +kernel)]; kernel_rfl) | (rw [if_neg (by decide +kernel)]; exact ⟨rfl, rfl⟩))
    (fun os started H enc _ => tableauExamples_lifted os started H enc)
end Go.Proofs.Ytknbjfefeeojlaa

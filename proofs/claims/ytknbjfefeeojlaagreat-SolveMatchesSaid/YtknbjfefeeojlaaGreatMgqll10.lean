/- SolveMatches: for every input the law returns true and its arguments read afterwards as before. No condition. -/
import Derived.Test.YtknbjfefeeojlaaGreatMgqll9
namespace Go.Proofs.YtknbjfefeeojlaaGreat
open Go.ChangeShapes Go.WideShapes Go.ChangeAt Go.RowKit
attribute [local irreducible] RV VH V OpF Calls
set_option maxRecDepth 100000 in
theorem solveMatches_lifted (os : Os) (started : os.Started) (H : Type) (enc : TypeId × Value → H) :
    ReturnsInHanded {} Tryz.checked os 5 .any (Rows.solveMatchesSpec.pre6 enc Tryz.prog Tryz.f5 Rows.solveMatchesRow.domain false) (Rows.solveMatchesSpec.post enc Tryz.prog Tryz.f5 false true false false) := by
  refine returnsInHanded_of_change (C := Tryz.checked) Tryz.own started (by kernel_rfl) Tryz.func5
    (ChangeSpec.witness6 (enc := enc) (C := Tryz.checked) false ⟨#[], #[.slice none 0 0, .slice none 0 0], []⟩ 8 (by kernel_rfl) (by kernel_rfl) (by kernel_rfl) (by kernel_rfl)) ?_
  intro W base args ds gs before hval0 hW hcnd _;have hval : ∀ (j : Nat) t v, Tryz.f5.params[j]? = some t → args[j]? = some v → Value.okWide Tryz.prog W .any base t v := hval0;have hW' := hW;obtain ⟨p, q, hA, hV, rfl, hfz, hnd⟩ := hW;obtain ⟨rfl, rfl⟩ := trodVars_none hV;have hA' : DataW.TrodAll enc Tryz.prog W 0 (fun _ => true) true Tryz.f5.params.toList args.toList ds p := hA;rw [Tryz.params5] at hA' hval;obtain ⟨v0, vs0, d0, ds0, p0, q0, ha, rfl, rfl, ⟨f0, h0⟩, r0⟩ := trodAll_cons hA';obtain ⟨v1, vs1, d1, ds1, p1, q1, rfl, rfl, rfl, ⟨f1, h1⟩, r1⟩ := trodAll_cons r0;obtain ⟨rfl, rfl, rfl⟩ := trodAll_nil r1;obtain rfl : args = #[v0, v1] := by cases args; simp_all
  obtain ⟨a0, n0, c0, e0⟩ := okWide_slice Tryz.underlying22 (hval 0 22 v0 rfl rfl);subst e0;obtain ⟨_, _, _, A0, e0, hx0⟩ := in_MX h0;simp only [Value.cells, List.cons.injEq, Value.slice.injEq, and_true] at e0;obtain ⟨rfl, rfl, rfl⟩ := e0;obtain ⟨a1, n1, c1, e1⟩ := okWide_slice Tryz.underlying23 (hval 1 23 v1 rfl rfl);subst e1;obtain ⟨_, _, _, A1, e1, hx1⟩ := in_GX h1;simp only [Value.cells, List.cons.injEq, Value.slice.injEq, and_true] at e1;obtain ⟨rfl, rfl, rfl⟩ := e1;refine (solveMat_ok (w := W) (h0 := hx0) (h1 := hx1)).mono fun e W' ⟨he, hx⟩ => ?_
  subst he;exact ⟨_, rfl, post_law (tb := 4) hW' rfl Tryz.laidOut (by kernel_rfl) hx rfl (by kernel_rfl) (by kernel_rfl)⟩
theorem solveMatches_holds : Rows.SolveMatchesSaid :=
  OpenClaim.holds_of_wide 5 Tryz.f5 rfl rfl rfl rfl rfl rfl rfl ⟨rfl, rfl, rfl, rfl, rfl⟩ rfl rfl rfl rfl rfl (by kernel_rfl) Tryz.func5 (by kernel_rfl)
    (of_decide_eq_true (by kernel_rfl)) (by unfold Func.isWrapper; first | (rw [if_pos (by decide +kernel)]; kernel_rfl) | (rw [if_neg (by decide +kernel)]; exact ⟨rfl, rfl⟩))
    (fun os started H enc _ => solveMatches_lifted os started H enc)
end Go.Proofs.YtknbjfefeeojlaaGreat

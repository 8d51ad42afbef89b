/- TableauOptimal: for every input the law returns true and its arguments read afterwards as before. No condition. -/
import Derived.Test.YtknbjfefeeojlaaGreatMgqlo7
namespace Go.Proofs.YtknbjfefeeojlaaGreat
open Go.ChangeShapes Go.WideShapes Go.ChangeAt Go.RowKit
attribute [local irreducible] RV VH V OpF Calls
set_option maxRecDepth 100000 in
theorem tableauOptimal_lifted (os : Os) (started : os.Started) (H : Type) (enc : TypeId × Value → H) :
    ReturnsInHanded {} Tryz.checked os 12 .any (Rows.tableauOptimalSpec.pre6 enc Tryz.prog Tryz.f12 Rows.tableauOptimalRow.domain false) (Rows.tableauOptimalSpec.post enc Tryz.prog Tryz.f12 false true false false) := by
  refine returnsInHanded_of_change (C := Tryz.checked) Tryz.own started (by kernel_rfl) Tryz.func12
    (ChangeSpec.witness6 (enc := enc) (C := Tryz.checked) false ⟨#[], #[.agg #[.int .i64 0, .slice none 0 0, .slice none 0 0, .slice none 0 0], .slice none 0 0, .slice none 0 0], []⟩ 8 (by kernel_rfl) (by kernel_rfl) (by kernel_rfl) (by kernel_rfl)) ?_
  intro W base args ds gs before hval0 hW hcnd _
  have hval : ∀ (j : Nat) t v, Tryz.f12.params[j]? = some t → args[j]? = some v → Value.okWide Tryz.prog W .any base t v := hval0
  have hW' := hW
  obtain ⟨p, q, hA, hV, rfl, hfz, hnd⟩ := hW
  obtain ⟨rfl, rfl⟩ := trodVars_none hV
  have hA' : DataW.TrodAll enc Tryz.prog W 0 (fun _ => true) true Tryz.f12.params.toList args.toList ds p := hA
  rw [Tryz.params12] at hA' hval
  obtain ⟨v0, vs0, d0, ds0, p0, q0, ha, rfl, rfl, ⟨f0, h0⟩, r0⟩ := trodAll_cons hA'
  obtain ⟨v1, vs1, d1, ds1, p1, q1, rfl, rfl, rfl, ⟨f1, h1⟩, r1⟩ := trodAll_cons r0
  obtain ⟨v2, vs2, d2, ds2, p2, q2, rfl, rfl, rfl, ⟨f2, h2⟩, r2⟩ := trodAll_cons r1
  obtain ⟨rfl, rfl, rfl⟩ := trodAll_nil r2
  obtain rfl : args = #[v0, v1, v2] := by cases args; simp_all
  obtain ⟨c0, e0, _⟩ := okWide_struct Tryz.underlying25 (hval 0 25 v0 rfl rfl)
  subst e0
  obtain ⟨l0, rfl⟩ : ∃ l : List Value, c0 = l.toArray := ⟨c0.toList, by simp⟩
  obtain ⟨nv0, _, _, _, _, _, _, _, _, _, _, _, _, e0, ho0, hs0, hb0⟩ := in_LP h0
  have e0' : l0 = _ := e0
  subst e0'
  obtain ⟨a1, n1, c1, e1⟩ := okWide_slice Tryz.underlying26 (hval 1 26 v1 rfl rfl)
  subst e1
  obtain ⟨_, _, _, A1, e1, hr1, hq1⟩ := in_PVs h1
  simp only [Value.cells, List.cons.injEq, Value.slice.injEq, and_true] at e1
  obtain ⟨rfl, rfl, rfl⟩ := e1
  obtain ⟨a2, n2, c2, e2⟩ := okWide_slice Tryz.underlying23 (hval 2 23 v2 rfl rfl)
  subst e2
  obtain ⟨_, _, _, A2, e2, hx2⟩ := in_GX h2
  simp only [Value.cells, List.cons.injEq, Value.slice.injEq, and_true] at e2
  obtain ⟨rfl, rfl, rfl⟩ := e2
  refine (tabOpt_ok (w := W) (nv := nv0) (h0 := ho0) (h1 := hs0) (h2 := hb0) (h3 := hr1) (h4 := hq1) (h5 := hx2)).mono fun e W' ⟨he, hx⟩ => ?_
  subst he
  exact ⟨_, rfl, post_law (tb := 4) hW' rfl Tryz.laidOut (by kernel_rfl) hx rfl (by kernel_rfl) (by kernel_rfl)⟩
theorem tableauOptimal_holds : Rows.TableauOptimalSaid :=
  OpenClaim.holds_of_wide 12 Tryz.f12 rfl rfl rfl rfl rfl rfl rfl ⟨rfl, rfl, rfl, rfl, rfl⟩ rfl rfl rfl rfl rfl (by kernel_rfl) Tryz.func12 (by kernel_rfl)
    (of_decide_eq_true (by kernel_rfl)) (by unfold Func.isWrapper; first | (rw [if_pos (by decide +kernel)]; kernel_rfl) | (rw [if_neg (by decide +kernel)]; exact ⟨rfl, rfl⟩))
    (fun os started H enc _ => tableauOptimal_lifted os started H enc)
end Go.Proofs.YtknbjfefeeojlaaGreat

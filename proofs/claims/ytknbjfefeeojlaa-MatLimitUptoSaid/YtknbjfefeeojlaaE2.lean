/- MatLimit: for every input of bulk at most 1048576 the law returns true and its arguments read afterwards as before. -/
import Derived.Test.YtknbjfefeeojlaaEa
import Derived.Test.YtknbjfefeeojlaaLc
namespace Go.Proofs.Ytknbjfefeeojlaa
open Go.ChangeShapes Go.WideShapes Go.ChangeAt Go.RowKit
attribute [local irreducible] RV VH V OpF Calls
theorem bulk_pos {H : Type} (d : DataW H) : 1 ≤ Rows.uptoBulk d := by
  cases d with
  | lit l => cases l <;> simp [Rows.uptoBulk]
  | _ => simp [Rows.uptoBulk]
theorem bulk_len {H : Type} : ∀ (ds : List (DataW H)), ds.length ≤ Rows.uptoBulkAll ds
  | [] => Nat.zero_le _
  | d :: ds => by
    have h1 := bulk_pos d
    have h2 := bulk_len ds
    simp only [List.length_cons, Rows.uptoBulkAll]; omega
theorem bulk_mem {H : Type} {d : DataW H} : ∀ {ds : List (DataW H)}, d ∈ ds → Rows.uptoBulk d ≤ Rows.uptoBulkAll ds
  | e :: ds, h => by
    simp only [Rows.uptoBulkAll]
    rcases List.mem_cons.1 h with rfl | h
    · omega
    · have := bulk_mem h; omega
theorem in_MI {H : Type} {enc : TypeId × Value → H} {W : World} {fuel : Nat} {cs : List Value} {x : DataW H × List MemPlace} (h : DataW.trod enc Try.prog W 0 (fun _ => true) true fuel 23 cs = some x) (hb : Rows.uptoBulk x.1 ≤ 1048576) :
    ∃ a n c zss, cs = [.slice a n c] ∧ MI TT W a n c zss ∧ ∀ r ∈ zss, r.length ≤ LV := by
  obtain ⟨a, n, c, zss, h1, h2, h3⟩ := open_MI (e := 49) (e2 := 2) (by kernel_rfl) (by kernel_rfl) (by kernel_rfl) (by kernel_rfl) (by kernel_rfl) h
  refine ⟨a, n, c, zss, h1, h2, fun r hr => ?_⟩
  have hLV : LV = 1099511627776 := rfl
  rcases h3 with ⟨_, rfl⟩ | ⟨ds, rest, e, hd⟩
  · simp at hr
  · rw [e] at hb
    simp only [Rows.uptoBulk] at hb
    obtain ⟨i, hi⟩ := List.getElem?_of_mem hr
    obtain ⟨d, h4, h5⟩ := hd.get hi
    have h6 := bulk_mem (List.mem_of_getElem? h4)
    rcases h5 with ⟨_, rfl⟩ | ⟨ds', rest', rfl, h7⟩
    · simp
    · have h8 := bulk_len ds'
      simp only [Rows.uptoBulk] at h6
      omega
set_option maxRecDepth 100000 in
theorem matLimit_contract (H : Type) (enc : TypeId × Value → H) (W : World) (base : Nat) (args : Array Value) (ds gs : List (DataW H)) (before : List MemPlace)
    (hval : ∀ (j : Nat) t v, Try.f4.params[j]? = some t → args[j]? = some v → Value.okWide Try.prog W .any base t v)
    (hW : DataW.Whole enc Try.prog Try.f4.params.toList Rows.matLimitSpec.vars false W args.toList ds gs before) (hk : Rows.uptoSmall H (ds ++ gs) = true) :
    Calls Try.prog 4 args W fun e W' => ∃ v, e = .returned v ∧ Rows.matLimitSpec.post enc Try.prog Try.f4 false true false false W args v W' := by
  have hW' := hW
  obtain ⟨p, q, hA, hV, rfl, hfz, hnd⟩ := hW
  obtain ⟨rfl, rfl⟩ := trodVars_none hV
  have hA' := hA
  rw [Try.params4] at hA' hval
  obtain ⟨v0, v1, d0, d1, p0, p1, rfl, rfl, rfl, h0, h1⟩ := trodAll_two hA'
  obtain ⟨z, rfl, rfl, rfl, wz⟩ := open_int Try.underlying3 (hval 1 3 v1 rfl rfl) h1
  have hk' : Rows.uptoBulkAll ([d0, .lit (.int .i64 z)] ++ []) ≤ 1048576 := of_decide_eq_true hk
  simp only [List.append_nil, Rows.uptoBulkAll] at hk'
  obtain ⟨fuel, h0⟩ := h0
  obtain ⟨a0, n0, c0, e0⟩ := okWide_slice Try.underlying23 (hval 0 23 v0 rfl rfl)
  subst e0
  obtain ⟨a, n, c, zss, e1, hx, hR⟩ := in_MI h0 (show Rows.uptoBulk d0 ≤ 1048576 by omega)
  simp only [Value.cells, List.cons.injEq, Value.slice.injEq, and_true] at e1
  obtain ⟨rfl, rfl, rfl⟩ := e1
  refine (matLimit_ok _ _ _ z zss W hx hR).mono fun e W' ⟨he, hx⟩ => ?_
  subst he
  exact ⟨_, rfl, post_law (tb := 4) hW' rfl Try.laidOut (by kernel_rfl) hx rfl (by kernel_rfl) (by kernel_rfl)⟩
set_option maxRecDepth 100000 in
theorem matLimit_lifted (os : Os) (started : os.Started) (H : Type) (enc : TypeId × Value → H) (F : Stop.Interp) :
    ReturnsInHanded {} Try.checked os 4 .any ((Rows.OpenSpec.upto Rows.matLimitSpec).pre6 enc Try.prog Try.f4 Rows.matLimitUptoRow.domain false) (((Rows.OpenSpec.upto Rows.matLimitSpec).at F).post enc Try.prog Try.f4 false true false false) := by
  refine returnsInHanded_of_cond (C := Try.checked) (s := Rows.OpenSpec.upto Rows.matLimitSpec) (k := Rows.uptoSmall) rfl Try.own started (by kernel_rfl) Try.func4
    (OpenSpec.witness (enc := enc) (C := Try.checked) (s := Rows.OpenSpec.upto Rows.matLimitSpec) (k := Rows.uptoSmall) rfl false ⟨#[], #[.slice none 0 0, .int .i64 0], []⟩ 8 (by kernel_rfl) (by kernel_rfl) (by kernel_rfl)
      (x := ([.nil, .lit (.int .i64 0)], [], [])) (by kernel_rfl) rfl (by kernel_rfl)) ?_
  intro W base args ds gs before hval hW _ hk _
  exact matLimit_contract H enc W base args ds gs before hval hW hk
theorem matLimit_holds : Rows.MatLimitUptoSaid :=
  OpenClaim.holds_of_cond 4 Try.f4 rfl rfl rfl rfl rfl rfl rfl ⟨rfl, rfl, rfl, rfl, rfl⟩ rfl rfl rfl rfl rfl (by kernel_rfl) Try.func4 (by kernel_rfl)
    (of_decide_eq_true (by kernel_rfl)) (by unfold Func.isWrapper; first | (rw [if_pos (by decide +kernel)]; kernel_rfl) | (rw [if_neg (by decide +kernel)]; exact ⟨rfl, rfl⟩))
    (fun os started H enc _ F => matLimit_lifted os started H enc F)
end Go.Proofs.Ytknbjfefeeojlaa

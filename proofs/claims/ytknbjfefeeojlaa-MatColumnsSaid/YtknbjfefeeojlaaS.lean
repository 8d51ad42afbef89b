/- Slices: elements that are read, arrays that are made, appended to and written; a call of yield. -/
import Derived.Test.YtknbjfefeeojlaaR
import Derived.Laws.MakeOwn
namespace Go.Proofs.Ytknbjfefeeojlaa
open Go.RowKit
section
variable {r : Option Nat} {P : Program} {ρ : Operand → Value} {W W' : World} {d : Option Tmp} {op : Op} {ty T e : TypeId} {pos : String} {af : Array Edge} {g : Option (Nat × Bool)} {x y : Operand} {v u : Value} {K : Value → World → Prop} {argTypes : Array TypeId}
theorem xyield {l : Nat} {args : Array Operand} {vs : List Value} {Rc : Ending → World → Prop} (hx : ρ x = .func (.yield l) #[] #[]) (ha' : args.toList.map ρ = vs) (hy : YieldAt Fence.wide 0 P l vs.toArray W Rc) (k : ∀ e W', Rc e W' → ∃ v, e = .returned v ∧ K v W') :
    OpF none P ρ ⟨d, .call ⟨.value x, args, argTypes⟩, ty, pos, af, g⟩ W K := by
  obtain ⟨fn, tmps, assign, body, h1, h2⟩ := hy
  have ha : args.map ρ = vs.toArray := by rw [← ha']; apply Array.ext'; simp
  unfold OpF execOp
  simp only [ha, resolve, hx, Deferred.ofValue, Sem.run_bind, Sem.run_pure, Result.andThen_ok, invoke, Array.empty_append, h1]
  exact h2.mono k

/-! ### Elements of a slice of whole numbers -/
section
variable {k k' : IntKind} {S : Nat → Prop} {a : Option Addr} {n c : Nat} {xs : List Int} {i : Int}
theorem RN.isS (h : RN k S W a n c xs) (hi : 0 ≤ i) (hn : i < n) : a.isSome = true := by
  obtain ⟨b, off, cs, T, fz, rfl, _⟩ := h.at_ (by omega); rfl
theorem RN.el (h : RN k S W a n c xs) (hi : 0 ≤ i) (hn : i < n) : W.cell? (adr a i 1) = some (.int k (wd xs i)) := by
  obtain ⟨b, off, hb, _, _, hc⟩ := h.cells (by omega)
  subst hb
  have := hc i.toNat (by omega)
  rw [Int.toNat_of_nonneg hi] at this
  simp only [adr, addO, Nat.mul_one, this]
theorem RN.kb' (h : RN k S W a n c xs) (hi : 0 ≤ i) (hn : i < n) : kb k (wd xs i) := by
  have := h.kbd i.toNat (by omega)
  rwa [Int.toNat_of_nonneg hi] at this
theorem rixn (h : RN k S W a n c xs) (hS : Sl P T e) (hs : Sz P e 1) (hx : ρ x = .slice a n c) (hy : ρ y = .int k' i) (h0 : 0 ≤ i) (h1 : i < n) :
    (execOp ρ ⟨d, .indexAddr T x y, ty, pos, af, g⟩).run P W = .ok (.value (.pointer (some (adr a i 1)))) W := rix hS hs hx hy h0 h1 (h.isS h0 h1)
theorem rldN (h : RN k S W a n c xs) (hx : ρ x = .pointer (some (adr a i 1))) (hT : Sc P T) (h0 : 0 ≤ i) (h1 : i < n) :
    (execOp ρ ⟨d, .load T x, ty, pos, af, g⟩).run P W = .ok (.value (.int k (wd xs i))) W := rld1 hx hT (h.el h0 h1)
end

/-! ### An array of whole numbers that the call owns -/
/-- A slice over the first xs.length cells of a block at or beyond B; c: its capacity. -/
structure OI (k : IntKind) (B : Nat) (W : World) (e : TypeId) (v : Value) (xs : List Int) : Prop where
  row : W.ownsRow B e 1 v xs.length (xs.map (Value.int k))
  wf : ∀ x ∈ xs, kb k x
theorem OI.form {k : IntKind} {B : Nat} {xs : List Int} (h : OI k B W e v xs) : ∃ a c, v = .slice a xs.length c := by
  rcases h.row.2 with ⟨rfl, h0⟩ | ⟨b, cap, cur, rfl, _⟩
  · exact ⟨none, 0, by rw [h0]⟩
  · exact ⟨_, cap, rfl⟩
theorem OI.rn {k : IntKind} {B : Nat} {xs : List Int} {S : Nat → Prop} {a : Option Addr} {n c : Nat} (h : OI k B W e (.slice a n c) xs) (hS : ∀ b, B ≤ b → b < W.heap.size → S b) : RN k S W a n c xs := by
  rcases h.row.2 with ⟨h1, h0⟩ | ⟨b, cap, cur, h1, hb, hh, hn, hm, hs, ht⟩
  · injection h1 with h1 h2 h3
    subst h1 h2 h3
    have : xs = [] := List.eq_nil_of_length_eq_zero h0
    subst this
    exact RN.nil _ _ _ _ _ (by omega)
  · injection h1 with h1 h2 h3
    subst h1 h2 h3
    refine ⟨rfl, hn, by simp only [maxLen] at hm; omega, h.wf, fun h0 => ⟨b, 0, cur, e, (0,0), rfl, hS b hb (Array.getElem?_eq_some_iff.1 hh).1, hh, fun j hj => ?_⟩⟩
    have h5 : (cur.toList.take (xs.length * 1))[j]? = some (.int k (wd xs j)) := by rw [ht]; simp [wd, hj]
    rw [List.getElem?_take] at h5
    simp only [Nat.mul_one, hj, if_true] at h5
    simpa using h5
theorem OI.nil (k : IntKind) (B : Nat) (W : World) (e : TypeId) : OI k B W e (.slice none 0 0) [] := ⟨World.ownsRow_nil _ _ _ _, by simp⟩
theorem OI.ck {k : IntKind} {B : Nat} {xs : List Int} {S : Nat → Prop} (h : OI k B W e v xs) (hx : CK S W W') (hS : ∀ b, v.ownBlock = some b → S b) : OI k B W' e v xs := by
  refine ⟨⟨h.row.1, ?_⟩, h.wf⟩
  rcases h.row.2 with h1 | ⟨b, cap, cur, rfl, hb, hh, rest⟩
  · exact .inl h1
  · exact .inr ⟨b, cap, cur, rfl, hb, hx.2 b cur e (0,0) (hS b rfl) hh, rest⟩
theorem OI.ext {k : IntKind} {B : Nat} {xs : List Int} (h : OI k B W e v xs) (hx : Ext W W') : OI k B W' e v xs := h.ck (hx.ck fun _ => True) fun _ _ => trivial
theorem OI.low {k : IntKind} {B : Nat} {xs : List Int} (h : OI k B W e v xs) : ∀ b, v.ownBlock = some b → B ≤ b ∧ b < W.heap.size := h.row.lt
/-- make([]T, n) -/
theorem xmake {k : IntKind} {t1 : TypeId} {n : Nat} {bytes : Nat} (B : Nat) (hB : B ≤ W.heap.size) (hS : Sl P t1 e) (hi : ∃ i, P.info? e = some i ∧ i.size = 1 ∧ i.bytes = bytes ∧ i.zero = some (.int k 0)) (hk : kb k 0) (hx : ρ x = .int .i64 (n : Int)) (hy : ρ y = .int .i64 (n : Int)) (hn : bytes * n ≤ 281474976710656) (h63 : n ≤ 9223372036854775807)
    (hk2 : ∀ W', Ext W W' → OI k B W' e (.slice (some ⟨W.heap.size, 0, none⟩) n n) (List.replicate n 0) → W'.heap.size = W.heap.size + 1 → K (.slice (some ⟨W.heap.size, 0, none⟩) n n) W') :
    OpF r P ρ ⟨d, .makeSlice t1 x y, ty, pos, af, g⟩ W K := by
  obtain ⟨i, h1, h2, h3, h4⟩ := hi
  have hr := run_make (P := P) W t1 e i (.int k 0) hS h1 h4 .i64 .i64 n n (by omega) (Int.le_refl _) (by rw [h3, ← Int.natCast_mul]; omega) (by omega)
  unfold OpF execOp
  simp only [hx, hy, Sem.run_bind, hr, Result.andThen_ok, Sem.run_pure, Int.toNat_natCast]
  refine hk2 _ ((Ext.refl _).alloc _) ⟨?_, by simp; exact fun _ => hk⟩ (by simp)
  rw [h2, Nat.mul_one, List.length_replicate]
  refine ⟨by simp, .inr ⟨W.heap.size, n, _, rfl, hB, heap_alloc_new W _, Nat.le_refl _, by simp only [maxLen]; omega, by rw [size_madeCells]; simp, ?_⟩⟩
  rw [show ((Value.int k 0).cells) = #[.int k 0] from rfl, toList_madeCells_one]
  simp
/-- append(v, x): the one element stands in a block of its own. -/
theorem xapp {k : IntKind} {t1 : TypeId} {B b c1 : Nat} {xs : List Int} {bytes : Nat} {z : Int} (hS : Sl P t1 e) (hi : ∃ i, P.info? e = some i ∧ i.size = 1 ∧ i.bytes = bytes ∧ i.zero = some (.int k 0)) (hO : OI k B W e v xs) (hx : ρ x = v) (hy : ρ y = .slice (some ⟨b, 0, none⟩) 1 c1) (hb : BoxAt W b [.int k z] e) (hz : kb k z)
    (hlen : (xs.length + 1) * bytes ≤ 140737488355328) (hbp : 0 < bytes) (hB : B ≤ W.heap.size)
    (hk2 : ∀ v' W', OI k B W' e v' (xs ++ [z]) → W.grownBy W' v.ownBlock → (v'.ownBlock = v.ownBlock ∨ v'.ownBlock = some W.heap.size) → K v' W') :
    OpF r P ρ ⟨d, .call ⟨.builtin .append, #[x, y], #[t1, t1]⟩, ty, pos, af, g⟩ W K := by
  obtain ⟨i, h1, h2, h3, h4⟩ := hi
  have hle : xs.length + 1 ≤ 140737488355328 := Nat.le_trans (Nat.le_mul_of_pos_right _ hbp) hlen
  obtain ⟨v', W', hr, h5, h6, h7, h8⟩ := run_append_own_at (P := P) W B t1 ty e i (.int k 0) 1 bytes hS h1 h4 h2 h3 rfl (by omega) v xs.length _ hO.row ⟨b, 0, none⟩ 1 c1 [.int k z] rfl
    (by intro j u hj
        match j, hj with
        | 0, hj => simp at hj; subst hj; rw [addO]; exact hb.cell 0 rfl) (by simp [Value.oneCell']) (by simp only [maxLen]; omega) hlen hB
  unfold OpF execOp
  simp only [resolve, invoke, builtin, Sem.run_bind, Sem.run_pure, Result.andThen_ok, List.map_toArray, List.map_cons, List.map_nil, hx, hy, hr]
  refine hk2 v' W' ⟨by simpa using h5, ?_⟩ h6 h8
  intro q hq
  rcases List.mem_append.1 hq with hq | hq
  · exact hO.wf q hq
  · simp at hq; subst hq; exact hz
theorem grown_ck {S : Nat → Prop} {row : Option Nat} (h : W.grownBy W' row) (hr : ∀ b, row = some b → ¬ S b) : CK S W W' := CK.grown h fun b e => .inr (hr b e)
theorem OI.neBox {k : IntKind} {B b : Nat} {xs : List Int} {cs : List Value} (h : OI k B W e v xs) (hb : BoxAt W b cs T) (hT : T ≠ e) : v.ownBlock ≠ some b := by
  rcases h.row.2 with ⟨rfl, _⟩ | ⟨b', cap, cur, rfl, _, hh, _⟩
  · simp [Value.ownBlock]
  · intro e0
    simp only [Value.ownBlock, Option.some.injEq] at e0
    subst e0
    unfold BoxAt at hb
    rw [hb] at hh
    injection hh with hh
    injection hh with _ h2 _
    exact hT h2
theorem KB.grown {k : IntKind} {B n : Nat} {xs : List Int} (h : OI k B W e v xs) (hg : W.grownBy W' v.ownBlock) (hn : n ≤ B) (hB : n ≤ W.heap.size) : KB n W W' :=
  ⟨(Below.refl n W).grown hg hB fun b e => Nat.le_trans hn (h.low b e).1, fun k o hk ho => by
    refine (hg.block k (Array.getElem?_eq_some_iff.1 hk).1 ?_).trans hk
    intro e0
    rcases h.row.2 with ⟨rfl, _⟩ | ⟨b', cap, cur, rfl, _, hh, _⟩
    · cases e0
    · simp only [Value.ownBlock, Option.some.injEq] at e0
      subst e0; rw [hh] at hk; cases hk; simp [Obj.isCells] at ho⟩
theorem grown_below {B : Nat} {row : Option Nat} (h : W.grownBy W' row) (hB : B ≤ W.heap.size) (hr : ∀ b, row = some b → B ≤ b) : Below B W W' := (Below.refl B W).grown h hB hr
end
end Go.Proofs.Ytknbjfefeeojlaa

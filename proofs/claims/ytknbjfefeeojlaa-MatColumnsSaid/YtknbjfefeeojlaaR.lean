/- The steps of a walk. -/
import Derived.Test.YtknbjfefeeojlaaO
namespace Go.Proofs.Ytknbjfefeeojlaa
open Go.RowKit
section
variable {r : Option Nat} {P : Program} {N : Nat} {ops : Array Oper} {R : Env → World → Prop} {l : List Oper} {E : Env} {W W' : World} {d : Option Tmp} {t : Tmp} {op : Op} {ty T : TypeId} {pos : String} {af : Array Edge} {v : Value}

/-! ### One operation after the other -/
theorem vnil (h : R E W) : RV r P ops R [] E W := h
theorem vv (hr : (execOp (ev E) ⟨some t, op, ty, pos, af, none⟩).run P W = .ok (.value v) W') (k : RV r P ops R l (up E t v) W') : RV r P ops R (⟨some t, op, ty, pos, af, none⟩ :: l) E W := by
  unfold RV
  rw [if_pos (by rfl)]
  unfold OpF
  rw [hr]; exact k
theorem vu (hr : (execOp (ev E) ⟨none, op, ty, pos, af, none⟩).run P W = .ok .skip W') (k : RV r P ops R l E W') : RV r P ops R (⟨none, op, ty, pos, af, none⟩ :: l) E W := by
  unfold RV
  rw [if_pos (by rfl)]
  unfold OpF
  rw [hr]; exact k
/-- A call, or whatever is not run to its end at once. -/
theorem vo (h : OpF r P (ev E) ⟨d, op, ty, pos, af, none⟩ W fun v W' => RV r P ops R l (puto E d v) W') : RV r P ops R (⟨d, op, ty, pos, af, none⟩ :: l) E W := by
  unfold RV
  rw [if_pos (by rfl)]; exact h
/-- The guard says yes. -/
theorem vg {j : Nat} {want : Bool} (hg : yE ops E j = some want) (k : RV r P ops R (⟨d, op, ty, pos, af, none⟩ :: l) E W) : RV r P ops R (⟨d, op, ty, pos, af, some (j, want)⟩ :: l) E W := by
  unfold RV at k ⊢
  rw [if_pos (by rfl)] at k
  rw [if_pos (by simp [wE, Region.wanted, hg])]; exact k
/-- The guard says no. -/
theorem vgn {j : Nat} {want b : Bool} (hg : yE ops E j = some b) (hb : (b == want) = false) (k : RV r P ops R l (puto E d undef) W) : RV r P ops R (⟨d, op, ty, pos, af, some (j, want)⟩ :: l) E W := by
  unfold RV
  have : wE ops ⟨d, op, ty, pos, af, some (j, want)⟩ E = false := by
    simp only [wE, Region.wanted, hg]
    cases b <;> cases want <;> simp_all
  rw [if_neg (by rw [this]; simp)]; exact k
/-- The guard's own operation was passed over. -/
theorem vgu {j : Nat} {want : Bool} (hg : yE ops E j = none) (k : RV r P ops R l (puto E d undef) W) : RV r P ops R (⟨d, op, ty, pos, af, some (j, want)⟩ :: l) E W := by
  unfold RV
  have : wE ops ⟨d, op, ty, pos, af, some (j, want)⟩ E = false := by simp [wE, Region.wanted, hg]
  rw [if_neg (by rw [this]; simp)]; exact k

/-! ### In a region that draws its order -/
section
variable {S : World → Prop} {fuel i : Nat} {listed : Array Bool} {oi : Oper}
theorem tk {g : Option (Nat × Bool)} (i : Nat) (hi : ops[i]? = some ⟨some t, op, ty, pos, af, g⟩) (hf : (Region.noSelect ops && Region.free .any ops listed i && (Region.ready .any ops listed).contains i) = true) (hS : S W) (hy : PureIf P ops S ⟨some t, op, ty, pos, af, g⟩ v E)
    (k : VH r P ops S R fuel (listed.setIfInBounds i true) (up E t v) W) : VH r P ops S R (fuel + 1) listed E W := by
  simp only [Bool.and_eq_true] at hf
  exact VH.first hi (Region.noSelect_spec hf.1.1) (.inr trivial) fuel listed E W (Region.free_spec hi hf.1.2) (by simpa using hf.2) hy hS k
theorem pv (hr : ∀ W, S W → (execOp (ev E) ⟨d, op, ty, pos, af, none⟩).run P W = .ok (.value v) W) : PureIf P ops S ⟨d, op, ty, pos, af, none⟩ v E := .inl ⟨rfl, hr⟩
theorem pg {j : Nat} {want : Bool} (hg : yE ops E j = some want) (hr : ∀ W, S W → (execOp (ev E) ⟨d, op, ty, pos, af, some (j, want)⟩).run P W = .ok (.value v) W) : PureIf P ops S ⟨d, op, ty, pos, af, some (j, want)⟩ v E :=
  .inl ⟨by simp [wE, Region.wanted, hg], hr⟩
theorem pgn {j : Nat} {want b : Bool} (hg : yE ops E j = some b) (hb : (b == want) = false) : PureIf P ops S ⟨d, op, ty, pos, af, some (j, want)⟩ undef E :=
  .inr ⟨by simp only [wE, Region.wanted, hg]; cases b <;> cases want <;> simp_all, rfl⟩
theorem pgu {j : Nat} {want : Bool} (hg : yE ops E j = none) : PureIf P ops S ⟨d, op, ty, pos, af, some (j, want)⟩ undef E := .inr ⟨by simp [wE, Region.wanted, hg], rfl⟩
theorem ef (i : Nat) (hr : Region.ready .any ops listed = [i]) (hi : ops[i]? = some ⟨d, op, ty, pos, af, none⟩) (h : OpF r P (ev E) ⟨d, op, ty, pos, af, none⟩ W fun v W' => (lastOp ops i = false → S W') ∧ VH r P ops S R fuel (listed.setIfInBounds i true) (puto E d v) W') : VH r P ops S R (fuel + 1) listed E W := by
  refine ⟨fun h0 => (by rw [hr] at h0; cases h0), fun j hj => ?_⟩
  rw [hr] at hj
  obtain rfl : j = i := by simpa using hj
  unfold opI
  simp only [hi]
  rw [if_pos (by rfl)]; exact h
theorem dn (hr : Region.ready .any ops listed = []) (h : R E W) : VH r P ops S R fuel listed E W := by
  cases fuel with
  | zero => exact ⟨hr, h⟩
  | succ n => exact ⟨fun _ => h, by rw [hr]; simp⟩
end

/-! ### Effects: for 'vo' and 'ef' -/
section
variable {ρ : Operand → Value} {K : Value → World → Prop} {g : Option (Nat × Bool)} {argTypes : Array TypeId} {f : Nat}
theorem xv (hr : (execOp ρ ⟨d, op, ty, pos, af, g⟩).run P W = .ok (.value v) W') (k : K v W') : OpF r P ρ ⟨d, op, ty, pos, af, g⟩ W K := by unfold OpF; rw [hr]; exact k
theorem xu (hr : (execOp ρ ⟨d, op, ty, pos, af, g⟩).run P W = .ok .skip W') (k : K undef W') : OpF r P ρ ⟨d, op, ty, pos, af, g⟩ W K := by unfold OpF; rw [hr]; exact k
/-- The function has a body that is entered. -/
def Ent (P : Program) (f : Nat) : Prop := ∀ args w, (callFunc f args).run P w = .ok (.enter f args) w
theorem xcall {args : Array Operand} {vs : List Value} {Rc : Ending → World → Prop} {x : Operand} {cap : Array Value} (he : Ent P f) (hc : Calls P f vs.toArray W Rc) (hx : ρ x = .func (.func f) #[] cap) (ha : args.toList.map ρ ++ cap.toList = vs) (k : ∀ e W', Rc e W' → ∃ v, e = .returned v ∧ K v W') :
    OpF r P ρ ⟨d, .call ⟨.value x, args, argTypes⟩, ty, pos, af, g⟩ W K := by
  unfold OpF execOp
  subst ha
  have h0 : (args.map ρ) ++ cap = (args.toList.map ρ ++ cap.toList).toArray := by apply Array.ext'; simp
  simp only [resolve, hx, Deferred.ofValue, Sem.run_bind, Sem.run_pure, Result.andThen_ok, invoke, Array.empty_append, he _ _, h0]
  exact hc.mono k
end
end

/-! ### A function, from its body -/
section
variable {P : Program} {N : Nat} {E : Env} {W W' : World} {Rr : Ending → World → Prop} {fn : Func}
def nth : List Value → Nat → Value
  | [], _ => undef
  | v :: _, 0 => v
  | _ :: l, n + 1 => nth l n
def ini (l : List Value) : Env := nth l
theorem nth_getD : ∀ (l : List Value) (t : Nat), nth l t = l.getD t undef
  | [], t => by simp [nth]
  | v :: l, 0 => by simp [nth]
  | v :: l, t + 1 => by simp [nth, nth_getD l t]
/-- The results are these. -/
def Res (P : Program) (E : Env) (W : World) : List ResultVar → List Value → Prop
  | [], [] => True
  | .tmp t :: rs, v :: vs => E t = v ∧ Res P E W rs vs
  | .cell t T :: rs, v :: vs => (∃ a, E t = .pointer (some a) ∧ (loadVar T a).run P W = .ok v W) ∧ Res P E W rs vs
  | _, _ => False
def one : List Value → Value
  | [v] => v
  | vs => .tuple vs.toArray
def mark (D : Nat) : Deferred := { target := .collected D, args := #[] }
def Lv (P : Program) (fn : Func) (Rr : Ending → World → Prop) (E : Env) : List Deferred → World → Prop
  | [], W => ∃ vs, Res P E W fn.results.toList vs ∧ Rr (.returned (one vs)) W
  | d :: ds, W => ∃ D, d = mark D ∧ W.heap[D]? = some (.deferred (some [])) ∧ Lv P fn Rr E ds (W.putObj D (.deferred none))
def endQ (P : Program) (fn : Func) (Rr : Ending → World → Prop) : EQ
  | .normal, E, ds, W => Lv P fn Rr E ds W
  | .ret, E, ds, W => Lv P fn Rr E ds W
  | _, _, _, _ => False
def rdF (tmps : Array Value) : ResultVar → Sem Value
  | .tmp t => pure (tmps.getD t undef)
  | .cell b t => do loadVar t (← asAddr (tmps.getD b undef))
theorem results_res {a : Act} (hrep : Rep N a E) : ∀ (rs : List ResultVar) (vs : List Value), Res P E W rs vs → (rs.mapM (rdF a.tmps)).run P W = .ok vs W
  | [], [], _ => by simp
  | .tmp t :: rs, v :: vs, h => by
    have ih := results_res hrep rs vs h.2
    have h0 : (rdF a.tmps (.tmp t)).run P W = .ok v W := by simp only [rdF, hrep.get, h.1, Sem.run_pure]
    simp only [List.mapM_cons, Sem.run_bind, Sem.run_pure, Result.andThen_ok, h0, ih]
  | .cell t T :: rs, v :: vs, h => by
    have ih := results_res hrep rs vs h.2
    obtain ⟨⟨b, ha, hl⟩, _⟩ := h
    have h0 : (rdF a.tmps (.cell t T)).run P W = .ok v W := by simp only [rdF, hrep.get, ha, asAddr, Sem.run_bind, Sem.run_pure, Result.andThen_ok, hl]
    simp only [List.mapM_cons, Sem.run_bind, Sem.run_pure, Result.andThen_ok, h0, ih]
  | [], _ :: _, h => h.elim
  | .tmp _ :: _, [], h => h.elim
  | .cell _ _ :: _, [], h => h.elim
theorem one_eq (vs : List Value) : (if h : vs.toArray.size = 1 then vs.toArray[0] else Value.tuple vs.toArray) = one vs := by
  match vs with
  | [] => simp [one]
  | [v] => simp [one]
  | _ :: _ :: _ => simp [one]
theorem Lv.leaves {a : Act} (hrep : Rep N a E) : ∀ (ds : List Deferred) (W : World), Lv P fn Rr E ds W → LeavesInM (fen none) 0 P fn a.tmps Rr ds .returning W
  | [], W, h => by
    obtain ⟨vs, h1, h2⟩ := h
    refine ⟨one vs, ?_, h2⟩
    have h3 := results_res hrep _ _ h1
    have h4 : results fn a.tmps = (do let vs ← fn.results.mapM (rdF a.tmps); pure (if h : vs.size = 1 then vs[0] else .tuple vs)) := by
      unfold results
      congr 1
    rw [h4, Array.mapM_eq_mapM_toList, ← bind_pure_comp]
    simp only [Sem.run_bind, h3, Result.andThen_ok, Sem.run_pure]
    rw [one_eq]
  | d :: ds, W, h => by
    obtain ⟨D, rfl, hD, hr⟩ := h
    exact ⟨by simp, .inl ⟨D, _, rfl, run_takeDeferred hD, Lv.leaves hrep ds _ hr⟩⟩
theorem enter {f : FuncId} {c : Code} {args : List Value} (hf : P.funcs[f]? = some fn) (hb : fn.body = some c) (hN : fn.ntmps = N) (hl : args.length ≤ N) (h : V none P N [] c (endQ P fn Rr) (ini args) W) : Calls P f args.toArray W Rr := by
  refine (callsIn_wide (n := 0)).1 (callsIn_of_wp_marks (F := fen none) hf hb trivial ?_ rfl)
  have hrep : Rep N { tmps := args.toArray ++ Array.replicate (fn.ntmps - args.toArray.size) undef, defers := [] } (ini args) := by
    refine ⟨by simp [hN]; omega, fun t => ?_⟩
    unfold ini
    rw [nth_getD]
    simp only [Array.getD_eq_getD_getElem?, List.getD_eq_getElem?_getD, Array.getElem?_append, List.size_toArray, List.getElem?_toArray]
    by_cases ht : t < args.length
    · simp [ht]
    · simp only [ht, if_false, List.getElem?_eq_none (Nat.le_of_not_lt ht), Option.getD_none, Array.getElem?_replicate]
      split <;> rfl
  refine wpIn_mono (h _ hrep rfl) ?_
  rintro x a' W' ⟨E', h1, h2⟩
  cases x with
  | normal => exact Lv.leaves h1 _ _ h2
  | ret => exact Lv.leaves h1 _ _ h2
  | _ => exact h2.elim

/-! ### What a result's cell holds -/
theorem lv1 {b o : Nat} {cs : List Value} {T T' : TypeId} {v : Value} (hT : Sc P T) (hb : BoxAt W b cs T') (hc : cs[o]? = some v) : (loadVar T ⟨b, o, none⟩).run P W = .ok v W := by
  simp [loadVar, isAgg_sc hT, run_load, hb.cell o hc]
theorem lvn {b o n : Nat} {cs vs : List Value} {T T' : TypeId} (hT : Ag P T n) (hb : BoxAt W b cs T') (hn : vs.length = n) (hc : ∀ j u, vs[j]? = some u → cs[o + j]? = some u) : (loadVar T ⟨b, o, none⟩).run P W = .ok (.agg vs.toArray) W := by
  subst hn
  simp only [loadVar, Sem.run_bind, isAgg_ag hT, Result.andThen_ok, if_true, sizeOf_sz hT.sz, run_loadCells_list W ⟨b, o, none⟩ vs (fun j u hj => by rw [addO]; exact hb.cell _ (hc j u hj)), Sem.run_pure]
/-- The whole block. -/
theorem lvb {b n : Nat} {vs : List Value} {T T' : TypeId} (hT : Ag P T n) (hb : BoxAt W b vs T') (hn : vs.length = n) : (loadVar T ⟨b, 0, none⟩).run P W = .ok (.agg vs.toArray) W :=
  lvn hT hb hn fun j u hj => by rw [Nat.zero_add]; exact hj

/-! ### A range over a function -/
/-- Blocks below B, and blocks of cells, are as they were. -/
structure Tn (B : Nat) (X Y : World) : Prop where
  os : Y.os = X.os
  tape : Y.tape = X.tape
  output : Y.output = X.output
  size : X.heap.size ≤ Y.heap.size
  block : ∀ (k : Nat) (o : Obj), X.heap[k]? = some o → (k < B ∨ o.isCells = true) → Y.heap[k]? = some o
theorem Tn.ck {B : Nat} {X Y : World} (h : Tn B X Y) (S : Nat → Prop) : CK S X Y := ⟨h.size, fun b cs T fz _ hb => h.block b _ hb (.inr rfl)⟩
theorem Tn.of_ext {X Y : World} (h : Ext X Y) (B : Nat) : Tn B X Y := ⟨h.os, h.tape, h.output, h.size, fun k o hk _ => (h.block k (Array.getElem?_eq_some_iff.1 hk).1).trans hk⟩
theorem Tn.trans {B : Nat} {X Y Z : World} (h : Tn B X Y) (k : Tn B Y Z) : Tn B X Z := ⟨k.os.trans h.os, k.tape.trans h.tape, k.output.trans h.output, Nat.le_trans h.size k.size, fun i o hi ho => k.block i o (h.block i o hi ho) ho⟩
theorem Tn.below {B B' : Nat} {X Y : World} (h : Tn B X Y) (hB : B' ≤ B) (hX : B' ≤ X.heap.size) : Below B' X Y :=
  ⟨h.os, h.tape, h.output, h.size, fun k hk => by
    have hlt : k < X.heap.size := by omega
    rw [h.block k X.heap[k] (by simp [hlt]) (.inl (by omega))]; simp [hlt]⟩
theorem Tn.ext {B : Nat} {w X Y : World} (h : Tn B X Y) (hx : Ext w X) (hB : w.heap.size ≤ B) : Ext w Y := hx.below (h.below hB hx.size)
theorem Tn.putObj {B l : Nat} {X : World} {o : Obj} (o' : Obj) (hl : X.heap[l]? = some o) (hB : B ≤ l) (ho : o.isCells = false) : Tn B X (X.putObj l o') :=
  ⟨rfl, rfl, rfl, by simp, fun k o2 hk hc => by
    by_cases e : k = l
    · subst e; rw [hl] at hk; cases hk
      rcases hc with h | h
      · omega
      · rw [ho] at h; cases h
    · exact (World.putObj_heap_other e).trans hk⟩
theorem BoxAt.tn {B b : Nat} {X Y : World} {cs : List Value} {T : TypeId} (h : BoxAt X b cs T) (k : Tn B X Y) : BoxAt Y b cs T := k.block b _ h (.inr rfl)
/-- What D names is as it was. -/
structure KD (D : Nat → Prop) (X Y : World) : Prop where
  os : Y.os = X.os
  tape : Y.tape = X.tape
  output : Y.output = X.output
  size : X.heap.size ≤ Y.heap.size
  block : ∀ k, D k → k < X.heap.size → Y.heap[k]? = X.heap[k]?
theorem KD.refl (D : Nat → Prop) (X : World) : KD D X X := ⟨rfl, rfl, rfl, Nat.le_refl _, fun _ _ _ => rfl⟩
theorem KD.trans {D : Nat → Prop} {X Y Z : World} (h : KD D X Y) (k : KD D Y Z) : KD D X Z := ⟨k.os.trans h.os, k.tape.trans h.tape, k.output.trans h.output, Nat.le_trans h.size k.size, fun i hi hl => (k.block i hi (Nat.lt_of_lt_of_le hl h.size)).trans (h.block i hi hl)⟩
theorem Below.kd {B : Nat} {D : Nat → Prop} {X Y : World} (h : Below B X Y) (hD : ∀ k, D k → k < X.heap.size → k < B) : KD D X Y := ⟨h.os, h.tape, h.output, h.size, fun k hk hl => h.block k (hD k hk hl)⟩
theorem Ext.kd {D : Nat → Prop} {X Y : World} (h : Ext X Y) : KD D X Y := Below.kd h fun _ _ h => h
theorem Wr.kd {D : Nat → Prop} {b : Nat} {X Y : World} (h : Wr b X Y) (hb : ¬ D b) : KD D X Y := ⟨h.os, h.tape, h.output, Nat.le_of_eq h.size.symm, fun k hk _ => h.block k (fun e => hb (e ▸ hk))⟩
theorem Tn.kd {B : Nat} {D : Nat → Prop} {X Y : World} (h : Tn B X Y) (hD : ∀ k, D k → k < B) : KD D X Y := ⟨h.os, h.tape, h.output, h.size, fun k hk hl => by
  rw [h.block k X.heap[k] (by simp [hl]) (.inl (hD k hk))]; simp [hl]⟩
theorem KD.ck {D : Nat → Prop} {X Y : World} (h : KD D X Y) : CK D X Y := ⟨h.size, fun b cs T fz hs hb => (h.block b hs (Array.getElem?_eq_some_iff.1 hb).1).trans hb⟩
theorem KD.below {B : Nat} {D : Nat → Prop} {X Y : World} (h : KD D X Y) (hB : ∀ k, k < B → D k) (hs : B ≤ X.heap.size) : Below B X Y := ⟨h.os, h.tape, h.output, h.size, fun k hk => h.block k (hB k hk) (by omega)⟩
theorem KD.mono {D D' : Nat → Prop} {X Y : World} (h : KD D X Y) (hD : ∀ k, D' k → D k) : KD D' X Y := ⟨h.os, h.tape, h.output, h.size, fun k hk => h.block k (hD k hk)⟩
theorem BoxAt.kd {D : Nat → Prop} {X Y : World} {b : Nat} {cs : List Value} {T : TypeId} (h : BoxAt X b cs T) (k : KD D X Y) (hb : D b) : BoxAt Y b cs T := (k.block b hb h.lt).trans h
/-- What a round may do: the loop's own records and what D names are as they were. -/
def Kf (B : Nat) (D : Nat → Prop) (X Y : World) : Prop := KeepsFrom B X Y ∧ KD D X Y
theorem Kf.refl (B : Nat) (D : Nat → Prop) (X : World) : Kf B D X X := ⟨KeepsFrom.refl _ _, KD.refl _ _⟩
theorem Kf.trans {B : Nat} {D : Nat → Prop} {X Y Z : World} (h : Kf B D X Y) (k : Kf B D Y Z) : Kf B D X Z := ⟨h.1.trans k.1, h.2.trans k.2⟩
theorem Kf.ext {B : Nat} {D : Nat → Prop} {X Y : World} (h : Ext X Y) : Kf B D X Y := ⟨⟨h.size, fun k o _ hk _ => (h.block k (Array.getElem?_eq_some_iff.1 hk).1).trans hk⟩, h.kd⟩
theorem Kf.wr {B b : Nat} {D : Nat → Prop} {X Y : World} {cs : List Value} {T : TypeId} (h : Wr b X Y) (hb : BoxAt X b cs T) (hn : ¬ D b) : Kf B D X Y :=
  ⟨⟨Nat.le_of_eq h.size.symm, fun k o _ hk ho => (h.block k (fun e => by subst e; unfold BoxAt at hb; rw [hb] at hk; cases hk; simp [Obj.isCells] at ho)).trans hk⟩, h.kd hn⟩
/-- A step that leaves all records and all that is below n as they were. -/
structure KB (n : Nat) (X Y : World) : Prop where
  below : Below n X Y
  recs : ∀ (k : Nat) (o : Obj), X.heap[k]? = some o → o.isCells = false → Y.heap[k]? = some o
theorem KB.refl (n : Nat) (X : World) : KB n X X := ⟨Below.refl _ _, fun _ _ h _ => h⟩
theorem KB.trans {n : Nat} {X Y Z : World} (h : KB n X Y) (k : KB n Y Z) : KB n X Z := ⟨Below.trans h.below k.below, fun i o hi ho => k.recs i o (h.recs i o hi ho) ho⟩
theorem KB.ext {n : Nat} {X Y : World} (h : Ext X Y) (hn : n ≤ X.heap.size) : KB n X Y := ⟨h.mono hn, fun k o hk _ => (h.block k (Array.getElem?_eq_some_iff.1 hk).1).trans hk⟩
theorem KB.wr {n b : Nat} {X Y : World} {cs : List Value} {T : TypeId} (h : Wr b X Y) (hb : BoxAt X b cs T) (hn : n ≤ b) : KB n X Y := ⟨h.below hn, fun k o hk ho => (h.block k (fun e => by subst e; unfold BoxAt at hb; rw [hb] at hk; cases hk; simp [Obj.isCells] at ho)).trans hk⟩
theorem KB.keeps {n : Nat} {X Y : World} (h : KB n X Y) (B : Nat) : KeepsFrom B X Y := ⟨h.below.size, fun k o _ hk ho => h.recs k o hk ho⟩
/-- The iterator calls yield M times, with these values, as long as each round goes on. -/
def Iter (P : Program) (gf : Nat) (lb : Array Value) (e1 e2 : Nat → Value) (D : Nat → Prop) (M : Nat) (w : World) : Prop :=
  ∀ (l : Nat) (J Jx : Nat → World → Prop) (X : World), Ext w X → (∀ i A B, J i A → Ext A B → J i B) → (∀ i A B, Jx i A → Ext A B → Jx i B) →
    (∀ i A, J i A → i < M → KD D w A → YieldAt Fence.wide 0 P l #[e1 i, e2 i] A fun e B =>
      (e = .returned (.bool true) ∧ J (i + 1) B ∧ KD D A B) ∨ (e = .returned (.bool false) ∧ Jx i B ∧ KD D A B)) → J 0 X →
    Calls P gf (#[.func (.yield l) #[] #[]] ++ lb) X fun e B => (∃ v, e = .returned v) ∧ (J M B ∨ ∃ i, i < M ∧ Jx i B)
def rndQ (B : Nat) (D : Nat → Prop) (I : Nat → World → Prop) (Ix : Code → Nat → World → Prop) (i : Nat) (X : World) : EQ
  | .normal, _, _, W => Kf B D X W ∧ I (i + 1) W
  | .ret, _, _, W => Kf B D X W ∧ Ix .ret i W
  | .exit id, _, _, W => Kf B D X W ∧ Ix (.exit id) i W
  | _, _, _, _ => False
def badQ : EQ := fun _ _ _ _ => False
theorem wpIn_depth {F : Fence} (hF : F.depth = none) {n m : Nat} {c : Code} {Q : Exit → Act → World → Prop} {a : Act} (h : c.wpIn F n P Q a W) : c.wpIn F m P Q a W :=
  fun b k cs hro hb _ => h b k cs hro hb (fun d hd => by rw [hF] at hd; cases hd)
theorem V.rf {g : Operand} {p1 p2 : Tmp} {assign body : Code} {ds : List Deferred} {Q : EQ} {gf : Nat} {lb : Array Value} (hg : ev E g = .func (.func gf) #[] lb) (eg : Ent P gf) {e1 e2 : Nat → Value} {D : Nat → Prop} {M : Nat} {w0 : World}
    (hseq : Iter P gf lb e1 e2 D M w0) (hb0 : Ext w0 W) (hD : ∀ k, D k → k < W.heap.size) (hp : (Nat.blt p1 N && Nat.blt p2 N) = true)
    (I : Nat → World → Prop) (Ix : Code → Nat → World → Prop)
    (hI : ∀ i X Y, I i X → Tn W.heap.size X Y → I i Y) (hIx : ∀ c i X Y, Ix c i X → Tn W.heap.size X Y → Ix c i Y) (h0 : I 0 W)
    (hround : ∀ l i X, I i X → i < M → KD D w0 X → W.heap.size ≤ X.heap.size → V (some l) P N [] assign (thenV (fun E' ds' Y => ds' = [] ∧ Kf W.heap.size D X Y ∧ ∀ Z, Tn W.heap.size Y Z → V (some l) P N [] body (rndQ W.heap.size D I Ix i Z) E' Z) badQ) (up (up E p1 (e1 i)) p2 (e2 i)) X)
    (hdone : ∀ D X, W.heap.size ≤ D → I M X → X.heap[D]? = some (.deferred (some [])) → W.heap.size ≤ X.heap.size → Q .normal E (mark D :: ds) X)
    (hstop : ∀ D c i X, W.heap.size ≤ D → i < M → Ix c i X → X.heap[D]? = some (.deferred (some [])) → W.heap.size ≤ X.heap.size → V none P N (mark D :: ds) c Q E X) :
    V none P N ds (.rangeFunc g #[p1, p2] assign body) Q E W := by
  intro a hrep hd
  simp only [Bool.and_eq_true] at hp
  refine wpIn_rangeFunc fun fn hfn => ?_
  obtain ⟨rec, hrec⟩ : ∃ rec : LoopState → Option Code → Loop, rec = fun st pe => { state := st, pending := pe, fn, tmps := a.tmps, params := #[p1, p2], assign, body, defers := W.heap.size } := ⟨_, rfl⟩
  obtain ⟨W1, hW1⟩ : ∃ W1, (W.alloc (.deferred (some []))).alloc (.loop (rec .ready none)) = W1 := ⟨_, rfl⟩
  have x1 : Ext W W1 := by rw [← hW1]; exact ((Ext.refl _).alloc _).alloc _
  have hL1 : W1.heap[W.heap.size + 1]? = some (.loop (rec .ready none)) := by
    rw [← hW1]; have := World.alloc_heap_new (W.alloc (.deferred (some []))) (.loop (rec .ready none)); rwa [World.size_alloc] at this
  have hK1 : W1.heap[W.heap.size]? = some (.deferred (some [])) := by
    rw [← hW1]; exact (Below.heap_alloc _ _ _ (by simp)).trans (World.alloc_heap_new W _)
  have keepL : ∀ {A B : World} {k : Nat} {o : Obj}, Ext A B → A.heap[k]? = some o → B.heap[k]? = some o := fun h hk => (h.block _ (Array.getElem?_eq_some_iff.1 hk).1).trans hk
  refine ⟨W.heap.size + 1, [mark W.heap.size], W1, { target := .fn (.func gf) lb, args := #[.func (.yield (W.heap.size + 1)) #[] #[]] }, W1, gf, #[.func (.yield (W.heap.size + 1)) #[] #[]] ++ lb, W1, ?_, ?_, fun _ _ => trivial, ?_, fun hx => by simp [fen, Fence.wide] at hx, ?_⟩
  · rw [← hW1, hrec]; exact run_enterLoop_outer _ _ _ _ _
  · rw [hrep.eval]
    simp only [resolve, hg]
    simp [go_sem]
    simp [ev]
  · simp [invoke, go_sem, eg _ _]
  refine callsIn_fen ((hseq (W.heap.size + 1)
    (fun i X => I i X ∧ W1.heap.size ≤ X.heap.size ∧ X.heap[W.heap.size + 1]? = some (.loop (rec .ready none)) ∧ X.heap[W.heap.size]? = some (.deferred (some [])))
    (fun i X => ∃ c, Ix c i X ∧ W1.heap.size ≤ X.heap.size ∧ X.heap[W.heap.size + 1]? = some (.loop (rec .done (some c))) ∧ X.heap[W.heap.size]? = some (.deferred (some [])))
    W1 (hb0.trans x1)
    (fun i A B h hx => ⟨hI i A B h.1 (Tn.of_ext hx _), Nat.le_trans h.2.1 hx.size, keepL hx h.2.2.1, keepL hx h.2.2.2⟩)
    (fun i A B h hx => by obtain ⟨c, h1, h2, h3, h4⟩ := h; exact ⟨c, hIx c i A B h1 (Tn.of_ext hx _), Nat.le_trans h2 hx.size, keepL hx h3, keepL hx h4⟩)
    ?_ ⟨hI _ _ _ h0 (Tn.of_ext x1 _), Nat.le_refl _, hL1, hK1⟩).mono ?_)
  · rintro i X ⟨hi, hsz, hl, hk⟩ hiM hkd
    have hWX : W.heap.size ≤ X.heap.size := Nat.le_trans x1.size hsz
    have hy := run_yield (P := P) (args := #[e1 i, e2 i]) hl (by rw [hrec]; rfl)
    rw [hrec] at hy
    refine ⟨fn, _, assign, body, hy, roundIn_of_wpIn hfn ?_⟩
    have hrep2 : Rep N { tmps := ((#[p1, p2] : Array Tmp).zip #[e1 i, e2 i]).foldl (fun tmps (t, a) => tmps.setIfInBounds t a) a.tmps, defers := [] } (up (up E p1 (e1 i)) p2 (e2 i)) := by
      have h1 := (hrep.put hp.1 (e1 i)).put hp.2 (e2 i)
      exact ⟨by have := h1.size; simpa [Act.put] using this, fun t => by have := h1.get t; simpa [Act.put] using this⟩
    refine wpIn_mono (hround (W.heap.size + 1) i X hi hiM hkd hWX _ hrep2 rfl) ?_
    rintro e a1 Y ⟨E', hr1, hq⟩
    cases e with
    | normal =>
      obtain ⟨hd1, hkf, hcont⟩ := hq
      have hlY := hkf.1.same _ _ (by omega) hl rfl
      have hkY := hkf.1.same _ _ (Nat.le_refl _) hk rfl
      have hltY : W.heap.size + 1 < Y.heap.size := (Array.getElem?_eq_some_iff.1 hlY).1
      refine ⟨_, run_beginRound hlY (by rw [hrec]), ?_⟩
      have tY := Tn.putObj (B := W.heap.size) (.loop { rec .ready none with state := .busy }) hlY (by omega) rfl
      have hl2 : (Y.putObj (W.heap.size + 1) (.loop { rec .ready none with state := .busy })).heap[W.heap.size + 1]? = some (.loop { rec .ready none with state := .busy }) := World.putObj_heap_same hltY
      have hk2 : (Y.putObj (W.heap.size + 1) (.loop { rec .ready none with state := .busy })).heap[W.heap.size]? = some (.deferred (some [])) := (World.putObj_heap_other (by omega)).trans hkY
      refine wpIn_mono (hcont _ tY a1 hr1 hd1) ?_
      have hbXY : KD D X (Y.putObj (W.heap.size + 1) (.loop { rec .ready none with state := .busy })) := hkf.2.trans (tY.kd hD)
      have fin : ∀ (jump : Option Code) (Z : World), Kf W.heap.size D (Y.putObj (W.heap.size + 1) (.loop { rec .ready none with state := .busy })) Z →
          (Instr.endRound (W.heap.size + 1) jump).run P Z = .ok (.bool jump.isNone) (Z.putObj (W.heap.size + 1) (.loop (rec (if jump.isNone then .ready else .done) jump))) ∧
          Tn W.heap.size Z (Z.putObj (W.heap.size + 1) (.loop (rec (if jump.isNone then .ready else .done) jump))) ∧ W1.heap.size ≤ (Z.putObj (W.heap.size + 1) (.loop (rec (if jump.isNone then .ready else .done) jump))).heap.size ∧
          (Z.putObj (W.heap.size + 1) (.loop (rec (if jump.isNone then .ready else .done) jump))).heap[W.heap.size + 1]? = some (.loop (rec (if jump.isNone then .ready else .done) jump)) ∧
          (Z.putObj (W.heap.size + 1) (.loop (rec (if jump.isNone then .ready else .done) jump))).heap[W.heap.size]? = some (.deferred (some [])) := fun jump Z hkZ => by
        have hl3 := hkZ.1.same _ _ (by omega) hl2 rfl
        have := run_endRound (P := P) jump hl3
        have hs1 := hkf.1.size
        have hs2 := hkZ.1.size
        simp only [World.putObj_size] at hs2
        rw [hrec] at this ⊢
        refine ⟨this, Tn.putObj _ hl3 (by omega) rfl, by simp; omega, World.putObj_heap_same (Array.getElem?_eq_some_iff.1 hl3).1, (World.putObj_heap_other (by omega)).trans (hkZ.1.same _ _ (Nat.le_refl _) hk2 rfl)⟩
      rintro e a3 Z ⟨E3, _, hp3⟩
      cases e with
      | normal =>
        obtain ⟨hkZ, hiZ⟩ := hp3
        obtain ⟨hr, t3, hs3, hl4, hk4⟩ := fin none Z hkZ
        exact ⟨_, _, hr, .inl ⟨rfl, ⟨hI _ _ _ hiZ t3, hs3, hl4, hk4⟩, hbXY.trans (hkZ.2.trans (t3.kd hD))⟩⟩
      | ret =>
        obtain ⟨hkZ, hiZ⟩ := hp3
        obtain ⟨hr, t3, hs3, hl4, hk4⟩ := fin (some .ret) Z hkZ
        exact ⟨_, _, hr, .inr ⟨rfl, ⟨.ret, hIx _ _ _ _ hiZ t3, hs3, hl4, hk4⟩, hbXY.trans (hkZ.2.trans (t3.kd hD))⟩⟩
      | exit id =>
        obtain ⟨hkZ, hiZ⟩ := hp3
        obtain ⟨hr, t3, hs3, hl4, hk4⟩ := fin (some (.exit id)) Z hkZ
        exact ⟨_, _, hr, .inr ⟨rfl, ⟨.exit id, hIx _ _ _ _ hiZ t3, hs3, hl4, hk4⟩, hbXY.trans (hkZ.2.trans (t3.kd hD))⟩⟩
      | goto t => exact hp3.elim
      | panic ch => exact hp3.elim
      | outgrown => exact hp3.elim
    | _ => exact hq.elim
  · rintro e X ⟨⟨v, rfl⟩, (⟨hi, hsz, hl, hk⟩ | ⟨i, hiM, c, hi, hsz, hl, hk⟩)⟩
    · have he := run_endLoop (P := P) hl (by rw [hrec]; simp)
      rw [hrec] at he
      have t := Tn.putObj (B := W.heap.size) (.loop { rec .ready none with state := .exhausted }) hl (by omega) rfl
      rw [hrec] at t
      refine ⟨none, _, he, E, ⟨hrep.size, hrep.get⟩, ?_⟩
      show Q .normal E (mark W.heap.size :: a.defers) _
      rw [hd]
      exact hdone _ _ (Nat.le_refl _) (hI _ _ _ hi t) ((World.putObj_heap_other (by omega)).trans hk) (by have := x1.size; simp; omega)
    · have he := run_endLoop (P := P) hl (by rw [hrec]; simp)
      rw [hrec] at he
      have t := Tn.putObj (B := W.heap.size) (.loop { rec .done (some c) with state := .exhausted }) hl (by omega) rfl
      rw [hrec] at t
      refine ⟨some c, _, he, ?_⟩
      refine wpIn_depth rfl (hstop _ c i _ (Nat.le_refl _) hiM (hIx _ _ _ _ hi t) ((World.putObj_heap_other (by omega)).trans hk) (by have := x1.size; simp; omega) { a with defers := [mark W.heap.size] ++ a.defers } ⟨hrep.size, hrep.get⟩ (by rw [← hd]; rfl))
end
end Go.Proofs.Ytknbjfefeeojlaa

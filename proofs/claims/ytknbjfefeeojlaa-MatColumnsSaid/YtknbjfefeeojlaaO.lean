/- The operations: what each does when it is run. -/
import Derived.Test.YtknbjfefeeojlaaV
import Derived.Laws.Cover3
namespace Go.Proofs.Ytknbjfefeeojlaa
open Go.RowKit
section
variable {P : Program} {ρ : Operand → Value} {W W' : World} {d : Option Tmp} {ty T T' e : TypeId} {pos : String} {af : Array Edge} {g : Option (Nat × Bool)} {x y : Operand} {v u : Value} {b o : Nat} {cs cs' : List Value} {ad : Addr} {ad' : Option Addr} {n' c' : Nat}

/-! ### Facts on types -/
def aggD : TypeDesc → Bool
  | .struct _ => true
  | .array _ _ => true
  | _ => false
def Sc (P : Program) (T : TypeId) : Prop := ∃ d, P.underlying T = some d ∧ aggD d = false
def Ag (P : Program) (T : TypeId) (n : Nat) : Prop := ∃ d i, P.underlying T = some d ∧ aggD d = true ∧ P.info? T = some i ∧ i.size = n
def S1 (P : Program) (T : TypeId) : Prop := ∃ i, P.info? T = some i ∧ i.size = 1
def Zr (P : Program) (T : TypeId) (z : Value) : Prop := ∃ i, P.info? T = some i ∧ i.zero = some z
def Zc (P : Program) (T : TypeId) (cs : List Value) : Prop := ∃ z, Zr P T z ∧ z.cells = cs.toArray
def Sl (P : Program) (T e : TypeId) : Prop := P.underlying T = some (.slice e)
def Sz (P : Program) (e : TypeId) (n : Nat) : Prop := ∃ i, P.info? e = some i ∧ i.size = n
def Fd (P : Program) (T : TypeId) (f off : Nat) : Prop := ∃ fs fd i, P.underlying T = some (.struct fs) ∧ fs[f]? = some fd ∧ fd.offset = off ∧ P.info? fd.type = some i ∧ i.size ≠ 0
theorem Sc.mk {dd : TypeDesc} (h : P.underlying T = some dd) (hd : aggD dd = false) : Sc P T := ⟨dd, h, hd⟩
theorem Sz.mk {n : Nat} (h : (P.info? e).map (·.size) = some n) : Sz P e n := by obtain ⟨i, h1, h2⟩ := Option.map_eq_some_iff.1 h; exact ⟨i, h1, h2⟩
theorem Ag.mk {dd : TypeDesc} {n : Nat} (h : P.underlying T = some dd) (hd : aggD dd = true) (hs : (P.info? T).map (·.size) = some n) : Ag P T n := by
  obtain ⟨i, h1, h2⟩ := Option.map_eq_some_iff.1 hs; exact ⟨dd, i, h, hd, h1, h2⟩
theorem Fd.mk {fs : Array Field} {fd : Field} {f off : Nat} {s : Nat} (h : P.underlying T = some (.struct fs)) (hf : fs[f]? = some fd) (ho : fd.offset = off) (hs : (P.info? fd.type).map (·.size) = some s) (h0 : s ≠ 0) : Fd P T f off := by
  obtain ⟨i, h1, h2⟩ := Option.map_eq_some_iff.1 hs; exact ⟨fs, fd, i, h, hf, ho, h1, by rw [h2]; exact h0⟩
theorem Zr.mk {z : Value} (h : (P.info? T).map (·.zero) = some (some z)) : Zr P T z := by obtain ⟨i, h1, h2⟩ := Option.map_eq_some_iff.1 h; exact ⟨i, h1, h2⟩
theorem addO (b o n : Nat) : (⟨b, o, none⟩ : Addr).add n = ⟨b, o + n, none⟩ := by unfold Addr.add; split <;> simp_all
theorem isAgg_sc (h : Sc P T) : (isAgg T).run P W = .ok false W := by
  obtain ⟨d, h1, h2⟩ := h
  unfold isAgg
  simp only [Sem.run_bind, run_underlying h1, Result.andThen_ok]
  cases d <;> simp_all [aggD]
theorem isAgg_ag {n : Nat} (h : Ag P T n) : (isAgg T).run P W = .ok true W := by
  obtain ⟨d, i, h1, h2, _⟩ := h
  unfold isAgg
  simp only [Sem.run_bind, run_underlying h1, Result.andThen_ok]
  cases d <;> simp_all [aggD]
theorem sizeOf_sz {n : Nat} (h : Sz P e n) : (sizeOf e).run P W = .ok n W := by
  obtain ⟨i, h1, rfl⟩ := h; unfold sizeOf typeInfo; simp [h1]
theorem Ag.sz {n : Nat} (h : Ag P T n) : Sz P T n := by obtain ⟨_, i, _, _, h1, h2⟩ := h; exact ⟨i, h1, h2⟩
theorem zero_zr {z : Value} (h : Zr P T z) : (zeroValue T).run P W = .ok z W := by
  obtain ⟨i, h1, h2⟩ := h; simp [zeroValue, typeInfo, h1, h2]

/-! ### Copies -/
theorem rmv (hx : ρ x = v) : (execOp ρ ⟨d, .move x, ty, pos, af, g⟩).run P W = .ok (.value v) W := by subst hx; rfl
theorem ras (hx : ρ x = v) : (execOp ρ ⟨d, .assign x, ty, pos, af, g⟩).run P W = .ok (.value v) W := by subst hx; rfl
theorem rpk {c : Operand} {t : Bool} (hc : ρ c = .bool t) (hv : (cond t (ρ x) (ρ y)) = v) : (execOp ρ ⟨d, .pick c x y, ty, pos, af, g⟩).run P W = .ok (.value v) W := by
  subst hv; unfold execOp; cases t <;> simp [hc, asBool]
theorem rext {vs : Array Value} {i : Nat} (hx : ρ x = .tuple vs) (hv : vs[i]? = some v) : (execOp ρ ⟨d, .extract x i, ty, pos, af, g⟩).run P W = .ok (.value v) W := by
  unfold execOp; simp [hx, Instr.extract, hv]

/-! ### New blocks -/
theorem ral (hz : Zr P T v) (hc : v.cells = cs.toArray) : (execOp ρ ⟨d, .alloc T, ty, pos, af, g⟩).run P W = .ok (.value (.pointer (some ⟨W.heap.size, 0, none⟩))) (W.alloc (.cells cs.toArray T)) := by
  unfold execOp
  simp only [Instr.alloc, Sem.run_bind, zero_zr hz, Result.andThen_ok]
  rw [← hc]; simp [newVar, newRow, go_sem]
theorem rbx (hx : ρ x = v) (hc : v.cells = cs.toArray) : (execOp ρ ⟨d, .box T x, ty, pos, af, g⟩).run P W = .ok (.value (.pointer (some ⟨W.heap.size, 0, none⟩))) (W.alloc (.cells cs.toArray T)) := by
  rw [← hc]; subst hx; unfold execOp; simp [Instr.box, newVar, newRow, go_sem]

/-! ### Loads and stores -/
theorem rld1 (hx : ρ x = .pointer (some ad)) (hT : Sc P T) (hc : W.cell? ad = some v) : (execOp ρ ⟨d, .load T x, ty, pos, af, g⟩).run P W = .ok (.value v) W := by
  unfold execOp
  simp [hx, Instr.loadAt, Instr.sureAddr, loadVar, isAgg_sc hT, run_load, hc]
theorem rldn {n : Nat} {l : List Value} (hx : ρ x = .pointer (some ad)) (hT : Ag P T n) (hn : l.length = n) (hc : ∀ j u, l[j]? = some u → W.cell? (ad.add j) = some u) : (execOp ρ ⟨d, .load T x, ty, pos, af, g⟩).run P W = .ok (.value (.agg l.toArray)) W := by
  subst hn
  unfold execOp
  simp only [Instr.loadAt, hx, Instr.sureAddr, Sem.run_bind, Sem.run_pure, Result.andThen_ok, loadVar, isAgg_ag hT, if_true, sizeOf_sz hT.sz, run_loadCells_list W ad l hc]
/-- Out of a block of the call's own. -/
theorem rldb (hx : ρ x = .pointer (some ⟨b, o, none⟩)) (hT : Sc P T) (hb : BoxAt W b cs T') (hc : cs[o]? = some v) : (execOp ρ ⟨d, .load T x, ty, pos, af, g⟩).run P W = .ok (.value v) W :=
  rld1 hx hT (hb.cell o hc)
theorem rldb2 {v0 v1 : Value} (hx : ρ x = .pointer (some ⟨b, o, none⟩)) (hT : Ag P T 2) (hb : BoxAt W b cs T') (h0 : cs[o]? = some v0) (h1 : cs[o + 1]? = some v1) : (execOp ρ ⟨d, .load T x, ty, pos, af, g⟩).run P W = .ok (.value (.agg #[v0, v1])) W :=
  rldn (l := [v0, v1]) hx hT rfl (by
    intro j u hj; rw [addO]
    match j, hj with
    | 0, hj => simp at hj; subst hj; exact hb.cell o h0
    | 1, hj => simp at hj; subst hj; exact hb.cell (o + 1) h1)
theorem rldb4 {v0 v1 v2 v3 : Value} (hx : ρ x = .pointer (some ⟨b, o, none⟩)) (hT : Ag P T 4) (hb : BoxAt W b cs T') (h0 : cs[o]? = some v0) (h1 : cs[o + 1]? = some v1) (h2 : cs[o + 2]? = some v2) (h3 : cs[o + 3]? = some v3) : (execOp ρ ⟨d, .load T x, ty, pos, af, g⟩).run P W = .ok (.value (.agg #[v0, v1, v2, v3])) W :=
  rldn (l := [v0, v1, v2, v3]) hx hT rfl (by
    intro j u hj; rw [addO]
    match j, hj with
    | 0, hj => simp at hj; subst hj; exact hb.cell o h0
    | 1, hj => simp at hj; subst hj; exact hb.cell (o + 1) h1
    | 2, hj => simp at hj; subst hj; exact hb.cell (o + 2) h2
    | 3, hj => simp at hj; subst hj; exact hb.cell (o + 3) h3)
theorem rstn {vs : List Value} (hx : ρ x = .pointer (some ⟨b, o, none⟩)) (hy : ρ y = v) (hT : Sz P T vs.length) (hv : v.cells = vs.toArray) (h1 : ∀ u ∈ vs, u.oneCell' = true) (hb : BoxAt W b cs T') (hl : o + vs.length ≤ cs.length) :
    (execOp ρ ⟨d, .store T x y, ty, pos, af, g⟩).run P W = .ok .skip (W.setRow b (cs.take o ++ vs ++ cs.drop (o + vs.length)).toArray) := by
  unfold execOp
  have hst := run_storeCells_at (P := P) b o T' vs 0 cs.toArray W hb (by simpa using hl) h1
  simp only [Nat.add_zero] at hst
  simp only [Instr.storeAt, hx, hy, Instr.sureAddr, Sem.run_bind, Sem.run_pure, Result.andThen_ok, storeVar, sizeOf_sz hT, hv]
  simp [hst]

/-! ### Structs -/
def places (P : Program) (T : TypeId) (pl : List (Nat × Nat)) (zs : List Value) : Prop := ∃ fs, P.underlying T = some (.struct fs) ∧ (∀ W, (fs.mapM (m := Sem) fun f => do pure (f.offset, ← sizeOf f.type)).run P W = .ok pl.toArray W) ∧ ∃ z, Zr P T z ∧ z.cells = zs.toArray
def offs (P : Program) (fs : Array Field) : List (Option (Nat × Nat)) := fs.toList.map fun f => (P.info? f.type).map fun i => (f.offset, i.size)
theorem mapM_offs (P : Program) (W : World) : ∀ (fs : List Field) (pl : List (Nat × Nat)), (fs.map fun f => (P.info? f.type).map fun i => (f.offset, i.size)) = pl.map some → (fs.mapM (m := Sem) fun f => do pure (f.offset, ← sizeOf f.type)).run P W = .ok pl W
  | [], [], _ => by simp
  | f :: fs, p :: pl, h => by
    simp only [List.map_cons, List.cons.injEq] at h
    obtain ⟨i, h1, h2⟩ := Option.map_eq_some_iff.1 h.1
    have hs : (sizeOf f.type).run P W = .ok i.size W := sizeOf_sz ⟨i, h1, rfl⟩
    have ih := mapM_offs P W fs pl h.2
    simp only [List.mapM_cons, Sem.run_bind, hs, Result.andThen_ok, Sem.run_pure, ih, h2]
  | [], _ :: _, h => by simp at h
  | _ :: _, [], h => by simp at h
theorem places.mk {fs : Array Field} {pl : List (Nat × Nat)} {zs : List Value} {z : Value} (h : P.underlying T = some (.struct fs)) (ho : offs P fs = pl.map some) (hz : Zr P T z) (hc : z.cells = zs.toArray) : places P T pl zs := by
  refine ⟨fs, h, fun W => ?_, z, hz, hc⟩
  rw [Array.mapM_eq_mapM_toList, ← bind_pure_comp]
  simp only [Sem.run_bind, mapM_offs P W fs.toList pl ho, Result.andThen_ok, Sem.run_pure]
theorem rbd {pl : List (Nat × Nat)} {zs : List Value} {parts : Array (Nat × Operand)} {ps : List (Nat × Value)} (hT : places P T pl zs) (hp' : (parts.toList.map fun p => (p.1, ρ p.2)) = ps) (hf : Instr.fill (fun i : Nat => pl[i]?) zs.toArray ps = some cs.toArray) :
    (execOp ρ ⟨d, .build T parts, ty, pos, af, g⟩).run P W = .ok (.value (.agg cs.toArray)) W := by
  obtain ⟨fs, h1, h2, z, h3, h4⟩ := hT
  have hp : (parts.map fun (i, x) => (i, ρ x)).toList = ps := by rw [← hp']; simp
  unfold execOp
  simp only [Instr.build, Sem.run_bind, zero_zr h3, Result.andThen_ok, run_underlying h1, h2, h4, hp]
  have : (fun x : Nat => pl.toArray[x]?) = fun i : Nat => pl[i]? := by funext i; simp
  simp only [this, hf, Sem.run_pure, Result.andThen_ok]
theorem rfa {f off : Nat} (hx : ρ x = .pointer (some ⟨b, o, none⟩)) (hF : Fd P T f off) : (execOp ρ ⟨d, .fieldAddr T x f, ty, pos, af, g⟩).run P W = .ok (.value (.pointer (some ⟨b, o + off, none⟩))) W := by
  obtain ⟨fs, fd, i, h1, h2, rfl, h4, h5⟩ := hF
  unfold execOp
  simp only [Instr.fieldAt, hx, Sem.run_bind, run_underlying h1, Result.andThen_ok, h2, Instr.sureAddr, Sem.run_pure, fieldPlace]
  have hs : (sizeOf fd.type).run P W = .ok i.size W := sizeOf_sz ⟨i, h4, rfl⟩
  simp [hs, h5, addO]
theorem rfl1 {f off : Nat} {l : List Value} (hx : ρ x = .agg l.toArray) (hF : Fd P T f off) (hS : ∃ fs fd, P.underlying T = some (.struct fs) ∧ fs[f]? = some fd ∧ Sc P fd.type) (hv : l[off]? = some v) : (execOp ρ ⟨d, .field T x f, ty, pos, af, g⟩).run P W = .ok (.value v) W := by
  obtain ⟨fs, fd, i, h1, h2, rfl, h4, h5⟩ := hF
  obtain ⟨fs', fd', h6, h7, h8⟩ := hS
  rw [h1] at h6; cases h6
  rw [h2] at h7; cases h7
  unfold execOp
  simp only [Instr.field, hx, Sem.run_bind, run_underlying h1, Result.andThen_ok, h2, asAgg, Sem.run_pure, part, isAgg_sc h8]
  simp [hv]

/-! ### Numbers -/
theorem rbin {op : BinOp} {t1 t2 : TypeId} {k : IntKind} {m n z : Int} (ho : ∀ W, (binOp op t1 (.int k m) (.int k n)).run P W = .ok (.int k z) W) (hx : ρ x = .int k m) (hy : ρ y = .int k n) :
    (execOp ρ ⟨d, .binOp op t1 x y t2, ty, pos, af, g⟩).run P W = .ok (.value (.int k z)) W := by
  have hg : ∀ W, (eqGuard op t1 x y (.int k m) (.int k n)).run P W = .ok () W := fun W => by unfold eqGuard; cases op <;> simp
  unfold execOp
  simp only [hx, hy, Sem.run_bind, hg, Result.andThen_ok, ho, Sem.run_pure]
theorem bAdd {t : TypeId} {k : IntKind} {m n z : Int} (hz : k.wrap (m + n) = z) : ∀ W, (binOp .add t (.int k m) (.int k n)).run P W = .ok (.int k z) W := fun W => by subst hz; simp [binOp, Op.intArith]
theorem bSub {t : TypeId} {k : IntKind} {m n z : Int} (hz : k.wrap (m - n) = z) : ∀ W, (binOp .sub t (.int k m) (.int k n)).run P W = .ok (.int k z) W := fun W => by subst hz; simp [binOp, Op.intArith]
theorem bMul {t : TypeId} {k : IntKind} {m n z : Int} (hz : k.wrap (m * n) = z) : ∀ W, (binOp .mul t (.int k m) (.int k n)).run P W = .ok (.int k z) W := fun W => by subst hz; simp [binOp, Op.intArith]
theorem bQuo {t : TypeId} {k : IntKind} {m n z : Int} (hn : n ≠ 0) (hz : k.wrap (m.tdiv n) = z) : ∀ W, (binOp .quo t (.int k m) (.int k n)).run P W = .ok (.int k z) W := fun W => by subst hz; simp [binOp, Op.intDiv, hn]
theorem bRem {t : TypeId} {k : IntKind} {m n z : Int} (hn : n ≠ 0) (hz : m.tmod n = z) : ∀ W, (binOp .rem t (.int k m) (.int k n)).run P W = .ok (.int k z) W := fun W => by subst hz; simp [binOp, Op.intDiv, hn]
/-- Shifts: the count is of another kind. -/
theorem rshl {t1 t2 : TypeId} {k k2 : IntKind} {m z : Int} {n : Nat} (hx : ρ x = .int k m) (hy : ρ y = .int k2 (n : Int)) (hn : n ≤ k.bits) (hz : k.wrap (m * 2 ^ n) = z) :
    (execOp ρ ⟨d, .binOp .shl t1 x y t2, ty, pos, af, g⟩).run P W = .ok (.value (.int k z)) W := by
  have hg : ∀ W, (eqGuard .shl t1 x y (.int k m) (.int k2 (n : Int))).run P W = .ok () W := fun W => by unfold eqGuard; simp
  unfold execOp
  simp only [hx, hy, Sem.run_bind, hg, Result.andThen_ok]
  have h0 : ¬ ((n : Int) < 0) := by omega
  have h1 : min n k.bits = n := Nat.min_eq_left hn
  subst hz
  simp [binOp, Op.shift, h0, h1]
theorem rshr {t1 t2 : TypeId} {k k2 : IntKind} {m z : Int} {n : Nat} (hx : ρ x = .int k m) (hy : ρ y = .int k2 (n : Int)) (hn : n ≤ k.bits) (hz : m.fdiv (2 ^ n) = z) :
    (execOp ρ ⟨d, .binOp .shr t1 x y t2, ty, pos, af, g⟩).run P W = .ok (.value (.int k z)) W := by
  have hg : ∀ W, (eqGuard .shr t1 x y (.int k m) (.int k2 (n : Int))).run P W = .ok () W := fun W => by unfold eqGuard; simp
  unfold execOp
  simp only [hx, hy, Sem.run_bind, hg, Result.andThen_ok]
  have h0 : ¬ ((n : Int) < 0) := by omega
  have h1 : min n k.bits = n := Nat.min_eq_left hn
  subst hz
  simp [binOp, Op.shift, h0, h1]
theorem rcmp {op : BinOp} {t1 t2 : TypeId} {k : IntKind} {m n : Int} {t : Bool} (ho : ∀ W, (Op.intCmp op m n).run P W = .ok (.bool t) W) (hop : (match op with | .eql | .neq | .lss | .leq | .gtr | .geq => true | _ => false) = true) (hx : ρ x = .int k m) (hy : ρ y = .int k n) :
    (execOp ρ ⟨d, .binOp op t1 x y t2, ty, pos, af, g⟩).run P W = .ok (.value (.bool t)) W := by
  have hg : ∀ W, (eqGuard op t1 x y (.int k m) (.int k n)).run P W = .ok () W := fun W => by unfold eqGuard; cases op <;> simp
  unfold execOp
  simp only [hx, hy, Sem.run_bind, hg, Result.andThen_ok]
  cases op <;> simp_all [binOp]
theorem cLt {m n : Int} {t : Bool} (h : decide (m < n) = t) : ∀ W, (Op.intCmp .lss m n).run P W = .ok (.bool t) W := fun W => by subst h; rfl
theorem cLe {m n : Int} {t : Bool} (h : decide (m ≤ n) = t) : ∀ W, (Op.intCmp .leq m n).run P W = .ok (.bool t) W := fun W => by subst h; rfl
theorem cGt {m n : Int} {t : Bool} (h : decide (n < m) = t) : ∀ W, (Op.intCmp .gtr m n).run P W = .ok (.bool t) W := fun W => by subst h; rfl
theorem cGe {m n : Int} {t : Bool} (h : decide (n ≤ m) = t) : ∀ W, (Op.intCmp .geq m n).run P W = .ok (.bool t) W := fun W => by subst h; rfl
theorem cEq {m n : Int} {t : Bool} (h : decide (m = n) = t) : ∀ W, (Op.intCmp .eql m n).run P W = .ok (.bool t) W := fun W => by
  subst h; simp only [Op.intCmp, Sem.run_pure]; rfl
theorem cNe {m n : Int} {t : Bool} (h : decide (m ≠ n) = t) : ∀ W, (Op.intCmp .neq m n).run P W = .ok (.bool t) W := fun W => by
  subst h; simp only [Op.intCmp, Sem.run_pure]; congr 3; exact Bool.eq_iff_iff.2 (by simp)
theorem rbeq {t1 t2 : TypeId} {s t q : Bool} (hB : P.underlying t1 = some .bool) (hx : ρ x = .bool s) (hy : ρ y = .bool t) (hq : (s == t) = q) : (execOp ρ ⟨d, .binOp .eql t1 x y t2, ty, pos, af, g⟩).run P W = .ok (.value (.bool q)) W := by
  subst hq; unfold execOp
  simp [hx, hy, eqGuard, run_eql_bool W t1 s t hB]
theorem rbne {t1 t2 : TypeId} {s t q : Bool} (hB : P.underlying t1 = some .bool) (hx : ρ x = .bool s) (hy : ρ y = .bool t) (hq : (!(s == t)) = q) : (execOp ρ ⟨d, .binOp .neq t1 x y t2, ty, pos, af, g⟩).run P W = .ok (.value (.bool q)) W := by
  subst hq; unfold execOp
  simp [hx, hy, eqGuard, run_neq_bool W t1 s t hB]
/-- A slice against nil. -/
theorem rsnil {t1 t2 : TypeId} {a : Option Addr} {n c : Nat} (hB : Sl P t1 e) (hx : ρ x = .slice a n c) (hy : ρ y = .slice none 0 0) : (execOp ρ ⟨d, .binOp .eql t1 x y t2, ty, pos, af, g⟩).run P W = .ok (.value (.bool a.isNone)) W := by
  unfold execOp
  have h : (binOp .eql t1 (.slice a n c) (.slice none 0 0)).run P W = .ok (.bool a.isNone) W := by
    simp only [binOp, Sem.run_bind, run_equal_slice_nil W t1 e a n c hB, Result.andThen_ok, Sem.run_pure]
  simp [hx, hy, eqGuard, h]
theorem rnot {t1 : TypeId} {s q : Bool} (hx : ρ x = .bool s) (hq : (!s) = q) : (execOp ρ ⟨d, .unOp .not t1 x, ty, pos, af, g⟩).run P W = .ok (.value (.bool q)) W := by
  subst hq; unfold execOp; simp [hx, Op.unary]
theorem rneg {t1 : TypeId} {k : IntKind} {m z : Int} (hx : ρ x = .int k m) (hz : k.wrap (0 - m) = z) : (execOp ρ ⟨d, .unOp .neg t1 x, ty, pos, af, g⟩).run P W = .ok (.value (.int k z)) W := by
  subst hz; unfold execOp; simp [hx, Op.unary, Op.intArith]
theorem rcv {t1 t2 : TypeId} {k k' : IntKind} {m z : Int} {u1 : TypeDesc} (h1 : P.underlying t1 = some u1) (h2 : P.underlying t2 = some (.int k')) (hx : ρ x = .int k m) (hz : k'.wrap m = z) : (execOp ρ ⟨d, .convert t1 t2 x, ty, pos, af, g⟩).run P W = .ok (.value (.int k' z)) W := by
  subst hz; unfold execOp
  simp only [hx, convert, Sem.run_bind, run_underlying h1, run_underlying h2, Result.andThen_ok]
  cases u1 <;> simp [Conv.intToInt]

/-! ### Functions -/
theorem rmk0 {fn : Fn} : (execOp ρ ⟨d, .makeFunc fn #[] #[], ty, pos, af, g⟩).run P W = .ok (.value (.func fn #[] #[])) W := by unfold execOp; simp [Instr.makeFunc]
theorem rmk1 {fn : Fn} (hx : ρ x = v) : (execOp ρ ⟨d, .makeFunc fn #[] #[x], ty, pos, af, g⟩).run P W = .ok (.value (.func fn #[] #[v])) W := by unfold execOp; simp [Instr.makeFunc, hx]
theorem rmk2 {fn : Fn} (hx : ρ x = v) (hy : ρ y = u) : (execOp ρ ⟨d, .makeFunc fn #[] #[x, y], ty, pos, af, g⟩).run P W = .ok (.value (.func fn #[] #[v, u])) W := by unfold execOp; simp [Instr.makeFunc, hx, hy]
theorem rmk3 {fn : Fn} {z : Operand} {u3 : Value} (hx : ρ x = v) (hy : ρ y = u) (hz : ρ z = u3) : (execOp ρ ⟨d, .makeFunc fn #[] #[x, y, z], ty, pos, af, g⟩).run P W = .ok (.value (.func fn #[] #[v, u, u3])) W := by unfold execOp; simp [Instr.makeFunc, hx, hy, hz]

/-! ### Slices -/
theorem rlen {T1 : TypeId} {a : Option Addr} {n c : Nat} (hS : Sl P T1 e) (hx : ρ x = .slice a n c) : (execOp ρ ⟨d, .call ⟨.builtin .len, #[x], #[T1]⟩, ty, pos, af, g⟩).run P W = .ok (.value (.int .i64 (n : Int))) W := by
  unfold execOp
  simp [resolve, invoke, builtin, Builtin.len_, hx, run_underlying hS, goInt]
theorem rmax {T1 T2 : TypeId} {k : IntKind} {m n z : Int} (hx : ρ x = .int k m) (hy : ρ y = .int k n) (hz : max m n = z) : (execOp ρ ⟨d, .call ⟨.builtin .max, #[x, y], #[T1, T2]⟩, ty, pos, af, g⟩).run P W = .ok (.value (.int k z)) W := by
  subst hz; unfold execOp
  simp [resolve, invoke, builtin, Builtin.max_, Builtin.max2, hx, hy]
  split <;> omega
theorem rmin {T1 T2 : TypeId} {k : IntKind} {m n z : Int} (hx : ρ x = .int k m) (hy : ρ y = .int k n) (hz : min m n = z) : (execOp ρ ⟨d, .call ⟨.builtin .min, #[x, y], #[T1, T2]⟩, ty, pos, af, g⟩).run P W = .ok (.value (.int k z)) W := by
  subst hz; unfold execOp
  simp [resolve, invoke, builtin, Builtin.min_, Builtin.min2, hx, hy]
  split <;> omega
def adr (a : Option Addr) (i : Int) (s : Nat) : Addr := match a with | some p => p.add (i.toNat * s) | none => ⟨0, 0, none⟩
theorem rix {a : Option Addr} {n c s : Nat} {k : IntKind} {i : Int} (hS : Sl P T e) (hs : Sz P e s) (hx : ρ x = .slice a n c) (hy : ρ y = .int k i) (h0 : 0 ≤ i) (h1 : i < n) (ha : a.isSome = true) :
    (execOp ρ ⟨d, .indexAddr T x y, ty, pos, af, g⟩).run P W = .ok (.value (.pointer (some (adr a i s)))) W := by
  obtain ⟨p, rfl⟩ := Option.isSome_iff_exists.1 ha
  unfold execOp
  simp [Instr.indexAt, hx, hy, asIntOf, run_underlying hS, h0, h1, sizeOf_sz hs, adr]
/-- The address of an element of an array in a block. -/
theorem rixa {n s : Nat} {k : IntKind} {i : Nat} (hS : P.underlying T = some (.array n e)) (hs : Sz P e s) (hx : ρ x = .pointer (some ⟨b, o, none⟩)) (hy : ρ y = .int k (i : Int)) (h1 : i < n) :
    (execOp ρ ⟨d, .indexAddr T x y, ty, pos, af, g⟩).run P W = .ok (.value (.pointer (some ⟨b, o + i * s, none⟩))) W := by
  unfold execOp
  have : (0 : Int) ≤ (i : Int) ∧ (i : Int) < (n : Int) := ⟨by omega, by omega⟩
  simp [Instr.indexAt, Instr.sureAddr, hx, hy, asIntOf, run_underlying hS, this, sizeOf_sz hs, addO]
  intro hh; omega
/-- x[l:h] -/
theorem rslg {a : Option Addr} {n c s : Nat} {low high : Option Operand} {l h : Nat} (hS : Sl P T e) (hs : Sz P e s) (hx : ρ x = .slice a n c) (hb : (Instr.sliceBounds true n c (low.map ρ) (high.map ρ) none).run P W = .ok (l, h, c) W) (hm : (if c = l then a else a.map (·.add (l * s))) = ad') (hn : h - l = n') (hc : c - l = c') :
    (execOp ρ ⟨d, .slice T x low high none, ty, pos, af, g⟩).run P W = .ok (.value (.slice ad' n' c')) W := by
  subst hm hn hc; unfold execOp
  simp only [Instr.sliceAt, hx, Sem.run_bind, run_underlying hS, Result.andThen_ok, Option.map_none, Instr.slice, hb, sizeOf_sz hs, Sem.run_pure]
theorem sb_h {n c m : Nat} {k : IntKind} (h1 : m ≤ c) : (Instr.sliceBounds true n c none (some (.int k (m : Int))) none).run P W = .ok (0, m, c) W := by
  have : (0 : Int) ≤ (m : Int) ∧ (m : Int) ≤ (c : Int) := ⟨by omega, by omega⟩
  simp [Instr.sliceBounds, Instr.sliceBound, asIntOf, this]
  intro hh; omega
theorem sb_l {n c m : Nat} {k : IntKind} (h1 : m ≤ n) : (Instr.sliceBounds true n c (some (.int k (m : Int))) none none).run P W = .ok (m, n, c) W := by
  have : (0 : Int) ≤ (m : Int) ∧ (m : Int) ≤ (n : Int) := ⟨by omega, by omega⟩
  simp [Instr.sliceBounds, Instr.sliceBound, asIntOf, this]
  intro hh; omega
theorem sb_lh {n c l m : Nat} {k k' : IntKind} (h0 : l ≤ m) (h1 : m ≤ c) : (Instr.sliceBounds true n c (some (.int k (l : Int))) (some (.int k' (m : Int))) none).run P W = .ok (l, m, c) W := by
  have : (0 : Int) ≤ (m : Int) ∧ (m : Int) ≤ (c : Int) := ⟨by omega, by omega⟩
  have : (0 : Int) ≤ (l : Int) ∧ (l : Int) ≤ (m : Int) := ⟨by omega, by omega⟩
  have h2 : ¬ c < m := by omega
  have h3 : ¬ m < l := by omega
  simp [Instr.sliceBounds, Instr.sliceBound, asIntOf, h0, h1]
end
end Go.Proofs.Ytknbjfefeeojlaa

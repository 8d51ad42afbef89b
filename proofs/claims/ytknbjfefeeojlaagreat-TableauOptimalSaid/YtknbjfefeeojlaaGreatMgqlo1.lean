/- The words of these proofs: which cells a slice, an integer, a rational, a vector, a matrix is read from, and what keeps such a reading; a region that draws its order, with the loads taken first. -/
import Derived.Test.YtknbjfefeeojlaaGreatProg
import Derived.WalkKit
import Derived.WalkSpells
import Derived.Deep.RegionHeld3
import Derived.Deep.LoopGhost
import Derived.Lib.Hide
import Derived.RangeFuncNested
import Derived.RangeFuncBound
import Derived.RangeFuncCalls
import Derived.RangeFuncLeaves
import Derived.Shelf.Abstract
import Derived.Shelf.RegionOpen
import Derived.OwnWalkIn
import Derived.TacticsInMore
import Derived.LoopNIn
import Derived.LoopIn
import Derived.Maps.AppendAt
import Derived.OrdersIn
import Derived.RangeFuncWrites
import Derived.Laws.Cover3
import Derived.Laws.MakeOwn
import Derived.Deep.Upon
namespace Go.Proofs.YtknbjfefeeojlaaGreat
open Go.RowKit

/-! ### Worlds -/
abbrev Ext (W W' : World) : Prop := Below W.heap.size W W'
theorem Ext.refl (W : World) : Ext W W := Below.refl _ _
theorem Ext.trans {a b c : World} (h : Ext a b) (k : Ext b c) : Ext a c := Below.trans h (k.mono h.size)
theorem Ext.drew {a b : World} (h : Ext a b) : Ext a b.drew := Below.drew h
theorem Ext.alloc {a b : World} (h : Ext a b) (o : Obj) : Ext a (b.alloc o) := Below.alloc h h.size o
theorem Ext.sz {a b : World} (h : Ext a b) : a.heap.size ≤ b.heap.size := h.size
theorem Ext.below {a b c : World} (h : Ext a b) (k : Below a.heap.size b c) : Ext a c := Below.trans h k

/-- Every block of cells in S is as it was. -/
def CK (S : Nat → Prop) (W W' : World) : Prop := W.heap.size ≤ W'.heap.size ∧ ∀ b cs T fz, S b → W.heap[b]? = some (.cells cs T fz) → W'.heap[b]? = some (.cells cs T fz)
theorem CK.refl (S : Nat → Prop) (W : World) : CK S W W := ⟨Nat.le_refl _, fun _ _ _ _ _ h => h⟩
theorem CK.trans {S : Nat → Prop} {a b c : World} (h : CK S a b) (k : CK S b c) : CK S a c := ⟨Nat.le_trans h.1 k.1, fun x cs T fz hs hx => k.2 x cs T fz hs (h.2 x cs T fz hs hx)⟩
theorem CK.sub {S S' : Nat → Prop} {a b : World} (h : CK S a b) (hs : ∀ x, S' x → S x) : CK S' a b := ⟨h.1, fun x cs T fz hx => h.2 x cs T fz (hs x hx)⟩
theorem Ext.ck {a b : World} (h : Ext a b) (S : Nat → Prop) : CK S a b :=
  ⟨h.size, fun x _ _ _ _ hx => (h.block x (Array.getElem?_eq_some_iff.1 hx).1).trans hx⟩
theorem CK.drew {S : Nat → Prop} {a b : World} (h : CK S a b) : CK S a b.drew := h
theorem CK.alloc {S : Nat → Prop} {a b : World} (h : CK S a b) (o : Obj) : CK S a (b.alloc o) := h.trans (((Ext.refl b).alloc o).ck S)
theorem CK.grown {S : Nat → Prop} {a b : World} {row : Option Nat} (hg : a.grownBy b row) (hr : ∀ r, row = some r → (∃ o : Obj, a.heap[r]? = some o ∧ o.isCells = false) ∨ ¬ S r) : CK S a b :=
  ⟨hg.size, fun x cs T fz hs hx => by
    refine (hg.block x (Array.getElem?_eq_some_iff.1 hx).1 ?_).trans hx
    intro e
    rcases hr x e.symm with ⟨o, ho, hc⟩ | h
    · rw [hx] at ho; cases ho; simp [Obj.isCells] at hc
    · exact h hs⟩
theorem CK.size {S : Nat → Prop} {a b : World} (h : CK S a b) : a.heap.size ≤ b.heap.size := h.1
/-- New blocks are in S. -/
def Up (S : Nat → Prop) (W : World) : Prop := ∀ b, W.heap.size ≤ b → S b
theorem Up.mono {S : Nat → Prop} {a b : World} (h : Up S a) (hs : a.heap.size ≤ b.heap.size) : Up S b := fun x hx => h x (Nat.le_trans hs hx)

/-! ### A block of the call's own -/
def BoxAt (W : World) (b : Nat) (cs : List Value) (T : TypeId) : Prop := W.heap[b]? = some (.cells cs.toArray T (0,0))
/-- Block b alone may have been written. -/
structure Wr (b : Nat) (W W' : World) : Prop where
  os : W'.os = W.os
  tape : W'.tape = W.tape
  output : W'.output = W.output
  size : W'.heap.size = W.heap.size
  block : ∀ k, k ≠ b → W'.heap[k]? = W.heap[k]?
section
variable {W W' : World} {b : Nat} {cs : List Value} {T : TypeId}
theorem Wr.below {B : Nat} (h : Wr b W W') (hb : B ≤ b) : Below B W W' := ⟨h.os, h.tape, h.output, Nat.le_of_eq h.size.symm, fun k hk => h.block k (by omega)⟩
theorem Wr.ck {S : Nat → Prop} (h : Wr b W W') (hb : ¬ S b) : CK S W W' := ⟨Nat.le_of_eq h.size.symm, fun x _ _ _ hs hx => (h.block x (fun e => hb (e ▸ hs))).trans hx⟩
theorem BoxAt.lt (h : BoxAt W b cs T) : b < W.heap.size := (Array.getElem?_eq_some_iff.1 h).1
theorem BoxAt.ck {S : Nat → Prop} (h : BoxAt W b cs T) (hx : CK S W W') (hs : S b) : BoxAt W' b cs T := hx.2 b cs.toArray T (0,0) hs h
theorem BoxAt.ext (h : BoxAt W b cs T) (hx : Ext W W') : BoxAt W' b cs T := (hx.block b h.lt).trans h
theorem BoxAt.wr {b' : Nat} (h : BoxAt W b cs T) (hx : Wr b' W W') (hne : b ≠ b') : BoxAt W' b cs T := (hx.block b hne).trans h
theorem BoxAt.cell (h : BoxAt W b cs T) (i : Nat) {v : Value} (hv : cs[i]? = some v) : W.cell? ⟨b, i, none⟩ = some v := by
  unfold BoxAt at h
  simp [World.cell?, h, hv]
theorem BoxAt.free (h : BoxAt W b cs T) (i : Nat) : W.frozen? ⟨b, i, none⟩ = false := by
  unfold BoxAt at h
  simp [World.frozen?, h]
theorem BoxAt.new (W : World) (cs : List Value) (T : TypeId) : BoxAt (W.alloc (.cells cs.toArray T)) W.heap.size cs T := heap_alloc_new W _
theorem BoxAt.setRow (h : BoxAt W b cs T) (cs' : List Value) : BoxAt (W.setRow b cs'.toArray) b cs' T ∧ Wr b W (W.setRow b cs'.toArray) :=
  ⟨setRow_heap W b _ _ T (0,0) h, rfl, rfl, rfl, by simp [World.setRow], fun k hk => by simp [World.setRow, Array.getElem?_modify, Ne.symm hk]⟩
end

/-! ### Slices of whole numbers -/
def wd (xs : List Int) (i : Int) : Int := xs.getD i.toNat 0
def kb (k : IntKind) (x : Int) : Prop := match k with
  | .u32 => 0 ≤ x ∧ x ≤ 4294967295
  | _ => -9223372036854775808 ≤ x ∧ x ≤ 9223372036854775807
structure RN (k : IntKind) (S : Nat → Prop) (W : World) (a : Option Addr) (n c : Nat) (xs : List Int) : Prop where
  len : xs.length = n
  cap : n ≤ c
  max : c ≤ 9223372036854775807
  wf : ∀ x ∈ xs, kb k x
  at_ : 0 < n → ∃ b off cs T fz, a = some ⟨b, off, none⟩ ∧ S b ∧ W.heap[b]? = some (.cells cs T fz) ∧ ∀ j, j < n → cs[off + j]? = some (.int k (wd xs j))
section
variable {k : IntKind} {S : Nat → Prop} {W W' : World} {a : Option Addr} {n c : Nat} {xs : List Int}
theorem RN.ck (h : RN k S W a n c xs) (x : CK S W W') : RN k S W' a n c xs :=
  ⟨h.len, h.cap, h.max, h.wf, fun hn => by
    obtain ⟨b, off, cs, T, fz, e, hs, hb, hc⟩ := h.at_ hn
    exact ⟨b, off, cs, T, fz, e, hs, x.2 b cs T fz hs hb, hc⟩⟩
theorem RN.ext (h : RN k S W a n c xs) (x : Ext W W') : RN k S W' a n c xs := h.ck (x.ck S)
theorem RN.sub {S' : Nat → Prop} (h : RN k S W a n c xs) (hs : ∀ b, b < W.heap.size → S b → S' b) : RN k S' W a n c xs :=
  ⟨h.len, h.cap, h.max, h.wf, fun hn => by
    obtain ⟨b, off, cs, T, fz, e, h1, hb, hc⟩ := h.at_ hn
    exact ⟨b, off, cs, T, fz, e, hs b (Array.getElem?_eq_some_iff.1 hb).1 h1, hb, hc⟩⟩
theorem RN.nil (k : IntKind) (S : Nat → Prop) (W : World) (a : Option Addr) (c : Nat) (hc : c ≤ 9223372036854775807) : RN k S W a 0 c [] := ⟨rfl, Nat.zero_le _, hc, by simp, fun h => absurd h (by omega)⟩
/-- Its cells, at an index that the walk knows as a natural number. -/
theorem RN.cells (h : RN k S W a n c xs) (hn : 0 < n) : ∃ b off, a = some ⟨b, off, none⟩ ∧ S b ∧ b < W.heap.size ∧ ∀ j : Nat, j < n → W.cell? ⟨b, off + j, none⟩ = some (.int k (wd xs j)) := by
  obtain ⟨b, off, cs, T, fz, e, hs, hb, hc⟩ := h.at_ hn
  exact ⟨b, off, e, hs, (Array.getElem?_eq_some_iff.1 hb).1, fun j hj => by simp [World.cell?, hb, hc j hj]⟩
theorem RN.kbd (h : RN k S W a n c xs) (j : Nat) (hj : j < n) : kb k (wd xs j) := by
  refine h.wf _ ?_
  have : j < xs.length := by have := h.len; omega
  simp [wd, this]
theorem RN.take (h : RN k S W a n c xs) (m : Nat) (hm : m ≤ n) : RN k S W a m c (xs.take m) :=
  ⟨by have := h.len; simp; omega, Nat.le_trans hm h.cap, h.max, fun x hx => h.wf x (List.mem_of_mem_take hx), fun h0 => by
    obtain ⟨b, off, cs, T, fz, e, hs, hb, hc⟩ := h.at_ (by omega)
    refine ⟨b, off, cs, T, fz, e, hs, hb, fun j hj => ?_⟩
    rw [hc j (by omega)]
    simp [wd, List.getElem?_take, hj]⟩
end

/-! ### Own blocks left out -/
def SX (S : Nat → Prop) (bs : List Nat) : Nat → Prop := fun b => S b ∧ b ∉ bs
theorem SX.up {S : Nat → Prop} {bs : List Nat} {W : World} (h : Up S W) (hb : ∀ b ∈ bs, b < W.heap.size) : Up (SX S bs) W := fun b hx => ⟨h b hx, fun hm => by have := hb b hm; omega⟩
theorem SX.not {S : Nat → Prop} {bs : List Nat} {b : Nat} (h : b ∈ bs) : ¬ SX S bs b := fun hx => hx.2 h
theorem SX.old {S : Nat → Prop} {bs : List Nat} {w : World} (hb : ∀ b ∈ bs, w.heap.size ≤ b) : ∀ b, b < w.heap.size → S b → SX S bs b := fun b h1 h2 => ⟨h2, fun hm => by have := hb b hm; omega⟩

end Go.Proofs.YtknbjfefeeojlaaGreat
/- A calculus for walks: a frame is a function from slots to values; a region that draws its order is walked in one order, the loads taken first. -/
namespace Go.Proofs.YtknbjfefeeojlaaGreat
open Go.RowKit

abbrev Env := Nat → Value
def up (E : Env) (d : Nat) (v : Value) : Env := fun t => cond (Nat.beq t d) v (E t)
def ev (E : Env) : Operand → Value
  | .tmp t => E t
  | .const v => v
  | .global g => .pointer (some ⟨g, 0, none⟩)
  | .func f => .func (.func f) #[] #[]
theorem up_same (E : Env) (d : Nat) (v : Value) : up E d v d = v := by simp [up]
theorem up_ne (E : Env) {d t : Nat} (v : Value) (h : t ≠ d) : up E d v t = E t := by
  have : Nat.beq t d = false := by cases hb : Nat.beq t d with
    | false => rfl
    | true => exact absurd (Nat.eq_of_beq_eq_true hb) h
  simp [up, this]
theorem up_comm (E : Env) {d e : Nat} (v u : Value) (h : d ≠ e) : up (up E d v) e u = up (up E e u) d v := by
  funext t
  by_cases h1 : t = d
  · subst h1; rw [up_ne _ _ h, up_same, up_same]
  · by_cases h2 : t = e
    · subst h2; rw [up_same, up_ne _ _ h1, up_same]
    · rw [up_ne _ _ h2, up_ne _ _ h1, up_ne _ _ h1, up_ne _ _ h2]
theorem up_self {E : Env} {d : Nat} {v : Value} (h : E d = v) : up E d v = E := by
  funext t
  by_cases h1 : t = d
  · subst h1; rw [up_same, h]
  · rw [up_ne _ _ h1]
def ups (E : Env) : List (Nat × Value) → Env
  | [] => E
  | (d, v) :: r => up (ups E r) d v
def agree (E : Env) : List (Nat × Value) → Prop
  | [] => True
  | (d, v) :: r => E d = v ∧ agree E r
theorem ups_agree {E : Env} : ∀ {L : List (Nat × Value)}, agree E L → ups E L = E
  | [], _ => rfl
  | (d, v) :: r, ⟨h, hr⟩ => by rw [ups, ups_agree hr]; exact up_self h
def puto (E : Env) : Option Tmp → Value → Env
  | some d, v => up E d v
  | none, _ => E

structure Rep (N : Nat) (a : Act) (E : Env) : Prop where
  size : a.tmps.size = N
  get : ∀ t, a.tmps.getD t undef = E t
theorem Rep.eval {N : Nat} {a : Act} {E : Env} (h : Rep N a E) : a.eval = ev E := funext fun x => by
  cases x with
  | tmp t => exact h.get t
  | _ => rfl
theorem Rep.put {N : Nat} {a : Act} {E : Env} (h : Rep N a E) {d : Nat} (hd : Nat.blt d N = true) (v : Value) : Rep N (a.put (some d) v) (up E d v) := by
  refine ⟨by simp [Act.put, h.size], fun t => ?_⟩
  have hlt : d < N := by have := Nat.le_of_ble_eq_true hd; omega
  by_cases h1 : t = d
  · subst h1; rw [up_same]; simp [Act.put, h.size, hlt]
  · rw [up_ne _ _ h1, ← h.get]
    simp [Act.put, Array.getElem?_setIfInBounds_ne (Ne.symm h1)]
def dstOK (N : Nat) : Option Tmp → Bool
  | some d => Nat.blt d N
  | none => true
theorem Rep.puto {N : Nat} {a : Act} {E : Env} (h : Rep N a E) {d : Option Tmp} (hd : dstOK N d = true) (v : Value) : Rep N (a.put d v) (puto E d v) := by
  cases d with
  | none => exact h
  | some d => exact h.put hd v
def bit : Value → Option Bool
  | .bool b => some b
  | _ => none
def yE (ops : Array Oper) (E : Env) (j : Nat) : Option Bool := match (ops[j]?).bind (·.dst) with
  | some t => bit (E t)
  | none => none
theorem Rep.yielded {N : Nat} {a : Act} {E : Env} (h : Rep N a E) (ops : Array Oper) : Go.yielded ops a.tmps = yE ops E := funext fun j => by
  unfold Go.yielded yE
  cases (ops[j]?).bind (·.dst) with
  | none => rfl
  | some t =>
    have hg := h.get t
    simp only [Option.bind_some]
    rw [← hg]
    cases ht : a.tmps[t]? with
    | none => simp [Array.getD_eq_getD_getElem?, ht, undef, bit]
    | some v => simp only [Array.getD_eq_getD_getElem?, ht, Option.getD_some]; cases v <;> rfl
def wE (ops : Array Oper) (o : Oper) (E : Env) : Bool := Region.wanted o (yE ops E)

/-- The fence that shuts nothing out, in a round or in no round. -/
def fen (r : Option Nat) : Fence := { Fence.wide with round := r }
theorem callsIn_fen {r : Option Nat} {n : Nat} {P : Program} {f : FuncId} {args : Array Value} {w : World} {R : Ending → World → Prop} (h : Calls P f args w R) : CallsIn (fen r) n P f args w R := by
  have h2 := callsIn_wide (n := n).2 h
  cases r with
  | none => exact h2
  | some l => exact h2.inRound l

/-- An operation is run, through the call that it makes if it makes one. -/
def OpF (r : Option Nat) (P : Program) (ρ : Operand → Value) (o : Oper) (W : World) (R : Value → World → Prop) : Prop :=
  match (execOp ρ o).run P W with
  | .ok (.value v) W' => R v W'
  | .ok .skip W' => R undef W'
  | .ok (.enter f args) W' => Calls P f args W' fun e W'' => ∃ v, e = .returned v ∧ R v W''
  | .ok (.round l f tmps assign body) W' => RoundIn (fen r) 0 P l f tmps assign body W' fun e W'' => ∃ v, e = .returned v ∧ R v W''
  | _ => False
section
variable {r : Option Nat} {P : Program} {N : Nat} {ops : Array Oper}
theorem OpF.mono {ρ : Operand → Value} {o : Oper} {W : World} {R R' : Value → World → Prop} (h : OpF r P ρ o W R) (hr : ∀ v w, R v w → R' v w) : OpF r P ρ o W R' := by
  unfold OpF at *
  split at h
  · exact hr _ _ h
  · exact hr _ _ h
  · exact h.mono fun e w ⟨v, he, hv⟩ => ⟨v, he, hr _ _ hv⟩
  · exact h.mono fun e w ⟨v, he, hv⟩ => ⟨v, he, hr _ _ hv⟩
  · exact h.elim
theorem OpF.wpIn {a : Act} {E : Env} (hrep : Rep N a E) {o : Oper} {W : World} {K : Act → World → Prop} {Q : Exit → Act → World → Prop} (h : OpF r P (ev E) o W fun v W' => K (a.put o.dst v) W') : o.wpIn (fen r) 0 P a W K Q := by
  refine ⟨fun _ _ => trivial, ?_⟩
  by_cases hd : ∃ c, o.op = .defer c
  · obtain ⟨c, hc⟩ := hd
    unfold OpF execOp at h
    rw [hc] at h
    simp only [Sem.run_bind] at h
    cases hr : (resolve (ev E) c o.type).run P W <;> rw [hr] at h <;> simp [Result.andThen] at h
  · have hs : Oper.semAt (fen r).round a.eval o = execOp (ev E) o := by
      rw [← hrep.eval]; exact Oper.semAt_eq _ _ _ (fun c hc => hd ⟨c, hc⟩)
    rw [hs]
    unfold OpF at h
    generalize (execOp (ev E) o).run P W = x at h
    cases x with
    | halt x w => exact h.elim
    | ok x w =>
      cases x <;> simp only at h <;> try exact h.elim
      case value v => exact h
      case skip => exact h
      case enter f args => exact ⟨fun hx => by simp [fen, Fence.wide] at hx, callsIn_fen (h.mono fun e w ⟨v, he, hv⟩ => by subst he; exact hv)⟩
      case round l f tmps assign body => exact ⟨fun hx => by simp [fen, Fence.wide] at hx, h.mono fun e w ⟨v, he, hv⟩ => by subst he; exact hv⟩

/-! ### A region in the order of the text -/
def RV (r : Option Nat) (P : Program) (ops : Array Oper) (R : Env → World → Prop) : List Oper → Env → World → Prop
  | [], E, W => R E W
  | o :: l, E, W => if wE ops o E = true then OpF r P (ev E) o W (fun v W' => RV r P ops R l (puto E o.dst v) W') else RV r P ops R l (puto E o.dst undef) W
def dstsOK (N : Nat) (l : List Oper) : Bool := l.all fun o => dstOK N o.dst
theorem RV.wp {R : Env → World → Prop} {Q : Exit → Act → World → Prop} {ds : List Deferred} (hQ : ∀ a E W, Rep N a E → a.defers = ds → R E W → Q .normal a W) : ∀ (l : List Oper) (a : Act) (E : Env) (W : World), dstsOK N l = true → Rep N a E → a.defers = ds →
    RV r P ops R l E W → wpListIn (fen r) 0 P ops Q l a W
  | [], a, E, W, _, hrep, hd, h => hQ a E W hrep hd h
  | o :: l, a, E, W, hl, hrep, hd, h => by
    simp only [dstsOK, List.all_cons, Bool.and_eq_true] at hl
    unfold wpListIn
    unfold RV at h
    rw [hrep.yielded]
    have hdd : ∀ v, (a.put o.dst v).defers = ds := fun v => by cases o.dst <;> exact hd
    by_cases hw : wE ops o E = true
    · rw [if_pos hw] at h
      rw [if_pos (show Region.wanted o (yE ops E) = true from hw)]
      exact OpF.wpIn hrep (h.mono fun v W' hv => RV.wp hQ l _ _ _ hl.2 (hrep.puto hl.1 v) (hdd v) hv)
    · rw [if_neg hw] at h
      rw [if_neg (show ¬ Region.wanted o (yE ops E) = true from hw)]
      exact ⟨fun _ _ => trivial, RV.wp hQ l _ _ _ hl.2 (hrep.puto hl.1 _) (hdd _) h⟩

/-! ### A region that draws its order -/
def opI (r : Option Nat) (P : Program) (ops : Array Oper) (i : Nat) (K : Env → World → Prop) (E : Env) (W : World) : Prop :=
  match ops[i]? with
  | none => K E W
  | some o => if wE ops o E = true then OpF r P (ev E) o W (fun v W' => K (puto E o.dst v) W') else K (puto E o.dst undef) W
/-- All others come before it. -/
def lastOp (ops : Array Oper) (j : Nat) : Bool := match ops[j]? with
  | none => false
  | some o => (List.range ops.size).all fun k => k == j || o.after.any fun e => Region.binds .any e && e.on == k
def VA (r : Option Nat) (P : Program) (ops : Array Oper) (R : Env → World → Prop) : Nat → Array Bool → Env → World → Prop
  | 0, listed, E, W => Region.ready .any ops listed = [] ∧ R E W
  | fuel + 1, listed, E, W => (Region.ready .any ops listed = [] → R E W) ∧ ∀ i ∈ Region.ready .any ops listed, opI r P ops i (VA r P ops R fuel (listed.setIfInBounds i true)) E W
def VH (r : Option Nat) (P : Program) (ops : Array Oper) (S : World → Prop) (R : Env → World → Prop) : Nat → Array Bool → Env → World → Prop
  | 0, listed, E, W => Region.ready .any ops listed = [] ∧ R E W
  | fuel + 1, listed, E, W => (Region.ready .any ops listed = [] → R E W) ∧
      ∀ i ∈ Region.ready .any ops listed, opI r P ops i (fun E' W' => (lastOp ops i = false → S W') ∧ VH r P ops S R fuel (listed.setIfInBounds i true) E' W') E W
theorem opI.mono {i : Nat} {K K' : Env → World → Prop} {E : Env} {W : World} (h : opI r P ops i K E W) (hk : ∀ E W, K E W → K' E W) : opI r P ops i K' E W := by
  unfold opI at *
  split
  · rename_i ho; simp only [ho] at h; exact hk _ _ h
  · rename_i o ho
    simp only [ho] at h
    split
    · rename_i hw; rw [if_pos hw] at h; exact h.mono fun v w hv => hk _ _ hv
    · rename_i hw; rw [if_neg hw] at h; exact hk _ _ h
theorem VH.va {S : World → Prop} {R : Env → World → Prop} : ∀ (fuel : Nat) (listed : Array Bool) (E : Env) (W : World), VH r P ops S R fuel listed E W → VA r P ops R fuel listed E W
  | 0, _, _, _, h => h
  | fuel + 1, _, _, _, h => ⟨h.1, fun i hi => (h.2 i hi).mono fun E' W' h' => VH.va fuel _ E' W' h'.2⟩
theorem opI.wp {K : Act → World → Prop} {Q : Exit → Act → World → Prop} {ds : List Deferred} {KE : Env → World → Prop} (hK : ∀ a E W, Rep N a E → a.defers = ds → KE E W → K a W) {i : Nat} {a : Act} {E : Env} {W : World} (hl : dstsOK N ops.toList = true) (hrep : Rep N a E) (hd : a.defers = ds)
    (h : opI r P ops i KE E W) : wpOpIn (fen r) 0 P ops Q i K a W := by
  unfold opI at h
  unfold wpOpIn
  split
  · rename_i ho; simp only [ho] at h; exact hK a E W hrep hd h
  · rename_i o ho
    simp only [ho] at h
    have hdo : dstOK N o.dst = true := by
      simp only [dstsOK, List.all_eq_true] at hl
      exact hl o (by simpa using Array.mem_of_getElem? ho)
    have hdd : ∀ v, (a.put o.dst v).defers = ds := fun v => by cases o.dst <;> exact hd
    rw [hrep.yielded]
    by_cases hw : wE ops o E = true
    · rw [if_pos hw] at h
      rw [if_pos (show Region.wanted o (yE ops E) = true from hw)]
      exact OpF.wpIn hrep (h.mono fun v W' hv => hK _ _ _ (hrep.puto hdo v) (hdd v) hv)
    · rw [if_neg hw] at h
      rw [if_neg (show ¬ Region.wanted o (yE ops E) = true from hw)]
      exact ⟨fun _ _ => trivial, hK _ _ _ (hrep.puto hdo _) (hdd _) h⟩
theorem VA.wp {R : Env → World → Prop} {Q : Exit → Act → World → Prop} {ds : List Deferred} (hl : dstsOK N ops.toList = true) (hQ : ∀ a E W, Rep N a E → a.defers = ds → R E W → Q .normal a W) : ∀ (fuel : Nat) (listed : Array Bool) (a : Act) (E : Env) (W : World), Rep N a E → a.defers = ds →
    VA r P ops R fuel listed E W → wpAnyIn (fen r) 0 P .any ops Q fuel listed a W
  | 0, _, a, E, W, hrep, hd, h => ⟨h.1, hQ a E W hrep hd h.2⟩
  | fuel + 1, listed, a, E, W, hrep, hd, h => ⟨fun hr => hQ a E W hrep hd (h.1 hr), fun i hi => opI.wp (fun a' E' W' hrep' hd' h' => VA.wp hl hQ fuel _ a' E' W' hrep' hd' h') hl hrep hd (h.2 i hi)⟩

theorem ev_puto {E : Env} {d : Option Tmp} {v : Value} {x : Operand} (h : ∀ t, d = some t → x ≠ .tmp t) : ev (puto E d v) x = ev E x := by
  cases d with
  | none => rfl
  | some t =>
    cases x with
    | tmp u => exact up_ne _ _ (fun e => h t rfl (by rw [e]))
    | _ => rfl
theorem execOp_puto (o : Oper) (hs : ∀ cs b, o.op ≠ .select cs b) (E : Env) (d : Option Tmp) (v : Value) (h : ∀ t, d = some t → t ∉ o.looksAt ops) : execOp (ev (puto E d v)) o = execOp (ev E) o :=
  execOp_congr o hs fun x hx => ev_puto fun t ht hxt => h t ht (by
    subst hxt
    exact List.mem_append_left _ (List.mem_filterMap.2 ⟨.tmp t, by simpa using hx, rfl⟩))
theorem wE_puto (o : Oper) (E : Env) (d : Option Tmp) (v : Value) (h : ∀ t, d = some t → t ∉ o.looksAt ops) : wE ops o (puto E d v) = wE ops o E := by
  cases d with
  | none => rfl
  | some d =>
    unfold wE Region.wanted
    cases hg : o.guard with
    | none => rfl
    | some gw =>
      obtain ⟨g, want⟩ := gw
      have hy : yE ops (puto E (some d) v) g = yE ops E g := by
        unfold yE
        cases ht : (ops[g]?).bind (·.dst) with
        | none => rfl
        | some t =>
          have hne : t ≠ d := fun e => h d rfl (by subst e; simp [Oper.looksAt, hg, ht])
          simp only [puto, up_ne _ _ hne]
      simp only [hy]
theorem puto_comm (E : Env) {x y : Option Tmp} (v u : Value) (h : ∀ d, x = some d → y ≠ some d) : puto (puto E x v) y u = puto (puto E y u) x v := by
  cases x with
  | none => rfl
  | some d =>
    cases y with
    | none => rfl
    | some e => exact up_comm E v u (fun he => h d rfl (he ▸ rfl))
/-- It yields v, and does nothing else, in every world that meets S. -/
def PureIf (P : Program) (ops : Array Oper) (S : World → Prop) (o : Oper) (v : Value) (E : Env) : Prop :=
  (wE ops o E = true ∧ ∀ W, S W → (execOp (ev E) o).run P W = .ok (.value v) W) ∨ (wE ops o E = false ∧ v = undef)
theorem PureIf.opI {S : World → Prop} {i : Nat} {o : Oper} {v : Value} {E : Env} (hi : ops[i]? = some o) (hy : PureIf P ops S o v E) {K : Env → World → Prop} {W : World} (hS : S W) (h : K (puto E o.dst v) W) : opI r P ops i K E W := by
  unfold Go.Proofs.YtknbjfefeeojlaaGreat.opI
  simp only [hi]
  rcases hy with ⟨hw, hv⟩ | ⟨hw, rfl⟩
  · rw [if_pos hw]; unfold OpF; rw [hv W hS]; exact h
  · rw [if_neg (by simp [hw])]; exact h
theorem opI_put {S : World → Prop} {j : Nat} {oi oj : Oper} {v : Value} (hj : ops[j]? = some oj) (hap : oi.apart ops oj = true) (hsi : ∀ cs b, oi.op ≠ .select cs b) (hsj : ∀ cs b, oj.op ≠ .select cs b)
    {K : Env → World → Prop} {E : Env} {W : World} (hy : PureIf P ops S oi v E) (h : opI r P ops j K (puto E oi.dst v) W) :
    opI r P ops j (fun E' W' => PureIf P ops S oi v E' ∧ K (puto E' oi.dst v) W') E W := by
  obtain ⟨h1, h2, h3⟩ := Oper.apart_spec hap
  have keep : ∀ u, PureIf P ops S oi v (puto E oj.dst u) := fun u => by
    unfold PureIf at *
    rw [execOp_puto oi hsi E oj.dst u h3, wE_puto oi E oj.dst u h3]; exact hy
  unfold Go.Proofs.YtknbjfefeeojlaaGreat.opI at *
  simp only [hj] at *
  rw [wE_puto oj E oi.dst v h1] at h
  have hO : ∀ {R : Value → World → Prop}, OpF r P (ev (puto E oi.dst v)) oj W R → OpF r P (ev E) oj W R := fun {R} hx => by
    unfold OpF at *; rw [execOp_puto oj hsj E oi.dst v h1] at hx; exact hx
  split
  · rename_i hw
    rw [if_pos hw] at h
    exact (hO h).mono fun u W' hv => ⟨keep u, by rw [← puto_comm E v u h2]; exact hv⟩
  · rename_i hw
    rw [if_neg hw] at h
    exact ⟨keep _, by rw [← puto_comm E v undef h2]; exact h⟩
theorem lastOp_spec {j : Nat} (hl : lastOp ops j = true) {listed : Array Bool} (hj : j ∈ Region.ready .any ops listed) {i : Nat} (hi : i ∈ Region.ready .any ops listed) : i = j := by
  obtain ⟨hju, oj, hoj, hall⟩ := mem_ready.1 hj
  obtain ⟨hiu, oi, hoi, _⟩ := mem_ready.1 hi
  unfold lastOp at hl
  simp only [hoj, List.all_eq_true, List.mem_range] at hl
  have h1 := hl i (Array.getElem?_eq_some_iff.1 hoi).1
  simp only [Bool.or_eq_true, beq_iff_eq] at h1
  rcases h1 with h1 | h1
  · exact h1
  · obtain ⟨e, he, hb⟩ := Array.any_eq_true'.1 h1
    simp only [Bool.and_eq_true, beq_iff_eq] at hb
    have h2 := hall e he hb.1
    rw [hb.2] at h2
    exfalso
    rcases Nat.lt_or_ge i listed.size with h' | h'
    · simp [h'] at hiu h2; rw [hiu] at h2; cases h2
    · simp [Array.getElem?_eq_none h'] at h2
theorem VH.first {S : World → Prop} {R : Env → World → Prop} {i : Nat} {oi : Oper} {v : Value} (hi : ops[i]? = some oi) (hsel : ∀ (j : Nat) (o : Oper) cs b, ops[j]? = some o → o.op ≠ .select cs b) (hli : lastOp ops i = false ∨ True) :
    ∀ (fuel : Nat) (listed : Array Bool) (E : Env) (W : World),
      (∀ j oj, ops[j]? = some oj → j ≠ i → listed.getD j true = false → (∀ e ∈ oj.after, Region.binds .any e = true → e.on ≠ i) → oi.apart ops oj = true) →
      i ∈ Region.ready .any ops listed → PureIf P ops S oi v E → S W →
      VH r P ops S R fuel (listed.setIfInBounds i true) (puto E oi.dst v) W → VH r P ops S R (fuel + 1) listed E W := by
  intro fuel
  induction fuel with
  | zero =>
    intro listed E W _ hr hy hS H
    refine ⟨fun h => (by rw [h] at hr; cases hr), fun j hj => ?_⟩
    by_cases hji : j = i
    · subst hji; exact hy.opI hi hS ⟨fun _ => hS, H⟩
    · have := ready_mono hj hji
      rw [H.1] at this
      cases this
  | succ fuel ih =>
    intro listed E W hfree hr hy hS H
    refine ⟨fun h => (by rw [h] at hr; cases hr), fun j hj => ?_⟩
    by_cases hji : j = i
    · subst hji; exact hy.opI hi hS ⟨fun _ => hS, H⟩
    · have h1 := H.2 j (ready_mono hj hji)
      obtain ⟨hjun, oj, hoj, hall⟩ := mem_ready.1 hj
      have hnl : lastOp ops j = false := by
        cases hl : lastOp ops j with
        | false => rfl
        | true => exact absurd (lastOp_spec hl hj hr).symm hji
      have hnot : ∀ e ∈ oj.after, Region.binds .any e = true → e.on ≠ i := fun e he hb heq => by
        have h1 := hall e he hb
        have h0 := (mem_ready.1 hr).1
        rw [heq] at h1
        rcases Nat.lt_or_ge i listed.size with h' | h'
        · simp [h'] at h0 h1; rw [h0] at h1; cases h1
        · simp [Array.getElem?_eq_none h'] at h1
      have h2 := opI_put (r := r) hoj (hfree j oj hoj hji hjun hnot) (fun cs b => hsel i oi cs b hi) (fun cs b => hsel j oj cs b hoj) hy h1
      have hfree' : ∀ k ok, ops[k]? = some ok → k ≠ i → (listed.setIfInBounds j true).getD k true = false →
          (∀ e ∈ ok.after, Region.binds .any e = true → e.on ≠ i) → oi.apart ops ok = true := fun k ok hk hki hun hno => by
        refine hfree k ok hk hki ?_ hno
        by_cases hjk : j = k
        · subst hjk; exact hjun
        · rw [getD_set_ne true hjk] at hun; exact hun
      refine h2.mono fun E' W' h3 => ⟨fun _ => h3.2.1 hnl, ih (listed.setIfInBounds j true) E' W' hfree' (ready_mono hr (Ne.symm hji)) h3.1 (h3.2.1 hnl) ?_⟩
      rw [Array.setIfInBounds_comm _ _ hji]
      exact h3.2.2
end

/-! ### Code -/
section
variable {r : Option Nat} {P : Program} {N : Nat}
abbrev EQ := Exit → Env → List Deferred → World → Prop
def V (r : Option Nat) (P : Program) (N : Nat) (ds : List Deferred) (c : Code) (Q : EQ) (E : Env) (W : World) : Prop :=
  ∀ a, Rep N a E → a.defers = ds → c.wpIn (fen r) 0 P (fun x a' W' => ∃ E', Rep N a' E' ∧ Q x E' a'.defers W') a W
def thenV (K : Env → List Deferred → World → Prop) (Q : EQ) : EQ
  | .normal, E, ds, W => K E ds W
  | x, E, ds, W => Q x E ds W
def blkV (id : Nat) (Q : EQ) : EQ
  | .exit i, E, ds, W => cond (Nat.beq i id) (Q .normal E ds W) (Q (.exit i) E ds W)
  | x, E, ds, W => Q x E ds W
variable {ds : List Deferred} {Q : EQ} {E : Env} {W : World}
theorem V.mono {c : Code} {Q' : EQ} (h : V r P N ds c Q E W) (hq : ∀ x E ds W, Q x E ds W → Q' x E ds W) : V r P N ds c Q' E W :=
  fun a hrep hd => wpIn_mono (h a hrep hd) fun x a' W' ⟨E', h1, h2⟩ => ⟨E', h1, hq _ _ _ _ h2⟩
theorem V.skip (h : Q .normal E ds W) : V r P N ds .skip Q E W := fun a hrep hd => wpIn_skip ⟨E, hrep, by rw [hd]; exact h⟩
theorem V.ret (h : Q .ret E ds W) : V r P N ds .ret Q E W := fun a hrep hd => wpIn_ret ⟨E, hrep, by rw [hd]; exact h⟩
theorem V.exit {id : Nat} (h : Q (.exit id) E ds W) : V r P N ds (.exit id) Q E W := fun a hrep hd => wpIn_exit ⟨E, hrep, by rw [hd]; exact h⟩
theorem V.label {l : Nat} (h : Q .normal E ds W) : V r P N ds (.label l) Q E W := fun a hrep hd => wpIn_label ⟨E, hrep, by rw [hd]; exact h⟩
theorem V.seq {x y : Code} (h : V r P N ds x (thenV (fun E ds W => V r P N ds y Q E W) Q) E W) : V r P N ds (.seq x y) Q E W := fun a hrep hd =>
  wpIn_seq (wpIn_mono (h a hrep hd) fun e a' W' ⟨E', h1, h2⟩ => by cases e <;> first | exact h2 a' h1 rfl | exact ⟨E', h1, h2⟩)
theorem V.block {id : Nat} {c : Code} (h : V r P N ds c (blkV id Q) E W) : V r P N ds (.block id c) Q E W := fun a hrep hd =>
  wpIn_block (wpIn_mono (h a hrep hd) fun e a' W' ⟨E', h1, h2⟩ => by
    cases e with
    | exit i =>
      simp only [blkV] at h2
      simp only [Exit.inBlock]
      by_cases hi : i = id
      · subst hi; rw [Nat.beq_refl] at h2; rw [if_pos rfl]; exact ⟨E', h1, h2⟩
      · have : Nat.beq i id = false := by cases hb : Nat.beq i id with
          | false => rfl
          | true => exact absurd (Nat.eq_of_beq_eq_true hb) hi
        rw [this] at h2; rw [if_neg hi]; exact ⟨E', h1, h2⟩
    | _ => exact ⟨E', h1, h2⟩)
theorem V.cond {c : Operand} {x y : Code} {b : Bool} (hc : ev E c = .bool b) (h : V r P N ds (if b then x else y) Q E W) : V r P N ds (.cond c x y) Q E W := fun a hrep hd =>
  wpIn_cond (t := b) (by rw [hrep.eval]; exact hc) (h a hrep hd)
theorem V.condT {c : Operand} {x y : Code} (hc : ev E c = .bool true) (h : V r P N ds x Q E W) : V r P N ds (.cond c x y) Q E W := V.cond hc h
theorem V.condF {c : Operand} {x y : Code} (hc : ev E c = .bool false) (h : V r P N ds y Q E W) : V r P N ds (.cond c x y) Q E W := V.cond hc h
theorem least {p : Nat → Prop} (h : ∃ m, p m) : ∃ m, p m ∧ ∀ k, p k → m ≤ k := by
  obtain ⟨m, hm⟩ := h
  induction m using Nat.strongRecOn with
  | ind m ih =>
    by_cases hk : ∃ k, k < m ∧ p k
    · obtain ⟨k, hlt, hp⟩ := hk; exact ih k hlt hp
    · exact ⟨m, hm, fun k hp => Nat.le_of_not_lt fun hlt => hk ⟨k, hlt, hp⟩⟩
open Classical in
noncomputable def leastOf (p : Nat → Prop) : Nat := if h : ∃ m, p m then Classical.choose (least h) else 0
theorem leastOf_spec {p : Nat → Prop} {m : Nat} (hm : p m) : p (leastOf p) ∧ ∀ k, p k → leastOf p ≤ k := by
  have h : ∃ m, p m := ⟨m, hm⟩
  unfold leastOf
  rw [dif_pos h]; exact Classical.choose_spec (least h)
/-- A loop: its state i in ι, the slots that it names, what holds of the world. -/
theorem V.loop {c : Code} {ι : Type} (L : ι → List (Nat × Value)) (I : ι → World → Prop) (μ : ι → Nat) (i₀ : ι) (h₀ : agree E (L i₀)) (hI : I i₀ W)
    (round : ∀ i E0 W, I i W → V r P N ds c (thenV (fun E' ds' W' => ds' = ds ∧ ∃ j, agree E' (L j) ∧ I j W' ∧ μ j < μ i) Q) (ups E0 (L i)) W) : V r P N ds (.loop c) Q E W := fun a hrep hd => by
  let p : Act → World → Nat → Prop := fun a W m => a.defers = ds ∧ ∃ i E, Rep N a E ∧ agree E (L i) ∧ I i W ∧ μ i = m
  refine wpIn_loop (fun a W => ∃ m, p a W m) (fun a W => leastOf (p a W)) ⟨_, hd, i₀, E, hrep, h₀, hI, rfl⟩ ?_
  rintro a W ⟨m, hm⟩
  obtain ⟨hd, i, E, hrep, hag, hI, hmu⟩ := (leastOf_spec hm).1
  have hr := round i E W hI
  rw [ups_agree hag] at hr
  refine wpIn_mono (hr a hrep hd) fun x a' W' hx => ?_
  obtain ⟨E', h1, h2⟩ := hx
  cases x with
  | normal =>
    obtain ⟨hd', j, hj, hIj, hlt⟩ := h2
    have hp : p a' W' (μ j) := ⟨hd', j, E', h1, hj, hIj, rfl⟩
    exact ⟨⟨_, hp⟩, by have := (leastOf_spec hp).2 _ hp; omega⟩
  | _ => exact ⟨E', h1, h2⟩
/-- A region in the order of the text. -/
theorem V.reg {id : Nat} {l : List Oper} (hl : dstsOK N l = true) (h : RV r P l.toArray (fun E W => Q .normal E ds W) l E W) : V r P N ds (.region id l.toArray false) Q E W := fun a hrep hd =>
  wpIn_region_lit (RV.wp (ds := ds) (fun a E W hr hd h => ⟨E, hr, by rw [hd]; exact h⟩) l a E W hl hrep hd h)
/-- A region that draws its order. -/
theorem V.regD {id : Nat} {ops : Array Oper} (hm : P.follows .mixedOrders = true) (hl : dstsOK N ops.toList = true)
    (h : ∀ W1, Ext W W1 → VH r P ops (Ext W1) (fun E W => Q .normal E ds W) ops.size (Array.replicate ops.size false) E W1) : V r P N ds (.region id ops true) Q E W := fun a hrep hd =>
  wpIn_region_any hm (VA.wp (ds := ds) hl (fun a E W hr hd h => ⟨E, hr, by rw [hd]; exact h⟩) _ _ a E _ hrep hd (VH.va _ _ _ _ (h _ ((Ext.refl W).drew))))
end
end Go.Proofs.YtknbjfefeeojlaaGreat
/- The operations: what each does when it is run. -/
namespace Go.Proofs.YtknbjfefeeojlaaGreat
open Go.RowKit
section
variable {P : Program} {ρ : Operand → Value} {W W' : World} {d : Option Tmp} {ty T T' e : TypeId} {pos : String} {af : Array Edge} {g : Option (Nat × Bool)} {x y : Operand} {v u : Value} {b o : Nat} {cs cs' : List Value} {ad : Addr} {ad' : Option Addr} {n' c' : Nat}

/-! ### Facts on types -/
def aggD : TypeDesc → Bool
  | .struct _ => true
  | .array _ _ => true
  | _ => false
def Sc (P : Program) (T : TypeId) : Prop := ∃ d, P.underlying T = some d ∧ aggD d = false
def Ag (P : Program) (T : TypeId) (n : Nat) : Prop := ∃ d i, P.underlying T = some d ∧ aggD d = true ∧ P.info? T = some i ∧ i.size = n
def S1 (P : Program) (T : TypeId) : Prop := ∃ i, P.info? T = some i ∧ i.size = 1
def Zr (P : Program) (T : TypeId) (z : Value) : Prop := ∃ i, P.info? T = some i ∧ i.zero = some z
def Zc (P : Program) (T : TypeId) (cs : List Value) : Prop := ∃ z, Zr P T z ∧ z.cells = cs.toArray
def Sl (P : Program) (T e : TypeId) : Prop := P.underlying T = some (.slice e)
def Sz (P : Program) (e : TypeId) (n : Nat) : Prop := ∃ i, P.info? e = some i ∧ i.size = n
def Fd (P : Program) (T : TypeId) (f off : Nat) : Prop := ∃ fs fd i, P.underlying T = some (.struct fs) ∧ fs[f]? = some fd ∧ fd.offset = off ∧ P.info? fd.type = some i ∧ i.size ≠ 0
theorem Sc.mk {dd : TypeDesc} (h : P.underlying T = some dd) (hd : aggD dd = false) : Sc P T := ⟨dd, h, hd⟩
theorem Sz.mk {n : Nat} (h : (P.info? e).map (·.size) = some n) : Sz P e n := by obtain ⟨i, h1, h2⟩ := Option.map_eq_some_iff.1 h; exact ⟨i, h1, h2⟩
theorem Ag.mk {dd : TypeDesc} {n : Nat} (h : P.underlying T = some dd) (hd : aggD dd = true) (hs : (P.info? T).map (·.size) = some n) : Ag P T n := by
  obtain ⟨i, h1, h2⟩ := Option.map_eq_some_iff.1 hs; exact ⟨dd, i, h, hd, h1, h2⟩
theorem Fd.mk {fs : Array Field} {fd : Field} {f off : Nat} {s : Nat} (h : P.underlying T = some (.struct fs)) (hf : fs[f]? = some fd) (ho : fd.offset = off) (hs : (P.info? fd.type).map (·.size) = some s) (h0 : s ≠ 0) : Fd P T f off := by
  obtain ⟨i, h1, h2⟩ := Option.map_eq_some_iff.1 hs; exact ⟨fs, fd, i, h, hf, ho, h1, by rw [h2]; exact h0⟩
theorem Zr.mk {z : Value} (h : (P.info? T).map (·.zero) = some (some z)) : Zr P T z := by obtain ⟨i, h1, h2⟩ := Option.map_eq_some_iff.1 h; exact ⟨i, h1, h2⟩
theorem addO (b o n : Nat) : (⟨b, o, none⟩ : Addr).add n = ⟨b, o + n, none⟩ := by unfold Addr.add; split <;> simp_all
theorem isAgg_sc (h : Sc P T) : (isAgg T).run P W = .ok false W := by
  obtain ⟨d, h1, h2⟩ := h
  unfold isAgg
  simp only [Sem.run_bind, run_underlying h1, Result.andThen_ok]
  cases d <;> simp_all [aggD]
theorem isAgg_ag {n : Nat} (h : Ag P T n) : (isAgg T).run P W = .ok true W := by
  obtain ⟨d, i, h1, h2, _⟩ := h
  unfold isAgg
  simp only [Sem.run_bind, run_underlying h1, Result.andThen_ok]
  cases d <;> simp_all [aggD]
theorem sizeOf_sz {n : Nat} (h : Sz P e n) : (sizeOf e).run P W = .ok n W := by
  obtain ⟨i, h1, rfl⟩ := h; unfold sizeOf typeInfo; simp [h1]
theorem Ag.sz {n : Nat} (h : Ag P T n) : Sz P T n := by obtain ⟨_, i, _, _, h1, h2⟩ := h; exact ⟨i, h1, h2⟩
theorem zero_zr {z : Value} (h : Zr P T z) : (zeroValue T).run P W = .ok z W := by
  obtain ⟨i, h1, h2⟩ := h; simp [zeroValue, typeInfo, h1, h2]

/-! ### Copies -/
theorem rmv (hx : ρ x = v) : (execOp ρ ⟨d, .move x, ty, pos, af, g⟩).run P W = .ok (.value v) W := by subst hx; rfl
theorem ras (hx : ρ x = v) : (execOp ρ ⟨d, .assign x, ty, pos, af, g⟩).run P W = .ok (.value v) W := by subst hx; rfl
theorem rpk {c : Operand} {t : Bool} (hc : ρ c = .bool t) (hv : (cond t (ρ x) (ρ y)) = v) : (execOp ρ ⟨d, .pick c x y, ty, pos, af, g⟩).run P W = .ok (.value v) W := by
  subst hv; unfold execOp; cases t <;> simp [hc, asBool]
theorem rext {vs : Array Value} {i : Nat} (hx : ρ x = .tuple vs) (hv : vs[i]? = some v) : (execOp ρ ⟨d, .extract x i, ty, pos, af, g⟩).run P W = .ok (.value v) W := by
  unfold execOp; simp [hx, Instr.extract, hv]

/-! ### New blocks -/
theorem ral (hz : Zr P T v) (hc : v.cells = cs.toArray) : (execOp ρ ⟨d, .alloc T, ty, pos, af, g⟩).run P W = .ok (.value (.pointer (some ⟨W.heap.size, 0, none⟩))) (W.alloc (.cells cs.toArray T)) := by
  unfold execOp
  simp only [Instr.alloc, Sem.run_bind, zero_zr hz, Result.andThen_ok]
  rw [← hc]; simp [newVar, newRow, go_sem]
theorem rbx (hx : ρ x = v) (hc : v.cells = cs.toArray) : (execOp ρ ⟨d, .box T x, ty, pos, af, g⟩).run P W = .ok (.value (.pointer (some ⟨W.heap.size, 0, none⟩))) (W.alloc (.cells cs.toArray T)) := by
  rw [← hc]; subst hx; unfold execOp; simp [Instr.box, newVar, newRow, go_sem]

/-! ### Loads and stores -/
theorem rld1 (hx : ρ x = .pointer (some ad)) (hT : Sc P T) (hc : W.cell? ad = some v) : (execOp ρ ⟨d, .load T x, ty, pos, af, g⟩).run P W = .ok (.value v) W := by
  unfold execOp
  simp [hx, Instr.loadAt, Instr.sureAddr, loadVar, isAgg_sc hT, run_load, hc]
theorem rldn {n : Nat} {l : List Value} (hx : ρ x = .pointer (some ad)) (hT : Ag P T n) (hn : l.length = n) (hc : ∀ j u, l[j]? = some u → W.cell? (ad.add j) = some u) : (execOp ρ ⟨d, .load T x, ty, pos, af, g⟩).run P W = .ok (.value (.agg l.toArray)) W := by
  subst hn
  unfold execOp
  simp only [Instr.loadAt, hx, Instr.sureAddr, Sem.run_bind, Sem.run_pure, Result.andThen_ok, loadVar, isAgg_ag hT, if_true, sizeOf_sz hT.sz, run_loadCells_list W ad l hc]
/-- Out of a block of the call's own. -/
theorem rldb (hx : ρ x = .pointer (some ⟨b, o, none⟩)) (hT : Sc P T) (hb : BoxAt W b cs T') (hc : cs[o]? = some v) : (execOp ρ ⟨d, .load T x, ty, pos, af, g⟩).run P W = .ok (.value v) W :=
  rld1 hx hT (hb.cell o hc)
theorem rldb2 {v0 v1 : Value} (hx : ρ x = .pointer (some ⟨b, o, none⟩)) (hT : Ag P T 2) (hb : BoxAt W b cs T') (h0 : cs[o]? = some v0) (h1 : cs[o + 1]? = some v1) : (execOp ρ ⟨d, .load T x, ty, pos, af, g⟩).run P W = .ok (.value (.agg #[v0, v1])) W :=
  rldn (l := [v0, v1]) hx hT rfl (by
    intro j u hj; rw [addO]
    match j, hj with
    | 0, hj => simp at hj; subst hj; exact hb.cell o h0
    | 1, hj => simp at hj; subst hj; exact hb.cell (o + 1) h1)
theorem rldb4 {v0 v1 v2 v3 : Value} (hx : ρ x = .pointer (some ⟨b, o, none⟩)) (hT : Ag P T 4) (hb : BoxAt W b cs T') (h0 : cs[o]? = some v0) (h1 : cs[o + 1]? = some v1) (h2 : cs[o + 2]? = some v2) (h3 : cs[o + 3]? = some v3) : (execOp ρ ⟨d, .load T x, ty, pos, af, g⟩).run P W = .ok (.value (.agg #[v0, v1, v2, v3])) W :=
  rldn (l := [v0, v1, v2, v3]) hx hT rfl (by
    intro j u hj; rw [addO]
    match j, hj with
    | 0, hj => simp at hj; subst hj; exact hb.cell o h0
    | 1, hj => simp at hj; subst hj; exact hb.cell (o + 1) h1
    | 2, hj => simp at hj; subst hj; exact hb.cell (o + 2) h2
    | 3, hj => simp at hj; subst hj; exact hb.cell (o + 3) h3)
theorem rstn {vs : List Value} (hx : ρ x = .pointer (some ⟨b, o, none⟩)) (hy : ρ y = v) (hT : Sz P T vs.length) (hv : v.cells = vs.toArray) (h1 : ∀ u ∈ vs, u.oneCell' = true) (hb : BoxAt W b cs T') (hl : o + vs.length ≤ cs.length) :
    (execOp ρ ⟨d, .store T x y, ty, pos, af, g⟩).run P W = .ok .skip (W.setRow b (cs.take o ++ vs ++ cs.drop (o + vs.length)).toArray) := by
  unfold execOp
  have hst := run_storeCells_at (P := P) b o T' vs 0 cs.toArray W hb (by simpa using hl) h1
  simp only [Nat.add_zero] at hst
  simp only [Instr.storeAt, hx, hy, Instr.sureAddr, Sem.run_bind, Sem.run_pure, Result.andThen_ok, storeVar, sizeOf_sz hT, hv]
  simp [hst]

/-! ### Structs -/
def places (P : Program) (T : TypeId) (pl : List (Nat × Nat)) (zs : List Value) : Prop := ∃ fs, P.underlying T = some (.struct fs) ∧ (∀ W, (fs.mapM (m := Sem) fun f => do pure (f.offset, ← sizeOf f.type)).run P W = .ok pl.toArray W) ∧ ∃ z, Zr P T z ∧ z.cells = zs.toArray
def offs (P : Program) (fs : Array Field) : List (Option (Nat × Nat)) := fs.toList.map fun f => (P.info? f.type).map fun i => (f.offset, i.size)
theorem mapM_offs (P : Program) (W : World) : ∀ (fs : List Field) (pl : List (Nat × Nat)), (fs.map fun f => (P.info? f.type).map fun i => (f.offset, i.size)) = pl.map some → (fs.mapM (m := Sem) fun f => do pure (f.offset, ← sizeOf f.type)).run P W = .ok pl W
  | [], [], _ => by simp
  | f :: fs, p :: pl, h => by
    simp only [List.map_cons, List.cons.injEq] at h
    obtain ⟨i, h1, h2⟩ := Option.map_eq_some_iff.1 h.1
    have hs : (sizeOf f.type).run P W = .ok i.size W := sizeOf_sz ⟨i, h1, rfl⟩
    have ih := mapM_offs P W fs pl h.2
    simp only [List.mapM_cons, Sem.run_bind, hs, Result.andThen_ok, Sem.run_pure, ih, h2]
  | [], _ :: _, h => by simp at h
  | _ :: _, [], h => by simp at h
theorem places.mk {fs : Array Field} {pl : List (Nat × Nat)} {zs : List Value} {z : Value} (h : P.underlying T = some (.struct fs)) (ho : offs P fs = pl.map some) (hz : Zr P T z) (hc : z.cells = zs.toArray) : places P T pl zs := by
  refine ⟨fs, h, fun W => ?_, z, hz, hc⟩
  rw [Array.mapM_eq_mapM_toList, ← bind_pure_comp]
  simp only [Sem.run_bind, mapM_offs P W fs.toList pl ho, Result.andThen_ok, Sem.run_pure]
theorem rbd {pl : List (Nat × Nat)} {zs : List Value} {parts : Array (Nat × Operand)} {ps : List (Nat × Value)} (hT : places P T pl zs) (hp' : (parts.toList.map fun p => (p.1, ρ p.2)) = ps) (hf : Instr.fill (fun i : Nat => pl[i]?) zs.toArray ps = some cs.toArray) :
    (execOp ρ ⟨d, .build T parts, ty, pos, af, g⟩).run P W = .ok (.value (.agg cs.toArray)) W := by
  obtain ⟨fs, h1, h2, z, h3, h4⟩ := hT
  have hp : (parts.map fun (i, x) => (i, ρ x)).toList = ps := by rw [← hp']; simp
  unfold execOp
  simp only [Instr.build, Sem.run_bind, zero_zr h3, Result.andThen_ok, run_underlying h1, h2, h4, hp]
  have : (fun x : Nat => pl.toArray[x]?) = fun i : Nat => pl[i]? := by funext i; simp
  simp only [this, hf, Sem.run_pure, Result.andThen_ok]
theorem rfa {f off : Nat} (hx : ρ x = .pointer (some ⟨b, o, none⟩)) (hF : Fd P T f off) : (execOp ρ ⟨d, .fieldAddr T x f, ty, pos, af, g⟩).run P W = .ok (.value (.pointer (some ⟨b, o + off, none⟩))) W := by
  obtain ⟨fs, fd, i, h1, h2, rfl, h4, h5⟩ := hF
  unfold execOp
  simp only [Instr.fieldAt, hx, Sem.run_bind, run_underlying h1, Result.andThen_ok, h2, Instr.sureAddr, Sem.run_pure, fieldPlace]
  have hs : (sizeOf fd.type).run P W = .ok i.size W := sizeOf_sz ⟨i, h4, rfl⟩
  simp [hs, h5, addO]
theorem rfl1 {f off : Nat} {l : List Value} (hx : ρ x = .agg l.toArray) (hF : Fd P T f off) (hS : ∃ fs fd, P.underlying T = some (.struct fs) ∧ fs[f]? = some fd ∧ Sc P fd.type) (hv : l[off]? = some v) : (execOp ρ ⟨d, .field T x f, ty, pos, af, g⟩).run P W = .ok (.value v) W := by
  obtain ⟨fs, fd, i, h1, h2, rfl, h4, h5⟩ := hF
  obtain ⟨fs', fd', h6, h7, h8⟩ := hS
  rw [h1] at h6; cases h6
  rw [h2] at h7; cases h7
  unfold execOp
  simp only [Instr.field, hx, Sem.run_bind, run_underlying h1, Result.andThen_ok, h2, asAgg, Sem.run_pure, part, isAgg_sc h8]
  simp [hv]

/-! ### Numbers -/
theorem rbin {op : BinOp} {t1 t2 : TypeId} {k : IntKind} {m n z : Int} (ho : ∀ W, (binOp op t1 (.int k m) (.int k n)).run P W = .ok (.int k z) W) (hx : ρ x = .int k m) (hy : ρ y = .int k n) :
    (execOp ρ ⟨d, .binOp op t1 x y t2, ty, pos, af, g⟩).run P W = .ok (.value (.int k z)) W := by
  have hg : ∀ W, (eqGuard op t1 x y (.int k m) (.int k n)).run P W = .ok () W := fun W => by unfold eqGuard; cases op <;> simp
  unfold execOp
  simp only [hx, hy, Sem.run_bind, hg, Result.andThen_ok, ho, Sem.run_pure]
theorem bAdd {t : TypeId} {k : IntKind} {m n z : Int} (hz : k.wrap (m + n) = z) : ∀ W, (binOp .add t (.int k m) (.int k n)).run P W = .ok (.int k z) W := fun W => by subst hz; simp [binOp, Op.intArith]
theorem bSub {t : TypeId} {k : IntKind} {m n z : Int} (hz : k.wrap (m - n) = z) : ∀ W, (binOp .sub t (.int k m) (.int k n)).run P W = .ok (.int k z) W := fun W => by subst hz; simp [binOp, Op.intArith]
theorem bMul {t : TypeId} {k : IntKind} {m n z : Int} (hz : k.wrap (m * n) = z) : ∀ W, (binOp .mul t (.int k m) (.int k n)).run P W = .ok (.int k z) W := fun W => by subst hz; simp [binOp, Op.intArith]
theorem bQuo {t : TypeId} {k : IntKind} {m n z : Int} (hn : n ≠ 0) (hz : k.wrap (m.tdiv n) = z) : ∀ W, (binOp .quo t (.int k m) (.int k n)).run P W = .ok (.int k z) W := fun W => by subst hz; simp [binOp, Op.intDiv, hn]
theorem bRem {t : TypeId} {k : IntKind} {m n z : Int} (hn : n ≠ 0) (hz : m.tmod n = z) : ∀ W, (binOp .rem t (.int k m) (.int k n)).run P W = .ok (.int k z) W := fun W => by subst hz; simp [binOp, Op.intDiv, hn]
/-- Shifts: the count is of another kind. -/
theorem rshl {t1 t2 : TypeId} {k k2 : IntKind} {m z : Int} {n : Nat} (hx : ρ x = .int k m) (hy : ρ y = .int k2 (n : Int)) (hn : n ≤ k.bits) (hz : k.wrap (m * 2 ^ n) = z) :
    (execOp ρ ⟨d, .binOp .shl t1 x y t2, ty, pos, af, g⟩).run P W = .ok (.value (.int k z)) W := by
  have hg : ∀ W, (eqGuard .shl t1 x y (.int k m) (.int k2 (n : Int))).run P W = .ok () W := fun W => by unfold eqGuard; simp
  unfold execOp
  simp only [hx, hy, Sem.run_bind, hg, Result.andThen_ok]
  have h0 : ¬ ((n : Int) < 0) := by omega
  have h1 : min n k.bits = n := Nat.min_eq_left hn
  subst hz
  simp [binOp, Op.shift, h0, h1]
theorem rshr {t1 t2 : TypeId} {k k2 : IntKind} {m z : Int} {n : Nat} (hx : ρ x = .int k m) (hy : ρ y = .int k2 (n : Int)) (hn : n ≤ k.bits) (hz : m.fdiv (2 ^ n) = z) :
    (execOp ρ ⟨d, .binOp .shr t1 x y t2, ty, pos, af, g⟩).run P W = .ok (.value (.int k z)) W := by
  have hg : ∀ W, (eqGuard .shr t1 x y (.int k m) (.int k2 (n : Int))).run P W = .ok () W := fun W => by unfold eqGuard; simp
  unfold execOp
  simp only [hx, hy, Sem.run_bind, hg, Result.andThen_ok]
  have h0 : ¬ ((n : Int) < 0) := by omega
  have h1 : min n k.bits = n := Nat.min_eq_left hn
  subst hz
  simp [binOp, Op.shift, h0, h1]
theorem rcmp {op : BinOp} {t1 t2 : TypeId} {k : IntKind} {m n : Int} {t : Bool} (ho : ∀ W, (Op.intCmp op m n).run P W = .ok (.bool t) W) (hop : (match op with | .eql | .neq | .lss | .leq | .gtr | .geq => true | _ => false) = true) (hx : ρ x = .int k m) (hy : ρ y = .int k n) :
    (execOp ρ ⟨d, .binOp op t1 x y t2, ty, pos, af, g⟩).run P W = .ok (.value (.bool t)) W := by
  have hg : ∀ W, (eqGuard op t1 x y (.int k m) (.int k n)).run P W = .ok () W := fun W => by unfold eqGuard; cases op <;> simp
  unfold execOp
  simp only [hx, hy, Sem.run_bind, hg, Result.andThen_ok]
  cases op <;> simp_all [binOp]
theorem cLt {m n : Int} {t : Bool} (h : decide (m < n) = t) : ∀ W, (Op.intCmp .lss m n).run P W = .ok (.bool t) W := fun W => by subst h; rfl
theorem cLe {m n : Int} {t : Bool} (h : decide (m ≤ n) = t) : ∀ W, (Op.intCmp .leq m n).run P W = .ok (.bool t) W := fun W => by subst h; rfl
theorem cGt {m n : Int} {t : Bool} (h : decide (n < m) = t) : ∀ W, (Op.intCmp .gtr m n).run P W = .ok (.bool t) W := fun W => by subst h; rfl
theorem cGe {m n : Int} {t : Bool} (h : decide (n ≤ m) = t) : ∀ W, (Op.intCmp .geq m n).run P W = .ok (.bool t) W := fun W => by subst h; rfl
theorem cEq {m n : Int} {t : Bool} (h : decide (m = n) = t) : ∀ W, (Op.intCmp .eql m n).run P W = .ok (.bool t) W := fun W => by
  subst h; simp only [Op.intCmp, Sem.run_pure]; rfl
theorem cNe {m n : Int} {t : Bool} (h : decide (m ≠ n) = t) : ∀ W, (Op.intCmp .neq m n).run P W = .ok (.bool t) W := fun W => by
  subst h; simp only [Op.intCmp, Sem.run_pure]; congr 3; exact Bool.eq_iff_iff.2 (by simp)
theorem rbeq {t1 t2 : TypeId} {s t q : Bool} (hB : P.underlying t1 = some .bool) (hx : ρ x = .bool s) (hy : ρ y = .bool t) (hq : (s == t) = q) : (execOp ρ ⟨d, .binOp .eql t1 x y t2, ty, pos, af, g⟩).run P W = .ok (.value (.bool q)) W := by
  subst hq; unfold execOp
  simp [hx, hy, eqGuard, run_eql_bool W t1 s t hB]
theorem rbne {t1 t2 : TypeId} {s t q : Bool} (hB : P.underlying t1 = some .bool) (hx : ρ x = .bool s) (hy : ρ y = .bool t) (hq : (!(s == t)) = q) : (execOp ρ ⟨d, .binOp .neq t1 x y t2, ty, pos, af, g⟩).run P W = .ok (.value (.bool q)) W := by
  subst hq; unfold execOp
  simp [hx, hy, eqGuard, run_neq_bool W t1 s t hB]
/-- A slice against nil. -/
theorem rsnil {t1 t2 : TypeId} {a : Option Addr} {n c : Nat} (hB : Sl P t1 e) (hx : ρ x = .slice a n c) (hy : ρ y = .slice none 0 0) : (execOp ρ ⟨d, .binOp .eql t1 x y t2, ty, pos, af, g⟩).run P W = .ok (.value (.bool a.isNone)) W := by
  unfold execOp
  have h : (binOp .eql t1 (.slice a n c) (.slice none 0 0)).run P W = .ok (.bool a.isNone) W := by
    simp only [binOp, Sem.run_bind, run_equal_slice_nil W t1 e a n c hB, Result.andThen_ok, Sem.run_pure]
  simp [hx, hy, eqGuard, h]
theorem rnot {t1 : TypeId} {s q : Bool} (hx : ρ x = .bool s) (hq : (!s) = q) : (execOp ρ ⟨d, .unOp .not t1 x, ty, pos, af, g⟩).run P W = .ok (.value (.bool q)) W := by
  subst hq; unfold execOp; simp [hx, Op.unary]
theorem rneg {t1 : TypeId} {k : IntKind} {m z : Int} (hx : ρ x = .int k m) (hz : k.wrap (0 - m) = z) : (execOp ρ ⟨d, .unOp .neg t1 x, ty, pos, af, g⟩).run P W = .ok (.value (.int k z)) W := by
  subst hz; unfold execOp; simp [hx, Op.unary, Op.intArith]
theorem rcv {t1 t2 : TypeId} {k k' : IntKind} {m z : Int} {u1 : TypeDesc} (h1 : P.underlying t1 = some u1) (h2 : P.underlying t2 = some (.int k')) (hx : ρ x = .int k m) (hz : k'.wrap m = z) : (execOp ρ ⟨d, .convert t1 t2 x, ty, pos, af, g⟩).run P W = .ok (.value (.int k' z)) W := by
  subst hz; unfold execOp
  simp only [hx, convert, Sem.run_bind, run_underlying h1, run_underlying h2, Result.andThen_ok]
  cases u1 <;> simp [Conv.intToInt]

theorem rmk1 {fn : Fn} (hx : ρ x = v) : (execOp ρ ⟨d, .makeFunc fn #[] #[x], ty, pos, af, g⟩).run P W = .ok (.value (.func fn #[] #[v])) W := by unfold execOp; simp [Instr.makeFunc, hx]
theorem rmk2 {fn : Fn} (hx : ρ x = v) (hy : ρ y = u) : (execOp ρ ⟨d, .makeFunc fn #[] #[x, y], ty, pos, af, g⟩).run P W = .ok (.value (.func fn #[] #[v, u])) W := by unfold execOp; simp [Instr.makeFunc, hx, hy]
theorem rmk3 {fn : Fn} {z : Operand} {u3 : Value} (hx : ρ x = v) (hy : ρ y = u) (hz : ρ z = u3) : (execOp ρ ⟨d, .makeFunc fn #[] #[x, y, z], ty, pos, af, g⟩).run P W = .ok (.value (.func fn #[] #[v, u, u3])) W := by unfold execOp; simp [Instr.makeFunc, hx, hy, hz]

/-! ### Slices -/
theorem rlen {T1 : TypeId} {a : Option Addr} {n c : Nat} (hS : Sl P T1 e) (hx : ρ x = .slice a n c) : (execOp ρ ⟨d, .call ⟨.builtin .len, #[x], #[T1]⟩, ty, pos, af, g⟩).run P W = .ok (.value (.int .i64 (n : Int))) W := by
  unfold execOp
  simp [resolve, invoke, builtin, Builtin.len_, hx, run_underlying hS, goInt]
theorem rmax {T1 T2 : TypeId} {k : IntKind} {m n z : Int} (hx : ρ x = .int k m) (hy : ρ y = .int k n) (hz : max m n = z) : (execOp ρ ⟨d, .call ⟨.builtin .max, #[x, y], #[T1, T2]⟩, ty, pos, af, g⟩).run P W = .ok (.value (.int k z)) W := by
  subst hz; unfold execOp
  simp [resolve, invoke, builtin, Builtin.max_, Builtin.max2, hx, hy]
  split <;> omega
theorem rmin {T1 T2 : TypeId} {k : IntKind} {m n z : Int} (hx : ρ x = .int k m) (hy : ρ y = .int k n) (hz : min m n = z) : (execOp ρ ⟨d, .call ⟨.builtin .min, #[x, y], #[T1, T2]⟩, ty, pos, af, g⟩).run P W = .ok (.value (.int k z)) W := by
  subst hz; unfold execOp
  simp [resolve, invoke, builtin, Builtin.min_, Builtin.min2, hx, hy]
  split <;> omega
def adr (a : Option Addr) (i : Int) (s : Nat) : Addr := match a with | some p => p.add (i.toNat * s) | none => ⟨0, 0, none⟩
theorem rix {a : Option Addr} {n c s : Nat} {k : IntKind} {i : Int} (hS : Sl P T e) (hs : Sz P e s) (hx : ρ x = .slice a n c) (hy : ρ y = .int k i) (h0 : 0 ≤ i) (h1 : i < n) (ha : a.isSome = true) :
    (execOp ρ ⟨d, .indexAddr T x y, ty, pos, af, g⟩).run P W = .ok (.value (.pointer (some (adr a i s)))) W := by
  obtain ⟨p, rfl⟩ := Option.isSome_iff_exists.1 ha
  unfold execOp
  simp [Instr.indexAt, hx, hy, asIntOf, run_underlying hS, h0, h1, sizeOf_sz hs, adr]
/-- The address of an element of an array in a block. -/
theorem rixa {n s : Nat} {k : IntKind} {i : Nat} (hS : P.underlying T = some (.array n e)) (hs : Sz P e s) (hx : ρ x = .pointer (some ⟨b, o, none⟩)) (hy : ρ y = .int k (i : Int)) (h1 : i < n) :
    (execOp ρ ⟨d, .indexAddr T x y, ty, pos, af, g⟩).run P W = .ok (.value (.pointer (some ⟨b, o + i * s, none⟩))) W := by
  unfold execOp
  have : (0 : Int) ≤ (i : Int) ∧ (i : Int) < (n : Int) := ⟨by omega, by omega⟩
  simp [Instr.indexAt, Instr.sureAddr, hx, hy, asIntOf, run_underlying hS, this, sizeOf_sz hs, addO]
  intro hh; omega
/-- x[l:h] -/
theorem rslg {a : Option Addr} {n c s : Nat} {low high : Option Operand} {l h : Nat} (hS : Sl P T e) (hs : Sz P e s) (hx : ρ x = .slice a n c) (hb : (Instr.sliceBounds true n c (low.map ρ) (high.map ρ) none).run P W = .ok (l, h, c) W) (hm : (if c = l then a else a.map (·.add (l * s))) = ad') (hn : h - l = n') (hc : c - l = c') :
    (execOp ρ ⟨d, .slice T x low high none, ty, pos, af, g⟩).run P W = .ok (.value (.slice ad' n' c')) W := by
  subst hm hn hc; unfold execOp
  simp only [Instr.sliceAt, hx, Sem.run_bind, run_underlying hS, Result.andThen_ok, Option.map_none, Instr.slice, hb, sizeOf_sz hs, Sem.run_pure]
theorem sb_h {n c m : Nat} {k : IntKind} (h1 : m ≤ c) : (Instr.sliceBounds true n c none (some (.int k (m : Int))) none).run P W = .ok (0, m, c) W := by
  have : (0 : Int) ≤ (m : Int) ∧ (m : Int) ≤ (c : Int) := ⟨by omega, by omega⟩
  simp [Instr.sliceBounds, Instr.sliceBound, asIntOf, this]
  intro hh; omega
theorem sb_lh {n c l m : Nat} {k k' : IntKind} (h0 : l ≤ m) (h1 : m ≤ c) : (Instr.sliceBounds true n c (some (.int k (l : Int))) (some (.int k' (m : Int))) none).run P W = .ok (l, m, c) W := by
  have : (0 : Int) ≤ (m : Int) ∧ (m : Int) ≤ (c : Int) := ⟨by omega, by omega⟩
  have : (0 : Int) ≤ (l : Int) ∧ (l : Int) ≤ (m : Int) := ⟨by omega, by omega⟩
  have h2 : ¬ c < m := by omega
  have h3 : ¬ m < l := by omega
  simp [Instr.sliceBounds, Instr.sliceBound, asIntOf, h0, h1]
end
end Go.Proofs.YtknbjfefeeojlaaGreat
/- The steps of a walk. -/
namespace Go.Proofs.YtknbjfefeeojlaaGreat
open Go.RowKit
section
variable {r : Option Nat} {P : Program} {N : Nat} {ops : Array Oper} {R : Env → World → Prop} {l : List Oper} {E : Env} {W W' : World} {d : Option Tmp} {t : Tmp} {op : Op} {ty T : TypeId} {pos : String} {af : Array Edge} {v : Value}

/-! ### One operation after the other -/
theorem vnil (h : R E W) : RV r P ops R [] E W := h
theorem vv (hr : (execOp (ev E) ⟨some t, op, ty, pos, af, none⟩).run P W = .ok (.value v) W') (k : RV r P ops R l (up E t v) W') : RV r P ops R (⟨some t, op, ty, pos, af, none⟩ :: l) E W := by
  unfold RV
  rw [if_pos (by rfl)]
  unfold OpF
  rw [hr]; exact k
/-- A call, or whatever is not run to its end at once. -/
theorem vo (h : OpF r P (ev E) ⟨d, op, ty, pos, af, none⟩ W fun v W' => RV r P ops R l (puto E d v) W') : RV r P ops R (⟨d, op, ty, pos, af, none⟩ :: l) E W := by
  unfold RV
  rw [if_pos (by rfl)]; exact h
/-- The guard says yes. -/
theorem vg {j : Nat} {want : Bool} (hg : yE ops E j = some want) (k : RV r P ops R (⟨d, op, ty, pos, af, none⟩ :: l) E W) : RV r P ops R (⟨d, op, ty, pos, af, some (j, want)⟩ :: l) E W := by
  unfold RV at k ⊢
  rw [if_pos (by rfl)] at k
  rw [if_pos (by simp [wE, Region.wanted, hg])]; exact k
/-- The guard says no. -/
theorem vgn {j : Nat} {want b : Bool} (hg : yE ops E j = some b) (hb : (b == want) = false) (k : RV r P ops R l (puto E d undef) W) : RV r P ops R (⟨d, op, ty, pos, af, some (j, want)⟩ :: l) E W := by
  unfold RV
  have : wE ops ⟨d, op, ty, pos, af, some (j, want)⟩ E = false := by
    simp only [wE, Region.wanted, hg]
    cases b <;> cases want <;> simp_all
  rw [if_neg (by rw [this]; simp)]; exact k
/-- The guard's own operation was passed over. -/
theorem vgu {j : Nat} {want : Bool} (hg : yE ops E j = none) (k : RV r P ops R l (puto E d undef) W) : RV r P ops R (⟨d, op, ty, pos, af, some (j, want)⟩ :: l) E W := by
  unfold RV
  have : wE ops ⟨d, op, ty, pos, af, some (j, want)⟩ E = false := by simp [wE, Region.wanted, hg]
  rw [if_neg (by rw [this]; simp)]; exact k

/-! ### In a region that draws its order -/
section
variable {S : World → Prop} {fuel i : Nat} {listed : Array Bool} {oi : Oper}
theorem tk {g : Option (Nat × Bool)} (i : Nat) (hi : ops[i]? = some ⟨some t, op, ty, pos, af, g⟩) (hf : (Region.noSelect ops && Region.free .any ops listed i && (Region.ready .any ops listed).contains i) = true) (hS : S W) (hy : PureIf P ops S ⟨some t, op, ty, pos, af, g⟩ v E)
    (k : VH r P ops S R fuel (listed.setIfInBounds i true) (up E t v) W) : VH r P ops S R (fuel + 1) listed E W := by
  simp only [Bool.and_eq_true] at hf
  exact VH.first hi (Region.noSelect_spec hf.1.1) (.inr trivial) fuel listed E W (Region.free_spec hi hf.1.2) (by simpa using hf.2) hy hS k
theorem pv (hr : ∀ W, S W → (execOp (ev E) ⟨d, op, ty, pos, af, none⟩).run P W = .ok (.value v) W) : PureIf P ops S ⟨d, op, ty, pos, af, none⟩ v E := .inl ⟨rfl, hr⟩
theorem pg {j : Nat} {want : Bool} (hg : yE ops E j = some want) (hr : ∀ W, S W → (execOp (ev E) ⟨d, op, ty, pos, af, some (j, want)⟩).run P W = .ok (.value v) W) : PureIf P ops S ⟨d, op, ty, pos, af, some (j, want)⟩ v E :=
  .inl ⟨by simp [wE, Region.wanted, hg], hr⟩
theorem pgn {j : Nat} {want b : Bool} (hg : yE ops E j = some b) (hb : (b == want) = false) : PureIf P ops S ⟨d, op, ty, pos, af, some (j, want)⟩ undef E :=
  .inr ⟨by simp only [wE, Region.wanted, hg]; cases b <;> cases want <;> simp_all, rfl⟩
theorem ef (i : Nat) (hr : Region.ready .any ops listed = [i]) (hi : ops[i]? = some ⟨d, op, ty, pos, af, none⟩) (h : OpF r P (ev E) ⟨d, op, ty, pos, af, none⟩ W fun v W' => (lastOp ops i = false → S W') ∧ VH r P ops S R fuel (listed.setIfInBounds i true) (puto E d v) W') : VH r P ops S R (fuel + 1) listed E W := by
  refine ⟨fun h0 => (by rw [hr] at h0; cases h0), fun j hj => ?_⟩
  rw [hr] at hj
  obtain rfl : j = i := by simpa using hj
  unfold opI
  simp only [hi]
  rw [if_pos (by rfl)]; exact h
theorem dn (hr : Region.ready .any ops listed = []) (h : R E W) : VH r P ops S R fuel listed E W := by
  cases fuel with
  | zero => exact ⟨hr, h⟩
  | succ n => exact ⟨fun _ => h, by rw [hr]; simp⟩
end

/-! ### Effects: for 'vo' and 'ef' -/
section
variable {ρ : Operand → Value} {K : Value → World → Prop} {g : Option (Nat × Bool)} {argTypes : Array TypeId} {f : Nat}
theorem xv (hr : (execOp ρ ⟨d, op, ty, pos, af, g⟩).run P W = .ok (.value v) W') (k : K v W') : OpF r P ρ ⟨d, op, ty, pos, af, g⟩ W K := by unfold OpF; rw [hr]; exact k
theorem xu (hr : (execOp ρ ⟨d, op, ty, pos, af, g⟩).run P W = .ok .skip W') (k : K undef W') : OpF r P ρ ⟨d, op, ty, pos, af, g⟩ W K := by unfold OpF; rw [hr]; exact k
/-- The function has a body that is entered. -/
def Ent (P : Program) (f : Nat) : Prop := ∀ args w, (callFunc f args).run P w = .ok (.enter f args) w
theorem xcall {args : Array Operand} {vs : List Value} {Rc : Ending → World → Prop} {x : Operand} {cap : Array Value} (he : Ent P f) (hc : Calls P f vs.toArray W Rc) (hx : ρ x = .func (.func f) #[] cap) (ha : args.toList.map ρ ++ cap.toList = vs) (k : ∀ e W', Rc e W' → ∃ v, e = .returned v ∧ K v W') :
    OpF r P ρ ⟨d, .call ⟨.value x, args, argTypes⟩, ty, pos, af, g⟩ W K := by
  unfold OpF execOp
  subst ha
  have h0 : (args.map ρ) ++ cap = (args.toList.map ρ ++ cap.toList).toArray := by apply Array.ext'; simp
  simp only [resolve, hx, Deferred.ofValue, Sem.run_bind, Sem.run_pure, Result.andThen_ok, invoke, Array.empty_append, he _ _, h0]
  exact hc.mono k
end
end

/-! ### A function, from its body -/
section
variable {P : Program} {N : Nat} {E : Env} {W W' : World} {Rr : Ending → World → Prop} {fn : Func}
def nth : List Value → Nat → Value
  | [], _ => undef
  | v :: _, 0 => v
  | _ :: l, n + 1 => nth l n
def ini (l : List Value) : Env := nth l
theorem nth_getD : ∀ (l : List Value) (t : Nat), nth l t = l.getD t undef
  | [], t => by simp [nth]
  | v :: l, 0 => by simp [nth]
  | v :: l, t + 1 => by simp [nth, nth_getD l t]
/-- The results are these. -/
def Res (P : Program) (E : Env) (W : World) : List ResultVar → List Value → Prop
  | [], [] => True
  | .tmp t :: rs, v :: vs => E t = v ∧ Res P E W rs vs
  | .cell t T :: rs, v :: vs => (∃ a, E t = .pointer (some a) ∧ (loadVar T a).run P W = .ok v W) ∧ Res P E W rs vs
  | _, _ => False
def one : List Value → Value
  | [v] => v
  | vs => .tuple vs.toArray
def mark (D : Nat) : Deferred := { target := .collected D, args := #[] }
def Lv (P : Program) (fn : Func) (Rr : Ending → World → Prop) (E : Env) : List Deferred → World → Prop
  | [], W => ∃ vs, Res P E W fn.results.toList vs ∧ Rr (.returned (one vs)) W
  | d :: ds, W => ∃ D, d = mark D ∧ W.heap[D]? = some (.deferred (some [])) ∧ Lv P fn Rr E ds (W.putObj D (.deferred none))
def endQ (P : Program) (fn : Func) (Rr : Ending → World → Prop) : EQ
  | .normal, E, ds, W => Lv P fn Rr E ds W
  | .ret, E, ds, W => Lv P fn Rr E ds W
  | _, _, _, _ => False
def rdF (tmps : Array Value) : ResultVar → Sem Value
  | .tmp t => pure (tmps.getD t undef)
  | .cell b t => do loadVar t (← asAddr (tmps.getD b undef))
theorem results_res {a : Act} (hrep : Rep N a E) : ∀ (rs : List ResultVar) (vs : List Value), Res P E W rs vs → (rs.mapM (rdF a.tmps)).run P W = .ok vs W
  | [], [], _ => by simp
  | .tmp t :: rs, v :: vs, h => by
    have ih := results_res hrep rs vs h.2
    have h0 : (rdF a.tmps (.tmp t)).run P W = .ok v W := by simp only [rdF, hrep.get, h.1, Sem.run_pure]
    simp only [List.mapM_cons, Sem.run_bind, Sem.run_pure, Result.andThen_ok, h0, ih]
  | .cell t T :: rs, v :: vs, h => by
    have ih := results_res hrep rs vs h.2
    obtain ⟨⟨b, ha, hl⟩, _⟩ := h
    have h0 : (rdF a.tmps (.cell t T)).run P W = .ok v W := by simp only [rdF, hrep.get, ha, asAddr, Sem.run_bind, Sem.run_pure, Result.andThen_ok, hl]
    simp only [List.mapM_cons, Sem.run_bind, Sem.run_pure, Result.andThen_ok, h0, ih]
  | [], _ :: _, h => h.elim
  | .tmp _ :: _, [], h => h.elim
  | .cell _ _ :: _, [], h => h.elim
theorem one_eq (vs : List Value) : (if h : vs.toArray.size = 1 then vs.toArray[0] else Value.tuple vs.toArray) = one vs := by
  match vs with
  | [] => simp [one]
  | [v] => simp [one]
  | _ :: _ :: _ => simp [one]
theorem Lv.leaves {a : Act} (hrep : Rep N a E) : ∀ (ds : List Deferred) (W : World), Lv P fn Rr E ds W → LeavesInM (fen none) 0 P fn a.tmps Rr ds .returning W
  | [], W, h => by
    obtain ⟨vs, h1, h2⟩ := h
    refine ⟨one vs, ?_, h2⟩
    have h3 := results_res hrep _ _ h1
    have h4 : results fn a.tmps = (do let vs ← fn.results.mapM (rdF a.tmps); pure (if h : vs.size = 1 then vs[0] else .tuple vs)) := by
      unfold results
      congr 1
    rw [h4, Array.mapM_eq_mapM_toList, ← bind_pure_comp]
    simp only [Sem.run_bind, h3, Result.andThen_ok, Sem.run_pure]
    rw [one_eq]
  | d :: ds, W, h => by
    obtain ⟨D, rfl, hD, hr⟩ := h
    exact ⟨by simp, .inl ⟨D, _, rfl, run_takeDeferred hD, Lv.leaves hrep ds _ hr⟩⟩
theorem enter {f : FuncId} {c : Code} {args : List Value} (hf : P.funcs[f]? = some fn) (hb : fn.body = some c) (hN : fn.ntmps = N) (hl : args.length ≤ N) (h : V none P N [] c (endQ P fn Rr) (ini args) W) : Calls P f args.toArray W Rr := by
  refine (callsIn_wide (n := 0)).1 (callsIn_of_wp_marks (F := fen none) hf hb trivial ?_ rfl)
  have hrep : Rep N { tmps := args.toArray ++ Array.replicate (fn.ntmps - args.toArray.size) undef, defers := [] } (ini args) := by
    refine ⟨by simp [hN]; omega, fun t => ?_⟩
    unfold ini
    rw [nth_getD]
    simp only [Array.getD_eq_getD_getElem?, List.getD_eq_getElem?_getD, Array.getElem?_append, List.size_toArray, List.getElem?_toArray]
    by_cases ht : t < args.length
    · simp [ht]
    · simp only [ht, if_false, List.getElem?_eq_none (Nat.le_of_not_lt ht), Option.getD_none, Array.getElem?_replicate]
      split <;> rfl
  refine wpIn_mono (h _ hrep rfl) ?_
  rintro x a' W' ⟨E', h1, h2⟩
  cases x with
  | normal => exact Lv.leaves h1 _ _ h2
  | ret => exact Lv.leaves h1 _ _ h2
  | _ => exact h2.elim

/-! ### What a result's cell holds -/
theorem lv1 {b o : Nat} {cs : List Value} {T T' : TypeId} {v : Value} (hT : Sc P T) (hb : BoxAt W b cs T') (hc : cs[o]? = some v) : (loadVar T ⟨b, o, none⟩).run P W = .ok v W := by
  simp [loadVar, isAgg_sc hT, run_load, hb.cell o hc]
theorem lvn {b o n : Nat} {cs vs : List Value} {T T' : TypeId} (hT : Ag P T n) (hb : BoxAt W b cs T') (hn : vs.length = n) (hc : ∀ j u, vs[j]? = some u → cs[o + j]? = some u) : (loadVar T ⟨b, o, none⟩).run P W = .ok (.agg vs.toArray) W := by
  subst hn
  simp only [loadVar, Sem.run_bind, isAgg_ag hT, Result.andThen_ok, if_true, sizeOf_sz hT.sz, run_loadCells_list W ⟨b, o, none⟩ vs (fun j u hj => by rw [addO]; exact hb.cell _ (hc j u hj)), Sem.run_pure]
/-- The whole block. -/
theorem lvb {b n : Nat} {vs : List Value} {T T' : TypeId} (hT : Ag P T n) (hb : BoxAt W b vs T') (hn : vs.length = n) : (loadVar T ⟨b, 0, none⟩).run P W = .ok (.agg vs.toArray) W :=
  lvn hT hb hn fun j u hj => by rw [Nat.zero_add]; exact hj

/-! ### A range over a function -/
/-- Blocks below B, and blocks of cells, are as they were. -/
structure Tn (B : Nat) (X Y : World) : Prop where
  os : Y.os = X.os
  tape : Y.tape = X.tape
  output : Y.output = X.output
  size : X.heap.size ≤ Y.heap.size
  block : ∀ (k : Nat) (o : Obj), X.heap[k]? = some o → (k < B ∨ o.isCells = true) → Y.heap[k]? = some o
theorem Tn.ck {B : Nat} {X Y : World} (h : Tn B X Y) (S : Nat → Prop) : CK S X Y := ⟨h.size, fun b cs T fz _ hb => h.block b _ hb (.inr rfl)⟩
theorem Tn.of_ext {X Y : World} (h : Ext X Y) (B : Nat) : Tn B X Y := ⟨h.os, h.tape, h.output, h.size, fun k o hk _ => (h.block k (Array.getElem?_eq_some_iff.1 hk).1).trans hk⟩
theorem Tn.trans {B : Nat} {X Y Z : World} (h : Tn B X Y) (k : Tn B Y Z) : Tn B X Z := ⟨k.os.trans h.os, k.tape.trans h.tape, k.output.trans h.output, Nat.le_trans h.size k.size, fun i o hi ho => k.block i o (h.block i o hi ho) ho⟩
theorem Tn.below {B B' : Nat} {X Y : World} (h : Tn B X Y) (hB : B' ≤ B) (hX : B' ≤ X.heap.size) : Below B' X Y :=
  ⟨h.os, h.tape, h.output, h.size, fun k hk => by
    have hlt : k < X.heap.size := by omega
    rw [h.block k X.heap[k] (by simp [hlt]) (.inl (by omega))]; simp [hlt]⟩
theorem Tn.ext {B : Nat} {w X Y : World} (h : Tn B X Y) (hx : Ext w X) (hB : w.heap.size ≤ B) : Ext w Y := hx.below (h.below hB hx.size)
theorem Tn.putObj {B l : Nat} {X : World} {o : Obj} (o' : Obj) (hl : X.heap[l]? = some o) (hB : B ≤ l) (ho : o.isCells = false) : Tn B X (X.putObj l o') :=
  ⟨rfl, rfl, rfl, by simp, fun k o2 hk hc => by
    by_cases e : k = l
    · subst e; rw [hl] at hk; cases hk
      rcases hc with h | h
      · omega
      · rw [ho] at h; cases h
    · exact (World.putObj_heap_other e).trans hk⟩
theorem BoxAt.tn {B b : Nat} {X Y : World} {cs : List Value} {T : TypeId} (h : BoxAt X b cs T) (k : Tn B X Y) : BoxAt Y b cs T := k.block b _ h (.inr rfl)
/-- What D names is as it was. -/
structure KD (D : Nat → Prop) (X Y : World) : Prop where
  os : Y.os = X.os
  tape : Y.tape = X.tape
  output : Y.output = X.output
  size : X.heap.size ≤ Y.heap.size
  block : ∀ k, D k → k < X.heap.size → Y.heap[k]? = X.heap[k]?
theorem KD.refl (D : Nat → Prop) (X : World) : KD D X X := ⟨rfl, rfl, rfl, Nat.le_refl _, fun _ _ _ => rfl⟩
theorem KD.trans {D : Nat → Prop} {X Y Z : World} (h : KD D X Y) (k : KD D Y Z) : KD D X Z := ⟨k.os.trans h.os, k.tape.trans h.tape, k.output.trans h.output, Nat.le_trans h.size k.size, fun i hi hl => (k.block i hi (Nat.lt_of_lt_of_le hl h.size)).trans (h.block i hi hl)⟩
theorem Below.kd {B : Nat} {D : Nat → Prop} {X Y : World} (h : Below B X Y) (hD : ∀ k, D k → k < X.heap.size → k < B) : KD D X Y := ⟨h.os, h.tape, h.output, h.size, fun k hk hl => h.block k (hD k hk hl)⟩
theorem Ext.kd {D : Nat → Prop} {X Y : World} (h : Ext X Y) : KD D X Y := Below.kd h fun _ _ h => h
theorem Wr.kd {D : Nat → Prop} {b : Nat} {X Y : World} (h : Wr b X Y) (hb : ¬ D b) : KD D X Y := ⟨h.os, h.tape, h.output, Nat.le_of_eq h.size.symm, fun k hk _ => h.block k (fun e => hb (e ▸ hk))⟩
theorem Tn.kd {B : Nat} {D : Nat → Prop} {X Y : World} (h : Tn B X Y) (hD : ∀ k, D k → k < B) : KD D X Y := ⟨h.os, h.tape, h.output, h.size, fun k hk hl => by
  rw [h.block k X.heap[k] (by simp [hl]) (.inl (hD k hk))]; simp [hl]⟩
theorem KD.ck {D : Nat → Prop} {X Y : World} (h : KD D X Y) : CK D X Y := ⟨h.size, fun b cs T fz hs hb => (h.block b hs (Array.getElem?_eq_some_iff.1 hb).1).trans hb⟩
theorem KD.below {B : Nat} {D : Nat → Prop} {X Y : World} (h : KD D X Y) (hB : ∀ k, k < B → D k) (hs : B ≤ X.heap.size) : Below B X Y := ⟨h.os, h.tape, h.output, h.size, fun k hk => h.block k (hB k hk) (by omega)⟩
theorem KD.mono {D D' : Nat → Prop} {X Y : World} (h : KD D X Y) (hD : ∀ k, D' k → D k) : KD D' X Y := ⟨h.os, h.tape, h.output, h.size, fun k hk => h.block k (hD k hk)⟩
theorem BoxAt.kd {D : Nat → Prop} {X Y : World} {b : Nat} {cs : List Value} {T : TypeId} (h : BoxAt X b cs T) (k : KD D X Y) (hb : D b) : BoxAt Y b cs T := (k.block b hb h.lt).trans h
/-- What a round may do: the loop's own records and what D names are as they were. -/
def Kf (B : Nat) (D : Nat → Prop) (X Y : World) : Prop := KeepsFrom B X Y ∧ KD D X Y
theorem Kf.refl (B : Nat) (D : Nat → Prop) (X : World) : Kf B D X X := ⟨KeepsFrom.refl _ _, KD.refl _ _⟩
theorem Kf.trans {B : Nat} {D : Nat → Prop} {X Y Z : World} (h : Kf B D X Y) (k : Kf B D Y Z) : Kf B D X Z := ⟨h.1.trans k.1, h.2.trans k.2⟩
theorem Kf.ext {B : Nat} {D : Nat → Prop} {X Y : World} (h : Ext X Y) : Kf B D X Y := ⟨⟨h.size, fun k o _ hk _ => (h.block k (Array.getElem?_eq_some_iff.1 hk).1).trans hk⟩, h.kd⟩
theorem Kf.wr {B b : Nat} {D : Nat → Prop} {X Y : World} {cs : List Value} {T : TypeId} (h : Wr b X Y) (hb : BoxAt X b cs T) (hn : ¬ D b) : Kf B D X Y :=
  ⟨⟨Nat.le_of_eq h.size.symm, fun k o _ hk ho => (h.block k (fun e => by subst e; unfold BoxAt at hb; rw [hb] at hk; cases hk; simp [Obj.isCells] at ho)).trans hk⟩, h.kd hn⟩
/-- A step that leaves all records and all that is below n as they were. -/
structure KB (n : Nat) (X Y : World) : Prop where
  below : Below n X Y
  recs : ∀ (k : Nat) (o : Obj), X.heap[k]? = some o → o.isCells = false → Y.heap[k]? = some o
theorem KB.refl (n : Nat) (X : World) : KB n X X := ⟨Below.refl _ _, fun _ _ h _ => h⟩
theorem KB.trans {n : Nat} {X Y Z : World} (h : KB n X Y) (k : KB n Y Z) : KB n X Z := ⟨Below.trans h.below k.below, fun i o hi ho => k.recs i o (h.recs i o hi ho) ho⟩
theorem KB.ext {n : Nat} {X Y : World} (h : Ext X Y) (hn : n ≤ X.heap.size) : KB n X Y := ⟨h.mono hn, fun k o hk _ => (h.block k (Array.getElem?_eq_some_iff.1 hk).1).trans hk⟩
theorem KB.wr {n b : Nat} {X Y : World} {cs : List Value} {T : TypeId} (h : Wr b X Y) (hb : BoxAt X b cs T) (hn : n ≤ b) : KB n X Y := ⟨h.below hn, fun k o hk ho => (h.block k (fun e => by subst e; unfold BoxAt at hb; rw [hb] at hk; cases hk; simp [Obj.isCells] at ho)).trans hk⟩
theorem KB.keeps {n : Nat} {X Y : World} (h : KB n X Y) (B : Nat) : KeepsFrom B X Y := ⟨h.below.size, fun k o _ hk ho => h.recs k o hk ho⟩
/-- The iterator calls yield M times, with these values, as long as each round goes on. -/
def Iter (P : Program) (gf : Nat) (lb : Array Value) (e1 e2 : Nat → Value) (D : Nat → Prop) (M : Nat) (w : World) : Prop :=
  ∀ (l : Nat) (J Jx : Nat → World → Prop) (X : World), Ext w X → (∀ i A B, J i A → Ext A B → J i B) → (∀ i A B, Jx i A → Ext A B → Jx i B) →
    (∀ i A, J i A → i < M → KD D w A → YieldAt Fence.wide 0 P l #[e1 i, e2 i] A fun e B =>
      (e = .returned (.bool true) ∧ J (i + 1) B ∧ KD D A B) ∨ (e = .returned (.bool false) ∧ Jx i B ∧ KD D A B)) → J 0 X →
    Calls P gf (#[.func (.yield l) #[] #[]] ++ lb) X fun e B => (∃ v, e = .returned v) ∧ (J M B ∨ ∃ i, i < M ∧ Jx i B)
def rndQ (B : Nat) (D : Nat → Prop) (I : Nat → World → Prop) (Ix : Code → Nat → World → Prop) (i : Nat) (X : World) : EQ
  | .normal, _, _, W => Kf B D X W ∧ I (i + 1) W
  | .ret, _, _, W => Kf B D X W ∧ Ix .ret i W
  | .exit id, _, _, W => Kf B D X W ∧ Ix (.exit id) i W
  | _, _, _, _ => False
def badQ : EQ := fun _ _ _ _ => False
theorem wpIn_depth {F : Fence} (hF : F.depth = none) {n m : Nat} {c : Code} {Q : Exit → Act → World → Prop} {a : Act} (h : c.wpIn F n P Q a W) : c.wpIn F m P Q a W :=
  fun b k cs hro hb _ => h b k cs hro hb (fun d hd => by rw [hF] at hd; cases hd)
theorem V.rf {g : Operand} {p1 p2 : Tmp} {assign body : Code} {ds : List Deferred} {Q : EQ} {gf : Nat} {lb : Array Value} (hg : ev E g = .func (.func gf) #[] lb) (eg : Ent P gf) {e1 e2 : Nat → Value} {D : Nat → Prop} {M : Nat} {w0 : World}
    (hseq : Iter P gf lb e1 e2 D M w0) (hb0 : Ext w0 W) (hD : ∀ k, D k → k < W.heap.size) (hp : (Nat.blt p1 N && Nat.blt p2 N) = true)
    (I : Nat → World → Prop) (Ix : Code → Nat → World → Prop)
    (hI : ∀ i X Y, I i X → Tn W.heap.size X Y → I i Y) (hIx : ∀ c i X Y, Ix c i X → Tn W.heap.size X Y → Ix c i Y) (h0 : I 0 W)
    (hround : ∀ l i X, I i X → i < M → KD D w0 X → W.heap.size ≤ X.heap.size → V (some l) P N [] assign (thenV (fun E' ds' Y => ds' = [] ∧ Kf W.heap.size D X Y ∧ ∀ Z, Tn W.heap.size Y Z → V (some l) P N [] body (rndQ W.heap.size D I Ix i Z) E' Z) badQ) (up (up E p1 (e1 i)) p2 (e2 i)) X)
    (hdone : ∀ D X, W.heap.size ≤ D → I M X → X.heap[D]? = some (.deferred (some [])) → W.heap.size ≤ X.heap.size → Q .normal E (mark D :: ds) X)
    (hstop : ∀ D c i X, W.heap.size ≤ D → i < M → Ix c i X → X.heap[D]? = some (.deferred (some [])) → W.heap.size ≤ X.heap.size → V none P N (mark D :: ds) c Q E X) :
    V none P N ds (.rangeFunc g #[p1, p2] assign body) Q E W := by
  intro a hrep hd
  simp only [Bool.and_eq_true] at hp
  refine wpIn_rangeFunc fun fn hfn => ?_
  obtain ⟨rec, hrec⟩ : ∃ rec : LoopState → Option Code → Loop, rec = fun st pe => { state := st, pending := pe, fn, tmps := a.tmps, params := #[p1, p2], assign, body, defers := W.heap.size } := ⟨_, rfl⟩
  obtain ⟨W1, hW1⟩ : ∃ W1, (W.alloc (.deferred (some []))).alloc (.loop (rec .ready none)) = W1 := ⟨_, rfl⟩
  have x1 : Ext W W1 := by rw [← hW1]; exact ((Ext.refl _).alloc _).alloc _
  have hL1 : W1.heap[W.heap.size + 1]? = some (.loop (rec .ready none)) := by
    rw [← hW1]; have := World.alloc_heap_new (W.alloc (.deferred (some []))) (.loop (rec .ready none)); rwa [World.size_alloc] at this
  have hK1 : W1.heap[W.heap.size]? = some (.deferred (some [])) := by
    rw [← hW1]; exact (Below.heap_alloc _ _ _ (by simp)).trans (World.alloc_heap_new W _)
  have keepL : ∀ {A B : World} {k : Nat} {o : Obj}, Ext A B → A.heap[k]? = some o → B.heap[k]? = some o := fun h hk => (h.block _ (Array.getElem?_eq_some_iff.1 hk).1).trans hk
  refine ⟨W.heap.size + 1, [mark W.heap.size], W1, { target := .fn (.func gf) lb, args := #[.func (.yield (W.heap.size + 1)) #[] #[]] }, W1, gf, #[.func (.yield (W.heap.size + 1)) #[] #[]] ++ lb, W1, ?_, ?_, fun _ _ => trivial, ?_, fun hx => by simp [fen, Fence.wide] at hx, ?_⟩
  · rw [← hW1, hrec]; exact run_enterLoop_outer _ _ _ _ _
  · rw [hrep.eval]
    simp only [resolve, hg]
    simp [go_sem]
    simp [ev]
  · simp [invoke, go_sem, eg _ _]
  refine callsIn_fen ((hseq (W.heap.size + 1)
    (fun i X => I i X ∧ W1.heap.size ≤ X.heap.size ∧ X.heap[W.heap.size + 1]? = some (.loop (rec .ready none)) ∧ X.heap[W.heap.size]? = some (.deferred (some [])))
    (fun i X => ∃ c, Ix c i X ∧ W1.heap.size ≤ X.heap.size ∧ X.heap[W.heap.size + 1]? = some (.loop (rec .done (some c))) ∧ X.heap[W.heap.size]? = some (.deferred (some [])))
    W1 (hb0.trans x1)
    (fun i A B h hx => ⟨hI i A B h.1 (Tn.of_ext hx _), Nat.le_trans h.2.1 hx.size, keepL hx h.2.2.1, keepL hx h.2.2.2⟩)
    (fun i A B h hx => by obtain ⟨c, h1, h2, h3, h4⟩ := h; exact ⟨c, hIx c i A B h1 (Tn.of_ext hx _), Nat.le_trans h2 hx.size, keepL hx h3, keepL hx h4⟩)
    ?_ ⟨hI _ _ _ h0 (Tn.of_ext x1 _), Nat.le_refl _, hL1, hK1⟩).mono ?_)
  · rintro i X ⟨hi, hsz, hl, hk⟩ hiM hkd
    have hWX : W.heap.size ≤ X.heap.size := Nat.le_trans x1.size hsz
    have hy := run_yield (P := P) (args := #[e1 i, e2 i]) hl (by rw [hrec]; rfl)
    rw [hrec] at hy
    refine ⟨fn, _, assign, body, hy, roundIn_of_wpIn hfn ?_⟩
    have hrep2 : Rep N { tmps := ((#[p1, p2] : Array Tmp).zip #[e1 i, e2 i]).foldl (fun tmps (t, a) => tmps.setIfInBounds t a) a.tmps, defers := [] } (up (up E p1 (e1 i)) p2 (e2 i)) := by
      have h1 := (hrep.put hp.1 (e1 i)).put hp.2 (e2 i)
      exact ⟨by have := h1.size; simpa [Act.put] using this, fun t => by have := h1.get t; simpa [Act.put] using this⟩
    refine wpIn_mono (hround (W.heap.size + 1) i X hi hiM hkd hWX _ hrep2 rfl) ?_
    rintro e a1 Y ⟨E', hr1, hq⟩
    cases e with
    | normal =>
      obtain ⟨hd1, hkf, hcont⟩ := hq
      have hlY := hkf.1.same _ _ (by omega) hl rfl
      have hkY := hkf.1.same _ _ (Nat.le_refl _) hk rfl
      have hltY : W.heap.size + 1 < Y.heap.size := (Array.getElem?_eq_some_iff.1 hlY).1
      refine ⟨_, run_beginRound hlY (by rw [hrec]), ?_⟩
      have tY := Tn.putObj (B := W.heap.size) (.loop { rec .ready none with state := .busy }) hlY (by omega) rfl
      have hl2 : (Y.putObj (W.heap.size + 1) (.loop { rec .ready none with state := .busy })).heap[W.heap.size + 1]? = some (.loop { rec .ready none with state := .busy }) := World.putObj_heap_same hltY
      have hk2 : (Y.putObj (W.heap.size + 1) (.loop { rec .ready none with state := .busy })).heap[W.heap.size]? = some (.deferred (some [])) := (World.putObj_heap_other (by omega)).trans hkY
      refine wpIn_mono (hcont _ tY a1 hr1 hd1) ?_
      have hbXY : KD D X (Y.putObj (W.heap.size + 1) (.loop { rec .ready none with state := .busy })) := hkf.2.trans (tY.kd hD)
      have fin : ∀ (jump : Option Code) (Z : World), Kf W.heap.size D (Y.putObj (W.heap.size + 1) (.loop { rec .ready none with state := .busy })) Z →
          (Instr.endRound (W.heap.size + 1) jump).run P Z = .ok (.bool jump.isNone) (Z.putObj (W.heap.size + 1) (.loop (rec (if jump.isNone then .ready else .done) jump))) ∧
          Tn W.heap.size Z (Z.putObj (W.heap.size + 1) (.loop (rec (if jump.isNone then .ready else .done) jump))) ∧ W1.heap.size ≤ (Z.putObj (W.heap.size + 1) (.loop (rec (if jump.isNone then .ready else .done) jump))).heap.size ∧
          (Z.putObj (W.heap.size + 1) (.loop (rec (if jump.isNone then .ready else .done) jump))).heap[W.heap.size + 1]? = some (.loop (rec (if jump.isNone then .ready else .done) jump)) ∧
          (Z.putObj (W.heap.size + 1) (.loop (rec (if jump.isNone then .ready else .done) jump))).heap[W.heap.size]? = some (.deferred (some [])) := fun jump Z hkZ => by
        have hl3 := hkZ.1.same _ _ (by omega) hl2 rfl
        have := run_endRound (P := P) jump hl3
        have hs1 := hkf.1.size
        have hs2 := hkZ.1.size
        simp only [World.putObj_size] at hs2
        rw [hrec] at this ⊢
        refine ⟨this, Tn.putObj _ hl3 (by omega) rfl, by simp; omega, World.putObj_heap_same (Array.getElem?_eq_some_iff.1 hl3).1, (World.putObj_heap_other (by omega)).trans (hkZ.1.same _ _ (Nat.le_refl _) hk2 rfl)⟩
      rintro e a3 Z ⟨E3, _, hp3⟩
      cases e with
      | normal =>
        obtain ⟨hkZ, hiZ⟩ := hp3
        obtain ⟨hr, t3, hs3, hl4, hk4⟩ := fin none Z hkZ
        exact ⟨_, _, hr, .inl ⟨rfl, ⟨hI _ _ _ hiZ t3, hs3, hl4, hk4⟩, hbXY.trans (hkZ.2.trans (t3.kd hD))⟩⟩
      | ret =>
        obtain ⟨hkZ, hiZ⟩ := hp3
        obtain ⟨hr, t3, hs3, hl4, hk4⟩ := fin (some .ret) Z hkZ
        exact ⟨_, _, hr, .inr ⟨rfl, ⟨.ret, hIx _ _ _ _ hiZ t3, hs3, hl4, hk4⟩, hbXY.trans (hkZ.2.trans (t3.kd hD))⟩⟩
      | exit id =>
        obtain ⟨hkZ, hiZ⟩ := hp3
        obtain ⟨hr, t3, hs3, hl4, hk4⟩ := fin (some (.exit id)) Z hkZ
        exact ⟨_, _, hr, .inr ⟨rfl, ⟨.exit id, hIx _ _ _ _ hiZ t3, hs3, hl4, hk4⟩, hbXY.trans (hkZ.2.trans (t3.kd hD))⟩⟩
      | goto t => exact hp3.elim
      | panic ch => exact hp3.elim
      | outgrown => exact hp3.elim
    | _ => exact hq.elim
  · rintro e X ⟨⟨v, rfl⟩, (⟨hi, hsz, hl, hk⟩ | ⟨i, hiM, c, hi, hsz, hl, hk⟩)⟩
    · have he := run_endLoop (P := P) hl (by rw [hrec]; simp)
      rw [hrec] at he
      have t := Tn.putObj (B := W.heap.size) (.loop { rec .ready none with state := .exhausted }) hl (by omega) rfl
      rw [hrec] at t
      refine ⟨none, _, he, E, ⟨hrep.size, hrep.get⟩, ?_⟩
      show Q .normal E (mark W.heap.size :: a.defers) _
      rw [hd]
      exact hdone _ _ (Nat.le_refl _) (hI _ _ _ hi t) ((World.putObj_heap_other (by omega)).trans hk) (by have := x1.size; simp; omega)
    · have he := run_endLoop (P := P) hl (by rw [hrec]; simp)
      rw [hrec] at he
      have t := Tn.putObj (B := W.heap.size) (.loop { rec .done (some c) with state := .exhausted }) hl (by omega) rfl
      rw [hrec] at t
      refine ⟨some c, _, he, ?_⟩
      refine wpIn_depth rfl (hstop _ c i _ (Nat.le_refl _) hiM (hIx _ _ _ _ hi t) ((World.putObj_heap_other (by omega)).trans hk) (by have := x1.size; simp; omega) { a with defers := [mark W.heap.size] ++ a.defers } ⟨hrep.size, hrep.get⟩ (by rw [← hd]; rfl))
end
end Go.Proofs.YtknbjfefeeojlaaGreat
/- Slices: elements that are read, arrays that are made, appended to and written; a call of yield. -/
namespace Go.Proofs.YtknbjfefeeojlaaGreat
open Go.RowKit
section
variable {r : Option Nat} {P : Program} {ρ : Operand → Value} {W W' : World} {d : Option Tmp} {op : Op} {ty T e : TypeId} {pos : String} {af : Array Edge} {g : Option (Nat × Bool)} {x y : Operand} {v u : Value} {K : Value → World → Prop} {argTypes : Array TypeId}
theorem xyield {l : Nat} {args : Array Operand} {vs : List Value} {Rc : Ending → World → Prop} (hx : ρ x = .func (.yield l) #[] #[]) (ha' : args.toList.map ρ = vs) (hy : YieldAt Fence.wide 0 P l vs.toArray W Rc) (k : ∀ e W', Rc e W' → ∃ v, e = .returned v ∧ K v W') :
    OpF none P ρ ⟨d, .call ⟨.value x, args, argTypes⟩, ty, pos, af, g⟩ W K := by
  obtain ⟨fn, tmps, assign, body, h1, h2⟩ := hy
  have ha : args.map ρ = vs.toArray := by rw [← ha']; apply Array.ext'; simp
  unfold OpF execOp
  simp only [ha, resolve, hx, Deferred.ofValue, Sem.run_bind, Sem.run_pure, Result.andThen_ok, invoke, Array.empty_append, h1]
  exact h2.mono k

/-! ### Elements of a slice of whole numbers -/
section
variable {k k' : IntKind} {S : Nat → Prop} {a : Option Addr} {n c : Nat} {xs : List Int} {i : Int}
theorem RN.isS (h : RN k S W a n c xs) (hi : 0 ≤ i) (hn : i < n) : a.isSome = true := by
  obtain ⟨b, off, cs, T, fz, rfl, _⟩ := h.at_ (by omega); rfl
theorem RN.el (h : RN k S W a n c xs) (hi : 0 ≤ i) (hn : i < n) : W.cell? (adr a i 1) = some (.int k (wd xs i)) := by
  obtain ⟨b, off, hb, _, _, hc⟩ := h.cells (by omega)
  subst hb
  have := hc i.toNat (by omega)
  rw [Int.toNat_of_nonneg hi] at this
  simp only [adr, addO, Nat.mul_one, this]
theorem RN.kb' (h : RN k S W a n c xs) (hi : 0 ≤ i) (hn : i < n) : kb k (wd xs i) := by
  have := h.kbd i.toNat (by omega)
  rwa [Int.toNat_of_nonneg hi] at this
theorem rixn (h : RN k S W a n c xs) (hS : Sl P T e) (hs : Sz P e 1) (hx : ρ x = .slice a n c) (hy : ρ y = .int k' i) (h0 : 0 ≤ i) (h1 : i < n) :
    (execOp ρ ⟨d, .indexAddr T x y, ty, pos, af, g⟩).run P W = .ok (.value (.pointer (some (adr a i 1)))) W := rix hS hs hx hy h0 h1 (h.isS h0 h1)
theorem rldN (h : RN k S W a n c xs) (hx : ρ x = .pointer (some (adr a i 1))) (hT : Sc P T) (h0 : 0 ≤ i) (h1 : i < n) :
    (execOp ρ ⟨d, .load T x, ty, pos, af, g⟩).run P W = .ok (.value (.int k (wd xs i))) W := rld1 hx hT (h.el h0 h1)
end

/-! ### An array of whole numbers that the call owns -/
/-- A slice over the first xs.length cells of a block at or beyond B; c: its capacity. -/
structure OI (k : IntKind) (B : Nat) (W : World) (e : TypeId) (v : Value) (xs : List Int) : Prop where
  row : W.ownsRow B e 1 v xs.length (xs.map (Value.int k))
  wf : ∀ x ∈ xs, kb k x
theorem OI.form {k : IntKind} {B : Nat} {xs : List Int} (h : OI k B W e v xs) : ∃ a c, v = .slice a xs.length c := by
  rcases h.row.2 with ⟨rfl, h0⟩ | ⟨b, cap, cur, rfl, _⟩
  · exact ⟨none, 0, by rw [h0]⟩
  · exact ⟨_, cap, rfl⟩
theorem OI.rn {k : IntKind} {B : Nat} {xs : List Int} {S : Nat → Prop} {a : Option Addr} {n c : Nat} (h : OI k B W e (.slice a n c) xs) (hS : ∀ b, B ≤ b → b < W.heap.size → S b) : RN k S W a n c xs := by
  rcases h.row.2 with ⟨h1, h0⟩ | ⟨b, cap, cur, h1, hb, hh, hn, hm, hs, ht⟩
  · injection h1 with h1 h2 h3
    subst h1 h2 h3
    have : xs = [] := List.eq_nil_of_length_eq_zero h0
    subst this
    exact RN.nil _ _ _ _ _ (by omega)
  · injection h1 with h1 h2 h3
    subst h1 h2 h3
    refine ⟨rfl, hn, by simp only [maxLen] at hm; omega, h.wf, fun h0 => ⟨b, 0, cur, e, (0,0), rfl, hS b hb (Array.getElem?_eq_some_iff.1 hh).1, hh, fun j hj => ?_⟩⟩
    have h5 : (cur.toList.take (xs.length * 1))[j]? = some (.int k (wd xs j)) := by rw [ht]; simp [wd, hj]
    rw [List.getElem?_take] at h5
    simp only [Nat.mul_one, hj, if_true] at h5
    simpa using h5
theorem OI.nil (k : IntKind) (B : Nat) (W : World) (e : TypeId) : OI k B W e (.slice none 0 0) [] := ⟨World.ownsRow_nil _ _ _ _, by simp⟩
theorem OI.ck {k : IntKind} {B : Nat} {xs : List Int} {S : Nat → Prop} (h : OI k B W e v xs) (hx : CK S W W') (hS : ∀ b, v.ownBlock = some b → S b) : OI k B W' e v xs := by
  refine ⟨⟨h.row.1, ?_⟩, h.wf⟩
  rcases h.row.2 with h1 | ⟨b, cap, cur, rfl, hb, hh, rest⟩
  · exact .inl h1
  · exact .inr ⟨b, cap, cur, rfl, hb, hx.2 b cur e (0,0) (hS b rfl) hh, rest⟩
theorem OI.ext {k : IntKind} {B : Nat} {xs : List Int} (h : OI k B W e v xs) (hx : Ext W W') : OI k B W' e v xs := h.ck (hx.ck fun _ => True) fun _ _ => trivial
theorem OI.low {k : IntKind} {B : Nat} {xs : List Int} (h : OI k B W e v xs) : ∀ b, v.ownBlock = some b → B ≤ b ∧ b < W.heap.size := h.row.lt
/-- append(v, x): the one element stands in a block of its own. -/
theorem xapp {k : IntKind} {t1 : TypeId} {B b c1 : Nat} {xs : List Int} {bytes : Nat} {z : Int} (hS : Sl P t1 e) (hi : ∃ i, P.info? e = some i ∧ i.size = 1 ∧ i.bytes = bytes ∧ i.zero = some (.int k 0)) (hO : OI k B W e v xs) (hx : ρ x = v) (hy : ρ y = .slice (some ⟨b, 0, none⟩) 1 c1) (hb : BoxAt W b [.int k z] e) (hz : kb k z)
    (hlen : (xs.length + 1) * bytes ≤ 140737488355328) (hbp : 0 < bytes) (hB : B ≤ W.heap.size)
    (hk2 : ∀ v' W', OI k B W' e v' (xs ++ [z]) → W.grownBy W' v.ownBlock → (v'.ownBlock = v.ownBlock ∨ v'.ownBlock = some W.heap.size) → K v' W') :
    OpF r P ρ ⟨d, .call ⟨.builtin .append, #[x, y], #[t1, t1]⟩, ty, pos, af, g⟩ W K := by
  obtain ⟨i, h1, h2, h3, h4⟩ := hi
  have hle : xs.length + 1 ≤ 140737488355328 := Nat.le_trans (Nat.le_mul_of_pos_right _ hbp) hlen
  obtain ⟨v', W', hr, h5, h6, h7, h8⟩ := run_append_own_at (P := P) W B t1 ty e i (.int k 0) 1 bytes hS h1 h4 h2 h3 rfl (by omega) v xs.length _ hO.row ⟨b, 0, none⟩ 1 c1 [.int k z] rfl
    (by intro j u hj
        match j, hj with
        | 0, hj => simp at hj; subst hj; rw [addO]; exact hb.cell 0 rfl) (by simp [Value.oneCell']) (by simp only [maxLen]; omega) hlen hB
  unfold OpF execOp
  simp only [resolve, invoke, builtin, Sem.run_bind, Sem.run_pure, Result.andThen_ok, List.map_toArray, List.map_cons, List.map_nil, hx, hy, hr]
  refine hk2 v' W' ⟨by simpa using h5, ?_⟩ h6 h8
  intro q hq
  rcases List.mem_append.1 hq with hq | hq
  · exact hO.wf q hq
  · simp at hq; subst hq; exact hz
theorem grown_ck {S : Nat → Prop} {row : Option Nat} (h : W.grownBy W' row) (hr : ∀ b, row = some b → ¬ S b) : CK S W W' := CK.grown h fun b e => .inr (hr b e)
theorem OI.neBox {k : IntKind} {B b : Nat} {xs : List Int} {cs : List Value} (h : OI k B W e v xs) (hb : BoxAt W b cs T) (hT : T ≠ e) : v.ownBlock ≠ some b := by
  rcases h.row.2 with ⟨rfl, _⟩ | ⟨b', cap, cur, rfl, _, hh, _⟩
  · simp [Value.ownBlock]
  · intro e0
    simp only [Value.ownBlock, Option.some.injEq] at e0
    subst e0
    unfold BoxAt at hb
    rw [hb] at hh
    injection hh with hh
    injection hh with _ h2 _
    exact hT h2
theorem KB.grown {k : IntKind} {B n : Nat} {xs : List Int} (h : OI k B W e v xs) (hg : W.grownBy W' v.ownBlock) (hn : n ≤ B) (hB : n ≤ W.heap.size) : KB n W W' :=
  ⟨(Below.refl n W).grown hg hB fun b e => Nat.le_trans hn (h.low b e).1, fun k o hk ho => by
    refine (hg.block k (Array.getElem?_eq_some_iff.1 hk).1 ?_).trans hk
    intro e0
    rcases h.row.2 with ⟨rfl, _⟩ | ⟨b', cap, cur, rfl, _, hh, _⟩
    · cases e0
    · simp only [Value.ownBlock, Option.some.injEq] at e0
      subst e0; rw [hh] at hk; cases hk; simp [Obj.isCells] at ho⟩
theorem grown_below {B : Nat} {row : Option Nat} (h : W.grownBy W' row) (hB : B ≤ W.heap.size) (hr : ∀ b, row = some b → B ≤ b) : Below B W W' := (Below.refl B W).grown h hB hr
end
end Go.Proofs.YtknbjfefeeojlaaGreat
/- The facts on this program's types and functions that the walks use: each by the kernel. -/
namespace Go.Proofs.YtknbjfefeeojlaaGreat
open Go.RowKit

theorem sz1 : Sz Tryz.prog 1 1 := .mk (by kernel_rfl)
theorem sc2 : Sc Tryz.prog 2 := .mk Tryz.underlying2 rfl
theorem sz2 : Sz Tryz.prog 2 1 := .mk (by kernel_rfl)
theorem zr2 : Zr Tryz.prog 2 (.int .i64 0) := .mk (by kernel_rfl)
theorem sc3 : Sc Tryz.prog 3 := .mk Tryz.underlying3 rfl
theorem sz3 : Sz Tryz.prog 3 1 := .mk (by kernel_rfl)
theorem zr3 : Zr Tryz.prog 3 (.int .i64 0) := .mk (by kernel_rfl)
theorem zc3 : Zc Tryz.prog 3 [.int .i64 0] := ⟨_, zr3, rfl⟩
theorem in3 : ∃ i, Tryz.prog.info? 3 = some i ∧ i.size = 1 ∧ i.bytes = 8 ∧ i.zero = some (.int .i64 0) := by
  obtain ⟨i, h1, h2⟩ := Option.map_eq_some_iff.1 (show (Tryz.prog.info? 3).map (fun i => (i.size, i.bytes, i.zero)) = some (1, 8, some (.int .i64 0)) by kernel_rfl)
  simp only [Prod.mk.injEq] at h2; exact ⟨i, h1, h2⟩
theorem sc4 : Sc Tryz.prog 4 := .mk Tryz.underlying4 rfl
theorem sz4 : Sz Tryz.prog 4 1 := .mk (by kernel_rfl)
theorem zr4 : Zr Tryz.prog 4 (.bool false) := .mk (by kernel_rfl)
theorem zc4 : Zc Tryz.prog 4 [.bool false] := ⟨_, zr4, rfl⟩
theorem sc22 : Sc Tryz.prog 22 := .mk Tryz.underlying22 rfl
theorem sz22 : Sz Tryz.prog 22 1 := .mk (by kernel_rfl)
theorem sl22 : Sl Tryz.prog 22 23 := Tryz.underlying22
theorem zr22 : Zr Tryz.prog 22 (.slice none 0 0) := .mk (by kernel_rfl)
theorem sc23 : Sc Tryz.prog 23 := .mk Tryz.underlying23 rfl
theorem sz23 : Sz Tryz.prog 23 1 := .mk (by kernel_rfl)
theorem sl23 : Sl Tryz.prog 23 48 := Tryz.underlying23
theorem zr23 : Zr Tryz.prog 23 (.slice none 0 0) := .mk (by kernel_rfl)
theorem zc23 : Zc Tryz.prog 23 [.slice none 0 0] := ⟨_, zr23, rfl⟩
theorem in23 : ∃ i, Tryz.prog.info? 23 = some i ∧ i.size = 1 ∧ i.bytes = 24 ∧ i.zero = some (.slice none 0 0) := by
  obtain ⟨i, h1, h2⟩ := Option.map_eq_some_iff.1 (show (Tryz.prog.info? 23).map (fun i => (i.size, i.bytes, i.zero)) = some (1, 24, some (.slice none 0 0)) by kernel_rfl)
  simp only [Prod.mk.injEq] at h2; exact ⟨i, h1, h2⟩
theorem ag25 : Ag Tryz.prog 25 4 := .mk Tryz.underlying25 rfl (by kernel_rfl)
theorem sz25 : Sz Tryz.prog 25 4 := .mk (by kernel_rfl)
theorem zr25 : Zr Tryz.prog 25 (.agg #[.int .i64 0, .slice none 0 0, .slice none 0 0, .slice none 0 0]) := .mk (by kernel_rfl)
theorem zc25 : Zc Tryz.prog 25 [.int .i64 0, .slice none 0 0, .slice none 0 0, .slice none 0 0] := ⟨_, zr25, rfl⟩
theorem fd25_0 : Fd Tryz.prog 25 0 0 := .mk (s := 1) Tryz.underlying25 rfl rfl (by kernel_rfl) (by decide)
theorem fd25_1 : Fd Tryz.prog 25 1 1 := .mk (s := 1) Tryz.underlying25 rfl rfl (by kernel_rfl) (by decide)
theorem fd25_2 : Fd Tryz.prog 25 2 2 := .mk (s := 1) Tryz.underlying25 rfl rfl (by kernel_rfl) (by decide)
theorem fd25_3 : Fd Tryz.prog 25 3 3 := .mk (s := 1) Tryz.underlying25 rfl rfl (by kernel_rfl) (by decide)
theorem pl25 : places Tryz.prog 25 [(0, 1), (1, 1), (2, 1), (3, 1)] [.int .i64 0, .slice none 0 0, .slice none 0 0, .slice none 0 0] := .mk Tryz.underlying25 (by kernel_rfl) zr25 rfl
theorem sl26 : Sl Tryz.prog 26 36 := Tryz.underlying26
theorem sc30 : Sc Tryz.prog 30 := .mk Tryz.underlying30 rfl
theorem sz36 : Sz Tryz.prog 36 2 := .mk (by kernel_rfl)
theorem fd36_0 : Fd Tryz.prog 36 0 0 := .mk (s := 1) Tryz.underlying36 rfl rfl (by kernel_rfl) (by decide)
theorem fd36_1 : Fd Tryz.prog 36 1 1 := .mk (s := 1) Tryz.underlying36 rfl rfl (by kernel_rfl) (by decide)
theorem sc44 : Sc Tryz.prog 44 := .mk Tryz.underlying44 rfl
theorem sz44 : Sz Tryz.prog 44 1 := .mk (by kernel_rfl)
theorem sl44 : Sl Tryz.prog 44 164 := Tryz.underlying44
theorem zr44 : Zr Tryz.prog 44 (.slice none 0 0) := .mk (by kernel_rfl)
theorem zc44 : Zc Tryz.prog 44 [.slice none 0 0] := ⟨_, zr44, rfl⟩
theorem ag46 : Ag Tryz.prog 46 2 := .mk Tryz.underlying46 rfl (by kernel_rfl)
theorem sz46 : Sz Tryz.prog 46 2 := .mk (by kernel_rfl)
theorem zr46 : Zr Tryz.prog 46 (.agg #[.bool false, .slice none 0 0]) := .mk (by kernel_rfl)
theorem zc46 : Zc Tryz.prog 46 [.bool false, .slice none 0 0] := ⟨_, zr46, rfl⟩
theorem fd46_0 : Fd Tryz.prog 46 0 0 := .mk (s := 1) Tryz.underlying46 rfl rfl (by kernel_rfl) (by decide)
theorem fd46_1 : Fd Tryz.prog 46 1 1 := .mk (s := 1) Tryz.underlying46 rfl rfl (by kernel_rfl) (by decide)
theorem pl46 : places Tryz.prog 46 [(0, 1), (1, 1)] [.bool false, .slice none 0 0] := .mk Tryz.underlying46 (by kernel_rfl) zr46 rfl
theorem ag48 : Ag Tryz.prog 48 4 := .mk Tryz.underlying48 rfl (by kernel_rfl)
theorem sz48 : Sz Tryz.prog 48 4 := .mk (by kernel_rfl)
theorem zr48 : Zr Tryz.prog 48 (.agg #[.bool false, .slice none 0 0, .bool false, .slice none 0 0]) := .mk (by kernel_rfl)
theorem zc48 : Zc Tryz.prog 48 [.bool false, .slice none 0 0, .bool false, .slice none 0 0] := ⟨_, zr48, rfl⟩
theorem in48 : ∃ i, Tryz.prog.info? 48 = some i ∧ i.size = 4 ∧ i.bytes = 64 ∧ i.zero = some (.agg #[.bool false, .slice none 0 0, .bool false, .slice none 0 0]) := by
  obtain ⟨i, h1, h2⟩ := Option.map_eq_some_iff.1 (show (Tryz.prog.info? 48).map (fun i => (i.size, i.bytes, i.zero)) = some (4, 64, some (.agg #[.bool false, .slice none 0 0, .bool false, .slice none 0 0])) by kernel_rfl)
  simp only [Prod.mk.injEq] at h2; exact ⟨i, h1, h2⟩
theorem fd48_0 : Fd Tryz.prog 48 0 0 := .mk (s := 2) Tryz.underlying48 rfl rfl (by kernel_rfl) (by decide)
theorem fd48_1 : Fd Tryz.prog 48 1 2 := .mk (s := 2) Tryz.underlying48 rfl rfl (by kernel_rfl) (by decide)
theorem pl48 : places Tryz.prog 48 [(0, 2), (2, 2)] [.bool false, .slice none 0 0, .bool false, .slice none 0 0] := .mk Tryz.underlying48 (by kernel_rfl) zr48 rfl
theorem sc73 : Sc Tryz.prog 73 := .mk Tryz.underlying73 rfl
theorem sz73 : Sz Tryz.prog 73 1 := .mk (by kernel_rfl)
theorem sl73 : Sl Tryz.prog 73 3 := Tryz.underlying73
theorem sc81 : Sc Tryz.prog 81 := .mk Tryz.underlying81 rfl
theorem sc82 : Sc Tryz.prog 82 := .mk Tryz.underlying82 rfl
theorem sz82 : Sz Tryz.prog 82 1 := .mk (by kernel_rfl)
theorem zr82 : Zr Tryz.prog 82 (.nilFunc) := .mk (by kernel_rfl)
theorem zc82 : Zc Tryz.prog 82 [.nilFunc] := ⟨_, zr82, rfl⟩
theorem zr91 : Zr Tryz.prog 91 (.agg #[.int .i64 0, .slice none 0 0, .slice none 0 0, .slice none 0 0]) := .mk (by kernel_rfl)
theorem fd91_0 : Fd Tryz.prog 91 0 0 := .mk (s := 1) Tryz.underlying91 rfl rfl (by kernel_rfl) (by decide)
theorem fd91_1 : Fd Tryz.prog 91 1 1 := .mk (s := 1) Tryz.underlying91 rfl rfl (by kernel_rfl) (by decide)
theorem fd91_2 : Fd Tryz.prog 91 2 2 := .mk (s := 1) Tryz.underlying91 rfl rfl (by kernel_rfl) (by decide)
theorem fd91_3 : Fd Tryz.prog 91 3 3 := .mk (s := 1) Tryz.underlying91 rfl rfl (by kernel_rfl) (by decide)
theorem pl91 : places Tryz.prog 91 [(0, 1), (1, 1), (2, 1), (3, 1)] [.int .i64 0, .slice none 0 0, .slice none 0 0, .slice none 0 0] := .mk Tryz.underlying91 (by kernel_rfl) zr91 rfl
theorem ag93 : Ag Tryz.prog 93 4 := .mk Tryz.underlying93 rfl (by kernel_rfl)
theorem sz93 : Sz Tryz.prog 93 4 := .mk (by kernel_rfl)
theorem zr93 : Zr Tryz.prog 93 (.agg #[.int .i64 0, .int .i64 0, .int .i64 0, .int .i64 0]) := .mk (by kernel_rfl)
theorem zc93 : Zc Tryz.prog 93 [.int .i64 0, .int .i64 0, .int .i64 0, .int .i64 0] := ⟨_, zr93, rfl⟩
theorem fd93_0 : Fd Tryz.prog 93 0 0 := .mk (s := 1) Tryz.underlying93 rfl rfl (by kernel_rfl) (by decide)
theorem fd93_1 : Fd Tryz.prog 93 1 1 := .mk (s := 1) Tryz.underlying93 rfl rfl (by kernel_rfl) (by decide)
theorem fd93_2 : Fd Tryz.prog 93 2 2 := .mk (s := 1) Tryz.underlying93 rfl rfl (by kernel_rfl) (by decide)
theorem pl93 : places Tryz.prog 93 [(0, 1), (1, 1), (2, 1), (3, 1)] [.int .i64 0, .int .i64 0, .int .i64 0, .int .i64 0] := .mk Tryz.underlying93 (by kernel_rfl) zr93 rfl
theorem sc100 : Sc Tryz.prog 100 := .mk Tryz.underlying100 rfl
theorem zr102 : Zr Tryz.prog 102 (.agg #[.nilFunc]) := .mk (by kernel_rfl)
theorem fd102_0 : Fd Tryz.prog 102 0 0 := .mk (s := 1) Tryz.underlying102 rfl rfl (by kernel_rfl) (by decide)
theorem pl102 : places Tryz.prog 102 [(0, 1)] [.nilFunc] := .mk Tryz.underlying102 (by kernel_rfl) zr102 rfl
theorem sl115 : Sl Tryz.prog 115 22 := Tryz.underlying115
theorem sc118 : Sc Tryz.prog 118 := .mk Tryz.underlying118 rfl
theorem sz118 : Sz Tryz.prog 118 1 := .mk (by kernel_rfl)
theorem sl118 : Sl Tryz.prog 118 2 := Tryz.underlying118
theorem zr118 : Zr Tryz.prog 118 (.slice none 0 0) := .mk (by kernel_rfl)
theorem sl119 : Sl Tryz.prog 119 118 := Tryz.underlying119
theorem sc126 : Sc Tryz.prog 126 := .mk Tryz.underlying126 rfl
theorem zr128 : Zr Tryz.prog 128 (.agg #[.int .i64 0, .int .i64 0, .nilFunc]) := .mk (by kernel_rfl)
theorem fd128_0 : Fd Tryz.prog 128 0 0 := .mk (s := 1) Tryz.underlying128 rfl rfl (by kernel_rfl) (by decide)
theorem fd128_1 : Fd Tryz.prog 128 1 1 := .mk (s := 1) Tryz.underlying128 rfl rfl (by kernel_rfl) (by decide)
theorem fd128_2 : Fd Tryz.prog 128 2 2 := .mk (s := 1) Tryz.underlying128 rfl rfl (by kernel_rfl) (by decide)
theorem pl128 : places Tryz.prog 128 [(0, 1), (1, 1), (2, 1)] [.int .i64 0, .int .i64 0, .nilFunc] := .mk Tryz.underlying128 (by kernel_rfl) zr128 rfl
theorem ag144 : Ag Tryz.prog 144 4 := .mk Tryz.underlying144 rfl (by kernel_rfl)
theorem sz144 : Sz Tryz.prog 144 4 := .mk (by kernel_rfl)
theorem zr144 : Zr Tryz.prog 144 (.agg #[.bool false, .slice none 0 0, .bool false, .slice none 0 0]) := .mk (by kernel_rfl)
theorem zc144 : Zc Tryz.prog 144 [.bool false, .slice none 0 0, .bool false, .slice none 0 0] := ⟨_, zr144, rfl⟩
theorem fd144_0 : Fd Tryz.prog 144 0 0 := .mk (s := 2) Tryz.underlying144 rfl rfl (by kernel_rfl) (by decide)
theorem fd144_1 : Fd Tryz.prog 144 1 2 := .mk (s := 2) Tryz.underlying144 rfl rfl (by kernel_rfl) (by decide)
theorem pl144 : places Tryz.prog 144 [(0, 2), (2, 2)] [.bool false, .slice none 0 0, .bool false, .slice none 0 0] := .mk Tryz.underlying144 (by kernel_rfl) zr144 rfl
theorem sz161 : Sz Tryz.prog 161 8 := .mk (by kernel_rfl)
theorem zr161 : Zr Tryz.prog 161 (.agg #[.bool false, .slice none 0 0, .bool false, .slice none 0 0, .bool false, .slice none 0 0, .bool false, .slice none 0 0]) := .mk (by kernel_rfl)
theorem zc161 : Zc Tryz.prog 161 [.bool false, .slice none 0 0, .bool false, .slice none 0 0, .bool false, .slice none 0 0, .bool false, .slice none 0 0] := ⟨_, zr161, rfl⟩
theorem sc162 : Sc Tryz.prog 162 := .mk Tryz.underlying162 rfl
theorem sz162 : Sz Tryz.prog 162 1 := .mk (by kernel_rfl)
theorem zr162 : Zr Tryz.prog 162 (.int .u64 0) := .mk (by kernel_rfl)
theorem zc162 : Zc Tryz.prog 162 [.int .u64 0] := ⟨_, zr162, rfl⟩
theorem sc164 : Sc Tryz.prog 164 := .mk Tryz.underlying164 rfl
theorem sz164 : Sz Tryz.prog 164 1 := .mk (by kernel_rfl)
theorem zr164 : Zr Tryz.prog 164 (.int .u32 0) := .mk (by kernel_rfl)
theorem in164 : ∃ i, Tryz.prog.info? 164 = some i ∧ i.size = 1 ∧ i.bytes = 4 ∧ i.zero = some (.int .u32 0) := by
  obtain ⟨i, h1, h2⟩ := Option.map_eq_some_iff.1 (show (Tryz.prog.info? 164).map (fun i => (i.size, i.bytes, i.zero)) = some (1, 4, some (.int .u32 0)) by kernel_rfl)
  simp only [Prod.mk.injEq] at h2; exact ⟨i, h1, h2⟩
theorem sl176 : Sl Tryz.prog 176 46 := Tryz.underlying176
theorem sc177 : Sc Tryz.prog 177 := .mk Tryz.underlying177 rfl
theorem zr179 : Zr Tryz.prog 179 (.agg #[.nilFunc]) := .mk (by kernel_rfl)
theorem fd179_0 : Fd Tryz.prog 179 0 0 := .mk (s := 1) Tryz.underlying179 rfl rfl (by kernel_rfl) (by decide)
theorem pl179 : places Tryz.prog 179 [(0, 1)] [.nilFunc] := .mk Tryz.underlying179 (by kernel_rfl) zr179 rfl
theorem sc199 : Sc Tryz.prog 199 := .mk Tryz.underlying199 rfl
theorem sz199 : Sz Tryz.prog 199 1 := .mk (by kernel_rfl)
theorem zr199 : Zr Tryz.prog 199 (.nilFunc) := .mk (by kernel_rfl)
theorem zc199 : Zc Tryz.prog 199 [.nilFunc] := ⟨_, zr199, rfl⟩
theorem e13 : Ent Tryz.prog 13 := enters_of Tryz.func13 (by kernel_rfl) rfl
theorem e14 : Ent Tryz.prog 14 := enters_of Tryz.func14 (by kernel_rfl) rfl
theorem e15 : Ent Tryz.prog 15 := enters_of Tryz.func15 (by kernel_rfl) rfl
theorem e16 : Ent Tryz.prog 16 := enters_of Tryz.func16 (by kernel_rfl) rfl
theorem e17 : Ent Tryz.prog 17 := enters_of Tryz.func17 (by kernel_rfl) rfl
theorem e18 : Ent Tryz.prog 18 := enters_of Tryz.func18 (by kernel_rfl) rfl
theorem e19 : Ent Tryz.prog 19 := enters_of Tryz.func19 (by kernel_rfl) rfl
theorem e20 : Ent Tryz.prog 20 := enters_of Tryz.func20 (by kernel_rfl) rfl
theorem e21 : Ent Tryz.prog 21 := enters_of Tryz.func21 (by kernel_rfl) rfl
theorem e22 : Ent Tryz.prog 22 := enters_of Tryz.func22 (by kernel_rfl) rfl
theorem e24 : Ent Tryz.prog 24 := enters_of Tryz.func24 (by kernel_rfl) rfl
theorem e25 : Ent Tryz.prog 25 := enters_of Tryz.func25 (by kernel_rfl) rfl
theorem e26 : Ent Tryz.prog 26 := enters_of Tryz.func26 (by kernel_rfl) rfl
theorem e27 : Ent Tryz.prog 27 := enters_of Tryz.func27 (by kernel_rfl) rfl
theorem e29 : Ent Tryz.prog 29 := enters_of Tryz.func29 (by kernel_rfl) rfl
theorem e32 : Ent Tryz.prog 32 := enters_of Tryz.func32 (by kernel_rfl) rfl
theorem e35 : Ent Tryz.prog 35 := enters_of Tryz.func35 (by kernel_rfl) rfl
theorem e36 : Ent Tryz.prog 36 := enters_of Tryz.func36 (by kernel_rfl) rfl
theorem e38 : Ent Tryz.prog 38 := enters_of Tryz.func38 (by kernel_rfl) rfl
theorem e43 : Ent Tryz.prog 43 := enters_of Tryz.func43 (by kernel_rfl) rfl
theorem e45 : Ent Tryz.prog 45 := enters_of Tryz.func45 (by kernel_rfl) rfl
theorem e47 : Ent Tryz.prog 47 := enters_of Tryz.func47 (by kernel_rfl) rfl
theorem e62 : Ent Tryz.prog 62 := enters_of Tryz.func62 (by kernel_rfl) rfl
theorem e66 : Ent Tryz.prog 66 := enters_of Tryz.func66 (by kernel_rfl) rfl
theorem e68 : Ent Tryz.prog 68 := enters_of Tryz.func68 (by kernel_rfl) rfl
theorem e69 : Ent Tryz.prog 69 := enters_of Tryz.func69 (by kernel_rfl) rfl
theorem e71 : Ent Tryz.prog 71 := enters_of Tryz.func71 (by kernel_rfl) rfl
theorem e72 : Ent Tryz.prog 72 := enters_of Tryz.func72 (by kernel_rfl) rfl
theorem e73 : Ent Tryz.prog 73 := enters_of Tryz.func73 (by kernel_rfl) rfl
theorem e74 : Ent Tryz.prog 74 := enters_of Tryz.func74 (by kernel_rfl) rfl
theorem e75 : Ent Tryz.prog 75 := enters_of Tryz.func75 (by kernel_rfl) rfl
theorem e76 : Ent Tryz.prog 76 := enters_of Tryz.func76 (by kernel_rfl) rfl
theorem e77 : Ent Tryz.prog 77 := enters_of Tryz.func77 (by kernel_rfl) rfl
theorem e78 : Ent Tryz.prog 78 := enters_of Tryz.func78 (by kernel_rfl) rfl
theorem e79 : Ent Tryz.prog 79 := enters_of Tryz.func79 (by kernel_rfl) rfl
theorem e80 : Ent Tryz.prog 80 := enters_of Tryz.func80 (by kernel_rfl) rfl
theorem e81 : Ent Tryz.prog 81 := enters_of Tryz.func81 (by kernel_rfl) rfl
theorem e82 : Ent Tryz.prog 82 := enters_of Tryz.func82 (by kernel_rfl) rfl
theorem e83 : Ent Tryz.prog 83 := enters_of Tryz.func83 (by kernel_rfl) rfl
theorem e84 : Ent Tryz.prog 84 := enters_of Tryz.func84 (by kernel_rfl) rfl
theorem e85 : Ent Tryz.prog 85 := enters_of Tryz.func85 (by kernel_rfl) rfl
theorem e86 : Ent Tryz.prog 86 := enters_of Tryz.func86 (by kernel_rfl) rfl
theorem e87 : Ent Tryz.prog 87 := enters_of Tryz.func87 (by kernel_rfl) rfl
theorem e88 : Ent Tryz.prog 88 := enters_of Tryz.func88 (by kernel_rfl) rfl
theorem e89 : Ent Tryz.prog 89 := enters_of Tryz.func89 (by kernel_rfl) rfl
theorem e90 : Ent Tryz.prog 90 := enters_of Tryz.func90 (by kernel_rfl) rfl
theorem e91 : Ent Tryz.prog 91 := enters_of Tryz.func91 (by kernel_rfl) rfl
theorem e92 : Ent Tryz.prog 92 := enters_of Tryz.func92 (by kernel_rfl) rfl
theorem e93 : Ent Tryz.prog 93 := enters_of Tryz.func93 (by kernel_rfl) rfl
theorem e94 : Ent Tryz.prog 94 := enters_of Tryz.func94 (by kernel_rfl) rfl
theorem e95 : Ent Tryz.prog 95 := enters_of Tryz.func95 (by kernel_rfl) rfl
theorem e96 : Ent Tryz.prog 96 := enters_of Tryz.func96 (by kernel_rfl) rfl
theorem e97 : Ent Tryz.prog 97 := enters_of Tryz.func97 (by kernel_rfl) rfl
theorem e98 : Ent Tryz.prog 98 := enters_of Tryz.func98 (by kernel_rfl) rfl
theorem e99 : Ent Tryz.prog 99 := enters_of Tryz.func99 (by kernel_rfl) rfl
theorem e100 : Ent Tryz.prog 100 := enters_of Tryz.func100 (by kernel_rfl) rfl
theorem e101 : Ent Tryz.prog 101 := enters_of Tryz.func101 (by kernel_rfl) rfl
theorem e111 : Ent Tryz.prog 111 := enters_of Tryz.func111 (by kernel_rfl) rfl
theorem e112 : Ent Tryz.prog 112 := enters_of Tryz.func112 (by kernel_rfl) rfl
theorem e113 : Ent Tryz.prog 113 := enters_of Tryz.func113 (by kernel_rfl) rfl
theorem e117 : Ent Tryz.prog 117 := enters_of Tryz.func117 (by kernel_rfl) rfl
theorem e118 : Ent Tryz.prog 118 := enters_of Tryz.func118 (by kernel_rfl) rfl
theorem e138 : Ent Tryz.prog 138 := enters_of Tryz.func138 (by kernel_rfl) rfl
theorem e139 : Ent Tryz.prog 139 := enters_of Tryz.func139 (by kernel_rfl) rfl
theorem e140 : Ent Tryz.prog 140 := enters_of Tryz.func140 (by kernel_rfl) rfl
theorem e141 : Ent Tryz.prog 141 := enters_of Tryz.func141 (by kernel_rfl) rfl
theorem e142 : Ent Tryz.prog 142 := enters_of Tryz.func142 (by kernel_rfl) rfl
theorem e143 : Ent Tryz.prog 143 := enters_of Tryz.func143 (by kernel_rfl) rfl
theorem e144 : Ent Tryz.prog 144 := enters_of Tryz.func144 (by kernel_rfl) rfl
theorem e145 : Ent Tryz.prog 145 := enters_of Tryz.func145 (by kernel_rfl) rfl
theorem e146 : Ent Tryz.prog 146 := enters_of Tryz.func146 (by kernel_rfl) rfl
theorem e147 : Ent Tryz.prog 147 := enters_of Tryz.func147 (by kernel_rfl) rfl
theorem e148 : Ent Tryz.prog 148 := enters_of Tryz.func148 (by kernel_rfl) rfl
theorem e149 : Ent Tryz.prog 149 := enters_of Tryz.func149 (by kernel_rfl) rfl
theorem e150 : Ent Tryz.prog 150 := enters_of Tryz.func150 (by kernel_rfl) rfl
theorem e151 : Ent Tryz.prog 151 := enters_of Tryz.func151 (by kernel_rfl) rfl
theorem e152 : Ent Tryz.prog 152 := enters_of Tryz.func152 (by kernel_rfl) rfl
theorem e153 : Ent Tryz.prog 153 := enters_of Tryz.func153 (by kernel_rfl) rfl
theorem e154 : Ent Tryz.prog 154 := enters_of Tryz.func154 (by kernel_rfl) rfl
theorem e155 : Ent Tryz.prog 155 := enters_of Tryz.func155 (by kernel_rfl) rfl
theorem e156 : Ent Tryz.prog 156 := enters_of Tryz.func156 (by kernel_rfl) rfl
theorem e157 : Ent Tryz.prog 157 := enters_of Tryz.func157 (by kernel_rfl) rfl
theorem e158 : Ent Tryz.prog 158 := enters_of Tryz.func158 (by kernel_rfl) rfl
theorem e176 : Ent Tryz.prog 176 := enters_of Tryz.func176 (by kernel_rfl) rfl
theorem e177 : Ent Tryz.prog 177 := enters_of Tryz.func177 (by kernel_rfl) rfl
theorem e178 : Ent Tryz.prog 178 := enters_of Tryz.func178 (by kernel_rfl) rfl
theorem e179 : Ent Tryz.prog 179 := enters_of Tryz.func179 (by kernel_rfl) rfl
theorem e180 : Ent Tryz.prog 180 := enters_of Tryz.func180 (by kernel_rfl) rfl
theorem e181 : Ent Tryz.prog 181 := enters_of Tryz.func181 (by kernel_rfl) rfl
theorem e182 : Ent Tryz.prog 182 := enters_of Tryz.func182 (by kernel_rfl) rfl
theorem e183 : Ent Tryz.prog 183 := enters_of Tryz.func183 (by kernel_rfl) rfl
theorem e184 : Ent Tryz.prog 184 := enters_of Tryz.func184 (by kernel_rfl) rfl
theorem e185 : Ent Tryz.prog 185 := enters_of Tryz.func185 (by kernel_rfl) rfl
theorem e186 : Ent Tryz.prog 186 := enters_of Tryz.func186 (by kernel_rfl) rfl
theorem e187 : Ent Tryz.prog 187 := enters_of Tryz.func187 (by kernel_rfl) rfl
theorem e188 : Ent Tryz.prog 188 := enters_of Tryz.func188 (by kernel_rfl) rfl
theorem e189 : Ent Tryz.prog 189 := enters_of Tryz.func189 (by kernel_rfl) rfl
theorem e204 : Ent Tryz.prog 204 := enters_of Tryz.func204 (by kernel_rfl) rfl
theorem e205 : Ent Tryz.prog 205 := enters_of Tryz.func205 (by kernel_rfl) rfl
theorem e206 : Ent Tryz.prog 206 := enters_of Tryz.func206 (by kernel_rfl) rfl
theorem e207 : Ent Tryz.prog 207 := enters_of Tryz.func207 (by kernel_rfl) rfl
theorem e208 : Ent Tryz.prog 208 := enters_of Tryz.func208 (by kernel_rfl) rfl
theorem e209 : Ent Tryz.prog 209 := enters_of Tryz.func209 (by kernel_rfl) rfl
theorem e216 : Ent Tryz.prog 216 := enters_of Tryz.func216 (by kernel_rfl) rfl
theorem e217 : Ent Tryz.prog 217 := enters_of Tryz.func217 (by kernel_rfl) rfl
theorem e218 : Ent Tryz.prog 218 := enters_of Tryz.func218 (by kernel_rfl) rfl
theorem e219 : Ent Tryz.prog 219 := enters_of Tryz.func219 (by kernel_rfl) rfl
theorem e220 : Ent Tryz.prog 220 := enters_of Tryz.func220 (by kernel_rfl) rfl
theorem e221 : Ent Tryz.prog 221 := enters_of Tryz.func221 (by kernel_rfl) rfl
theorem mixed : Tryz.prog.follows .mixedOrders = true := by kernel_rfl
end Go.Proofs.YtknbjfefeeojlaaGreat
/- Short steps. -/
namespace Go.Proofs.YtknbjfefeeojlaaGreat
open Go.RowKit
section
variable {r : Option Nat} {P : Program} {ops : Array Oper} {R : Env → World → Prop} {l : List Oper} {E : Env} {W W' : World} {t : Tmp} {d : Option Tmp} {ty T T' e : TypeId} {pos : String} {af : Array Edge} {g : Option (Nat × Bool)} {x y : Operand} {K : Value → World → Prop} {ρ : Operand → Value}

/-! ### Copies -/
theorem mvi {k : IntKind} {n : Int} (hx : ev E x = .int k n) (h : RV r P ops R l (up E t (.int k n)) W) : RV r P ops R (⟨some t, .move x, ty, pos, af, none⟩ :: l) E W := vv (rmv hx) h
theorem mvb {b : Bool} (hx : ev E x = .bool b) (h : RV r P ops R l (up E t (.bool b)) W) : RV r P ops R (⟨some t, .move x, ty, pos, af, none⟩ :: l) E W := vv (rmv hx) h
theorem mvs {a : Option Addr} {n c : Nat} (hx : ev E x = .slice a n c) (h : RV r P ops R l (up E t (.slice a n c)) W) : RV r P ops R (⟨some t, .move x, ty, pos, af, none⟩ :: l) E W := vv (rmv hx) h
theorem mvp {p : Option Addr} (hx : ev E x = .pointer p) (h : RV r P ops R l (up E t (.pointer p)) W) : RV r P ops R (⟨some t, .move x, ty, pos, af, none⟩ :: l) E W := vv (rmv hx) h
theorem mvf {f : Fn} {u c : Array Value} (hx : ev E x = .func f u c) (h : RV r P ops R l (up E t (.func f u c)) W) : RV r P ops R (⟨some t, .move x, ty, pos, af, none⟩ :: l) E W := vv (rmv hx) h
theorem mvt {u : Array Value} (hx : ev E x = .tuple u) (h : RV r P ops R l (up E t (.tuple u)) W) : RV r P ops R (⟨some t, .move x, ty, pos, af, none⟩ :: l) E W := vv (rmv hx) h
theorem asi {k : IntKind} {n : Int} (hx : ev E x = .int k n) (h : RV r P ops R l (up E t (.int k n)) W) : RV r P ops R (⟨some t, .assign x, ty, pos, af, none⟩ :: l) E W := vv (ras hx) h
theorem asb {b : Bool} (hx : ev E x = .bool b) (h : RV r P ops R l (up E t (.bool b)) W) : RV r P ops R (⟨some t, .assign x, ty, pos, af, none⟩ :: l) E W := vv (ras hx) h
theorem ass {a : Option Addr} {n c : Nat} (hx : ev E x = .slice a n c) (h : RV r P ops R l (up E t (.slice a n c)) W) : RV r P ops R (⟨some t, .assign x, ty, pos, af, none⟩ :: l) E W := vv (ras hx) h
theorem asp {p : Option Addr} (hx : ev E x = .pointer p) (h : RV r P ops R l (up E t (.pointer p)) W) : RV r P ops R (⟨some t, .assign x, ty, pos, af, none⟩ :: l) E W := vv (ras hx) h
theorem asf {f : Fn} {u c : Array Value} (hx : ev E x = .func f u c) (h : RV r P ops R l (up E t (.func f u c)) W) : RV r P ops R (⟨some t, .assign x, ty, pos, af, none⟩ :: l) E W := vv (ras hx) h
theorem asn (hx : ev E x = .nilFunc) (h : RV r P ops R l (up E t .nilFunc) W) : RV r P ops R (⟨some t, .assign x, ty, pos, af, none⟩ :: l) E W := vv (ras hx) h
/-! ### Comparisons: two ways -/
section
variable {k : IntKind} {m n : Int} {t1 t2 : TypeId}
theorem vlt (hx : ev E x = .int k m) (hy : ev E y = .int k n) (h1 : m < n → RV r P ops R l (up E t (.bool true)) W) (h2 : n ≤ m → RV r P ops R l (up E t (.bool false)) W) : RV r P ops R (⟨some t, .binOp .lss t1 x y t2, ty, pos, af, none⟩ :: l) E W := by
  by_cases h : m < n
  · exact vv (rcmp (cLt (decide_eq_true h)) rfl hx hy) (h1 h)
  · exact vv (rcmp (cLt (decide_eq_false h)) rfl hx hy) (h2 (by omega))
theorem vle (hx : ev E x = .int k m) (hy : ev E y = .int k n) (h1 : m ≤ n → RV r P ops R l (up E t (.bool true)) W) (h2 : n < m → RV r P ops R l (up E t (.bool false)) W) : RV r P ops R (⟨some t, .binOp .leq t1 x y t2, ty, pos, af, none⟩ :: l) E W := by
  by_cases h : m ≤ n
  · exact vv (rcmp (cLe (decide_eq_true h)) rfl hx hy) (h1 h)
  · exact vv (rcmp (cLe (decide_eq_false h)) rfl hx hy) (h2 (by omega))
theorem vgt (hx : ev E x = .int k m) (hy : ev E y = .int k n) (h1 : n < m → RV r P ops R l (up E t (.bool true)) W) (h2 : m ≤ n → RV r P ops R l (up E t (.bool false)) W) : RV r P ops R (⟨some t, .binOp .gtr t1 x y t2, ty, pos, af, none⟩ :: l) E W := by
  by_cases h : n < m
  · exact vv (rcmp (cGt (decide_eq_true h)) rfl hx hy) (h1 h)
  · exact vv (rcmp (cGt (decide_eq_false h)) rfl hx hy) (h2 (by omega))
theorem vge (hx : ev E x = .int k m) (hy : ev E y = .int k n) (h1 : n ≤ m → RV r P ops R l (up E t (.bool true)) W) (h2 : m < n → RV r P ops R l (up E t (.bool false)) W) : RV r P ops R (⟨some t, .binOp .geq t1 x y t2, ty, pos, af, none⟩ :: l) E W := by
  by_cases h : n ≤ m
  · exact vv (rcmp (cGe (decide_eq_true h)) rfl hx hy) (h1 h)
  · exact vv (rcmp (cGe (decide_eq_false h)) rfl hx hy) (h2 (by omega))
theorem veq (hx : ev E x = .int k m) (hy : ev E y = .int k n) (h1 : m = n → RV r P ops R l (up E t (.bool true)) W) (h2 : m ≠ n → RV r P ops R l (up E t (.bool false)) W) : RV r P ops R (⟨some t, .binOp .eql t1 x y t2, ty, pos, af, none⟩ :: l) E W := by
  by_cases h : m = n
  · exact vv (rcmp (cEq (decide_eq_true h)) rfl hx hy) (h1 h)
  · exact vv (rcmp (cEq (decide_eq_false h)) rfl hx hy) (h2 h)
theorem vne (hx : ev E x = .int k m) (hy : ev E y = .int k n) (h1 : m ≠ n → RV r P ops R l (up E t (.bool true)) W) (h2 : m = n → RV r P ops R l (up E t (.bool false)) W) : RV r P ops R (⟨some t, .binOp .neq t1 x y t2, ty, pos, af, none⟩ :: l) E W := by
  by_cases h : m = n
  · exact vv (rcmp (cNe (by simp [h])) rfl hx hy) (h2 h)
  · exact vv (rcmp (cNe (by simp [h])) rfl hx hy) (h1 h)
end

/-! ### Effects -/
theorem xal {cs : List Value} (hz : Zc P T cs) (h : ∀ W', Ext W W' → BoxAt W' W.heap.size cs T → W'.heap.size = W.heap.size + 1 → K (.pointer (some ⟨W.heap.size, 0, none⟩)) W') : OpF r P ρ ⟨d, .alloc T, ty, pos, af, g⟩ W K := by
  obtain ⟨z, h1, h2⟩ := hz; exact xv (ral h1 h2) (h _ ((Ext.refl _).alloc _) (BoxAt.new _ _ _) (by simp))
theorem xbx {v : Value} {cs : List Value} (hx : ρ x = v) (hc : v.cells = cs.toArray) (h : ∀ W', Ext W W' → BoxAt W' W.heap.size cs T → W'.heap.size = W.heap.size + 1 → K (.pointer (some ⟨W.heap.size, 0, none⟩)) W') : OpF r P ρ ⟨d, .box T x, ty, pos, af, g⟩ W K :=
  xv (rbx hx hc) (h _ ((Ext.refl _).alloc _) (BoxAt.new _ _ _) (by simp))
theorem bxa {cs : List Value} (hx : ρ x = .agg cs.toArray) (h : ∀ W', Ext W W' → BoxAt W' W.heap.size cs T → W'.heap.size = W.heap.size + 1 → K (.pointer (some ⟨W.heap.size, 0, none⟩)) W') : OpF r P ρ ⟨d, .box T x, ty, pos, af, g⟩ W K := xbx hx rfl h
theorem bxs {a : Option Addr} {n c : Nat} (hx : ρ x = .slice a n c) (h : ∀ W', Ext W W' → BoxAt W' W.heap.size [.slice a n c] T → W'.heap.size = W.heap.size + 1 → K (.pointer (some ⟨W.heap.size, 0, none⟩)) W') : OpF r P ρ ⟨d, .box T x, ty, pos, af, g⟩ W K := xbx hx rfl h
theorem bxi {k : IntKind} {n : Int} (hx : ρ x = .int k n) (h : ∀ W', Ext W W' → BoxAt W' W.heap.size [.int k n] T → W'.heap.size = W.heap.size + 1 → K (.pointer (some ⟨W.heap.size, 0, none⟩)) W') : OpF r P ρ ⟨d, .box T x, ty, pos, af, g⟩ W K := xbx hx rfl h
theorem bxf {f : Fn} {u c : Array Value} (hx : ρ x = .func f u c) (h : ∀ W', Ext W W' → BoxAt W' W.heap.size [.func f u c] T → W'.heap.size = W.heap.size + 1 → K (.pointer (some ⟨W.heap.size, 0, none⟩)) W') : OpF r P ρ ⟨d, .box T x, ty, pos, af, g⟩ W K := xbx hx rfl h
theorem bxp {p : Option Addr} (hx : ρ x = .pointer p) (h : ∀ W', Ext W W' → BoxAt W' W.heap.size [.pointer p] T → W'.heap.size = W.heap.size + 1 → K (.pointer (some ⟨W.heap.size, 0, none⟩)) W') : OpF r P ρ ⟨d, .box T x, ty, pos, af, g⟩ W K := xbx hx rfl h
/-- A store into a block of the call's own. -/
theorem xst {b o : Nat} {v : Value} {vs cs cs' : List Value} (hx : ρ x = .pointer (some ⟨b, o, none⟩)) (hy : ρ y = v) (hT : Sz P T vs.length) (hv : v.cells = vs.toArray) (h1 : (vs.all Value.oneCell') = true) (hb : BoxAt W b cs T') (hl : o + vs.length ≤ cs.length) (hc : cs.take o ++ vs ++ cs.drop (o + vs.length) = cs')
    (h : ∀ W', Wr b W W' → BoxAt W' b cs' T' → K undef W') : OpF r P ρ ⟨d, .store T x y, ty, pos, af, g⟩ W K := by
  subst hc
  exact xu (rstn hx hy hT hv (by simpa using h1) hb hl) (h _ (hb.setRow _).2 (hb.setRow _).1)
theorem sta {b o : Nat} {vs cs cs' : List Value} (hb : BoxAt W b cs T') (hx : ρ x = .pointer (some ⟨b, o, none⟩)) (hy : ρ y = .agg vs.toArray) (hT : Sz P T vs.length) (h1 : (vs.all Value.oneCell') = true) (hl : Nat.ble (o + vs.length) cs.length = true) (hc : cs.take o ++ vs ++ cs.drop (o + vs.length) = cs')
    (h : ∀ W', Wr b W W' → BoxAt W' b cs' T' → K undef W') : OpF r P ρ ⟨d, .store T x y, ty, pos, af, g⟩ W K := xst hx hy hT rfl h1 hb (Nat.le_of_ble_eq_true hl) hc h
theorem st1 {b o : Nat} {v : Value} {cs cs' : List Value} (hb : BoxAt W b cs T') (hx : ρ x = .pointer (some ⟨b, o, none⟩)) (hy : ρ y = v) (hT : Sz P T 1) (hv : v.cells = #[v]) (h1 : v.oneCell' = true) (hl : Nat.blt o cs.length = true) (hc : cs.take o ++ [v] ++ cs.drop (o + 1) = cs')
    (h : ∀ W', Wr b W W' → BoxAt W' b cs' T' → K undef W') : OpF r P ρ ⟨d, .store T x y, ty, pos, af, g⟩ W K := xst (vs := [v]) hx hy hT hv (by simp [h1]) hb (by have := Nat.le_of_ble_eq_true hl; simp; omega) hc h
theorem rep_cells (z : Array Value) (n : Nat) (h0 : 0 < z.size) : (Array.range (n * z.size)).map (fun i => z[i % z.size]!) = (List.replicate n z.toList).flatten.toArray := by
  apply Array.ext'
  simp only [Array.toList_map, Array.toList_range]
  induction n with
  | zero => simp
  | succ n ih =>
    rw [Nat.succ_mul, List.range_add, List.map_append, ih, List.replicate_succ', List.flatten_append]
    congr 1
    simp only [List.map_map, List.flatten_cons, List.flatten_nil, List.append_nil]
    apply List.ext_getElem
    · simp
    · intro i h1 h2
      have hi : i < z.size := by simpa using h1
      simp [Nat.mul_add_mod', Nat.add_mod, Nat.mod_eq_of_lt hi, hi]
/-- A slice literal. -/
theorem xbs {n s : Nat} {z : Value} {zs cs : List Value} {parts : Array (Nat × Operand)} {ps : List (Nat × Value)} (hS : Sl P T e) (hz : Zr P e z) (hs : Sz P e s) (hzs : z.cells = zs.toArray) (hss : Nat.beq zs.length s = true) (hs0 : Nat.blt 0 s = true) (hp : (parts.toList.map fun p => (p.1, ρ p.2)) = ps) (hn : Nat.ble (n * s) 16777216 = true)
    (hf : Instr.fill (fun i => some (i * s, s)) (List.replicate n zs).flatten.toArray ps = some cs.toArray)
    (h : ∀ W', Ext W W' → BoxAt W' W.heap.size cs e → W'.heap.size = W.heap.size + 1 → K (.slice (some ⟨W.heap.size, 0, none⟩) n n) W') : OpF r P ρ ⟨d, .buildSlice T n parts, ty, pos, af, g⟩ W K := by
  have hr : (execOp ρ ⟨d, .buildSlice T n parts, ty, pos, af, g⟩).run P W = .ok (.value (.slice (some ⟨W.heap.size, 0, none⟩) n n)) (W.alloc (.cells cs.toArray e)) := by
    have hp' : (parts.map fun (i, x) => (i, ρ x)).toList = ps := by rw [← hp]; simp
    have hle := Nat.le_of_ble_eq_true hn
    have hs1 : zs.length = s := Nat.eq_of_beq_eq_true hss
    have hs2 : 0 < s := by have := Nat.le_of_ble_eq_true hs0; omega
    unfold execOp
    simp only [Instr.buildSlice, Sem.run_bind, run_underlying hS, Result.andThen_ok, sizeOf_sz hs]
    rw [if_neg (show ¬ n * s > 2 ^ 24 by omega)]
    by_cases h0 : n * s = 0
    · have hn0 : n = 0 := by
        rcases Nat.mul_eq_zero.1 h0 with h | h
        · exact h
        · omega
      subst hn0
      simp only [List.replicate_zero, List.flatten_nil] at hf
      simp only [Nat.zero_mul, if_true] at hf ⊢
      simp only [Sem.run_bind, Sem.run_pure, Result.andThen_ok, hp', hf, show Array.range 0 = #[] from rfl, show ∀ f : Nat → Value, Array.map f #[] = #[] from fun _ => Array.map_empty]
      simp [newRow, go_sem]
    · have hsz : z.cells.size = s := by rw [hzs]; simpa using hs1
      have hrep := rep_cells z.cells n (by omega)
      rw [hsz] at hrep
      simp only [h0, if_false]
      simp only [Sem.run_bind, zero_zr hz, Sem.run_pure, Result.andThen_ok, hp', hsz, hrep]
      rw [hzs, List.toList_toArray, hf]
      simp [newRow, go_sem]
  exact xv hr (h _ ((Ext.refl _).alloc _) (BoxAt.new _ _ _) (by simp))

/-! ### The end of a function -/
section
variable {fn : Func} {Rr : Ending → World → Prop}
end
/-! ### Numbers that fit -/
theorem wi {z : Int} (h : -9223372036854775808 ≤ z ∧ z ≤ 9223372036854775807) : IntKind.i64.wrap z = z := by rw [IntKind.wrap_i64]; omega
end
end Go.Proofs.YtknbjfefeeojlaaGreat
/- Numbers as lists of digits: plain mathematics. -/
namespace Go.Proofs.YtknbjfefeeojlaaGreat

/-- The value of a list of digits, least significant first. -/
def vl (B : Int) : List Int → Int
  | [] => 0
  | x :: xs => x + B * vl B xs
/-- Each is a digit. -/
def Dg (B : Int) (xs : List Int) : Prop := ∀ x ∈ xs, 0 ≤ x ∧ x < B
/-- Without zero digits at the end. -/
def tr : List Int → List Int
  | [] => []
  | x :: xs => match tr xs with
    | [] => if x = 0 then [] else [x]
    | y :: ys => x :: y :: ys
/-- The digits of a number. -/
def dgN (b : Nat) (v : Nat) : List Int := if h : 0 < v ∧ 2 ≤ b then ((v % b : Nat) : Int) :: dgN b (v / b) else []
termination_by v
decreasing_by exact Nat.div_lt_self h.1 h.2
def dg (B v : Int) : List Int := dgN B.toNat v.toNat

theorem vl_nil (B : Int) : vl B [] = 0 := rfl
theorem vl_cons (B x : Int) (xs : List Int) : vl B (x :: xs) = x + B * vl B xs := rfl
theorem Dg.nil (B : Int) : Dg B [] := by simp [Dg]
theorem Dg.cons {B x : Int} {xs : List Int} : Dg B (x :: xs) ↔ (0 ≤ x ∧ x < B) ∧ Dg B xs := by simp [Dg]
theorem Dg.append {B : Int} {xs ys : List Int} : Dg B (xs ++ ys) ↔ Dg B xs ∧ Dg B ys := by
  simp only [Dg, List.mem_append]
  constructor
  · exact fun h => ⟨fun x hx => h x (.inl hx), fun x hx => h x (.inr hx)⟩
  · rintro ⟨h1, h2⟩ x (h | h)
    · exact h1 x h
    · exact h2 x h
theorem Dg.take {B : Int} {xs : List Int} (h : Dg B xs) (k : Nat) : Dg B (xs.take k) := fun x hx => h x (List.mem_of_mem_take hx)
theorem Dg.drop {B : Int} {xs : List Int} (h : Dg B xs) (k : Nat) : Dg B (xs.drop k) := fun x hx => h x (List.mem_of_mem_drop hx)
theorem vl_append (B : Int) (xs ys : List Int) : vl B (xs ++ ys) = vl B xs + B ^ xs.length * vl B ys := by
  induction xs with
  | nil => simp [vl]
  | cons x xs ih => simp only [List.cons_append, vl, ih, List.length_cons, Int.pow_succ]; rw [Int.mul_add]; rw [← Int.mul_assoc, Int.mul_comm B (B ^ xs.length)]; omega
theorem vl_snoc (B : Int) (xs : List Int) (y : Int) : vl B (xs ++ [y]) = vl B xs + B ^ xs.length * y := by rw [vl_append]; simp [vl]
theorem pow_pos' {B : Int} (hB : 0 < B) (n : Nat) : 0 < B ^ n := Int.pow_pos hB
theorem vl_nonneg {B : Int} (hB : 0 < B) {xs : List Int} (h : Dg B xs) : 0 ≤ vl B xs := by
  induction xs with
  | nil => simp [vl]
  | cons x xs ih =>
    obtain ⟨h1, h2⟩ := Dg.cons.1 h
    have := Int.mul_nonneg (Int.le_of_lt hB) (ih h2)
    simp only [vl]; omega
theorem vl_lt {B : Int} (hB : 0 < B) {xs : List Int} (h : Dg B xs) : vl B xs < B ^ xs.length := by
  induction xs with
  | nil => simp [vl]
  | cons x xs ih =>
    obtain ⟨h1, h2⟩ := Dg.cons.1 h
    have h3 := ih h2
    have h4 : B * (vl B xs + 1) ≤ B * B ^ xs.length := Int.mul_le_mul_of_nonneg_left (by omega) (Int.le_of_lt hB)
    rw [Int.mul_add] at h4
    simp only [vl, List.length_cons, Int.pow_succ]
    rw [Int.mul_comm (B ^ xs.length) B]; omega
theorem vl_tr (B : Int) (xs : List Int) : vl B (tr xs) = vl B xs := by
  induction xs with
  | nil => rfl
  | cons x xs ih =>
    simp only [tr]
    cases h : tr xs with
    | nil =>
      rw [h] at ih
      simp only [vl] at ih
      by_cases hx : x = 0 <;> simp [hx, vl, ← ih]
    | cons y ys => rw [h] at ih; simp only [vl] at ih ⊢; rw [ih]
theorem Dg.tr {B : Int} {xs : List Int} (h : Dg B xs) : Dg B (tr xs) := by
  induction xs with
  | nil => exact h
  | cons x xs ih =>
    obtain ⟨h1, h2⟩ := Dg.cons.1 h
    have h3 := ih h2
    simp only [Go.Proofs.YtknbjfefeeojlaaGreat.tr]
    cases h4 : Go.Proofs.YtknbjfefeeojlaaGreat.tr xs with
    | nil => by_cases hx : x = 0 <;> simp [hx, Dg]; omega
    | cons y ys => rw [h4] at h3; exact Dg.cons.2 ⟨h1, h3⟩
theorem dgN_zero (b : Nat) : dgN b 0 = [] := by unfold dgN; simp
theorem dgN_pos {b v : Nat} (hv : 0 < v) (hb : 2 ≤ b) : dgN b v = ((v % b : Nat) : Int) :: dgN b (v / b) := by rw [dgN, dif_pos ⟨hv, hb⟩]
theorem dg_zero (B : Int) : dg B 0 = [] := by simp [dg, dgN_zero]
theorem Dg.dgN (b : Nat) (hb : 2 ≤ b) : ∀ v, Dg (b : Int) (dgN b v) := by
  intro v
  induction v using Nat.strongRecOn with
  | ind v ih =>
    by_cases hv : 0 < v
    · rw [dgN_pos hv hb]
      refine Dg.cons.2 ⟨⟨by omega, ?_⟩, ih _ (Nat.div_lt_self hv hb)⟩
      have := Nat.mod_lt v (show 0 < b by omega); omega
    · obtain rfl : v = 0 := by omega
      rw [dgN_zero]; exact Dg.nil _
theorem vl_dgN (b : Nat) (hb : 2 ≤ b) : ∀ v : Nat, vl (b : Int) (dgN b v) = v := by
  intro v
  induction v using Nat.strongRecOn with
  | ind v ih =>
    by_cases hv : 0 < v
    · rw [dgN_pos hv hb, vl, ih _ (Nat.div_lt_self hv hb)]
      have := Nat.mod_add_div v b
      have h2 : (((v % b + b * (v / b) : Nat)) : Int) = v := by rw [this]
      simpa using h2
    · obtain rfl : v = 0 := by omega
      rw [dgN_zero]; rfl
theorem dgN_length_le (b : Nat) (hb : 2 ≤ b) (k : Nat) : ∀ v : Nat, v < b ^ k → (dgN b v).length ≤ k := by
  induction k with
  | zero => intro v hv; obtain rfl : v = 0 := by simpa using hv
            rw [dgN_zero]; simp
  | succ k ih =>
    intro v hv
    by_cases h0 : 0 < v
    · rw [dgN_pos h0 hb, List.length_cons]
      have := ih (v / b) ((Nat.div_lt_iff_lt_mul (by omega)).2 (by rw [Nat.pow_succ] at hv; exact hv))
      omega
    · obtain rfl : v = 0 := by omega
      rw [dgN_zero]; simp
section
variable {B : Int} (hB : 2 ≤ B)
theorem Dg.dg (hB : 2 ≤ B) (v : Int) : Dg B (dg B v) := by
  obtain ⟨b, rfl⟩ := Int.eq_ofNat_of_zero_le (show 0 ≤ B by omega)
  exact Dg.dgN b (by omega) _
theorem vl_dg (hB : 2 ≤ B) {v : Int} (hv : 0 ≤ v) : vl B (dg B v) = v := by
  obtain ⟨b, rfl⟩ := Int.eq_ofNat_of_zero_le (show 0 ≤ B by omega)
  obtain ⟨n, rfl⟩ := Int.eq_ofNat_of_zero_le hv
  exact vl_dgN b (by omega) n
theorem dg_length_le (hB : 2 ≤ B) {v : Int} {k : Nat} (h : v < B ^ k) : (dg B v).length ≤ k := by
  obtain ⟨b, rfl⟩ := Int.eq_ofNat_of_zero_le (show 0 ≤ B by omega)
  refine dgN_length_le b (by omega) k _ ?_
  have h2 : 0 < b ^ k := Nat.pow_pos (by omega)
  have : ((b ^ k : Nat) : Int) = (b : Int) ^ k := by simp
  rw [← this] at h
  generalize b ^ k = m at *
  omega
/-- The digits of the value of a list of digits are that list without the zeros at its end. -/
theorem dg_vl (hB : 2 ≤ B) {xs : List Int} (h : Dg B xs) : dg B (vl B xs) = tr xs := by
  induction xs with
  | nil => simp [vl, dg_zero, tr]
  | cons x xs ih =>
    obtain ⟨h1, h2⟩ := Dg.cons.1 h
    have ih := ih h2
    have h0 := vl_nonneg (by omega) h2
    obtain ⟨b, rfl⟩ := Int.eq_ofNat_of_zero_le (show 0 ≤ B by omega)
    obtain ⟨u, hu⟩ := Int.eq_ofNat_of_zero_le h0
    obtain ⟨d, rfl⟩ := Int.eq_ofNat_of_zero_le h1.1
    rw [hu] at ih
    have hdb : d < b := by omega
    simp only [vl, hu]
    have e : ((d : Int) + (b : Int) * (u : Int)) = ((d + b * u : Nat) : Int) := by simp
    rw [e]
    unfold dg at ih ⊢
    simp only [Int.toNat_natCast] at ih ⊢
    by_cases hz : 0 < d + b * u
    · rw [dgN_pos hz (by omega)]
      have e1 : (d + b * u) % b = d := by rw [Nat.add_mul_mod_self_left]; exact Nat.mod_eq_of_lt hdb
      have e2 : (d + b * u) / b = u := by rw [Nat.add_mul_div_left _ _ (by omega), Nat.div_eq_of_lt hdb]; omega
      rw [e1, e2, ih]
      simp only [tr]
      cases ht : tr xs with
      | nil =>
        have : u = 0 := by
          have h3 := vl_tr (b : Int) xs
          rw [ht, hu] at h3
          simp only [vl] at h3; omega
        subst this
        have hd : (d : Int) ≠ 0 := by simp at hz; omega
        simp only [hd, if_false]
      | cons y ys => rfl
    · have hd : d = 0 := by omega
      have hbu : b * u = 0 := by omega
      subst hd
      have hu0 : u = 0 := by
        rcases Nat.mul_eq_zero.1 hbu with h | h
        · omega
        · exact h
      subst hu0
      simp only [Nat.zero_add, Nat.mul_zero, dgN_zero] at ih ⊢
      simp only [tr, ← ih]
      simp
theorem dg_eq_nil (hB : 2 ≤ B) {v : Int} (hv : 0 ≤ v) : dg B v = [] ↔ v = 0 := by
  constructor
  · intro h; have := vl_dg hB hv; rw [h] at this; exact this.symm
  · rintro rfl; exact dg_zero B
end
theorem tr_snoc_zero (xs : List Int) : tr (xs ++ [0]) = tr xs := by
  induction xs with
  | nil => simp [tr]
  | cons x xs ih => simp only [List.cons_append, tr, ih]
theorem tr_snoc_ne (xs : List Int) {y : Int} (h : y ≠ 0) : tr (xs ++ [y]) = xs ++ [y] := by
  induction xs with
  | nil => simp [tr, h]
  | cons x xs ih =>
    simp only [List.cons_append, tr, ih]
    cases hx : xs ++ [y] with
    | nil => simp at hx
    | cons z zs => rfl
end Go.Proofs.YtknbjfefeeojlaaGreat
/- Integers of the program, and what is left of the steps. -/
namespace Go.Proofs.YtknbjfefeeojlaaGreat
open Go.RowKit
section
variable {r : Option Nat} {P : Program} {N : Nat} {ops : Array Oper} {R : Env → World → Prop} {l : List Oper} {E : Env} {W W' : World} {t : Tmp} {d : Option Tmp} {ty T T' e : TypeId} {pos : String} {af : Array Edge} {g : Option (Nat × Bool)} {x y : Operand} {K : Value → World → Prop} {ρ : Operand → Value} {v : Value} {b o : Nat} {cs : List Value} {ds : List Deferred} {Q : EQ}
theorem V.condB {c : Operand} {x y : Code} {b : Bool} (hc : ev E c = .bool b) (h1 : b = true → V r P N ds x Q E W) (h2 : b = false → V r P N ds y Q E W) : V r P N ds (.cond c x y) Q E W := by
  cases b
  · exact V.condF hc (h2 rfl)
  · exact V.condT hc (h1 rfl)
theorem add0 (p : Addr) : p.add 0 = p := by
  obtain ⟨b, o, q⟩ := p
  unfold Addr.add
  split <;> simp_all
/-- x[:m] -/
theorem rslh {k k' : IntKind} {S : Nat → Prop} {a : Option Addr} {n c s m : Nat} {xs : List Int} {low : Option Operand} {z : Int} (h : RN k S W a n c xs) (hS : Sl P T e) (hs : Sz P e s) (hx : ρ x = .slice a n c) (hl : low = none) (hy : ρ y = .int k' z) (hz : z = (m : Int)) (hm : m ≤ n) :
    (execOp ρ ⟨d, .slice T x low (some y) none, ty, pos, af, g⟩).run P W = .ok (.value (.slice a m c)) W := by
  subst hl hz
  have hc := h.cap
  refine rslg hS hs hx (l := 0) (h := m) ?_ ?_ rfl rfl
  · simp only [Option.map_none, Option.map_some, hy]; exact sb_h (by omega)
  · rw [Nat.zero_mul]
    split
    · rfl
    · cases a <;> simp [add0]
theorem RN.cut {k : IntKind} {S : Nat → Prop} {a : Option Addr} {n c l m : Nat} {xs : List Int} (h : RN k S W a n c xs) (h0 : l ≤ m) (hm : m ≤ n) : RN k S W (if c = l then a else a.map (·.add (l * 1))) (m - l) (c - l) ((xs.take m).drop l) :=
  ⟨by have := h.len; simp; omega, by have := h.cap; omega, by have := h.max; omega, fun x hx => h.wf x (List.mem_of_mem_take (List.mem_of_mem_drop hx)), fun hn => by
    obtain ⟨b, off, cs, T, fz, rfl, hs, hb, hc⟩ := h.at_ (by omega)
    have hcap := h.cap
    refine ⟨b, off + l, cs, T, fz, by rw [if_neg (by omega)]; simp [addO], hs, hb, fun j hj => ?_⟩
    rw [Nat.add_assoc, hc (l + j) (by omega)]
    simp only [wd, Int.toNat_natCast, List.getD_eq_getElem?_getD, List.getElem?_drop, List.getElem?_take]
    rw [if_pos (by omega)]⟩
/-- x[l:m] -/
theorem rsll {k k' k'' : IntKind} {S : Nat → Prop} {a : Option Addr} {n c m l : Nat} {xs : List Int} {u : Operand} {z zl : Int} (h : RN k S W a n c xs) (hS : Sl P T e) (hs : Sz P e 1) (hx : ρ x = .slice a n c) (hu : ρ u = .int k'' zl) (hy : ρ y = .int k' z) (hl : zl = (l : Int)) (hz : z = (m : Int)) (h0 : l ≤ m) (hm : m ≤ n) :
    (execOp ρ ⟨d, .slice T x (some u) (some y) none, ty, pos, af, g⟩).run P W = .ok (.value (.slice (if c = l then a else a.map (·.add (l * 1))) (m - l) (c - l))) W := by
  subst hl hz
  have hc := h.cap
  refine rslg hS hs hx (l := l) (h := m) ?_ rfl rfl rfl
  simp only [Option.map_some, hy, hu]; exact sb_lh h0 (by omega)
theorem agree_append : ∀ {A B : List (Nat × Value)}, agree E A → agree E B → agree E (A ++ B)
  | [], _, _, h => h
  | (_, _) :: _, _, h, k => ⟨h.1, agree_append h.2 k⟩
theorem ups_append (E : Env) : ∀ (A B : List (Nat × Value)), ups E (A ++ B) = ups (ups E B) A
  | [], _ => rfl
  | (d, v) :: A, B => by show up (ups E (A ++ B)) d v = up (ups (ups E B) A) d v; rw [ups_append E A B]
/-- A loop: slots F keep their values, slots L follow the state. -/
theorem V.loopK {c : Code} {ι : Type} (F : List (Nat × Value)) (L : ι → List (Nat × Value)) (I : ι → World → Prop) (μ : ι → Nat) (i₀ : ι) (hF : agree E F) (h₀ : agree E (L i₀)) (hI : I i₀ W)
    (round : ∀ i E0 W, I i W → V r P N ds c (thenV (fun E' ds' W' => ds' = ds ∧ ∃ j, agree E' F ∧ agree E' (L j) ∧ I j W' ∧ μ j < μ i) Q) (ups (ups E0 F) (L i)) W) : V r P N ds (.loop c) Q E W := by
  refine V.loop (fun i => L i ++ F) I μ i₀ (agree_append h₀ hF) hI ?_
  intro i E0 W hi
  rw [ups_append]
  refine (round i E0 W hi).mono ?_
  intro x E' ds' W' hx
  cases x with
  | normal =>
    obtain ⟨h1, j, h2, h3, h4, h5⟩ := hx
    exact ⟨h1, j, agree_append h3 h2, h4, h5⟩
  | _ => exact hx
theorem lastT {i : Nat} {p q : Prop} (h : lastOp ops i = true) (k : q) : (lastOp ops i = false → p) ∧ q := ⟨fun h' => (by rw [h] at h'; cases h'), k⟩
theorem V.regT {id : Nat} {ops : Array Oper} (hm : P.follows .mixedOrders = true) (hl : dstsOK N ops.toList = true)
    (h : ∀ W1, Ext W W1 → VH r P ops (fun _ => True) (fun E W => Q .normal E ds W) ops.size (Array.replicate ops.size false) E W1) : V r P N ds (.region id ops true) Q E W := fun a hrep hd =>
  wpIn_region_any hm (VA.wp (ds := ds) hl (fun a E W hr hd h => ⟨E, hr, by rw [hd]; exact h⟩) _ _ a E _ hrep hd (VH.va _ _ _ _ (h _ ((Ext.refl W).drew))))
theorem BoxAt.bl {B : Nat} (h : BoxAt W b cs T) (y : Below B W W') (hb : b < B) : BoxAt W' b cs T := (y.block b hb).trans h
theorem m32 (z : Int) : IntKind.u32.wrap z = z % 4294967296 := by rw [IntKind.wrap_u32]
theorem m64 (z : Int) : IntKind.u64.wrap z = z % 18446744073709551616 := by rw [IntKind.wrap_u64]
theorem wu {z : Int} (h : 0 ≤ z ∧ z ≤ 18446744073709551615) : IntKind.u64.wrap z = z := by rw [m64]; omega
theorem wuq {z u : Int} (h : 0 ≤ z ∧ z ≤ 18446744073709551615) (e : z = u) : IntKind.u64.wrap z = u := by rw [wu h, e]
theorem vldN {k : IntKind} {S : Nat → Prop} {a : Option Addr} {n c : Nat} {xs : List Int} {i : Int} (h : RN k S W a n c xs) (hx : ev E x = .pointer (some (adr a i 1))) (hT : Sc P T) (h0 : 0 ≤ i) (h1 : i < n)
    (K : ∀ q, q = wd xs i → kb k q → RV r P ops R l (up E t (.int k q)) W) : RV r P ops R (⟨some t, .load T x, ty, pos, af, none⟩ :: l) E W := vv (rldN h hx hT h0 h1) (K _ rfl (h.kb' h0 h1))
theorem shr32 (m : Int) : m.fdiv (2 ^ 32) = m / 4294967296 := by rw [Int.fdiv_eq_ediv_of_nonneg _ (by omega)]; rfl
theorem shl32 {m : Int} (h : 0 ≤ m * 4294967296 ∧ m * 4294967296 ≤ 18446744073709551615) : IntKind.u64.wrap (m * 2 ^ 32) = m * 4294967296 := by rw [show (2 : Int) ^ 32 = 4294967296 from rfl, wu h]
theorem RN.lit {k : IntKind} {S : Nat → Prop} {xs : List Int} (n : Nat) (h : BoxAt W b (xs.map (Value.int k)) e) (hk : ∀ x ∈ xs, kb k x) (hS : S b) (hn : Nat.beq xs.length n = true := by rfl) (hm : Nat.ble n 1000 = true := by rfl) : RN k S W (some ⟨b, 0, none⟩) n n xs := by
  obtain rfl := Nat.eq_of_beq_eq_true hn
  exact ⟨rfl, Nat.le_refl _, by have := Nat.le_of_ble_eq_true hm; omega, hk, fun hn => ⟨b, 0, _, e, (0,0), rfl, hS, h, fun j hj => by simp [wd, hj]⟩⟩
theorem OI.lit {k : IntKind} {B : Nat} {xs : List Int} (h : BoxAt W b (xs.map (Value.int k)) e) (hk : ∀ x ∈ xs, kb k x) (hB : B ≤ b) (hm : Nat.ble xs.length 1000 = true := by rfl) : OI k B W e (.slice (some ⟨b, 0, none⟩) xs.length xs.length) xs :=
  ⟨⟨by simp, .inr ⟨b, xs.length, (xs.map (Value.int k)).toArray, rfl, hB, h, Nat.le_refl _, by have := Nat.le_of_ble_eq_true hm; simp only [maxLen]; omega, by simp, by rw [List.take_of_length_le (by simp)]⟩⟩, hk⟩

end
/-! ### Integers -/
abbrev b32 : Int := 4294967296
abbrev LX : Nat := 17592186044416
abbrev LY : Nat := 8796093022208
theorem RN.isNil {k : IntKind} {S S' : Nat → Prop} {W : World} {a : Option Addr} {n c : Nat} {xs : List Int} (h : RN k S W a n c xs) (ha : a.isNone = true) : RN k S' W none 0 0 xs := by
  have : n = 0 := by
    rcases Nat.eq_zero_or_pos n with h0 | h0
    · exact h0
    · obtain ⟨b, off, cs, T, fz, rfl, _⟩ := h.at_ h0; cases ha
  have hl := h.len
  have : xs = [] := List.eq_nil_of_length_eq_zero (by omega)
  subst this
  exact RN.nil _ _ _ _ _ (by omega)
theorem RN.dg32 {S : Nat → Prop} {W : World} {a : Option Addr} {n c : Nat} {xs : List Int} (h : RN .u32 S W a n c xs) : Dg b32 xs := fun x hx => by
  have := h.wf x hx
  simp only [kb] at this; unfold b32; omega
theorem tr_dg32 {xs : List Int} (h : Dg b32 xs) : dg b32 (vl b32 xs) = tr xs := dg_vl (by decide) h
theorem take_succ_wd (xs : List Int) (k : Nat) (hk : k < xs.length) : xs.take (k + 1) = xs.take k ++ [wd xs k] := by
  rw [List.take_succ_eq_append_getElem hk]; simp [wd, hk]
theorem wd_take {xs : List Int} {m : Nat} {i : Int} (h : i.toNat < m) : wd (xs.take m) i = wd xs i := by
  simp [wd, List.getElem?_take, h]
theorem trim_step {n : Nat} {xs : List Int} {i : Nat} (hi : 0 < i) (h : tr (xs.take i) = tr xs) (hn : i ≤ xs.length) (hz : wd (xs.take i) ((i : Int) - 1) = 0) : tr (xs.take (i - 1)) = tr xs := by
  obtain ⟨k, rfl⟩ : ∃ k, i = k + 1 := ⟨i - 1, by omega⟩
  have e : ((k + 1 : Nat) : Int) - 1 = (k : Int) := by omega
  rw [e, wd_take (by omega)] at hz
  rw [take_succ_wd xs k (by omega), hz, tr_snoc_zero] at h
  simpa using h
theorem trim_last {xs : List Int} {i : Nat} (hi : 0 < i) (h : tr (xs.take i) = tr xs) (hn : i ≤ xs.length) (hz : wd (xs.take i) ((i : Int) - 1) ≠ 0) : xs.take i = tr xs := by
  obtain ⟨k, rfl⟩ : ∃ k, i = k + 1 := ⟨i - 1, by omega⟩
  have e : ((k + 1 : Nat) : Int) - 1 = (k : Int) := by omega
  rw [e, wd_take (by omega)] at hz
  rw [take_succ_wd xs k (by omega), tr_snoc_ne _ hz] at h
  rw [take_succ_wd xs k (by omega), h]
/-- Reads as the integer z, in least form. -/
def ZC (S : Nat → Prop) (W : World) (neg : Bool) (a : Option Addr) (n c : Nat) (z : Int) : Prop :=
  RN .u32 S W a n c (dg b32 z.natAbs) ∧ neg = decide (z < 0)
/-- Reads as the integer z, in any form of at most L words. -/
def ZA (L : Nat) (S : Nat → Prop) (W : World) (neg : Bool) (a : Option Addr) (n c : Nat) (z : Int) : Prop :=
  ∃ xs, RN .u32 S W a n c xs ∧ n ≤ L ∧ z = if neg then -(vl b32 xs) else vl b32 xs
section
variable {L : Nat} {S : Nat → Prop} {W W' : World} {neg : Bool} {a : Option Addr} {n c : Nat} {z : Int}
theorem ZC.ck (h : ZC S W neg a n c z) (x : CK S W W') : ZC S W' neg a n c z := ⟨h.1.ck x, h.2⟩
theorem ZA.ck (h : ZA L S W neg a n c z) (x : CK S W W') : ZA L S W' neg a n c z := by
  obtain ⟨xs, h1, h2⟩ := h; exact ⟨xs, h1.ck x, h2⟩
theorem ZC.ext (h : ZC S W neg a n c z) (x : Ext W W') : ZC S W' neg a n c z := h.ck (x.ck S)
theorem ZA.ext (h : ZA L S W neg a n c z) (x : Ext W W') : ZA L S W' neg a n c z := h.ck (x.ck S)
theorem ZC.za (h : ZC S W neg a n c z) (hL : n ≤ L) : ZA L S W neg a n c z := by
  refine ⟨_, h.1, hL, ?_⟩
  rw [vl_dg (by decide) (by omega), h.2]
  by_cases hz : z < 0 <;> simp [hz] <;> omega
theorem ZC.zaH (h : ZC S W neg a n c z) (hz : (z.natAbs : Int) < b32 ^ L) : ZA L S W neg a n c z :=
  h.za (by rw [← h.1.len]; exact dg_length_le (by decide) hz)
theorem ZA.sub {S' : Nat → Prop} (h : ZA L S W neg a n c z) (hs : ∀ b, b < W.heap.size → S b → S' b) : ZA L S' W neg a n c z := by
  obtain ⟨xs, h1, h2⟩ := h; exact ⟨xs, h1.sub hs, h2⟩
theorem ZC.sub {S' : Nat → Prop} (h : ZC S W neg a n c z) (hs : ∀ b, b < W.heap.size → S b → S' b) : ZC S' W neg a n c z := ⟨h.1.sub hs, h.2⟩
theorem ZA.mono {L' : Nat} (h : ZA L S W neg a n c z) (hL : L ≤ L') : ZA L' S W neg a n c z := by
  obtain ⟨xs, h1, h2, h3⟩ := h; exact ⟨xs, h1, Nat.le_trans h2 hL, h3⟩
theorem ZA.ng (h : ZA L S W neg a n c z) : ZA L S W (!neg) a n c (-z) := by
  obtain ⟨xs, h1, h2, h3⟩ := h
  refine ⟨xs, h1, h2, ?_⟩
  cases neg <;> simp at h3 ⊢ <;> omega
theorem ZA.abs {xs : List Int} (h1 : RN .u32 S W a n c xs) (h3 : z = if neg then -(vl b32 xs) else vl b32 xs) : (z.natAbs : Int) = vl b32 xs := by
  have := vl_nonneg (B := b32) (by decide) h1.dg32
  cases neg <;> simp at h3 <;> omega
end
theorem dg_natAbs_len {v : Int} (hv : 0 ≤ v) {m : Nat} (h : (dg b32 v).length = m) : v = 0 ↔ m = 0 := by
  rw [← h, List.length_eq_zero_iff]; exact (dg_eq_nil (by decide) hv).symm
theorem sgn_abs (neg : Bool) {v : Int} (hv : 0 ≤ v) : ((if neg then -v else v).natAbs : Int) = v := by cases neg <;> simp <;> omega
/-- It returns the integer z, in least form. -/
def PZ (S : Nat → Prop) (z : Int) (w : World) (e : Ending) (w' : World) : Prop := ∃ neg a n c, e = .returned (.agg #[.bool neg, .slice a n c]) ∧ Ext w w' ∧ ZC S w' neg a n c z
/-- It returns these words. -/
def PW (S : Nat → Prop) (xs : List Int) (w : World) (e : Ending) (w' : World) : Prop := ∃ a n c, e = .returned (.slice a n c) ∧ Ext w w' ∧ RN .u32 S w' a n c xs
theorem RN.cast {k : IntKind} {S : Nat → Prop} {W : World} {a : Option Addr} {n c : Nat} {xs ys : List Int} (h : RN k S W a n c xs) (e : xs = ys) : RN k S W a n c ys := e ▸ h
theorem RN.un {k : IntKind} {S : Nat → Prop} {bs : List Nat} {W : World} {a : Option Addr} {n c : Nat} {xs : List Int} (h : RN k (SX S bs) W a n c xs) : RN k S W a n c xs := h.sub fun _ _ h => h.1
theorem ZC.un {S : Nat → Prop} {bs : List Nat} {W : World} {neg : Bool} {a : Option Addr} {n c : Nat} {z : Int} (h : ZC (SX S bs) W neg a n c z) : ZC S W neg a n c z := h.sub fun _ _ h => h.1
theorem ZA.un {L : Nat} {S : Nat → Prop} {bs : List Nat} {W : World} {neg : Bool} {a : Option Addr} {n c : Nat} {z : Int} (h : ZA L (SX S bs) W neg a n c z) : ZA L S W neg a n c z := h.sub fun _ _ h => h.1
theorem ZC.cast {S : Nat → Prop} {W : World} {neg : Bool} {a : Option Addr} {n c : Nat} {z z' : Int} (h : ZC S W neg a n c z) (e : z = z') : ZC S W neg a n c z' := e ▸ h
theorem ZC.mk' {S : Nat → Prop} {W : World} {a : Option Addr} {m c : Nat} {v : Int} {neg s : Bool} (hr : RN .u32 S W a m c (dg b32 v)) (hv : 0 ≤ v) (hs : s = (neg && decide (0 < (m : Int)))) : ZC S W s a m c (if neg then -v else v) := by
  have hd := dg_natAbs_len hv hr.len
  refine ⟨by rw [sgn_abs neg hv]; exact hr, ?_⟩
  subst hs
  cases neg
  · simp; omega
  · simp only [Bool.true_and, if_true, decide_eq_decide]; omega
def sg (z : Int) : Int := if z < 0 then -1 else if z = 0 then 0 else 1
theorem sg_of {neg : Bool} {v s : Int} {m : Nat} (hv : 0 ≤ v) (hd : v = 0 ↔ m = 0) (h : (m = 0 ∧ s = 0) ∨ (m ≠ 0 ∧ neg = true ∧ s = -1) ∨ (m ≠ 0 ∧ neg = false ∧ s = 1)) : s = sg (if neg then -v else v) := by
  unfold sg
  rcases h with ⟨h1, rfl⟩ | ⟨h1, rfl, rfl⟩ | ⟨h1, rfl, rfl⟩
  · have := hd.2 h1; subst this; cases neg <;> simp
  · simp only [if_true]; rw [if_pos (by omega)]
  · simp only [Bool.false_eq_true, if_false]; rw [if_neg (by omega), if_neg (by omega)]
section
variable {r : Option Nat} {P : Program} {ρ : Operand → Value} {W W' : World} {d : Option Tmp} {op : Op} {ty T e : TypeId} {pos : String} {af : Array Edge} {g : Option (Nat × Bool)} {x y : Operand} {v u : Value} {K : Value → World → Prop}
/-- append(v, ys...) -/
theorem xappN {k : IntKind} {S : Nat → Prop} {t1 : TypeId} {B m c : Nat} {a : Option Addr} {xs ys : List Int} {bytes : Nat} (hS : Sl P t1 e) (hi : ∃ i, P.info? e = some i ∧ i.size = 1 ∧ i.bytes = bytes ∧ i.zero = some (.int k 0)) (hO : OI k B W e v xs) (hx : ρ x = v) (hy : ρ y = .slice a m c) (hb : RN k S W a m c ys)
    (hlen : (xs.length + ys.length) * bytes ≤ 140737488355328) (hbp : 0 < bytes) (hB : B ≤ W.heap.size)
    (hk2 : ∀ v' W', OI k B W' e v' (xs ++ ys) → W.grownBy W' v.ownBlock → (v'.ownBlock = v.ownBlock ∨ v'.ownBlock = some W.heap.size) → K v' W') :
    OpF r P ρ ⟨d, .call ⟨.builtin .append, #[x, y], #[t1, t1]⟩, ty, pos, af, g⟩ W K := by
  obtain ⟨i, h1, h2, h3, h4⟩ := hi
  have hle : xs.length + ys.length ≤ 140737488355328 := Nat.le_trans (Nat.le_mul_of_pos_right _ hbp) hlen
  have hln := hb.len
  by_cases hm : 0 < m
  · obtain ⟨b, off, cs, T, fz, rfl, hs, hbb, hc⟩ := hb.at_ hm
    obtain ⟨v', W', hr, h5, h6, h7, h8⟩ := run_append_own_at (P := P) W B t1 ty e i (.int k 0) 1 bytes hS h1 h4 h2 h3 rfl (by omega) v xs.length _ hO.row ⟨b, off, none⟩ m c (ys.map (Value.int k)) (by simp [hln])
      (by intro j u hj
          have hj2 : j < m := by
            have := (List.getElem?_eq_some_iff.1 hj).1
            simpa [hln] using this
          rw [addO]
          simp only [World.cell?, hbb]
          have := hc j hj2
          rw [List.getElem?_map] at hj
          obtain ⟨q, hq, rfl⟩ := Option.map_eq_some_iff.1 hj
          simpa [wd, hq] using this) (by intro u hu; obtain ⟨q, _, rfl⟩ := List.mem_map.1 hu; rfl) (by simp only [maxLen]; omega) (by rw [← hln]; exact hlen) hB
    unfold OpF execOp
    simp only [resolve, invoke, builtin, Sem.run_bind, Sem.run_pure, Result.andThen_ok, List.map_toArray, List.map_cons, List.map_nil, hx, hy, hr]
    refine hk2 v' W' ⟨by simpa [hln] using h5, ?_⟩ h6 h8
    intro q hq
    rcases List.mem_append.1 hq with hq | hq
    · exact hO.wf q hq
    · exact hb.wf q hq
  · have hm0 : m = 0 := by omega
    subst hm0
    have hys : ys = [] := List.eq_nil_of_length_eq_zero hln
    subst hys
    have hr : (Builtin.append_ #[t1, t1] ty #[v, .slice a 0 c]).run P W = .ok v W := by
      obtain ⟨a', c', rfl⟩ := hO.form
      have hrn := hO.rn (S := fun _ => True) (fun _ _ _ => trivial)
      have hsrc : Src P i.size t1 (.slice a 0 c) 0 [] W := by
        cases a with
        | none => exact Src.ofNil W hS c
        | some ad => exact Src.ofSlice W hS ad 0 c [] (by simp) (by simp) (by simp)
      exact run_append_nothing W t1 t1 ty e i hS h1 a' xs.length c' hrn.cap _ hsrc
    unfold OpF execOp
    simp only [resolve, invoke, builtin, Sem.run_bind, Sem.run_pure, Result.andThen_ok, List.map_toArray, List.map_cons, List.map_nil, hx, hy, hr]
    exact hk2 v W (by simpa using hO) (World.grownBy.refl _ _) (.inl rfl)
end
/-! ### An array of whole numbers that was made at once -/
structure AR (k : IntKind) (W : World) (b : Nat) (e : TypeId) (n : Nat) (xs : List Int) : Prop where
  box : BoxAt W b (xs.map (Value.int k)) e
  wf : ∀ x ∈ xs, kb k x
  len : xs.length = n
  max : n ≤ 9223372036854775807
section
variable {r : Option Nat} {P : Program} {ρ : Operand → Value} {W W' : World} {d : Option Tmp} {op : Op} {ty T e : TypeId} {pos : String} {af : Array Edge} {g : Option (Nat × Bool)} {x y : Operand} {v u : Value} {K : Value → World → Prop} {k : IntKind} {b n : Nat} {xs : List Int}
theorem AR.ext (h : AR k W b e n xs) (x : Ext W W') : AR k W' b e n xs := ⟨h.box.ext x, h.wf, h.len, h.max⟩
theorem AR.ck {S : Nat → Prop} (h : AR k W b e n xs) (x : CK S W W') (hb : S b) : AR k W' b e n xs := ⟨h.box.ck x hb, h.wf, h.len, h.max⟩
theorem AR.wr {b' : Nat} (h : AR k W b e n xs) (x : Wr b' W W') (hb : b ≠ b') : AR k W' b e n xs := ⟨h.box.wr x hb, h.wf, h.len, h.max⟩
theorem AR.bl {B : Nat} (h : AR k W b e n xs) (x : Below B W W') (hb : b < B) : AR k W' b e n xs := ⟨h.box.bl x hb, h.wf, h.len, h.max⟩
theorem AR.rn {S : Nat → Prop} (h : AR k W b e n xs) (hS : S b) : RN k S W (some ⟨b, 0, none⟩) n n xs :=
  ⟨h.len, Nat.le_refl _, h.max, h.wf, fun hn => ⟨b, 0, _, e, (0,0), rfl, hS, h.box, fun j hj => by
    have hl := h.len
    have hj2 : j < xs.length := by omega
    simp [wd, hj2]⟩⟩
/-- make([]T, n) -/
theorem xmk {t1 : TypeId} {bytes : Nat} {z : Int} (n : Nat) (hS : Sl P t1 e) (hi : ∃ i, P.info? e = some i ∧ i.size = 1 ∧ i.bytes = bytes ∧ i.zero = some (.int k 0)) (hk : kb k 0) (hx : ρ x = .int .i64 z) (hy : ρ y = .int .i64 z) (hz : z = (n : Int)) (hn : bytes * n ≤ 281474976710656) (h63 : n ≤ 9223372036854775807)
    (hk2 : ∀ W', Ext W W' → AR k W' W.heap.size e n (List.replicate n 0) → W'.heap.size = W.heap.size + 1 → K (.slice (some ⟨W.heap.size, 0, none⟩) n n) W') :
    OpF r P ρ ⟨d, .makeSlice t1 x y, ty, pos, af, g⟩ W K := by
  subst hz
  obtain ⟨i, h1, h2, h3, h4⟩ := hi
  have hr := run_make (P := P) W t1 e i (.int k 0) hS h1 h4 .i64 .i64 n n (by omega) (Int.le_refl _) (by rw [h3, ← Int.natCast_mul]; omega) (by omega)
  unfold OpF execOp
  simp only [hx, hy, Sem.run_bind, hr, Result.andThen_ok, Sem.run_pure, Int.toNat_natCast]
  refine hk2 _ ((Ext.refl _).alloc _) ⟨?_, by simp; exact fun _ => hk, by simp, h63⟩ (by simp)
  have := toList_madeCells_one (.int k 0) n
  unfold BoxAt
  rw [heap_alloc_new]
  congr 2
  apply Array.ext'
  rw [h2, Nat.mul_one, show ((Value.int k 0).cells) = #[.int k 0] from rfl, toList_madeCells_one]
  simp
/-- a[i] = z -/
theorem xsti {i z : Int} (h : AR k W b e n xs) (hx : ρ x = .pointer (some (adr (some ⟨b, 0, none⟩) i 1))) (hy : ρ y = .int k z) (hT : Sz P T 1) (hk : kb k z) (h0 : 0 ≤ i) (h1 : i < n)
    (hk2 : ∀ W', Wr b W W' → AR k W' b e n (xs.set i.toNat z) → K undef W') : OpF r P ρ ⟨d, .store T x y, ty, pos, af, g⟩ W K := by
  have hl := h.len
  have hw := h.wf
  have hm := h.max
  have hlt : i.toNat < (xs.map (Value.int k)).length := by simp; omega
  refine st1 (o := i.toNat) (v := .int k z) (cs' := (xs.set i.toNat z).map (Value.int k)) h.box ?_ hy hT rfl rfl (Nat.ble_eq_true_of_le hlt) ?_ ?_
  · rw [hx]; simp [adr, addO]
  · rw [List.map_set, List.set_eq_take_append_cons_drop, if_pos hlt]; simp
  · intro W' y' hb
    exact hk2 W' y' ⟨hb, fun q hq => by
      rcases List.mem_or_eq_of_mem_set hq with h | h
      · exact hw q h
      · subst h; exact hk, by rw [List.length_set]; exact hl, hm⟩
end
end Go.Proofs.YtknbjfefeeojlaaGreat
/- Package whole, the small functions. -/
namespace Go.Proofs.YtknbjfefeeojlaaGreat
open Go.RowKit
attribute [local irreducible] RV VH V OpF Calls

set_option maxHeartbeats 400000 in
theorem trim_ok (a : Option Addr) (n c : Nat) (xs : List Int) (S : Nat → Prop) (w : World) (h : RN .u32 S w a n c xs) :
    Calls Tryz.prog 176 #[.slice a n c] w (fun e w' => ∃ m, e = .returned (.slice a m c) ∧ RN .u32 S w' a m c (dg b32 (vl b32 xs)) ∧ m ≤ n ∧ w = w') := by
 have z0 := Ext.refl w; have hLX : LX = 17592186044416 := rfl; have hLY : LY = 8796093022208 := rfl
 refine enter (args := [.slice a n c]) Tryz.func176 rfl rfl (Nat.le_of_ble_eq_true rfl) ?_
 refine V.seq (V.reg rfl ?_)
 refine ass rfl ?_
 refine vnil ?_
 refine V.seq ?_
 refine V.block ?_
 refine V.loopK (ι := Nat) [] (fun i => [(0, .slice a i c)]) (fun i W => w = W ∧ i ≤ n ∧ tr (xs.take i) = tr xs) (fun i => i) (n) trivial ⟨rfl, trivial⟩ ⟨rfl, Nat.le_refl _, by rw [List.take_of_length_le (Nat.le_of_eq h.len)]⟩ ?_
 intro i2 E3 W1 h4
 obtain ⟨rfl, hm, ht⟩ := h4
 have hx := h.take i2 hm
 have hcp := h.cap; have hmx := h.max; have hln := h.len
 refine V.seq ?_
 refine V.seq (V.reg rfl ?_)
 refine mvs rfl ?_
 refine vv (rlen sl44 rfl) ?_
 refine vgt rfl rfl ?_ ?_
 ·intro c5
  refine mvb rfl ?_
  refine vg rfl ?_
  refine mvs rfl ?_
  refine vg rfl ?_
  refine mvs rfl ?_
  refine vg rfl ?_
  refine vv (rlen sl44 rfl) ?_
  refine vg rfl ?_
  refine vv (rbin (bSub (wi (by omega))) rfl rfl) ?_
  refine vg rfl ?_
  refine vv (rixn hx sl44 sz164 rfl rfl (by omega) (by omega)) ?_
  refine vg rfl ?_
  refine vldN hx rfl sc164 (by omega) (by omega) ?_
  intro q6 hq6 hk7
  simp only [kb] at hk7
  refine vg rfl ?_
  refine veq rfl rfl ?_ ?_
  ·intro cz
   refine vv (rpk (v := .bool true) rfl rfl) ?_
   refine vnil ?_
   refine V.condT rfl ?_
   refine V.skip ?_
   refine V.block ?_
   refine V.reg rfl ?_
   refine mvs rfl ?_
   refine mvs rfl ?_
   refine vv (rlen sl44 rfl) ?_
   refine vv (rbin (bSub (wi (by omega))) rfl rfl) ?_
   have hs8 := (hx).take (i2 - 1) (by omega)
   refine vv (rslh (m := i2 - 1) hx sl44 sz164 rfl rfl rfl (by omega) (by omega)) ?_
   refine ass rfl ?_
   refine vnil ?_
   refine ⟨rfl, i2 - 1, trivial, ⟨rfl, trivial⟩, ⟨rfl, by omega, trim_step (n := n) (by omega) ht (by omega) (by rw [← hq6]; exact cz)⟩, ?_⟩
   show i2 - 1 < i2
   omega
  ·intro cz
   refine vv (rpk (v := .bool false) rfl rfl) ?_
   refine vnil ?_
   refine V.condF rfl ?_
   refine V.exit ?_
   refine V.seq (V.reg rfl ?_)
   refine mvs rfl ?_
   refine ass rfl ?_
   refine vnil ?_
   refine V.ret ?_
   refine ⟨[.slice _ _ _], ⟨rfl, trivial⟩, ?_⟩
   refine ⟨_, rfl, ?_, hm, rfl⟩
   rw [tr_dg32 h.dg32, ← trim_last (by omega) ht (by omega) (by rw [← hq6]; exact cz)]
   exact hx
 ·intro c5
  refine mvb rfl ?_
  refine vgn (b := false) rfl rfl ?_
  refine vgn (b := false) rfl rfl ?_
  refine vgn (b := false) rfl rfl ?_
  refine vgn (b := false) rfl rfl ?_
  refine vgn (b := false) rfl rfl ?_
  refine vgn (b := false) rfl rfl ?_
  refine vgn (b := false) rfl rfl ?_
  refine vv (rpk (v := .bool false) rfl rfl) ?_
  refine vnil ?_
  refine V.condF rfl ?_
  refine V.exit ?_
  refine V.seq (V.reg rfl ?_)
  refine mvs rfl ?_
  refine ass rfl ?_
  refine vnil ?_
  refine V.ret ?_
  refine ⟨[.slice _ _ _], ⟨rfl, trivial⟩, ?_⟩
  refine ⟨_, rfl, ?_, hm, rfl⟩
  have e0 : i2 = 0 := by omega
  subst e0
  rw [tr_dg32 h.dg32, ← ht]
  exact hx
set_option maxHeartbeats 400000 in
theorem made_ok (neg : Bool) (a : Option Addr) (n c : Nat) (xs : List Int) (S : Nat → Prop) (w : World) (h : RN .u32 S w a n c xs) :
    Calls Tryz.prog 157 #[.bool neg, .slice a n c] w (PZ S (if neg then -(vl b32 xs) else vl b32 xs) w) := by
 have z0 := Ext.refl w; have hLX : LX = 17592186044416 := rfl; have hLY : LY = 8796093022208 := rfl
 have hS := h.sub (S' := SX S [w.heap.size]) (SX.old (by simp))
 have hv := vl_nonneg (B := b32) (by decide) h.dg32
 cases neg
 ·skip
  refine enter (args := [.bool false, .slice a n c]) Tryz.func157 rfl rfl (Nat.le_of_ble_eq_true rfl) ?_
  refine V.seq (V.reg rfl ?_)
  refine vo ?_
  refine xal zc46 ?_
  intro W1 x2 b3 nn4
  have s5 := x2.sz
  have z6 := x2
  refine vnil ?_
  refine V.seq (V.reg rfl ?_)
  refine mvs rfl ?_
  refine vo ?_
  refine xcall e176 (trim_ok _ _ _ _ _ _ (hS.ext z6)) rfl rfl ?_
  rintro _ _ ⟨m8, rfl, hr7, hm9, rfl⟩
  refine ⟨_, rfl, ?_⟩
  refine ass rfl ?_
  refine vnil ?_
  refine V.seq (V.reg rfl ?_)
  refine mvb rfl ?_
  refine mvb rfl ?_
  refine vgn (b := false) rfl rfl ?_
  refine vgn (b := false) rfl rfl ?_
  refine vgn (b := false) rfl rfl ?_
  refine vv (rpk (v := .bool false) rfl rfl) ?_
  refine mvs rfl ?_
  refine vv (rbd (ps := [(0, .bool false), (1, .slice _ _ _)]) (cs := [.bool false, .slice _ _ _]) pl46 rfl rfl) ?_
  refine vo ?_
  refine sta (cs' := [_, _]) b3 rfl rfl sz46 rfl rfl rfl ?_
  intro W11 y12 b3
  have z13 := z6.below (y12.below (by omega))
  have s14 := y12.size
  refine vnil ?_
  refine V.ret ?_
  refine ⟨[_], ⟨⟨_, rfl, lvb ag46 b3 rfl⟩, trivial⟩, ?_⟩
  exact ⟨_, _, _, _, rfl, z13, ZC.mk' ((hr7.ck (y12.ck (by intro hh; first | (simp [SX] at hh <;> omega) | omega)))).un hv (by first | rfl | (simp; omega))⟩
 ·skip
  refine enter (args := [.bool true, .slice a n c]) Tryz.func157 rfl rfl (Nat.le_of_ble_eq_true rfl) ?_
  refine V.seq (V.reg rfl ?_)
  refine vo ?_
  refine xal zc46 ?_
  intro W15 x16 b17 nn18
  have s19 := x16.sz
  have z20 := x16
  refine vnil ?_
  refine V.seq (V.reg rfl ?_)
  refine mvs rfl ?_
  refine vo ?_
  refine xcall e176 (trim_ok _ _ _ _ _ _ (hS.ext z20)) rfl rfl ?_
  rintro _ _ ⟨m22, rfl, hr21, hm23, rfl⟩
  refine ⟨_, rfl, ?_⟩
  refine ass rfl ?_
  refine vnil ?_
  refine V.seq (V.reg rfl ?_)
  refine mvb rfl ?_
  refine mvb rfl ?_
  refine vg rfl ?_
  refine mvs rfl ?_
  refine vg rfl ?_
  refine vv (rlen sl44 rfl) ?_
  refine vg rfl ?_
  refine vgt rfl rfl ?_ ?_
  ·intro c25
   refine vv (rpk (v := .bool true) rfl rfl) ?_
   refine mvs rfl ?_
   refine vv (rbd (ps := [(0, .bool true), (1, .slice _ _ _)]) (cs := [.bool true, .slice _ _ _]) pl46 rfl rfl) ?_
   refine vo ?_
   refine sta (cs' := [_, _]) b17 rfl rfl sz46 rfl rfl rfl ?_
   intro W26 y27 b17
   have z28 := z20.below (y27.below (by omega))
   have s29 := y27.size
   refine vnil ?_
   refine V.ret ?_
   refine ⟨[_], ⟨⟨_, rfl, lvb ag46 b17 rfl⟩, trivial⟩, ?_⟩
   exact ⟨_, _, _, _, rfl, z28, ZC.mk' ((hr21.ck (y27.ck (by intro hh; first | (simp [SX] at hh <;> omega) | omega)))).un hv (by first | rfl | (simp; omega))⟩
  ·intro c25
   refine vv (rpk (v := .bool false) rfl rfl) ?_
   refine mvs rfl ?_
   refine vv (rbd (ps := [(0, .bool false), (1, .slice _ _ _)]) (cs := [.bool false, .slice _ _ _]) pl46 rfl rfl) ?_
   refine vo ?_
   refine sta (cs' := [_, _]) b17 rfl rfl sz46 rfl rfl rfl ?_
   intro W30 y31 b17
   have z32 := z20.below (y31.below (by omega))
   have s33 := y31.size
   refine vnil ?_
   refine V.ret ?_
   refine ⟨[_], ⟨⟨_, rfl, lvb ag46 b17 rfl⟩, trivial⟩, ?_⟩
   exact ⟨_, _, _, _, rfl, z32, ZC.mk' ((hr21.ck (y31.ck (by intro hh; first | (simp [SX] at hh <;> omega) | omega)))).un hv (by first | rfl | (simp; omega))⟩
set_option maxHeartbeats 400000 in
theorem wSign_ok (neg : Bool) (a : Option Addr) (n c : Nat) (z : Int) (L : Nat) (S : Nat → Prop) (w : World) (h : ZA L S w neg a n c z) :
    Calls Tryz.prog 138 #[.agg #[.bool neg, .slice a n c]] w (fun e w' => ∃ s, e = .returned (.int .i64 s) ∧ Ext w w' ∧ s = sg z) := by
 have z0 := Ext.refl w; have hLX : LX = 17592186044416 := rfl; have hLY : LY = 8796093022208 := rfl
 obtain ⟨xs, hx, hL, rfl⟩ := h
 have hv := vl_nonneg (B := b32) (by decide) hx.dg32
 refine enter (args := [.agg #[.bool neg, .slice a n c]]) Tryz.func138 rfl rfl (Nat.le_of_ble_eq_true rfl) ?_
 refine V.seq (V.reg rfl ?_)
 refine vo ?_
 refine bxa rfl ?_
 intro W1 x2 b3 nn4
 have s5 := x2.sz
 have z6 := x2
 refine asi rfl ?_
 refine vnil ?_
 refine V.seq ?_
 refine V.block ?_
 refine V.seq (V.reg rfl ?_)
 refine vv (rfa rfl fd46_1) ?_
 refine vv (rldb (v := .slice _ _ _) rfl sc44 b3 rfl) ?_
 refine vo ?_
 refine xcall e176 (trim_ok _ _ _ _ _ _ (hx.ext z6)) rfl rfl ?_
 rintro _ _ ⟨m8, rfl, hr7, hm9, rfl⟩
 refine ⟨_, rfl, ?_⟩
 refine vv (rlen sl44 rfl) ?_
 refine veq rfl rfl ?_ ?_
 ·intro c11
  refine asb rfl ?_
  refine vnil ?_
  refine V.condT rfl ?_
  refine V.seq (V.reg rfl ?_)
  refine asi rfl ?_
  refine vnil ?_
  refine V.ret ?_
  refine ⟨[.int _ _], ⟨rfl, trivial⟩, ?_⟩
  exact ⟨_, rfl, z6, sg_of hv (dg_natAbs_len hv hr7.len) (by first | exact .inl ⟨by omega, rfl⟩ | exact .inr (.inl ⟨by omega, by assumption, rfl⟩) | exact .inr (.inr ⟨by omega, by assumption, rfl⟩))⟩
 ·intro c11
  refine asb rfl ?_
  refine vnil ?_
  refine V.condF rfl ?_
  refine V.seq (V.reg rfl ?_)
  refine vv (rfa rfl fd46_0) ?_
  refine vv (rldb (v := .bool _) rfl sc4 b3 rfl) ?_
  refine asb rfl ?_
  refine vnil ?_
  refine V.condB rfl ?_ ?_
  ·intro c12
   refine V.seq (V.reg rfl ?_)
   refine asi rfl ?_
   refine vnil ?_
   refine V.ret ?_
   refine ⟨[.int _ _], ⟨rfl, trivial⟩, ?_⟩
   exact ⟨_, rfl, z6, sg_of hv (dg_natAbs_len hv hr7.len) (by first | exact .inl ⟨by omega, rfl⟩ | exact .inr (.inl ⟨by omega, by assumption, rfl⟩) | exact .inr (.inr ⟨by omega, by assumption, rfl⟩))⟩
  ·intro c12
   refine V.skip ?_
   refine V.seq (V.reg rfl ?_)
   refine asi rfl ?_
   refine vnil ?_
   refine V.ret ?_
   refine ⟨[.int _ _], ⟨rfl, trivial⟩, ?_⟩
   exact ⟨_, rfl, z6, sg_of hv (dg_natAbs_len hv hr7.len) (by first | exact .inl ⟨by omega, rfl⟩ | exact .inr (.inl ⟨by omega, by assumption, rfl⟩) | exact .inr (.inr ⟨by omega, by assumption, rfl⟩))⟩
set_option maxHeartbeats 400000 in
theorem clone_ok (a : Option Addr) (n c : Nat) (xs : List Int) (S S' : Nat → Prop) (w : World) (h : RN .u32 S w a n c xs) (hn : n ≤ LX) (hu : Up S' w) :
    Calls Tryz.prog 204 #[.slice a n c] w (PW S' xs w) := by
 have z0 := Ext.refl w; have hLX : LX = 17592186044416 := rfl; have hLY : LY = 8796093022208 := rfl
 have hl := h.len
 refine enter (args := [.slice a n c]) Tryz.func204 rfl rfl (Nat.le_of_ble_eq_true rfl) ?_
 refine V.seq (V.reg rfl ?_)
 refine ass rfl ?_
 refine vnil ?_
 refine V.seq ?_
 refine V.seq (V.reg rfl ?_)
 refine mvs rfl ?_
 refine vv (rsnil sl44 rfl rfl) ?_
 refine vnil ?_
 refine V.condB rfl ?_ ?_
 ·intro c1
  refine V.seq (V.reg rfl ?_)
  refine ass rfl ?_
  refine vnil ?_
  refine V.ret ?_
  refine ⟨[.slice _ _ _], ⟨rfl, trivial⟩, ?_⟩
  exact ⟨_, _, _, rfl, (Ext.refl w), (h).isNil (by assumption)⟩
 ·intro c1
  refine V.skip ?_
  refine V.seq (V.reg rfl ?_)
  refine vo ?_
  refine xbs (ps := []) (cs := []) sl44 zr164 sz164 rfl rfl rfl rfl rfl rfl ?_
  intro W2 x3 b4 nn5
  have s6 := x3.sz
  have z7 := x3
  refine mvs rfl ?_
  refine vo ?_
  refine xappN sl44 in164 (OI.lit (B := w.heap.size) (k := .u32) (xs := []) b4 (by simp) (by omega)) rfl rfl (h.ext z7) (by simp only [List.length_nil, List.length_cons, List.length_append]; omega) (by decide) (by omega) ?_
  intro v8 W9 hO10 hg11 ho12
  have y13 := grown_below hg11 (by omega) (fun b e => ((OI.lit (B := w.heap.size) (k := .u32) (xs := []) b4 (by simp) (by omega)).low b e).1)
  have s14 := y13.size
  have z15 := z7.below (y13.mono (by omega))
  refine vv (ras (v := v8) rfl) ?_
  refine vnil ?_
  refine V.ret ?_
  refine ⟨[v8], ⟨rfl, trivial⟩, ?_⟩
  obtain ⟨a', c', rfl⟩ := hO10.form
  exact ⟨_, _, _, rfl, z15, hO10.rn (fun b hb _ => hu b (by omega))⟩
set_option maxHeartbeats 400000 in
theorem wNeg_ok (neg : Bool) (a : Option Addr) (n c : Nat) (z : Int) (S S' : Nat → Prop) (w : World) (h : ZA LX S w neg a n c z) (hu : Up S' w) :
    Calls Tryz.prog 177 #[.agg #[.bool neg, .slice a n c]] w (PZ S' (-z) w) := by
 have z0 := Ext.refl w; have hLX : LX = 17592186044416 := rfl; have hLY : LY = 8796093022208 := rfl
 obtain ⟨xs, hx, hL, rfl⟩ := h
 have hv := vl_nonneg (B := b32) (by decide) hx.dg32
 have hu2 : ∀ W : World, w.heap.size + 2 ≤ W.heap.size → Up (SX S' [w.heap.size + 1]) W := fun W hW => SX.up (hu.mono (by omega)) (by simp; omega)
 refine enter (args := [.agg #[.bool neg, .slice a n c]]) Tryz.func177 rfl rfl (Nat.le_of_ble_eq_true rfl) ?_
 refine V.seq (V.reg rfl ?_)
 refine vo ?_
 refine bxa rfl ?_
 intro W1 x2 b3 nn4
 have s5 := x2.sz
 have z6 := x2
 refine vo ?_
 refine xal zc46 ?_
 intro W7 x8 b9 nn10
 have s11 := x8.sz
 have z12 := z6.trans x8
 replace b3 := b3.ext x8
 refine vnil ?_
 refine V.seq (V.regD mixed rfl ?_)
 intro W13 x14
 have s15 := x14.sz
 have z16 := z12.trans x14
 replace b3 := b3.ext x14
 replace b9 := b9.ext x14
 have q17 := Ext.refl W13
 have r18 := b3
 have r19 := b9
 refine tk 0 rfl (by kernel_rfl) q17 (pv (fun _ y20 => rfa rfl fd46_0)) ?_
 refine tk 1 rfl (by kernel_rfl) q17 (pv (fun _ y21 => rldb (v := .bool _) rfl sc4 (r18.ext y21) rfl)) ?_
 refine tk 2 rfl (by kernel_rfl) q17 (pv (fun _ y22 => rnot (q := _) rfl rfl)) ?_
 refine tk 3 rfl (by kernel_rfl) q17 (pv (fun _ y23 => rfa rfl fd46_1)) ?_
 refine tk 4 rfl (by kernel_rfl) q17 (pv (fun _ y24 => rldb (v := .slice _ _ _) rfl sc44 (r18.ext y24) rfl)) ?_
 refine ef 5 (by kernel_rfl) rfl ?_
 refine xcall e204 (clone_ok _ _ _ _ _ _ _ (hx.ext z16) (by omega) (hu2 _ (by omega))) rfl rfl ?_
 rintro _ W26 ⟨_, _, _, rfl, x27, hw25⟩
 have s28 := x27.sz
 have z29 := z16.trans x27
 replace b9 := b9.ext x27
 have q30 := q17.trans x27
 have hw25l := hw25.len
 refine ⟨_, rfl, ?_⟩
 refine ⟨fun _ => q30, ?_⟩
 refine ef 6 (by kernel_rfl) rfl ?_
 refine xcall e157 (made_ok _ _ _ _ _ _ _ hw25) rfl rfl ?_
 rintro _ W32 ⟨_, _, _, _, rfl, x33, hz31⟩
 have s34 := x33.sz
 have z35 := z29.trans x33
 replace b9 := b9.ext x33
 have q36 := q30.trans x33
 refine ⟨_, rfl, ?_⟩
 refine ⟨fun _ => q36, ?_⟩
 refine ef 7 (by kernel_rfl) rfl ?_
 refine sta (cs' := [_, _]) b9 rfl rfl sz46 rfl rfl rfl ?_
 intro W37 y38 b9
 have z39 := z35.below (y38.below (by omega))
 have s40 := y38.size
 refine lastT (by kernel_rfl) ?_
 refine dn (by kernel_rfl) ?_
 refine V.ret ?_
 refine ⟨[_], ⟨⟨_, rfl, lvb ag46 b9 rfl⟩, trivial⟩, ?_⟩
 refine ⟨_, _, _, _, rfl, z39, ?_⟩
 rw [show (-(if neg then -(vl b32 xs) else vl b32 xs)) = (if (!neg) then -(vl b32 xs) else vl b32 xs) by cases neg <;> simp]
 exact ((hz31.ck (y38.ck (by intro hh; first | (simp [SX] at hh <;> omega) | omega)))).un
set_option maxHeartbeats 400000 in
theorem wFrom_ok (x : Int) (S : Nat → Prop) (w : World) (hx : -9223372036854775808 ≤ x ∧ x ≤ 9223372036854775807) (hu : Up S w) :
    Calls Tryz.prog 98 #[.int .i64 x] w (PZ S x w) := by
 have z0 := Ext.refl w; have hLX : LX = 17592186044416 := rfl; have hLY : LY = 8796093022208 := rfl
 have hu2 : ∀ W : World, w.heap.size + 1 ≤ W.heap.size → Up (SX S [w.heap.size]) W := fun W hW => SX.up (hu.mono (by omega)) (by simp; omega)
 refine enter (args := [.int .i64 x]) Tryz.func98 rfl rfl (Nat.le_of_ble_eq_true rfl) ?_
 refine V.seq (V.reg rfl ?_)
 refine vo ?_
 refine xal zc46 ?_
 intro W1 x2 b3 nn4
 have s5 := x2.sz
 have z6 := x2
 refine vnil ?_
 refine V.seq (V.reg rfl ?_)
 refine mvi rfl ?_
 refine vv (rcv Tryz.underlying2 Tryz.underlying162 rfl (m64 _)) ?_
 refine asi rfl ?_
 refine vnil ?_
 refine V.seq ?_
 refine V.seq (V.reg rfl ?_)
 refine mvi rfl ?_
 refine vlt rfl rfl ?_ ?_
 ·intro c7
  refine vnil ?_
  refine V.condT rfl ?_
  refine V.reg rfl ?_
  refine mvi rfl ?_
  refine vv (rneg rfl (m64 _)) ?_
  refine asi rfl ?_
  refine vnil ?_
  refine V.seq (V.reg rfl ?_)
  refine mvi rfl ?_
  refine vlt rfl rfl ?_ ?_
  ·intro c8
   refine mvi rfl ?_
   refine vv (rcv Tryz.underlying162 Tryz.underlying164 rfl (m32 _)) ?_
   refine mvi rfl ?_
   refine vv (rshr (n := 32) rfl rfl (by decide) (shr32 _)) ?_
   refine vv (rcv Tryz.underlying162 Tryz.underlying164 rfl (m32 _)) ?_
   refine vo ?_
   refine xbs (ps := [(0, .int _ _), (1, .int _ _)]) (cs := [.int _ _, .int _ _]) sl44 zr164 sz164 rfl rfl rfl rfl rfl rfl ?_
   intro W9 x10 b11 nn12
   have s13 := x10.sz
   have z14 := z6.trans x10
   replace b3 := b3.ext x10
   have hl15 := RN.lit (k := .u32) (xs := [_, _]) 2 b11 (by intro q hq; simp only [List.mem_cons, List.not_mem_nil, or_false] at hq; simp only [kb]; omega) (hu2 W1 (by omega) _ (Nat.le_refl _))
   refine vo ?_
   refine xcall e157 (made_ok true _ _ _ _ _ _ hl15) rfl rfl ?_
   rintro _ W17 ⟨_, _, _, _, rfl, x18, hz16⟩
   have s19 := x18.sz
   have z20 := z14.trans x18
   replace b3 := b3.ext x18
   refine ⟨_, rfl, ?_⟩
   refine vo ?_
   refine sta (cs' := [_, _]) b3 rfl rfl sz46 rfl rfl rfl ?_
   intro W21 y22 b3
   have z23 := z20.below (y22.below (by omega))
   have s24 := y22.size
   refine vnil ?_
   refine V.ret ?_
   refine ⟨[_], ⟨⟨_, rfl, lvb ag46 b3 rfl⟩, trivial⟩, ?_⟩
   exact ⟨_, _, _, _, rfl, z23, ((hz16.ck (y22.ck (by intro hh; first | (simp [SX] at hh <;> omega) | omega)))).un.cast (by simp [vl, b32]; omega)⟩
  ·intro c8
   omega
 ·intro c7
  refine vnil ?_
  refine V.condF rfl ?_
  refine V.skip ?_
  refine V.seq (V.reg rfl ?_)
  refine mvi rfl ?_
  refine vlt rfl rfl ?_ ?_
  ·intro c25
   omega
  ·intro c25
   refine mvi rfl ?_
   refine vv (rcv Tryz.underlying162 Tryz.underlying164 rfl (m32 _)) ?_
   refine mvi rfl ?_
   refine vv (rshr (n := 32) rfl rfl (by decide) (shr32 _)) ?_
   refine vv (rcv Tryz.underlying162 Tryz.underlying164 rfl (m32 _)) ?_
   refine vo ?_
   refine xbs (ps := [(0, .int _ _), (1, .int _ _)]) (cs := [.int _ _, .int _ _]) sl44 zr164 sz164 rfl rfl rfl rfl rfl rfl ?_
   intro W26 x27 b28 nn29
   have s30 := x27.sz
   have z31 := z6.trans x27
   replace b3 := b3.ext x27
   have hl32 := RN.lit (k := .u32) (xs := [_, _]) 2 b28 (by intro q hq; simp only [List.mem_cons, List.not_mem_nil, or_false] at hq; simp only [kb]; omega) (hu2 W1 (by omega) _ (Nat.le_refl _))
   refine vo ?_
   refine xcall e157 (made_ok false _ _ _ _ _ _ hl32) rfl rfl ?_
   rintro _ W34 ⟨_, _, _, _, rfl, x35, hz33⟩
   have s36 := x35.sz
   have z37 := z31.trans x35
   replace b3 := b3.ext x35
   refine ⟨_, rfl, ?_⟩
   refine vo ?_
   refine sta (cs' := [_, _]) b3 rfl rfl sz46 rfl rfl rfl ?_
   intro W38 y39 b3
   have z40 := z37.below (y39.below (by omega))
   have s41 := y39.size
   refine vnil ?_
   refine V.ret ?_
   refine ⟨[_], ⟨⟨_, rfl, lvb ag46 b3 rfl⟩, trivial⟩, ?_⟩
   exact ⟨_, _, _, _, rfl, z40, ((hz33.ck (y39.ck (by intro hh; first | (simp [SX] at hh <;> omega) | omega)))).un.cast (by simp [vl, b32]; omega)⟩
end Go.Proofs.YtknbjfefeeojlaaGreat

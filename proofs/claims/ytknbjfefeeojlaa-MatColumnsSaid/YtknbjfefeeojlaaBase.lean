/- The words of these proofs: which cells a slice, an integer, a rational, a vector, a matrix is read from, and what keeps such a reading; a region that draws its order, with the loads taken first. -/
import Derived.Test.YtknbjfefeeojlaaProg
import Derived.WalkKit
import Derived.WalkSpells
import Derived.Deep.RegionHeld3
import Derived.Deep.LoopGhost
import Derived.Lib.Hide
import Derived.RangeFuncNested
import Derived.RangeFuncBound
import Derived.RangeFuncCalls
import Derived.RangeFuncLeaves
import Derived.Shelf.Abstract
import Derived.Shelf.RegionOpen
import Derived.OwnWalkIn
import Derived.TacticsInMore
import Derived.LoopNIn
import Derived.LoopIn
import Derived.Maps.AppendAt
namespace Go.Proofs.Ytknbjfefeeojlaa
open Go.RowKit

/-! ### Worlds -/
abbrev Ext (W W' : World) : Prop := Below W.heap.size W W'
theorem Ext.refl (W : World) : Ext W W := Below.refl _ _
theorem Ext.trans {a b c : World} (h : Ext a b) (k : Ext b c) : Ext a c := Below.trans h (k.mono h.size)
theorem Ext.drew {a b : World} (h : Ext a b) : Ext a b.drew := Below.drew h
theorem Ext.alloc {a b : World} (h : Ext a b) (o : Obj) : Ext a (b.alloc o) := Below.alloc h h.size o
theorem Ext.sz {a b : World} (h : Ext a b) : a.heap.size ≤ b.heap.size := h.size
theorem Below.thenExt {B : Nat} {a b c : World} (h : Below B a b) (x : Ext b c) (hB : B ≤ a.heap.size) : Below B a c := Below.trans h (x.mono (Nat.le_trans hB h.size))
theorem Ext.below {a b c : World} (h : Ext a b) (k : Below a.heap.size b c) : Ext a c := Below.trans h k

/-- Every block of cells in S is as it was. -/
def CK (S : Nat → Prop) (W W' : World) : Prop := W.heap.size ≤ W'.heap.size ∧ ∀ b cs T fz, S b → W.heap[b]? = some (.cells cs T fz) → W'.heap[b]? = some (.cells cs T fz)
theorem CK.refl (S : Nat → Prop) (W : World) : CK S W W := ⟨Nat.le_refl _, fun _ _ _ _ _ h => h⟩
theorem CK.trans {S : Nat → Prop} {a b c : World} (h : CK S a b) (k : CK S b c) : CK S a c := ⟨Nat.le_trans h.1 k.1, fun x cs T fz hs hx => k.2 x cs T fz hs (h.2 x cs T fz hs hx)⟩
theorem CK.sub {S S' : Nat → Prop} {a b : World} (h : CK S a b) (hs : ∀ x, S' x → S x) : CK S' a b := ⟨h.1, fun x cs T fz hx => h.2 x cs T fz (hs x hx)⟩
theorem Ext.ck {a b : World} (h : Ext a b) (S : Nat → Prop) : CK S a b :=
  ⟨h.size, fun x _ _ _ _ hx => (h.block x (Array.getElem?_eq_some_iff.1 hx).1).trans hx⟩
theorem CK.drew {S : Nat → Prop} {a b : World} (h : CK S a b) : CK S a b.drew := h
theorem CK.alloc {S : Nat → Prop} {a b : World} (h : CK S a b) (o : Obj) : CK S a (b.alloc o) := h.trans (((Ext.refl b).alloc o).ck S)
theorem CK.setCell {S : Nat → Prop} {a b : World} (h : CK S a b) {p : Addr} (hp : ¬ S p.block) (v : Value) : CK S a (b.setCell p v) :=
  h.trans ⟨by simp [World.setCell], fun x _ _ _ hs hx => (Below.heap_setCell _ _ _ _ (fun e => hp (e ▸ hs))).trans hx⟩
theorem CK.grown {S : Nat → Prop} {a b : World} {row : Option Nat} (hg : a.grownBy b row) (hr : ∀ r, row = some r → (∃ o : Obj, a.heap[r]? = some o ∧ o.isCells = false) ∨ ¬ S r) : CK S a b :=
  ⟨hg.size, fun x cs T fz hs hx => by
    refine (hg.block x (Array.getElem?_eq_some_iff.1 hx).1 ?_).trans hx
    intro e
    rcases hr x e.symm with ⟨o, ho, hc⟩ | h
    · rw [hx] at ho; cases ho; simp [Obj.isCells] at hc
    · exact h hs⟩
theorem CK.size {S : Nat → Prop} {a b : World} (h : CK S a b) : a.heap.size ≤ b.heap.size := h.1
/-- New blocks are in S. -/
def Up (S : Nat → Prop) (W : World) : Prop := ∀ b, W.heap.size ≤ b → S b
theorem Up.mono {S : Nat → Prop} {a b : World} (h : Up S a) (hs : a.heap.size ≤ b.heap.size) : Up S b := fun x hx => h x (Nat.le_trans hs hx)

/-! ### A block of the call's own -/
def BoxAt (W : World) (b : Nat) (cs : List Value) (T : TypeId) : Prop := W.heap[b]? = some (.cells cs.toArray T (0,0))
/-- Block b alone may have been written. -/
structure Wr (b : Nat) (W W' : World) : Prop where
  os : W'.os = W.os
  tape : W'.tape = W.tape
  output : W'.output = W.output
  size : W'.heap.size = W.heap.size
  block : ∀ k, k ≠ b → W'.heap[k]? = W.heap[k]?
section
variable {W W' : World} {b : Nat} {cs : List Value} {T : TypeId}
theorem Wr.below {B : Nat} (h : Wr b W W') (hb : B ≤ b) : Below B W W' := ⟨h.os, h.tape, h.output, Nat.le_of_eq h.size.symm, fun k hk => h.block k (by omega)⟩
theorem Wr.ck {S : Nat → Prop} (h : Wr b W W') (hb : ¬ S b) : CK S W W' := ⟨Nat.le_of_eq h.size.symm, fun x _ _ _ hs hx => (h.block x (fun e => hb (e ▸ hs))).trans hx⟩
theorem BoxAt.lt (h : BoxAt W b cs T) : b < W.heap.size := (Array.getElem?_eq_some_iff.1 h).1
theorem BoxAt.ck {S : Nat → Prop} (h : BoxAt W b cs T) (hx : CK S W W') (hs : S b) : BoxAt W' b cs T := hx.2 b cs.toArray T (0,0) hs h
theorem BoxAt.ext (h : BoxAt W b cs T) (hx : Ext W W') : BoxAt W' b cs T := (hx.block b h.lt).trans h
theorem BoxAt.wr {b' : Nat} (h : BoxAt W b cs T) (hx : Wr b' W W') (hne : b ≠ b') : BoxAt W' b cs T := (hx.block b hne).trans h
theorem BoxAt.cell (h : BoxAt W b cs T) (i : Nat) {v : Value} (hv : cs[i]? = some v) : W.cell? ⟨b, i, none⟩ = some v := by
  unfold BoxAt at h
  simp [World.cell?, h, hv]
theorem BoxAt.free (h : BoxAt W b cs T) (i : Nat) : W.frozen? ⟨b, i, none⟩ = false := by
  unfold BoxAt at h
  simp [World.frozen?, h]
theorem BoxAt.new (W : World) (cs : List Value) (T : TypeId) : BoxAt (W.alloc (.cells cs.toArray T)) W.heap.size cs T := heap_alloc_new W _
theorem BoxAt.setRow (h : BoxAt W b cs T) (cs' : List Value) : BoxAt (W.setRow b cs'.toArray) b cs' T ∧ Wr b W (W.setRow b cs'.toArray) :=
  ⟨setRow_heap W b _ _ T (0,0) h, rfl, rfl, rfl, by simp [World.setRow], fun k hk => by simp [World.setRow, Array.getElem?_modify, Ne.symm hk]⟩
end

/-! ### Slices of whole numbers -/
def wd (xs : List Int) (i : Int) : Int := xs.getD i.toNat 0
def kb (k : IntKind) (x : Int) : Prop := match k with
  | .u32 => 0 ≤ x ∧ x ≤ 4294967295
  | _ => -9223372036854775808 ≤ x ∧ x ≤ 9223372036854775807
structure RN (k : IntKind) (S : Nat → Prop) (W : World) (a : Option Addr) (n c : Nat) (xs : List Int) : Prop where
  len : xs.length = n
  cap : n ≤ c
  max : c ≤ 9223372036854775807
  wf : ∀ x ∈ xs, kb k x
  at_ : 0 < n → ∃ b off cs T fz, a = some ⟨b, off, none⟩ ∧ S b ∧ W.heap[b]? = some (.cells cs T fz) ∧ ∀ j, j < n → cs[off + j]? = some (.int k (wd xs j))
section
variable {k : IntKind} {S : Nat → Prop} {W W' : World} {a : Option Addr} {n c : Nat} {xs : List Int}
theorem RN.ck (h : RN k S W a n c xs) (x : CK S W W') : RN k S W' a n c xs :=
  ⟨h.len, h.cap, h.max, h.wf, fun hn => by
    obtain ⟨b, off, cs, T, fz, e, hs, hb, hc⟩ := h.at_ hn
    exact ⟨b, off, cs, T, fz, e, hs, x.2 b cs T fz hs hb, hc⟩⟩
theorem RN.ext (h : RN k S W a n c xs) (x : Ext W W') : RN k S W' a n c xs := h.ck (x.ck S)
theorem RN.sub {S' : Nat → Prop} (h : RN k S W a n c xs) (hs : ∀ b, b < W.heap.size → S b → S' b) : RN k S' W a n c xs :=
  ⟨h.len, h.cap, h.max, h.wf, fun hn => by
    obtain ⟨b, off, cs, T, fz, e, h1, hb, hc⟩ := h.at_ hn
    exact ⟨b, off, cs, T, fz, e, hs b (Array.getElem?_eq_some_iff.1 hb).1 h1, hb, hc⟩⟩
theorem RN.nil (k : IntKind) (S : Nat → Prop) (W : World) (a : Option Addr) (c : Nat) (hc : c ≤ 9223372036854775807) : RN k S W a 0 c [] := ⟨rfl, Nat.zero_le _, hc, by simp, fun h => absurd h (by omega)⟩
/-- Its cells, at an index that the walk knows as a natural number. -/
theorem RN.cells (h : RN k S W a n c xs) (hn : 0 < n) : ∃ b off, a = some ⟨b, off, none⟩ ∧ S b ∧ b < W.heap.size ∧ ∀ j : Nat, j < n → W.cell? ⟨b, off + j, none⟩ = some (.int k (wd xs j)) := by
  obtain ⟨b, off, cs, T, fz, e, hs, hb, hc⟩ := h.at_ hn
  exact ⟨b, off, e, hs, (Array.getElem?_eq_some_iff.1 hb).1, fun j hj => by simp [World.cell?, hb, hc j hj]⟩
theorem RN.kbd (h : RN k S W a n c xs) (j : Nat) (hj : j < n) : kb k (wd xs j) := by
  refine h.wf _ ?_
  have : j < xs.length := by have := h.len; omega
  simp [wd, this]
theorem RN.take (h : RN k S W a n c xs) (m : Nat) (hm : m ≤ n) : RN k S W a m c (xs.take m) :=
  ⟨by have := h.len; simp; omega, Nat.le_trans hm h.cap, h.max, fun x hx => h.wf x (List.mem_of_mem_take hx), fun h0 => by
    obtain ⟨b, off, cs, T, fz, e, hs, hb, hc⟩ := h.at_ (by omega)
    refine ⟨b, off, cs, T, fz, e, hs, hb, fun j hj => ?_⟩
    rw [hc j (by omega)]
    simp [wd, List.getElem?_take, hj]⟩
end

/-! ### Own blocks left out -/
def SX (S : Nat → Prop) (bs : List Nat) : Nat → Prop := fun b => S b ∧ b ∉ bs
theorem SX.up {S : Nat → Prop} {bs : List Nat} {W : World} (h : Up S W) (hb : ∀ b ∈ bs, b < W.heap.size) : Up (SX S bs) W := fun b hx => ⟨h b hx, fun hm => by have := hb b hm; omega⟩
theorem SX.not {S : Nat → Prop} {bs : List Nat} {b : Nat} (h : b ∈ bs) : ¬ SX S bs b := fun hx => hx.2 h
theorem SX.le {S : Nat → Prop} {bs : List Nat} : ∀ b, SX S bs b → S b := fun _ h => h.1
theorem SX.old {S : Nat → Prop} {bs : List Nat} {w : World} (hb : ∀ b ∈ bs, w.heap.size ≤ b) : ∀ b, b < w.heap.size → S b → SX S bs b := fun b h1 h2 => ⟨h2, fun hm => by have := hb b hm; omega⟩

end Go.Proofs.Ytknbjfefeeojlaa

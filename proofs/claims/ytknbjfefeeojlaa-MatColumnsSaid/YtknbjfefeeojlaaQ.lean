/- Rationals of the program. -/
import Derived.Test.YtknbjfefeeojlaaWd
namespace Go.Proofs.Ytknbjfefeeojlaa
open Go.RowKit
/-- A rational as it is written down. -/
structure RawQ where
  n1 : Bool
  xs : List Int
  n2 : Bool
  ys : List Int
deriving DecidableEq
def zval (n : Bool) (xs : List Int) : Int := if n then -(vl b32 xs) else vl b32 xs
def qv (x y : Int) : Rat := if y = 0 then (x : Rat) else Rat.divInt x y
def qval (ρ : RawQ) : Rat := qv (zval ρ.n1 ρ.xs) (zval ρ.n2 ρ.ys)
def canon (r : Rat) : RawQ := ⟨decide (r.num < 0), dg b32 r.num.natAbs, false, if r.den = 1 then [] else dg b32 r.den⟩
def QX (S : Nat → Prop) (W : World) (q : List Value) (ρ : RawQ) : Prop := ∃ a1 l1 c1 a2 l2 c2, q = [.bool ρ.n1, .slice a1 l1 c1, .bool ρ.n2, .slice a2 l2 c2] ∧ RN .u32 S W a1 l1 c1 ρ.xs ∧ RN .u32 S W a2 l2 c2 ρ.ys
/-- At most L words each. -/
def szQ (L : Nat) (ρ : RawQ) : Prop := ρ.xs.length ≤ L ∧ ρ.ys.length ≤ L
def QA (L : Nat) (S : Nat → Prop) (W : World) (q : List Value) (r : Rat) : Prop := ∃ ρ, QX S W q ρ ∧ szQ L ρ ∧ r = qval ρ
def QC (S : Nat → Prop) (W : World) (q : List Value) (r : Rat) : Prop := QX S W q (canon r)
/-- A numerator and a positive denominator. -/
def PA (L : Nat) (S : Nat → Prop) (W : World) (q : List Value) (x y : Int) : Prop := ∃ n1 a1 l1 c1 n2 a2 l2 c2, q = [.bool n1, .slice a1 l1 c1, .bool n2, .slice a2 l2 c2] ∧ ZA L S W n1 a1 l1 c1 x ∧ ZA L S W n2 a2 l2 c2 y
/-- Its numbers fit into L words. -/
def sz (L : Nat) (r : Rat) : Prop := (r.num.natAbs : Int) < b32 ^ L ∧ (r.den : Int) < b32 ^ L
def PQ (S : Nat → Prop) (r : Rat) (w : World) (e : Ending) (w' : World) : Prop := ∃ q, e = .returned (.agg q.toArray) ∧ Ext w w' ∧ QC S w' q r
section
variable {L : Nat} {S S' : Nat → Prop} {W W' : World} {q : List Value} {ρ : RawQ} {r : Rat} {x y : Int} {bs : List Nat}
theorem QX.ck (h : QX S W q ρ) (k : CK S W W') : QX S W' q ρ := by
  obtain ⟨a1, l1, c1, a2, l2, c2, e, h1, h2⟩ := h; exact ⟨a1, l1, c1, a2, l2, c2, e, h1.ck k, h2.ck k⟩
theorem QX.ext (h : QX S W q ρ) (k : Ext W W') : QX S W' q ρ := h.ck (k.ck S)
theorem QX.sub (h : QX S W q ρ) (hs : ∀ b, b < W.heap.size → S b → S' b) : QX S' W q ρ := by
  obtain ⟨a1, l1, c1, a2, l2, c2, e, h1, h2⟩ := h; exact ⟨a1, l1, c1, a2, l2, c2, e, h1.sub hs, h2.sub hs⟩
theorem QX.form (h : QX S W q ρ) : ∃ n1 a1 l1 c1 n2 a2 l2 c2, q = [.bool n1, .slice a1 l1 c1, .bool n2, .slice a2 l2 c2] := by
  obtain ⟨a1, l1, c1, a2, l2, c2, e, h1, h2⟩ := h; exact ⟨_, _, _, _, _, _, _, _, e⟩
theorem QA.ck (h : QA L S W q r) (k : CK S W W') : QA L S W' q r := by obtain ⟨ρ, h1, h2⟩ := h; exact ⟨ρ, h1.ck k, h2⟩
theorem QA.ext (h : QA L S W q r) (k : Ext W W') : QA L S W' q r := h.ck (k.ck S)
theorem QA.sub (h : QA L S W q r) (hs : ∀ b, b < W.heap.size → S b → S' b) : QA L S' W q r := by obtain ⟨ρ, h1, h2⟩ := h; exact ⟨ρ, h1.sub hs, h2⟩
theorem QA.un (h : QA L (SX S bs) W q r) : QA L S W q r := h.sub fun _ _ h => h.1
theorem QA.form (h : QA L S W q r) : ∃ n1 a1 l1 c1 n2 a2 l2 c2, q = [.bool n1, .slice a1 l1 c1, .bool n2, .slice a2 l2 c2] := by obtain ⟨ρ, h1, h2⟩ := h; exact h1.form
theorem QA.mono {L' : Nat} (h : QA L S W q r) (hL : L ≤ L') : QA L' S W q r := by obtain ⟨ρ, h1, h2, h3⟩ := h; exact ⟨ρ, h1, ⟨Nat.le_trans h2.1 hL, Nat.le_trans h2.2 hL⟩, h3⟩
theorem QC.ck (h : QC S W q r) (k : CK S W W') : QC S W' q r := QX.ck h k
theorem QC.ext (h : QC S W q r) (k : Ext W W') : QC S W' q r := QX.ext h k
theorem QC.sub (h : QC S W q r) (hs : ∀ b, b < W.heap.size → S b → S' b) : QC S' W q r := QX.sub h hs
theorem QC.un (h : QC (SX S bs) W q r) : QC S W q r := QX.sub h fun _ _ h => h.1
theorem QC.form (h : QC S W q r) : ∃ n1 a1 l1 c1 n2 a2 l2 c2, q = [.bool n1, .slice a1 l1 c1, .bool n2, .slice a2 l2 c2] := QX.form h
theorem QC.cast {r' : Rat} (h : QC S W q r) (e : r = r') : QC S W q r' := e ▸ h
theorem PA.ck (h : PA L S W q x y) (k : CK S W W') : PA L S W' q x y := by
  obtain ⟨n1, a1, l1, c1, n2, a2, l2, c2, e, h1, h2⟩ := h; exact ⟨n1, a1, l1, c1, n2, a2, l2, c2, e, h1.ck k, h2.ck k⟩
theorem PA.ext (h : PA L S W q x y) (k : Ext W W') : PA L S W' q x y := h.ck (k.ck S)
theorem PA.sub (h : PA L S W q x y) (hs : ∀ b, b < W.heap.size → S b → S' b) : PA L S' W q x y := by
  obtain ⟨n1, a1, l1, c1, n2, a2, l2, c2, e, h1, h2⟩ := h; exact ⟨n1, a1, l1, c1, n2, a2, l2, c2, e, h1.sub hs, h2.sub hs⟩
theorem PA.un (h : PA L (SX S bs) W q x y) : PA L S W q x y := h.sub fun _ _ h => h.1
theorem PA.form (h : PA L S W q x y) : ∃ n1 a1 l1 c1 n2 a2 l2 c2, q = [.bool n1, .slice a1 l1 c1, .bool n2, .slice a2 l2 c2] := by
  obtain ⟨n1, a1, l1, c1, n2, a2, l2, c2, e, h1, h2⟩ := h; exact ⟨n1, a1, l1, c1, n2, a2, l2, c2, e⟩
theorem PA.mk' {n1 n2 : Bool} {a1 a2 : Option Addr} {l1 c1 l2 c2 : Nat} (h1 : ZA L S W n1 a1 l1 c1 x) (h2 : ZA L S W n2 a2 l2 c2 y) : PA L S W [.bool n1, .slice a1 l1 c1, .bool n2, .slice a2 l2 c2] x y := ⟨_, _, _, _, _, _, _, _, rfl, h1, h2⟩
theorem PA.one {n1 n2 : Bool} {a1 a2 : Option Addr} {l1 c1 l2 c2 : Nat} (h : PA L S W [.bool n1, .slice a1 l1 c1, .bool n2, .slice a2 l2 c2] x y) : ZA L S W n1 a1 l1 c1 x ∧ ZA L S W n2 a2 l2 c2 y := by
  obtain ⟨_, _, _, _, _, _, _, _, e, h1, h2⟩ := h
  simp only [List.cons.injEq, Value.bool.injEq, Value.slice.injEq, and_true] at e
  obtain ⟨rfl, ⟨rfl, rfl, rfl⟩, rfl, rfl, rfl, rfl⟩ := e
  exact ⟨h1, h2⟩
theorem QA.two {n1 n2 : Bool} {a1 a2 : Option Addr} {l1 c1 l2 c2 : Nat} (h : QA L S W [.bool n1, .slice a1 l1 c1, .bool n2, .slice a2 l2 c2] r) : ∃ x y, ZA L S W n1 a1 l1 c1 x ∧ ZA L S W n2 a2 l2 c2 y ∧ r = qv x y := by
  obtain ⟨ρ, ⟨_, _, _, _, _, _, e, h1, h2⟩, hs, rfl⟩ := h
  simp only [List.cons.injEq, Value.bool.injEq, Value.slice.injEq, and_true] at e
  obtain ⟨rfl, ⟨rfl, rfl, rfl⟩, rfl, rfl, rfl, rfl⟩ := e
  exact ⟨_, _, ⟨_, h1, by have := h1.len; have := hs.1; omega, rfl⟩, ⟨_, h2, by have := h2.len; have := hs.2; omega, rfl⟩, rfl⟩
theorem QA.mk2 {n1 n2 : Bool} {a1 a2 : Option Addr} {l1 c1 l2 c2 : Nat} (h1 : ZA L S W n1 a1 l1 c1 x) (h2 : ZA L S W n2 a2 l2 c2 y) : QA L S W [.bool n1, .slice a1 l1 c1, .bool n2, .slice a2 l2 c2] (qv x y) := by
  obtain ⟨xs, h1, h3, rfl⟩ := h1
  obtain ⟨ys, h2, h4, rfl⟩ := h2
  exact ⟨⟨n1, xs, n2, ys⟩, ⟨_, _, _, _, _, _, rfl, h1, h2⟩, ⟨by show xs.length ≤ L; have := h1.len; omega, by show ys.length ≤ L; have := h2.len; omega⟩, rfl⟩
theorem pow_mono {n m : Nat} (h : n ≤ m) : b32 ^ n ≤ b32 ^ m := by
  obtain ⟨k, rfl⟩ : ∃ k, m = n + k := ⟨m - n, by omega⟩
  rw [Int.pow_add]
  have h1 := pow_pos' (B := b32) (by decide) n
  have h2 := pow_pos' (B := b32) (by decide) k
  have := Int.mul_le_mul_of_nonneg_left (show 1 ≤ b32 ^ k by omega) (Int.le_of_lt h1)
  omega
theorem ZC.za_mul {L1 L2 : Nat} {S1 S2 : Nat → Prop} {W1 W2 : World} {n n1 n2 : Bool} {a a1 a2 : Option Addr} {l c l1 c1 l2 c2 : Nat} (h : ZC S W n a l c (x * y)) (h1 : ZA L1 S1 W1 n1 a1 l1 c1 x) (h2 : ZA L2 S2 W2 n2 a2 l2 c2 y) : ZA (L1 + L2) S W n a l c (x * y) := by
  obtain ⟨xs, g1, g2, g3⟩ := h1
  obtain ⟨ys, g4, g5, g6⟩ := h2
  have e1 := ZA.abs g1 g3
  have e2 := ZA.abs g4 g6
  have b1 := vl_lt (B := b32) (by decide) g1.dg32
  have b2 := vl_lt (B := b32) (by decide) g4.dg32
  have p1 := vl_nonneg (B := b32) (by decide) g1.dg32
  have p2 := vl_nonneg (B := b32) (by decide) g4.dg32
  have hl1 := g1.len
  have hl2 := g4.len
  refine h.zaH ?_
  rw [Int.natAbs_mul, Int.natCast_mul, e1, e2]
  have m1 : vl b32 xs * vl b32 ys ≤ vl b32 xs * (b32 ^ ys.length) := Int.mul_le_mul_of_nonneg_left (Int.le_of_lt b2) p1
  have q2 : 0 < b32 ^ ys.length := pow_pos' (by decide) _
  have m2 : vl b32 xs * (b32 ^ ys.length) < b32 ^ xs.length * b32 ^ ys.length := Int.mul_lt_mul_of_pos_right b1 q2
  rw [← Int.pow_add] at m2
  have m3 : b32 ^ (xs.length + ys.length) ≤ b32 ^ (L1 + L2) := pow_mono (by omega)
  omega
theorem ZA.lt {n : Bool} {a : Option Addr} {l c : Nat} (h : ZA L S W n a l c x) : (x.natAbs : Int) < b32 ^ L := by
  obtain ⟨xs, g1, g2, g3⟩ := h
  rw [ZA.abs g1 g3]
  have b1 := vl_lt (B := b32) (by decide) g1.dg32
  have := pow_mono (show xs.length ≤ L by have := g1.len; omega)
  omega
theorem pow_succ' (n : Nat) : b32 ^ (n + 1) = 4294967296 * b32 ^ n := by rw [Int.pow_succ, Int.mul_comm]
theorem ZC.za_add {L : Nat} {z : Int} {n : Bool} {a : Option Addr} {l c : Nat} (h : ZC S W n a l c z) (h1 : (x.natAbs : Int) < b32 ^ L) (h2 : (y.natAbs : Int) < b32 ^ L) (hz : z = x + y ∨ z = x - y) : ZA (L + 1) S W n a l c z := by
  refine h.zaH ?_
  have := pow_succ' L
  have := pow_pos' (B := b32) (by decide) L
  omega

/-! ### Sizes -/
theorem sz.mono {L' : Nat} (h : sz L r) (hL : L ≤ L') : sz L' r := ⟨Int.lt_of_lt_of_le h.1 (pow_mono hL), Int.lt_of_lt_of_le h.2 (pow_mono hL)⟩
theorem canon_sz (h : sz L r) : szQ L (canon r) := by
  refine ⟨dg_length_le (by decide) h.1, ?_⟩
  show (if r.den = 1 then [] else dg b32 (r.den : Int)).length ≤ L
  split
  · simp
  · exact dg_length_le (by decide) h.2
theorem zval_canon (r : Rat) : zval (decide (r.num < 0)) (dg b32 r.num.natAbs) = r.num := by
  unfold zval
  rw [vl_dg (by decide) (by omega)]
  by_cases h : r.num < 0 <;> simp [h] <;> omega
theorem qval_canon (r : Rat) : qval (canon r) = r := by
  unfold qval canon
  simp only [zval_canon]
  by_cases h : r.den = 1
  · simp only [h, if_true]
    simp only [zval, vl_nil, qv, Bool.false_eq_true, if_false, if_true]
    apply Rat.ext <;> simp [h]
  · simp only [h, if_false]
    have : zval false (dg b32 (r.den : Int)) = r.den := by unfold zval; rw [vl_dg (by decide) (by omega)]; simp
    rw [this, qv, if_neg (by have := r.den_nz; omega), Rat.num_divInt_den]
theorem QC.qa (h : QC S W q r) (hs : sz L r) : QA L S W q r := ⟨_, h, canon_sz hs, (qval_canon r).symm⟩
theorem sz_divInt (hx : (x.natAbs : Int) < b32 ^ L) (hy : 0 < y) (hy2 : y < b32 ^ L) : sz L (Rat.divInt x y) := by
  have hg : 0 < Int.gcd y x := Int.gcd_pos_iff.2 (.inl (by omega))
  refine ⟨?_, ?_⟩
  · rw [Rat.num_divInt, Int.sign_eq_one_of_pos hy, Int.one_mul]
    have : (x / (Int.gcd y x : Int)).natAbs ≤ x.natAbs := Int.natAbs_ediv_le_natAbs _ _
    omega
  · rw [Rat.den_divInt, if_neg (by omega)]
    have : y.natAbs / Int.gcd y x ≤ y.natAbs := Nat.div_le_self _ _
    omega
theorem QA.sz' (h : QA L S W q r) (hL : 1 ≤ L) : sz L r := by
  obtain ⟨n1, a1, l1, c1, n2, a2, l2, c2, rfl⟩ := h.form
  obtain ⟨x, y, h1, h2, rfl⟩ := h.two
  have b1 := h1.lt
  have b2 := h2.lt
  unfold qv
  split
  · refine ⟨b1, ?_⟩
    have := pow_mono hL
    simp; unfold b32 at *; omega
  · rename_i hy
    rcases Int.lt_or_le 0 y with h0 | h0
    · exact sz_divInt b1 h0 (by omega)
    · rw [← Rat.neg_divInt_neg]; exact sz_divInt (by omega) (by omega) (by omega)
end
theorem Ext.obj {W W' : World} {D : Nat} {o : Obj} (x : Ext W W') (h : W.heap[D]? = some o) : W'.heap[D]? = some o := (x.block D (Array.getElem?_eq_some_iff.1 h).1).trans h
theorem Wr.obj {W W' : World} {D b : Nat} {o : Obj} (y : Wr b W W') (h : W.heap[D]? = some o) (hb : D ≠ b) : W'.heap[D]? = some o := (y.block D hb).trans h
/-! ### Effects in any order -/
def allP (p : Nat → Prop) : List Nat → Prop
  | [] => True
  | i :: l => p i ∧ allP p l
section
variable {r : Option Nat} {P : Program} {N : Nat} {ops : Array Oper} {S : World → Prop} {R : Env → World → Prop} {fuel : Nat} {listed : Array Bool} {E : Env} {W : World} {d : Option Tmp} {op : Op} {ty : TypeId} {pos : String} {af : Array Edge} {ds : List Deferred} {Q : EQ}
theorem allP_mem {p : Nat → Prop} : ∀ {l : List Nat}, allP p l → ∀ i ∈ l, p i
  | _ :: _, h, i, hi => by
    rcases List.mem_cons.1 hi with rfl | hi
    · exact h.1
    · exact allP_mem h.2 i hi
theorem efs (i : Nat) (l : List Nat) (hr : Region.ready .any ops listed = i :: l) (h : allP (fun i => opI r P ops i (fun E' W' => (lastOp ops i = false → S W') ∧ VH r P ops S R fuel (listed.setIfInBounds i true) E' W') E W) (i :: l)) : VH r P ops S R (fuel + 1) listed E W :=
  ⟨fun h0 => (by rw [hr] at h0; cases h0), fun j hj => allP_mem h j (by rw [← hr]; exact hj)⟩
theorem efI {i : Nat} {K : Env → World → Prop} (hi : ops[i]? = some ⟨d, op, ty, pos, af, none⟩) (h : OpF r P (ev E) ⟨d, op, ty, pos, af, none⟩ W fun v W' => K (puto E d v) W') : opI r P ops i K E W := by
  unfold opI
  simp only [hi]
  rw [if_pos (by rfl)]; exact h
theorem VA.mono {R R' : Env → World → Prop} (hR : ∀ E W, R E W → R' E W) : ∀ (fuel : Nat) (listed : Array Bool) (E : Env) (W : World), VA r P ops R fuel listed E W → VA r P ops R' fuel listed E W
  | 0, _, _, _, h => ⟨h.1, hR _ _ h.2⟩
  | fuel + 1, _, _, _, h => ⟨fun hr => hR _ _ (h.1 hr), fun i hi => (h.2 i hi).mono fun E' W' h' => VA.mono hR fuel _ E' W' h'⟩
theorem V.regS {id : Nat} (S : World → World → Prop) (hm : P.follows .mixedOrders = true) (hl : dstsOK N ops.toList = true)
    (h : ∀ W1, Ext W W1 → VH r P ops (S W1) (fun E W => Q .normal E ds W) ops.size (Array.replicate ops.size false) E W1) : V r P N ds (.region id ops true) Q E W := fun a hrep hd =>
  wpIn_region_any hm (VA.wp (ds := ds) hl (fun a E W hr hd h => ⟨E, hr, by rw [hd]; exact h⟩) _ _ a E _ hrep hd (VH.va _ _ _ _ (h _ ((Ext.refl W).drew))))
theorem V.regJ {id : Nat} {ι : Type} (F : List (Nat × Value)) (L : ι → List (Nat × Value)) (I : ι → World → Prop) (hm : P.follows .mixedOrders = true) (hl : dstsOK N ops.toList = true) (_hF : agree E F)
    (h : ∀ W1, Ext W W1 → VH r P ops (Ext W1) (fun E' W' => ∃ i, agree E' F ∧ agree E' (L i) ∧ I i W') ops.size (Array.replicate ops.size false) E W1)
    (k : ∀ i E0 W', I i W' → Q .normal (ups (ups E0 F) (L i)) ds W') : V r P N ds (.region id ops true) Q E W := fun a hrep hd =>
  wpIn_region_any hm (VA.wp (ds := ds) (R := fun E' W' => Q .normal E' ds W') hl (fun a E W hr hd h => ⟨E, hr, by rw [hd]; exact h⟩) _ _ a E _ hrep hd (VA.mono (fun E' W' ⟨i, h1, h2, h3⟩ => by
    have := k i E' W' h3
    rwa [ups_agree h1, ups_agree h2] at this) _ _ _ _ (VH.va _ _ _ _ (h _ ((Ext.refl W).drew)))))
end
/-! ### A map with texts for keys -/
def MpAt (W : World) (b : Nat) (es : List MapEntry) : Prop := ∃ n, W.heap[b]? = some (.map es.toArray n)
section
variable {r : Option Nat} {P : Program} {ρ : Operand → Value} {W W' : World} {d : Option Tmp} {ty T kt et : TypeId} {pos : String} {af : Array Edge} {g : Option (Nat × Bool)} {x y m : Operand} {v : Value} {K : Value → World → Prop} {b : Nat} {es : List MapEntry} {s : ByteArray}
theorem MpAt.ext (h : MpAt W b es) (x : Ext W W') : MpAt W' b es := by
  obtain ⟨n, h⟩ := h; exact ⟨n, (x.block b (Array.getElem?_eq_some_iff.1 h).1).trans h⟩
theorem xmm (hk2 : ∀ W', Ext W W' → MpAt W' W.heap.size [] → W'.heap.size = W.heap.size + 1 → K (.map (some W.heap.size)) W') : OpF r P ρ ⟨d, .makeMap T none, ty, pos, af, g⟩ W K := by
  refine xv (v := .map (some W.heap.size)) (W' := W.alloc (.map #[] 0)) ?_ (hk2 _ ((Ext.refl _).alloc _) ⟨0, by simpa using World.alloc_heap_new W (.map #[] 0)⟩ (by simp))
  unfold execOp; simp [Instr.makeMap, go_sem]
theorem ck_str {e : Bool} (n : Nat) (hkt : P.underlying kt = some .string) : (Instr.checkKey e (n + 1) kt (.string s)).run P W = .ok () W := by
  unfold Instr.checkKey
  simp only [Sem.run_bind, run_underlying hkt, Result.andThen_ok, Sem.run_pure]
theorem fk_str {res : Option (Nat × Value)} (hkt : P.underlying kt = some .string) (hn : Instr.findNow .string (.string s) es 0 = some res) : (Instr.findKey kt (.string s) es).run P W = .ok res W := by
  unfold Instr.findKey
  simp only [Sem.run_bind, run_underlying hkt, Result.andThen_ok, hn, Sem.run_pure]
theorem xins (h : MpAt W b es) (hm : ρ m = .map (some b)) (hy : ρ y = .string s) (hx : ρ x = v) (hT : P.underlying T = some (.map kt et)) (hkt : P.underlying kt = some .string) (hn : Instr.findNow .string (.string s) es 0 = some none)
    (hk2 : ∀ W' n, Tn b W W' → MpAt W' b (es ++ [⟨.string s, v, n⟩]) → W'.heap.size = W.heap.size → K undef W') : OpF r P ρ ⟨d, .insert T m y x, ty, pos, af, g⟩ W K := by
  obtain ⟨n, h⟩ := h
  have hgo : (getObj b).run P W = .ok (.map es.toArray n) W := by simp [getObj, Sem.run, h]
  have hse : ∀ o : Obj, (setObj b o).run P W = .ok () (W.putObj b o) := fun o => by simp [setObj, Sem.run, h, World.putObj]
  refine xu (W' := W.putObj b (.map (es.toArray.push ⟨.string s, v, n⟩) (n + 1))) ?_ (hk2 _ n (Tn.putObj _ h (Nat.le_refl _) rfl) ⟨n + 1, by rw [World.putObj_heap_same (Array.getElem?_eq_some_iff.1 h).1]; simp⟩ (by simp))
  unfold execOp
  simp only [Instr.mapUpdate, hm, hy, hx, Sem.run_bind, run_underlying hT, Result.andThen_ok, hgo, ck_str 9999 hkt, fk_str hkt hn, Sem.run_pure]
  simp [hse]
theorem rlk {i : Nat} {v : Value} (h : MpAt W b es) (hm : ρ m = .map (some b)) (hy : ρ y = .string s) (hT : P.underlying T = some (.map kt et)) (hkt : P.underlying kt = some .string) (hn : Instr.findNow .string (.string s) es 0 = some (some (i, v))) :
    (execOp ρ ⟨d, .lookup T m y false, ty, pos, af, g⟩).run P W = .ok (.value v) W := by
  obtain ⟨n, h⟩ := h
  have hgo : (getObj b).run P W = .ok (.map es.toArray n) W := by simp [getObj, Sem.run, h]
  unfold execOp
  simp only [Instr.lookup, hm, hy, Sem.run_bind, run_underlying hT, Result.andThen_ok, hgo, ck_str 9999 hkt, fk_str hkt hn, Sem.run_pure]
  simp
end
end Go.Proofs.Ytknbjfefeeojlaa

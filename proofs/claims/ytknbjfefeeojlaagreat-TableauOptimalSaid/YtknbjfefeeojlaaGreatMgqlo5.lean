/- The state of a matrix under elimination in the store. -/
import Derived.Laws.StructEq
import Derived.Laws.Pointers
import Derived.Test.YtknbjfefeeojlaaGreatMgqlo4
namespace Go.Proofs.YtknbjfefeeojlaaGreat
open Go.RowKit
attribute [local irreducible] RV VH V OpF Calls
theorem rnc {P : Program} {ρ : Operand → Value} {d : Option Tmp} {ty : TypeId} {pos : String} {af : Array Edge} {g : Option (Nat × Bool)} {x : Operand} {v : Value} {ad : Addr} {W : World} (hx : ρ x = v) (hv : v = .pointer (some ad)) : (execOp ρ ⟨d, .nilCheck x, ty, pos, af, g⟩).run P W = .ok (.value v) W := by
  subst hx; unfold execOp; simp [hv]
def XS (B bw : Nat) (pv : Value) : Nat → Prop := fun b => B ≤ b ∧ b ≠ bw ∧ pv.ownBlock ≠ some b
def KQ (bw : Nat) (v pv : Value) : Nat → Prop := fun b => b ≠ bw ∧ v.ownBlock ≠ some b ∧ pv.ownBlock ≠ some b
/-- The two callbacks of a work: what they hold, and what they do. -/
structure CL (xd : Nat → Prop) (fs fd : Value) (CX : Nat → (Nat → Prop) → World → Rat → Prop) : Prop where
  ck : ∀ {L : Nat} {S S' : Nat → Prop} {W W' : World} {δ : Rat}, CX L S W δ → CK S' W W' → (∀ b, b < W.heap.size → S b → S' b) → (∀ b, xd b → S' b) → CX L S W' δ
  sub : ∀ {L : Nat} {S S' : Nat → Prop} {W : World} {δ : Rat}, CX L S W δ → (∀ b, b < W.heap.size → S b → S' b) → CX L S' W δ
  mono : ∀ {L L' : Nat} {S : Nat → Prop} {W : World} {δ : Rat}, CX L S W δ → L ≤ L' → CX L' S W δ
  sw : ∃ (f : Nat) (cap : List Value), fs = .func (.func f) #[] cap.toArray ∧ Ent Tryz.prog f ∧ ∀ (L : Nat) (S : Nat → Prop) (W : World) (δ : Rat), CX L S W δ → Up S W → L + 1 < LY → Calls Tryz.prog f (([] : List Value) ++ cap).toArray W fun e W' => e = .returned (.tuple #[]) ∧ KD (fun b => ¬ xd b) W W' ∧ CX L S W' (-δ)
  dv : ∃ (f : Nat) (cap : List Value), fd = .func (.func f) #[] cap.toArray ∧ Ent Tryz.prog f ∧ ∀ (L M : Nat) (S : Nat → Prop) (W : World) (δ : Rat) (q : List Value) (r : Rat), CX L S W δ → Up S W → QA M TT W q r → 1 ≤ M → L + M + 1 < LY → Calls Tryz.prog f (([.agg q.toArray] : List Value) ++ cap).toArray W fun e W' => e = .returned (.tuple #[]) ∧ KD (fun b => ¬ xd b) W W' ∧ CX (L + M) S W' (δ * r)
structure WS (B bw : Nat) (fs fd : Value) (xd : Nat → Prop) (CX : Nat → (Nat → Prop) → World → Rat → Prop) (v pv : Value) (L : Nat) (rows : List (List Rat)) (piv : List Int) (δ : Rat) (W : World) : Prop where
  cl : CL xd fs fd CX
  x : BoxAt W bw [v, pv, fs, fd] 141
  g : GO 1 (RowOf GC) (XS B bw pv) B W 23 v rows
  p : OI .i64 B W 3 pv piv
  c : CX L (KQ bw v pv) W δ
  hB : B ≤ bw
  hx : ∀ b, xd b → b < B
theorem OS.obox {s B : Nat} {W : World} {e : TypeId} {v : Value} {qs : List (List Value)} (h : OS s B W e v qs) {b : Nat} (hb : v.ownBlock = some b) : ∃ cur, BoxAt W b cur e := by
  rcases h.row.2 with ⟨rfl, _⟩ | ⟨b', cap, cur, rfl, _, hh, _⟩
  · simp [Value.ownBlock] at hb
  · simp only [Value.ownBlock, Option.some.injEq] at hb
    subst hb
    exact ⟨cur.toList, by unfold BoxAt; simpa using hh⟩
section
variable {B bw L n c : Nat} {fs fd v pv pv' : Value} {xd : Nat → Prop} {CX : Nat → (Nat → Prop) → World → Rat → Prop} {rows : List (List Rat)} {piv : List Int} {δ : Rat} {W W' : World} {a : Option Addr}
theorem WS.ext (h : WS B bw fs fd xd CX v pv L rows piv δ W) (y : Ext W W') : WS B bw fs fd xd CX v pv L rows piv δ W' :=
  ⟨h.cl, h.x.ext y, h.g.ext okRowC y, h.p.ext y, h.cl.ck h.c (y.ck fun _ => True) (fun _ _ _ => trivial) (fun _ _ => trivial), h.hB, h.hx⟩
theorem WS.vb (h : WS B bw fs fd xd CX v pv L rows piv δ W) : v.ownBlock ≠ some bw := by
  obtain ⟨qs, h1, _⟩ := h.g; exact h1.neBox h.x (by decide)
theorem WS.pb (h : WS B bw fs fd xd CX v pv L rows piv δ W) : pv.ownBlock ≠ some bw := h.p.neBox h.x (by decide)
theorem WS.vp (h : WS B bw fs fd xd CX v pv L rows piv δ W) {b : Nat} (e : v.ownBlock = some b) : pv.ownBlock ≠ some b := by
  obtain ⟨qs, h1, _⟩ := h.g
  obtain ⟨cur, hb⟩ := h1.obox e
  exact h.p.neBox hb (by decide)
theorem WS.vlow (h : WS B bw fs fd xd CX v pv L rows piv δ W) : ∀ b, v.ownBlock = some b → B ≤ b ∧ b < W.heap.size := by
  obtain ⟨qs, h1, _⟩ := h.g; exact h1.low
theorem WS.up (h : WS B bw fs fd xd CX v pv L rows piv δ W) : Up (SO (XS B bw pv) v) W := fun b hb => by
  have := h.x.lt; have := h.hB
  exact ⟨⟨by omega, by omega, fun e => by have := (h.p.low b e).2; omega⟩, fun e => by have := (h.vlow b e).2; omega⟩
theorem WS.upq (h : WS B bw fs fd xd CX v pv L rows piv δ W) : Up (KQ bw v pv) W := fun b hb => by
  have := h.x.lt
  exact ⟨by omega, fun e => by have := (h.vlow b e).2; omega, fun e => by have := (h.p.low b e).2; omega⟩
theorem WS.mc (h : WS B bw fs fd xd CX v pv L rows piv δ W) (hv : v = .slice a n c) : MC TT W a n c rows := by
  subst hv; exact GO.rd okRowC h.g
theorem WS.pn (h : WS B bw fs fd xd CX v pv L rows piv δ W) (hv : pv = .slice a n c) : RN .i64 TT W a n c piv := by
  subst hv; exact h.p.rn fun _ _ _ => trivial
theorem WS.row (h : WS B bw fs fd xd CX v pv L rows piv δ W) (hv : v = .slice a n c) {i : Int} (h0 : 0 ≤ i) (h1 : i < n) : ∃ a' n' c', W.cell? (adr a i 1) = some (.slice a' n' c') ∧ GC (SO (XS B bw pv) v) W a' n' c' (rowat rows i.toNat) := by
  obtain ⟨qs, h2, h3⟩ := h.g
  have h2' := h2
  rw [hv] at h2'
  have hr : RS 1 TT W a n c qs := h2'.rs fun _ _ _ => trivial
  obtain ⟨q, h4, h5, h6⟩ := hr.el h0 h1
  obtain ⟨r, h7, a', n', c', rfl, h8⟩ := h3.get h4
  have e : rowat rows i.toNat = r := by unfold rowat; rw [List.getD_eq_getElem?_getD, h7]; rfl
  refine ⟨a', n', c', ?_, e ▸ h8⟩
  have := h6 0 _ rfl
  rwa [add0] at this
theorem WS.sz (h : WS B bw fs fd xd CX v pv L rows piv δ W) {L' : Nat} (hL : L ≤ L') : WS B bw fs fd xd CX v pv L' rows piv δ W := ⟨h.cl, h.x, h.g, h.p, h.cl.mono h.c hL, h.hB, h.hx⟩
theorem WS.kq (h : WS B bw fs fd xd CX v pv L rows piv δ W) {b : Nat} (hb : b < B) : KQ bw v pv b := ⟨by have := h.hB; omega, fun e => by have := (h.vlow b e).1; omega, fun e => by have := (h.p.low b e).1; omega⟩
/-- One element more in the list of the pivots, and the new list is stored. -/
theorem WS.push {W1 W2 : World} {z : Int} (h : WS B bw fs fd xd CX v pv L rows piv δ W) (hO : OI .i64 B W1 3 pv' (piv ++ [z])) (hg : W.grownBy W1 pv.ownBlock) (ho : pv'.ownBlock = pv.ownBlock ∨ pv'.ownBlock = some W.heap.size) (hos : Below 0 W W1) (y : Wr bw W1 W2) (hb : BoxAt W2 bw [v, pv', fs, fd] 141) :
    WS B bw fs fd xd CX v pv' L rows (piv ++ [z]) δ W2 ∧ KD (KQ bw v pv) W W2 := by
  have nb : ∀ b, b < W.heap.size → pv.ownBlock ≠ some b → pv'.ownBlock ≠ some b := fun b hb hp e => by
    rcases ho with h' | h'
    · exact hp (h' ▸ e)
    · rw [h'] at e; injection e with e; omega
  have kg : CK (fun b => pv.ownBlock ≠ some b) W W1 := grown_ck hg fun b e h => h e
  have kd : KD (KQ bw v pv) W W2 := (grown_kd hg (fun b e hd => hd.2.2 e) hos).trans (y.kd fun hd => hd.1 rfl)
  refine ⟨⟨h.cl, hb, ?_, ?_, ?_, h.hB, h.hx⟩, kd⟩
  · obtain ⟨qs, h1, h2⟩ := h.g
    have o1 : OS 1 B W1 23 v qs := h1.ck kg fun b e => h.vp e
    refine ⟨qs, o1.ck (y.ck (S := fun b => b ≠ bw) fun hh => hh rfl) (fun b e => fun hh => h.vb (hh ▸ e)), h2.imp fun _ _ hq => ?_⟩
    have h3 := okRowC.sub (S' := fun b => SO (XS B bw pv) v b ∧ pv'.ownBlock ≠ some b) hq fun b hb hs => ⟨hs, nb b hb hs.1.2.2⟩
    have h4 := okRowC.ck h3 (kg.sub fun b hs => hs.1.1.2.2)
    have h5 := okRowC.ck h4 (y.ck (fun hh => hh.1.1.2.1 rfl))
    exact okRowC.sub h5 fun b _ hs => ⟨⟨hs.1.1.1, hs.1.1.2.1, hs.2⟩, hs.1.2⟩
  · refine hO.ck (y.ck (S := fun b => b ≠ bw) fun hh => hh rfl) (fun b e hh => ?_)
    subst hh
    rcases ho with h' | h'
    · exact h.pb (h' ▸ e)
    · rw [h'] at e; injection e with e; have := h.x.lt; omega
  · exact h.cl.ck (h.cl.sub h.c (S' := fun b => KQ bw v pv b ∧ pv'.ownBlock ≠ some b) fun b hb hs => ⟨hs, nb b hb hs.2.2⟩) kd.ck (fun b _ hs => hs.1) (fun b hx => h.kq (h.hx b hx)) |> fun c => h.cl.sub c fun b _ hs => ⟨hs.1.1, hs.1.2.1, hs.2⟩
theorem WS.nb (h : WS B bw fs fd xd CX v pv L rows piv δ W) {b : Nat} {cs : List Value} {T : TypeId} (hb : BoxAt W b cs T) (h1 : T ≠ 23) (h2 : T ≠ 3) (h3 : b ≠ bw) : KQ bw v pv b := by
  obtain ⟨qs, h4, _⟩ := h.g
  exact ⟨h3, h4.neBox hb h1, h.p.neBox hb h2⟩
theorem WS.nx (h : WS B bw fs fd xd CX v pv L rows piv δ W) {b : Nat} (hb : B ≤ b) : ¬ xd b := fun hx => by have := h.hx b hx; omega
theorem WS.ma {L' : Nat} (h : WS B bw fs fd xd CX v pv L rows piv δ W) (hv : v = .slice a n c) (hs : szR L' rows) : MA L' TT W a n c rows := (h.mc hv).ma hs
theorem so_kq {b : Nat} (h : SO (XS B bw pv) v b) : KQ bw v pv b := ⟨h.1.2.1, h.2, h.1.2.2⟩
end
section
variable {B bw L n c n' c' : Nat} {fs fd v pv u : Value} {xd : Nat → Prop} {CX : Nat → (Nat → Prop) → World → Rat → Prop} {rows : List (List Rat)} {piv : List Int} {δ : Rat} {W W' : World} {a a' : Option Addr} {ρ : Operand → Value} {d : Option Tmp} {ty T : TypeId} {pos : String} {af : Array Edge} {gd : Option (Nat × Bool)} {x y : Operand} {K : Value → World → Prop} {rr : List Rat}
end
end Go.Proofs.YtknbjfefeeojlaaGreat
/- Package solve: the small functions; matrices of the call's own. -/
namespace Go.Proofs.YtknbjfefeeojlaaGreat
open Go.RowKit
attribute [local irreducible] RV VH V OpF Calls
theorem GO.res {ρt : Type} {El : (Nat → Prop) → World → List Value → ρt → Prop} {S S' : Nat → Prop} {s B : Nat} {W : World} {e : TypeId} {v : Value} {rs : List ρt} (ok : ElOK El) (h : GO s El S B W e v rs) (hS : ∀ b, b < W.heap.size → S b → S' b) : GO s El S' B W e v rs := by
  obtain ⟨qs, h1, h2⟩ := h
  exact ⟨qs, h1, h2.imp fun _ _ hq => ok.sub hq fun b hb hs => ⟨hS b hb hs.1, hs.2⟩⟩

end Go.Proofs.YtknbjfefeeojlaaGreat
/- Package solve: all columns, the places of the pivots, Reduce and Rank. -/
namespace Go.Proofs.YtknbjfefeeojlaaGreat
open Go.RowKit
attribute [local irreducible] RV VH V OpF Calls
theorem WS.fin {B bw L n c n' c' : Nat} {fs fd : Value} {xd : Nat → Prop} {CX : Nat → (Nat → Prop) → World → Rat → Prop} {rows : List (List Rat)} {piv : List Int} {δ : Rat} {W : World} {a a' : Option Addr} {S : Nat → Prop} (h : WS B bw fs fd xd CX (.slice a n c) (.slice a' n' c') L rows piv δ W) (hS : ∀ b, B ≤ b → b < W.heap.size → S b) : MC S W a n c rows ∧ RN .i64 S W a' n' c' piv := by
  refine ⟨?_, h.p.rn hS⟩
  obtain ⟨qs, h1, h2⟩ := h.g
  exact ⟨qs, h1.rs hS, h2.imp fun _ _ hq => okRowC.sub hq fun b hb hs => hS b hs.1.1 hb⟩

end Go.Proofs.YtknbjfefeeojlaaGreat
/- Matrices as lists: plain mathematics for the laws of layer 4. -/
namespace Go.Proofs.YtknbjfefeeojlaaGreat
/-- f 0 + .. + f (k - 1). -/
def sumk (f : Nat → Rat) : Nat → Rat
  | 0 => 0
  | k + 1 => sumk f k + f k
theorem sumk_ext {f g : Nat → Rat} : ∀ {k : Nat}, (∀ i, i < k → f i = g i) → sumk f k = sumk g k
  | 0, _ => rfl
  | k + 1, h => by simp only [sumk]; rw [sumk_ext fun i hi => h i (by omega), h k (by omega)]
theorem sumk_zero {f : Nat → Rat} : ∀ {k : Nat}, (∀ i, i < k → f i = 0) → sumk f k = 0
  | 0, _ => rfl
  | k + 1, h => by simp only [sumk]; rw [sumk_zero fun i hi => h i (by omega), h k (by omega), Rat.zero_add]
theorem sumk_le {f : Nat → Rat} {k : Nat} : ∀ {m : Nat}, k ≤ m → (∀ i, k ≤ i → i < m → f i = 0) → sumk f m = sumk f k
  | 0, h, _ => by obtain rfl : k = 0 := by omega
                  rfl
  | m + 1, h, hz => by
    rcases Nat.lt_or_ge m k with h1 | h1
    · obtain rfl : k = m + 1 := by omega
      rfl
    · simp only [sumk]
      rw [sumk_le h1 fun i h2 h3 => hz i h2 (by omega), hz m h1 (by omega), Rat.add_zero]
theorem vat_ge {rs : List Rat} {i : Nat} (h : rs.length ≤ i) : vat rs i = 0 := by unfold vat; rw [List.getD_eq_getElem?_getD, List.getElem?_eq_none h]; rfl
theorem vat_lt {rs : List Rat} {i : Nat} (h : i < rs.length) : vat rs i = rs[i] := by unfold vat; rw [List.getD_eq_getElem?_getD, List.getElem?_eq_getElem h]; rfl
theorem dotk_sum (xs ys : List Rat) : ∀ k, dotk xs ys k = sumk (fun i => vat xs i * vat ys i) k
  | 0 => rfl
  | k + 1 => by simp only [dotk, sumk, dotk_sum xs ys k]
theorem dotv_sum (xs ys : List Rat) {m : Nat} (h : min xs.length ys.length ≤ m) : dotv xs ys = sumk (fun i => vat xs i * vat ys i) m := by
  have hz : ∀ i, min xs.length ys.length ≤ i → vat xs i * vat ys i = 0 := fun i hi => by
    rcases Nat.lt_or_ge i xs.length with h1 | h1
    · rw [vat_ge (rs := ys) (by omega), Rat.mul_zero]
    · rw [vat_ge (rs := xs) (by omega), Rat.zero_mul]
  unfold dotv
  rw [dotk_sum, sumk_le (show min xs.length ys.length ≤ max xs.length ys.length by omega) fun i h1 _ => hz i h1, sumk_le h fun i h1 _ => hz i h1]
theorem vat_rep (N : Nat) (j : Nat) : vat (List.replicate N 0) j = 0 := by
  rcases Nat.lt_or_ge j N with h | h
  · rw [vat_lt (by simpa using h)]; simp
  · exact vat_ge (by simpa using h)
theorem vat_zipf (gf : Rat → Rat → Rat) (xs ys : List Rat) {k i : Nat} (h : i < k) : vat (zipf gf xs ys k) i = gf (vat xs i) (vat ys i) := by
  rw [vat_lt (by rw [zipf_len]; exact h)]; simp [zipf]
theorem vat_mulv (a : List (List Rat)) (x : List Rat) (i : Nat) : vat (mulv a x) i = dotv (rowat a i) x := by
  by_cases hi : i < a.length
  · rw [vat_lt (by simpa [mulv] using hi)]
    simp [mulv, rowat, hi]
  · rw [vat_ge (by simp [mulv]; omega), dotv_sum (m := 0) _ _ (by unfold rowat; rw [List.getD_eq_getElem?_getD, List.getElem?_eq_none (by omega)]; simp)]; rfl
theorem mat_gridm (f : Int → Int → Rat) (R C i j : Nat) : mat (gridm f R C) i j = if i < R ∧ j < C then f i j else 0 := by
  by_cases hi : i < R
  · have : rowat (gridm f R C) i = (List.range C).map fun j : Nat => f (i : Int) (j : Int) := by
      unfold rowat gridm; rw [List.getD_eq_getElem?_getD, List.getElem?_map, List.getElem?_range hi]; rfl
    unfold mat
    rw [this]
    by_cases hj : j < C
    · rw [if_pos ⟨hi, hj⟩, vat_lt (by simpa using hj)]; simp
    · rw [if_neg (by omega), vat_ge (by simp; omega)]
  · rw [if_neg (by omega), mat_ge1 (by simp [gridm]; omega)]
theorem colsN_le {rss : List (List Rat)} {N : Nat} (h : ∀ r ∈ rss, r.length ≤ N) : colsN rss ≤ N := by
  have key : ∀ (l : List (List Rat)) (m : Nat), m ≤ N → (∀ r ∈ l, r.length ≤ N) → l.foldl (fun m r => max m r.length) m ≤ N := by
    intro l
    induction l with
    | nil => intro m hm _; exact hm
    | cons x l ih => intro m hm h; exact ih _ (by have := h x (by simp); show max m x.length ≤ N; omega) fun r hr => h r (by simp [hr])
  exact key rss 0 (Nat.zero_le _) h
theorem colsN_gridm (f : Int → Int → Rat) (R C : Nat) : colsN (gridm f R C) = C * min R 1 := by
  rcases Nat.eq_zero_or_pos R with rfl | h
  · simp [gridm, colsN]
  · have h1 : colsN (gridm f R C) ≤ C := colsN_le fun r hr => by
      obtain ⟨i, _, rfl⟩ := List.mem_map.1 hr; simp
    have h2 := cols_ge (rss := gridm f R C) ((List.range C).map fun j : Nat => f ((0 : Nat) : Int) (j : Int)) (List.mem_map.2 ⟨0, by simpa using h, rfl⟩)
    simp at h2
    rw [show min R 1 = 1 by omega]; omega
theorem matI_nat (rss : List (List Rat)) (i j : Nat) : matI rss i j = mat rss i j := by unfold matI; rw [if_pos (by omega)]; rfl
theorem vat_unitv (N k j : Nat) : vat (unitv N k) j = if j = k ∧ k < N then 1 else 0 := by
  unfold unitv
  by_cases h : k < N
  · rw [if_pos (by omega)]
    by_cases hj : j = k
    · subst hj; rw [if_pos ⟨rfl, h⟩, vat_lt (by simpa using h)]; simp
    · rw [if_neg (by omega)]
      unfold vat
      rw [List.getD_eq_getElem?_getD, Int.toNat_natCast, List.getElem?_set_ne (by omega), ← List.getD_eq_getElem?_getD]
      exact vat_rep N j
  · rw [if_neg (by omega), if_neg (by omega)]; exact vat_rep N j
theorem unitv_len (N : Nat) (k : Int) : (unitv N k).length = N := by unfold unitv; split <;> simp
end Go.Proofs.YtknbjfefeeojlaaGreat
/- Package mat: Equal. -/
namespace Go.Proofs.YtknbjfefeeojlaaGreat
open Go.RowKit
attribute [local irreducible] RV VH V OpF Calls
structure EJ (w : World) (b4 b1 b2 : Nat) (v1 v2 : Value) (s : Bool) (X : World) : Prop where
  ext : Ext w X
  x4 : BoxAt X b4 [.bool s] 4
  x1 : BoxAt X b1 [v1] 22
  x2 : BoxAt X b2 [v2] 22
theorem EJ.tn {w X Y : World} {B b4 b1 b2 : Nat} {v1 v2 : Value} {s : Bool} (h : EJ w b4 b1 b2 v1 v2 s X) (t : Tn B X Y) (hB : w.heap.size ≤ B) : EJ w b4 b1 b2 v1 v2 s Y := ⟨t.ext h.ext hB, h.x4.tn t, h.x1.tn t, h.x2.tn t⟩
theorem EJ.xt {w X Y : World} {b4 b1 b2 : Nat} {v1 v2 : Value} {s : Bool} (h : EJ w b4 b1 b2 v1 v2 s X) (x : Ext X Y) : EJ w b4 b1 b2 v1 v2 s Y := ⟨h.ext.trans x, h.x4.ext x, h.x1.ext x, h.x2.ext x⟩

end Go.Proofs.YtknbjfefeeojlaaGreat
/- Parts of slices; sizes of products; the equalities that hold. -/
namespace Go.Proofs.YtknbjfefeeojlaaGreat
open Go.RowKit
attribute [local irreducible] RV VH V OpF Calls
theorem GA.cut {L : Nat} {S : Nat → Prop} {W : World} {a : Option Addr} {n c l m : Nat} {rs : List Rat} (h : GA L S W a n c rs) (h0 : l ≤ m) (hm : m ≤ n) : GA L S W (if c = l then a else a.map (·.add (l * 4))) (m - l) (c - l) ((rs.take m).drop l) := by
  obtain ⟨qs, h1, h2⟩ := h; exact ⟨_, h1.cut h0 hm, (h2.take m).drop l⟩
theorem GC.cut {S : Nat → Prop} {W : World} {a : Option Addr} {n c l m : Nat} {rs : List Rat} (h : GC S W a n c rs) (h0 : l ≤ m) (hm : m ≤ n) : GC S W (if c = l then a else a.map (·.add (l * 4))) (m - l) (c - l) ((rs.take m).drop l) := by
  obtain ⟨qs, h1, h2⟩ := h; exact ⟨_, h1.cut h0 hm, (h2.take m).drop l⟩
section
variable {P : Program} {ρ : Operand → Value} {W : World} {d : Option Tmp} {ty T e : TypeId} {pos : String} {af : Array Edge} {g : Option (Nat × Bool)} {x y u : Operand}
end
theorem GO.old {ρt : Type} {El : (Nat → Prop) → World → List Value → ρt → Prop} {S : Nat → Prop} {s B : Nat} {W : World} {e : TypeId} {v : Value} {rs : List ρt} (h : GO s El S B W e v rs) : ∀ b, b < B → v.ownBlock ≠ some b := fun b hb e => by
  obtain ⟨qs, h1, _⟩ := h
  have := (h1.low b e).1; omega
theorem MX.ma {L : Nat} {S : Nat → Prop} {W : World} {a : Option Addr} {n c : Nat} {ρss : List (List RawQ)} (h : MX S W a n c ρss) (hs : ∀ r ∈ ρss, ∀ ρ ∈ r, szQ L ρ) : MA L S W a n c (ρss.map (·.map qval)) := by
  obtain ⟨qs, h1, h2⟩ := h
  refine ⟨qs, h1, ?_⟩
  clear h1
  induction qs generalizing ρss with
  | nil => cases ρss <;> simp_all [All2]
  | cons q qs ih => cases ρss with
    | nil => exact h2.elim
    | cons r rs => obtain ⟨a, n, c, e, h3⟩ := h2.1; exact ⟨⟨a, n, c, e, h3.va (hs r (by simp))⟩, ih (fun x hx => hs x (by simp [hx])) h2.2⟩
theorem colsN_raw (ρss : List (List RawQ)) : colsN (ρss.map (·.map qval)) = colsG ρss := colsG_map qval ρss
theorem len_mulv (a : List (List Rat)) (x : List Rat) : (mulv a x).length = a.length := by simp [mulv]
theorem mulv_sz {a b L R : Nat} {rss : List (List Rat)} {xs : List Rat} (h1 : ∀ r ∈ rss, szV a r) (h2 : szV b xs) (ha : 1 ≤ a) (hb : 1 ≤ b) (hr : ∀ r ∈ rss, r.length ≤ R) (hx : xs.length ≤ R) (hL : (a + b + 1) * R + 1 ≤ L) : szV L (mulv rss xs) := by
  intro r hr'
  obtain ⟨y, hy, rfl⟩ := List.mem_map.1 hr'
  have := hr y hy
  exact (sz_dotk (h1 y hy) h2 ha hb _).mono (Nat.le_trans (Nat.succ_le_succ (Nat.mul_le_mul_left _ (by omega))) hL)
theorem gridm_sz {L : Nat} {f : Int → Int → Rat} {R C : Nat} (h : ∀ i k : Nat, sz L (f i k)) : ∀ r ∈ gridm f R C, szV L r := by
  intro r hr q hq
  obtain ⟨i, _, rfl⟩ := List.mem_map.1 hr
  obtain ⟨k, _, rfl⟩ := List.mem_map.1 hq
  exact h i k
theorem len_gridm (f : Int → Int → Rat) (R C : Nat) : (gridm f R C).length = R := by simp [gridm]
theorem szOne : sz 1 1 := by constructor <;> decide
theorem unitv_sz (N : Nat) (k : Int) : szV 1 (unitv N k) := by
  intro r hr
  unfold unitv at hr
  split at hr
  · rcases List.mem_or_eq_of_mem_set hr with h | h
    · rw [(List.mem_replicate.1 h).2]; exact sz_zero
    · rw [h]; exact szOne
  · rw [(List.mem_replicate.1 hr).2]; exact sz_zero
theorem MA.rowsz {L : Nat} {S : Nat → Prop} {W : World} {a : Option Addr} {n c : Nat} {rss : List (List Rat)} (h : MA L S W a n c rss) (hL : 1 ≤ L) : ∀ r ∈ rss, szV L r := fun r hr => by
  obtain ⟨i, hi⟩ := List.getElem?_of_mem hr
  have := GA.rows h hL i
  unfold rowat at this
  rwa [List.getD_eq_getElem?_getD, hi] at this
section
variable {L1 L2 : Nat} {S1 S2 : Nat → Prop} {w : World} {a1 a2 : Option Addr} {n c m d : Nat} {xs ys : List Rat} {rss mss : List (List Rat)}
theorem vEq_true (w : World) (hx : GA L1 S1 w a1 n c xs) (hy : GA L2 S2 w a2 m d ys) (hL : L1 + L2 < LY) (hl1 : 1 ≤ L1) (hl2 : 1 ≤ L2) (hn : n ≤ LV) (hm : m ≤ LV) (e : ∀ j, vat xs j = vat ys j) : Calls Tryz.prog 21 #[.slice a1 n c, .slice a2 m d] w fun e w' => e = .returned (.bool true) ∧ Ext w w' := by
  refine (vEqual_ok _ _ _ _ _ _ _ _ _ _ _ _ w hx hy hL hl1 hl2 hn hm).mono ?_
  rintro _ _ ⟨q, h1, h2, h3⟩
  exact ⟨by rw [h1, h3.2 fun j _ => e j], h2⟩
end
end Go.Proofs.YtknbjfefeeojlaaGreat
/- Package solve: Reduce and Rank. -/
namespace Go.Proofs.YtknbjfefeeojlaaGreat
open Go.RowKit
attribute [local irreducible] RV VH V OpF Calls
theorem MC.take {S : Nat → Prop} {W : World} {a : Option Addr} {n c m : Nat} {rss : List (List Rat)} (h : MC S W a n c rss) (hm : m ≤ n) : MC S W a m c (rss.take m) := by
  obtain ⟨qs, h1, h2⟩ := h
  refine ⟨qs.take m, ?_, h2.take m⟩
  have h3 := h1.cut (Nat.zero_le m) hm
  have e : (if c = 0 then a else a.map (·.add (0 * 1))) = a := by
    split
    · rfl
    · cases a <;> simp [add0]
  rw [e] at h3
  simpa using h3
theorem gridm_rect (f : Int → Int → Rat) (R C : Nat) : rect C (gridm f R C) := by
  intro r hr
  obtain ⟨i, _, rfl⟩ := List.mem_map.1 hr
  simp [rowg]
theorem WS.below {B bw L : Nat} {fs fd v pv : Value} {CX : Nat → (Nat → Prop) → World → Rat → Prop} {rows : List (List Rat)} {piv : List Int} {δ : Rat} {W W' : World} {B0 : Nat} {xd : Nat → Prop} (h : WS B bw fs fd xd CX v pv L rows piv δ W) (k : KD (fun b => b < W.heap.size ∧ b ≠ bw ∧ v.ownBlock ≠ some b ∧ ¬ xd b) W W') (hB0 : B0 ≤ B) (hx : ∀ b, xd b → B0 ≤ b) : Below B0 W W' :=
  k.below (fun q hq => ⟨by have := h.x.lt; have := h.hB; omega, by have := h.hB; omega, fun e => by have := (h.vlow q e).1; omega, fun hh => by have := hx q hh; omega⟩) (by have := h.x.lt; have := h.hB; omega)

end Go.Proofs.YtknbjfefeeojlaaGreat
/- Package solve: Inverse and the augmented matrix. -/
namespace Go.Proofs.YtknbjfefeeojlaaGreat
open Go.RowKit
attribute [local irreducible] RV VH V OpF Calls
theorem MC.nil (S : Nat → Prop) (W : World) : MC S W none 0 0 [] := ⟨[], RS.nil _ _ _ _ _ (by omega), trivial⟩
theorem identm_rect (n : Nat) : rect n (identm n) := by
  intro r hr
  obtain ⟨i, _, rfl⟩ := List.mem_map.1 hr
  exact unitv_len _ _
theorem identm_len (n : Nat) : (identm n).length = n := by simp [identm]
theorem identm_sz (n : Nat) : szR 1 (identm n) := by
  intro r hr
  obtain ⟨i, _, rfl⟩ := List.mem_map.1 hr
  exact unitv_sz _ _
theorem colsN_rect_le {N : Nat} {rss : List (List Rat)} (h : rect N rss) : colsN rss ≤ N := colsN_le fun x hx => by rw [h x hx]; exact Nat.le_refl _

end Go.Proofs.YtknbjfefeeojlaaGreat
/- Package solve: the augmented matrix. -/
namespace Go.Proofs.YtknbjfefeeojlaaGreat
open Go.RowKit
attribute [local irreducible] RV VH V OpF Calls
theorem resz_sz {L : Nat} {bs : List Rat} (h : szV L bs) (hL : 1 ≤ L) (k : Nat) : szV L (resz bs k) := by
  intro r hr
  unfold resz at hr
  obtain ⟨i, _, rfl⟩ := List.mem_map.1 hr
  exact szV_at h hL i


theorem szR.matI {L : Nat} {rows : List (List Rat)} (h : szR L rows) (hL : 1 ≤ L) (i k : Int) : sz L (Proofs.YtknbjfefeeojlaaGreat.matI rows i k) := by
  unfold Proofs.YtknbjfefeeojlaaGreat.matI
  split
  · exact h.at hL _ _
  · exact sz_zero.mono hL

end Go.Proofs.YtknbjfefeeojlaaGreat
/- Loops that leave records behind; the basis of the null space, as it is reckoned. -/
namespace Go.Proofs.YtknbjfefeeojlaaGreat
open Go.RowKit
section
variable {r : Option Nat} {P : Program} {N : Nat} {ds : List Deferred} {Q : EQ} {E : Env} {W : World}
/-- Records of loops that are over. -/
structure MkO (B : Nat) (Ds : List Nat) (W : World) : Prop where
  at' : ∀ D ∈ Ds, B ≤ D ∧ W.heap[D]? = some (.deferred (some []))
  nd : Ds.Nodup
theorem MkO.nil (B : Nat) (W : World) : MkO B [] W := ⟨by simp, List.nodup_nil⟩
theorem MkO.ext {B : Nat} {Ds : List Nat} {W W' : World} (h : MkO B Ds W) (x : Ext W W') : MkO B Ds W' := ⟨fun D hD => ⟨(h.at' D hD).1, (x.block _ (Array.getElem?_eq_some_iff.1 (h.at' D hD).2).1).trans (h.at' D hD).2⟩, h.nd⟩
theorem MkO.kb {B B' : Nat} {Ds : List Nat} {W W' : World} (h : MkO B Ds W) (x : KB B' W W') : MkO B Ds W' := ⟨fun D hD => ⟨(h.at' D hD).1, x.recs _ _ (h.at' D hD).2 rfl⟩, h.nd⟩
theorem MkO.cons {B D : Nat} {Ds : List Nat} {W : World} (h : MkO B Ds W) (hD : W.heap[D]? = some (.deferred (some []))) (hB : B ≤ D) (hn : D ∉ Ds) : MkO B (D :: Ds) W := ⟨fun D' h' => by
  rcases List.mem_cons.1 h' with rfl | h'
  · exact ⟨hB, hD⟩
  · exact h.at' D' h', List.nodup_cons.2 ⟨hn, h.nd⟩⟩
theorem MkO.lt {B : Nat} {Ds : List Nat} {W : World} (h : MkO B Ds W) : ∀ D ∈ Ds, D < W.heap.size := fun D hD => (Array.getElem?_eq_some_iff.1 (h.at' D hD).2).1
end
theorem wd_mem {piv : List Int} {k : Int} : (∃ j, j < piv.length ∧ wd piv j = k) ↔ k ∈ piv := by
  constructor
  · rintro ⟨j, hj, rfl⟩
    simp [wd, hj]
  · intro h
    obtain ⟨j, hj⟩ := List.getElem?_of_mem h
    have hl := (List.getElem?_eq_some_iff.1 hj).1
    refine ⟨j, hl, ?_⟩
    simp only [wd, Int.toNat_natCast]; rw [List.getD_eq_getElem?_getD, hj]; rfl
end Go.Proofs.YtknbjfefeeojlaaGreat
/- Package solve: NullSpace. -/
namespace Go.Proofs.YtknbjfefeeojlaaGreat
open Go.RowKit
attribute [local irreducible] RV VH V OpF Calls
theorem GO.tn {ρt : Type} {El : (Nat → Prop) → World → List Value → ρt → Prop} {S : Nat → Prop} {s B B' : Nat} {W W' : World} {e : TypeId} {v : Value} {rs : List ρt} (ok : ElOK El) (h : GO s El S B W e v rs) (t : Tn B' W W') : GO s El S B W' e v rs := by
  obtain ⟨qs, h1, h2⟩ := h
  exact ⟨qs, h1.ck (t.ck fun _ => True) fun _ _ => trivial, h2.imp fun _ _ hq => ok.ck hq (t.ck _)⟩
theorem AR.tn {k : IntKind} {W W' : World} {b e n B : Nat} {xs : List Int} (h : AR k W b e n xs) (t : Tn B W W') : AR k W' b e n xs := h.ck (t.ck fun _ => True) trivial
end Go.Proofs.YtknbjfefeeojlaaGreat
/- Package solve: Solve. -/
namespace Go.Proofs.YtknbjfefeeojlaaGreat
open Go.RowKit
attribute [local irreducible] RV VH V OpF Calls
/-- A box that holds a pointer is none of the blocks of a matrix. -/
theorem RN.np {k : IntKind} {S : Nat → Prop} {W : World} {a : Option Addr} {n c nb : Nat} {xs : List Int} {p : Option Addr} {T : TypeId} (h : RN k S W a n c xs) (hb : BoxAt W nb [.pointer p] T) : RN k (fun b => S b ∧ b ≠ nb) W a n c xs :=
  ⟨h.len, h.cap, h.max, h.wf, fun hn => by
    obtain ⟨b, off, cs, T', fz, e, h1, h2, hc⟩ := h.at_ hn
    refine ⟨b, off, cs, T', fz, e, ⟨h1, fun eb => ?_⟩, h2, hc⟩
    subst eb
    have h3 := hc 0 hn
    unfold BoxAt at hb
    rw [hb] at h2; cases h2
    rcases off with _ | o <;> simp at h3⟩
theorem QC.np {S : Nat → Prop} {W : World} {q : List Value} {r : Rat} {nb : Nat} {p : Option Addr} {T : TypeId} (h : QC S W q r) (hb : BoxAt W nb [.pointer p] T) : QC (fun b => S b ∧ b ≠ nb) W q r := by
  obtain ⟨a1, l1, c1, a2, l2, c2, e, h1, h2⟩ := h
  exact ⟨a1, l1, c1, a2, l2, c2, e, h1.np hb, h2.np hb⟩
theorem GC.np {S : Nat → Prop} {W : World} {a : Option Addr} {n c nb : Nat} {rs : List Rat} {p : Option Addr} {T : TypeId} (h : GC S W a n c rs) (hb : BoxAt W nb [.pointer p] T) : GC (fun b => S b ∧ b ≠ nb) W a n c rs := by
  obtain ⟨qs, h1, h2⟩ := h
  refine ⟨qs, ⟨h1.len, h1.cap, h1.max, h1.wd, fun hn => ?_⟩, h2.imp fun _ _ hq => hq.np hb⟩
  obtain ⟨b, off, cs, T', fz, e, h3, h4, hc⟩ := h1.at_ hn
  refine ⟨b, off, cs, T', fz, e, ⟨h3, fun eb => ?_⟩, h4, hc⟩
  subst eb
  have hl : 0 < qs.length := by rw [h1.len]; exact hn
  obtain ⟨r, _, hq⟩ := h2.get (List.getElem?_eq_getElem hl)
  obtain ⟨n1, a1, l1, c1, n2, a2, l2, c2, eq⟩ := hq.form
  have h5 := hc 0 _ (List.getElem?_eq_getElem hl) 0 (.bool n1) (by rw [eq]; rfl)
  unfold BoxAt at hb
  rw [hb] at h4; cases h4
  rcases off with _ | o <;> simp at h5
theorem KD.low {D : Nat → Prop} {B : Nat} {X Y Z : World} (h : Below B X Y) (k : KD D Y Z) (hD : ∀ q, q < B → D q) (hs : B ≤ Y.heap.size) : Below B X Z := h.trans (k.below hD hs)

end Go.Proofs.YtknbjfefeeojlaaGreat
/- A guarded call in a region that draws its order; a literal of two rationals. -/
namespace Go.Proofs.YtknbjfefeeojlaaGreat
open Go.RowKit
section
variable {r : Option Nat} {P : Program} {ops : Array Oper} {S : World → Prop} {R : Env → World → Prop} {fuel : Nat} {listed : Array Bool} {E : Env} {W : World} {d : Option Tmp} {op : Op} {ty : TypeId} {pos : String} {af : Array Edge}
theorem efg {j : Nat} {want : Bool} (i : Nat) (hr : Region.ready .any ops listed = [i]) (hi : ops[i]? = some ⟨d, op, ty, pos, af, some (j, want)⟩) (hg : yE ops E j = some want) (h : OpF r P (ev E) ⟨d, op, ty, pos, af, some (j, want)⟩ W fun v W' => (lastOp ops i = false → S W') ∧ VH r P ops S R fuel (listed.setIfInBounds i true) (puto E d v) W') : VH r P ops S R (fuel + 1) listed E W := by
  refine ⟨fun h0 => (by rw [hr] at h0; cases h0), fun k hk => ?_⟩
  rw [hr] at hk
  obtain rfl : k = i := by simpa using hk
  unfold opI
  simp only [hi]
  rw [if_pos (by simp [wE, Region.wanted, hg])]; exact h
end
end Go.Proofs.YtknbjfefeeojlaaGreat
/- Package pylonlaw05: the sizes that the laws speak of, and the examples. -/
namespace Go.Proofs.YtknbjfefeeojlaaGreat
open Go.RowKit
attribute [local irreducible] RV VH V OpF Calls

section
variable {L : Nat} {S S1 S2 : Nat → Prop} {a1 a2 : Option Addr} {n c m d : Nat} {rss : List (List Rat)} {bs : List Rat}
end

set_option maxHeartbeats 400000 in
theorem rInts5_ok (a1 a2 : Option Addr) (n c m d : Nat) (xs ys : List Int) (S1 S2 : Nat → Prop) (w : World) (hx : RN .i64 S1 w a1 n c xs) (hy : RN .i64 S2 w a2 m d ys) :
    Calls Tryz.prog 62 #[.slice a1 n c, .slice a2 m d] w (fun e w' => ∃ q, e = .returned (.bool q) ∧ Ext w w' ∧ (q = true ↔ xs = ys)) := by
 have z0 := Ext.refl w; have hLX : LX = 17592186044416 := rfl; have hLY : LY = 8796093022208 := rfl
 have l1 := hx.len; have l2 := hx.cap; have l3 := hx.max; have l4 := hy.len; have l5 := hy.cap; have l6 := hy.max
 refine enter (args := [.slice a1 n c, .slice a2 m d]) Tryz.func62 rfl rfl (Nat.le_of_ble_eq_true rfl) ?_
 refine V.seq (V.reg rfl ?_)
 refine asb rfl ?_
 refine vnil ?_
 refine V.seq ?_
 refine V.seq (V.reg rfl ?_)
 refine mvs rfl ?_
 refine vv (rlen sl73 rfl) ?_
 refine mvs rfl ?_
 refine vv (rlen sl73 rfl) ?_
 refine vne rfl rfl ?_ ?_
 ·intro c1
  refine vnil ?_
  refine V.condT rfl ?_
  refine V.seq (V.reg rfl ?_)
  refine asb rfl ?_
  refine vnil ?_
  refine V.ret ?_
  refine ⟨[.bool false], ⟨rfl, trivial⟩, ?_⟩
  exact ⟨_, rfl, (Ext.refl w), ⟨fun h => (by cases h), fun h => by subst h; omega⟩⟩
 ·intro c1
  refine vnil ?_
  refine V.condF rfl ?_
  refine V.skip ?_
  refine V.seq ?_
  refine V.seq (V.reg rfl ?_)
  refine asi rfl ?_
  refine vnil ?_
  refine V.block ?_
  refine V.loopK (ι := Nat) [(0, .slice _ _ _), (1, .slice _ _ _)] (fun k => [(5, .int .i64 (k : Int))]) (fun k W => Ext w W ∧ k ≤ n ∧ xs.take k = ys.take k) (fun k => n - k) (0) ⟨rfl, rfl, trivial⟩ ⟨rfl, trivial⟩ ⟨Ext.refl _, Nat.zero_le _, rfl⟩ ?_
  intro k E3 W2 h4
  obtain ⟨x5, hk, ht⟩ := h4
  have s6 := x5.sz
  have z7 := x5
  refine V.seq ?_
  refine V.seq (V.reg rfl ?_)
  refine mvi rfl ?_
  refine mvs rfl ?_
  refine vv (rlen sl73 rfl) ?_
  refine vlt rfl rfl ?_ ?_
  ·intro c8
   refine vnil ?_
   refine V.condT rfl ?_
   refine V.skip ?_
   refine V.seq ?_
   refine V.block ?_
   refine V.seq (V.regD mixed rfl ?_)
   intro W9 x10
   have s11 := x10.sz
   have z12 := z7.trans x10
   have q13 := Ext.refl W9
   refine tk 0 rfl (by kernel_rfl) q13 (pv (fun _ y14 => rmv (v := .slice _ _ _) rfl)) ?_
   refine tk 1 rfl (by kernel_rfl) q13 (pv (fun _ y15 => rmv (v := .int _ _) rfl)) ?_
   refine tk 2 rfl (by kernel_rfl) q13 (pv (fun _ y16 => rixn ((hx.ext z12).ext y16) sl73 sz3 rfl rfl (by omega) (by omega))) ?_
   refine tk 3 rfl (by kernel_rfl) q13 (pv (fun _ y17 => rldN ((hx.ext z12).ext y17) rfl sc3 (by omega) (by omega))) ?_
   refine tk 4 rfl (by kernel_rfl) q13 (pv (fun _ y18 => rmv (v := .slice _ _ _) rfl)) ?_
   refine tk 5 rfl (by kernel_rfl) q13 (pv (fun _ y19 => rmv (v := .int _ _) rfl)) ?_
   refine tk 6 rfl (by kernel_rfl) q13 (pv (fun _ y20 => rixn ((hy.ext z12).ext y20) sl73 sz3 rfl rfl (by omega) (by omega))) ?_
   refine tk 7 rfl (by kernel_rfl) q13 (pv (fun _ y21 => rldN ((hy.ext z12).ext y21) rfl sc3 (by omega) (by omega))) ?_
   refine tkNe 8 rfl (by kernel_rfl) q13 rfl rfl (fun _ h => pv h) ?_ ?_
   ·intro cz
    refine dn (by kernel_rfl) ?_
    refine V.condT rfl ?_
    refine V.seq (V.reg rfl ?_)
    refine asb rfl ?_
    refine vnil ?_
    refine V.ret ?_
    refine ⟨[.bool false], ⟨rfl, trivial⟩, ?_⟩
    exact ⟨_, rfl, z12, ⟨fun h => (by cases h), fun h => absurd (by rw [h]) cz⟩⟩
   ·intro cz
    refine dn (by kernel_rfl) ?_
    refine V.condF rfl ?_
    refine V.skip ?_
    refine V.reg rfl ?_
    refine mvi rfl ?_
    refine vv (rbin (bAdd (wi (by omega))) rfl rfl) ?_
    refine asi rfl ?_
    refine vnil ?_
    refine ⟨rfl, k + 1, ⟨rfl, rfl, trivial⟩, ⟨rfl, trivial⟩, ⟨z12, by omega, by rw [take_getD 0 xs k (by omega), take_getD 0 ys k (by omega), ht]; simp only [wd, Int.toNat_natCast] at cz; rw [cz]⟩, ?_⟩
    show n - (k + 1) < n - k
    omega
  ·intro c8
   refine vnil ?_
   refine V.condF rfl ?_
   refine V.exit ?_
   refine V.seq (V.reg rfl ?_)
   refine asb rfl ?_
   refine vnil ?_
   refine V.ret ?_
   refine ⟨[.bool true], ⟨rfl, trivial⟩, ?_⟩
   refine ⟨_, rfl, z7, ?_⟩
   rw [List.take_of_length_le (by omega), List.take_of_length_le (by omega)] at ht
   exact ⟨fun _ => ht, fun _ => rfl⟩

theorem rInts5_true {S1 S2 : Nat → Prop} {a1 a2 : Option Addr} {n c m d : Nat} {xs ys : List Int} (w : World) (hx : RN .i64 S1 w a1 n c xs) (hy : RN .i64 S2 w a2 m d ys) (e : xs = ys) : Calls Tryz.prog 62 #[.slice a1 n c, .slice a2 m d] w fun e w' => e = .returned (.bool true) ∧ Ext w w' := by
  refine (rInts5_ok _ _ _ _ _ _ _ _ _ _ w hx hy).mono ?_
  rintro _ _ ⟨q, h1, h2, h3⟩
  exact ⟨by rw [h1, h3.2 e], h2⟩


end Go.Proofs.YtknbjfefeeojlaaGreat
/- Package vec: FirstGreater, Sign; package lp: sizes. -/
namespace Go.Proofs.YtknbjfefeeojlaaGreat
open Go.RowKit
attribute [local irreducible] RV VH V OpF Calls
structure CG (w : World) (b4 b5 b1 b2 : Nat) (v1 v2 : Value) (s : Int) (q : Bool) (X : World) : Prop where
  ext : Ext w X
  x4 : BoxAt X b4 [.int .i64 s] 3
  x5 : BoxAt X b5 [.bool q] 4
  x1 : BoxAt X b1 [v1] 23
  x2 : BoxAt X b2 [v2] 23
theorem CG.tn {w X Y : World} {B b4 b5 b1 b2 : Nat} {v1 v2 : Value} {s : Int} {q : Bool} (h : CG w b4 b5 b1 b2 v1 v2 s q X) (t : Tn B X Y) (hB : w.heap.size ≤ B) : CG w b4 b5 b1 b2 v1 v2 s q Y := ⟨t.ext h.ext hB, h.x4.tn t, h.x5.tn t, h.x1.tn t, h.x2.tn t⟩
theorem CG.xt {w X Y : World} {b4 b5 b1 b2 : Nat} {v1 v2 : Value} {s : Int} {q : Bool} (h : CG w b4 b5 b1 b2 v1 v2 s q X) (x : Ext X Y) : CG w b4 b5 b1 b2 v1 v2 s q Y := ⟨h.ext.trans x, h.x4.ext x, h.x5.ext x, h.x1.ext x, h.x2.ext x⟩

set_option maxHeartbeats 400000 in
theorem vFirst_ok (a1 a2 : Option Addr) (n c m d : Nat) (L1 L2 : Nat) (xs ys : List Rat) (S1 S2 : Nat → Prop) (w : World) (hx : GA L1 S1 w a1 n c xs) (hy : GA L2 S2 w a2 m d ys) (hL : L1 + L2 < LY) (hl1 : 1 ≤ L1) (hl2 : 1 ≤ L2) (hn : n ≤ LV) (hm : m ≤ LV) :
    Calls Tryz.prog 145 #[.slice a1 n c, .slice a2 m d] w (fun e w' => ∃ (s : Int) (q : Bool), e = .returned (.tuple #[.int .i64 s, .bool q]) ∧ Ext w w' ∧ (q = true ↔ ∃ j, j < max n m ∧ vat ys j < vat xs j)) := by
 have z0 := Ext.refl w; have hLX : LX = 17592186044416 := rfl; have hLY : LY = 8796093022208 := rfl
 have hLV : LV = 1099511627776 := rfl
 have l1 := hx.len; have l2 := hy.len
 obtain ⟨qs1, rx, ax⟩ := hx; obtain ⟨qs2, ry, ay⟩ := hy
 have f1 := ax.form; have f2 := ay.form
 refine enter (args := [.slice a1 n c, .slice a2 m d]) Tryz.func145 rfl rfl (Nat.le_of_ble_eq_true rfl) ?_
 refine V.seq (V.reg rfl ?_)
 refine vo ?_
 refine xal zc3 ?_
 intro W1 x2 b3 nn4
 have s5 := x2.sz
 have z6 := x2
 refine vo ?_
 refine xal zc4 ?_
 intro W7 x8 b9 nn10
 have s11 := x8.sz
 have z12 := z6.trans x8
 replace b3 := b3.ext x8
 refine vnil ?_
 refine V.seq ?_
 refine V.seq (V.reg rfl ?_)
 refine mvs rfl ?_
 refine mvs rfl ?_
 refine vo ?_
 refine xcall e156 (both_ok _ _ _ _ _ _ _) rfl rfl ?_
 rintro _ W13 ⟨b1, b2, eb1, eb2, rfl, x14, hb1, hb2⟩
 have s15 := x14.sz
 have z16 := z12.trans x14
 replace b3 := b3.ext x14
 replace b9 := b9.ext x14
 have lb1 := hb1.lt; have lb2 := hb2.lt
 refine ⟨_, rfl, ?_⟩
 refine vnil ?_
 refine V.block ?_
 have lb4 := b3.lt; have lb5 := b9.lt
 refine V.rf (gf := 189) rfl e189 (both_iter hb1 hb2 ((rx.sub (S' := fun q => q < w.heap.size ∨ q = b1 ∨ q = b2) (fun b hb _ => .inl hb)).ext z16) ((ry.sub (S' := fun q => q < w.heap.size ∨ q = b1 ∨ q = b2) (fun b hb _ => .inl hb)).ext z16) f1 f2 (.inr (.inl rfl)) (.inr (.inr rfl))) (Ext.refl _) (by rintro k (h | rfl | rfl) <;> omega) rfl (fun i X => CG w (w.heap.size) (W1.heap.size) b1 b2 (.slice a1 n c) (.slice a2 m d) 0 false X ∧ ∀ j, j < i → ¬ vat ys j < vat xs j) (fun cd i X => cd = .ret ∧ CG w (w.heap.size) (W1.heap.size) b1 b2 (.slice a1 n c) (.slice a2 m d) (i : Int) true X ∧ 0 < cq (vat xs i) (vat ys i)) (fun i X Y ⟨hA, h⟩ t => ⟨hA.tn t (by omega), h⟩) (fun cd i X Y ⟨h0, hA, h⟩ t => ⟨h0, hA.tn t (by omega), h⟩) (⟨⟨z16, b3, b9, hb1, hb2⟩, fun j hj => absurd hj (Nat.not_lt_zero _)⟩) ?_ ?_ ?_
 ·intro l17 i18 X19 hi20 hM21 hk22 hs23
  obtain ⟨m1, d1, e1, g1, m2, d2, e2, g2, p1⟩ := qat_form f1 i18; obtain ⟨m3, d3, e3, g3, m4, d4, e4, g4, p2⟩ := qat_form f2 i18
  have ev2 : (Value.agg (qat qs1 i18 ++ qat qs2 i18).toArray) = .agg #[.bool m1, .slice d1 e1 g1, .bool m2, .slice d2 e2 g2, .bool m3, .slice d3 e3 g3, .bool m4, .slice d4 e4 g4] := by rw [p1, p2]; rfl
  show V _ _ _ _ _ _ (up (up _ _ _) _ (Value.agg (qat qs1 i18 ++ qat qs2 i18).toArray)) _
  rw [ev2]
  have zX := Ext.refl X19
  refine V.seq (V.reg rfl ?_)
  refine asi rfl ?_
  refine vnil ?_
  refine V.reg rfl ?_
  refine vo ?_
  refine xal zc161 ?_
  intro W24 x25 b26 nn27
  have s28 := x25.sz
  have z29 := x25
  refine vo ?_
  refine sta (cs' := [_, _, _, _, _, _, _, _]) b26 rfl rfl sz161 rfl rfl rfl ?_
  intro W30 y31 b26
  have z32 := z29.below (y31.below (by omega))
  have s33 := y31.size
  refine vnil ?_
  obtain ⟨hA, hQ⟩ := hi20
  replace hA := hA.xt z32
  have l8 := b26.lt; have lA4 := hA.x4.lt; have sX := z32.sz
  refine ⟨rfl, Kf.ext z32, ?_⟩
  intro Z34 t35
  replace hA := hA.tn t35 (by omega); have x8 := b26.tn t35; have st8 := t35.size; have x4 := hA.x4; have x5 := hA.x5
  have zZ := Ext.refl Z34
  have hqx := ((ax.qat i18).sub (S' := fun _ => True) (fun _ _ _ => trivial)).ext hA.ext; have hqy := ((ay.qat i18).sub (S' := fun _ => True) (fun _ _ _ => trivial)).ext hA.ext; rw [p1] at hqx; rw [p2] at hqy
  refine V.block ?_
  refine V.seq (V.reg rfl ?_)
  refine vv (rixa (i := 0) Tryz.underlying161 sz48 rfl rfl (by decide)) ?_
  refine vv (rldb4 rfl ag48 x8 rfl rfl rfl rfl ) ?_
  refine vv (rixa (i := 1) Tryz.underlying161 sz48 rfl rfl (by decide)) ?_
  refine vv (rldb4 rfl ag48 x8 rfl rfl rfl rfl ) ?_
  refine vo ?_
  refine xcall e140 (fCmp_ok _ _ _ _ _ _ _ _ _ hqx hqy (by omega) (by omega) (by omega)) rfl rfl ?_
  rintro _ W36 ⟨rfl, x37⟩
  have s38 := x37.sz
  replace x4 := x4.ext x37
  replace x5 := x5.ext x37
  replace x8 := x8.ext x37
  refine ⟨_, rfl, ?_⟩
  refine vgt rfl rfl ?_ ?_
  ·intro c1
   refine vnil ?_
   refine V.condT rfl ?_
   refine V.seq (V.reg rfl ?_)
   refine mvi rfl ?_
   refine vo ?_
   refine st1 (v := .int _ _) (cs' := [_]) x4 rfl rfl sz3 rfl rfl rfl rfl ?_
   intro W40 y41 x4
   replace x5 := x5.wr y41 (by omega)
   replace x8 := x8.wr y41 (by omega)
   have s42 := y41.size
   refine vo ?_
   refine st1 (v := .bool true) (cs' := [_]) x5 rfl rfl sz4 rfl rfl rfl rfl ?_
   intro W43 y44 x5
   replace x4 := x4.wr y44 (by omega)
   replace x8 := x8.wr y44 (by omega)
   have s45 := y44.size
   refine vnil ?_
   refine V.ret ?_
   have hB := hA.xt x37
   have hB5 := hB.x5.wr y41 (by omega)
   exact ⟨(Kf.ext x37).trans ((Kf.wr y41 hB.x4 (by rintro (h | h | h) <;> omega)).trans (Kf.wr y44 hB5 (by rintro (h | h | h) <;> omega))), rfl, ⟨(hB.ext.below (y41.below (by omega))).below (y44.below (by omega)), x4, x5, (hB.x1.wr y41 (by omega)).wr y44 (by omega), (hB.x2.wr y41 (by omega)).wr y44 (by omega)⟩, c1⟩
  ·intro c1
   refine vnil ?_
   refine V.condF rfl ?_
   refine V.skip ?_
   exact ⟨Kf.ext x37, hA.xt x37, fun j hj => by
    rcases Nat.lt_succ_iff_lt_or_eq.1 hj with h | rfl
    ·exact hQ j h
    ·exact fun h => by have := cq_pos.2 h; omega⟩
 ·intro D46 X47 hD48 hI49 hdf50 hs51
  obtain ⟨hA, hQ⟩ := hI49
  have x4 := hA.x4; have x5 := hA.x5
  refine V.seq (V.reg rfl ?_)
  refine vo ?_
  refine st1 (v := .int _ _) (cs' := [_]) x4 rfl rfl sz3 rfl rfl rfl rfl ?_
  intro W52 y53 x4
  have z54 := hA.ext.below (y53.below (by omega))
  replace x5 := x5.wr y53 (by omega)
  have hd55 := y53.obj hdf50 (by omega)
  have s56 := y53.size
  refine vo ?_
  refine st1 (v := .bool false) (cs' := [_]) x5 rfl rfl sz4 rfl rfl rfl rfl ?_
  intro W57 y58 x5
  have z59 := z54.below (y58.below (by omega))
  replace x4 := x4.wr y58 (by omega)
  have hd60 := y58.obj hd55 (by omega)
  have s61 := y58.size
  refine vnil ?_
  refine V.ret ?_
  refine ⟨D46, rfl, hd60, ?_⟩
  have tp := Tn.putObj (B := w.heap.size) (.deferred none) hd60 (by omega) rfl
  have x4 := x4.tn tp
  have x5 := x5.tn tp
  have z62 := tp.ext z59 (Nat.le_refl _)
  refine ⟨[.int _ _, .bool false], ⟨⟨_, rfl, lv1 sc3 x4 rfl⟩, ⟨_, rfl, lv1 sc4 x5 rfl⟩, trivial⟩, ?_⟩
  exact ⟨_, _, rfl, z62, fun h => (by cases h), fun ⟨j, hj, h⟩ => absurd h (hQ j hj)⟩
 ·rintro D' cd i X hD' hi ⟨rfl, hA, hne⟩ hdf hs
  have x4 := hA.x4; have x5 := hA.x5
  refine V.ret ?_
  refine ⟨D', rfl, hdf, ?_⟩
  have tp := Tn.putObj (B := w.heap.size) (.deferred none) hdf (by omega) rfl
  have x4 := x4.tn tp
  have x5 := x5.tn tp
  have z63 := tp.ext hA.ext (Nat.le_refl _)
  refine ⟨[.int _ _, .bool _], ⟨⟨_, rfl, lv1 sc3 x4 rfl⟩, ⟨_, rfl, lv1 sc4 x5 rfl⟩, trivial⟩, ?_⟩
  exact ⟨_, _, rfl, z63, fun _ => ⟨i, hi, cq_pos.1 hne⟩, fun _ => rfl⟩
set_option maxHeartbeats 400000 in
theorem vSign_ok (a1 : Option Addr) (n c L1 : Nat) (xs : List Rat) (S1 : Nat → Prop) (w : World) (hx : GA L1 S1 w a1 n c xs) (hL1 : 3 * L1 + 2 < LY) (hl1 : 1 ≤ L1) (hn : n ≤ LV) :
    Calls Tryz.prog 146 #[.slice a1 n c] w (fun e w' => ∃ s, e = .returned (.int .i64 s) ∧ Ext w w' ∧ LexP xs [] (max n 0) s) := by
 have z0 := Ext.refl w; have hLX : LX = 17592186044416 := rfl; have hLY : LY = 8796093022208 := rfl
 have hLV : LV = 1099511627776 := rfl
 refine enter (args := [.slice a1 n c]) Tryz.func146 rfl rfl (Nat.le_of_ble_eq_true rfl) ?_
 refine V.seq (V.reg rfl ?_)
 refine asi rfl ?_
 refine vnil ?_
 refine V.seq (V.reg rfl ?_)
 refine mvs rfl ?_
 refine vo ?_
 refine xcall e97 (vCompare_ok _ _ _ _ _ _ L1 1 xs [] S1 TT _ hx (GA.nil _ _ _) (by omega) (by omega) (by omega) (by omega) (by omega)) rfl rfl ?_
 rintro _ W1 ⟨sg, rfl, x2, hsg⟩
 have s3 := x2.sz
 have z4 := x2
 refine ⟨_, rfl, ?_⟩
 refine asi rfl ?_
 refine vnil ?_
 refine V.ret ?_
 refine ⟨[.int _ _], ⟨rfl, trivial⟩, ?_⟩
 exact ⟨_, rfl, z4, hsg⟩
end Go.Proofs.YtknbjfefeeojlaaGreat
/- Package lp: conditions. -/
namespace Go.Proofs.YtknbjfefeeojlaaGreat
open Go.RowKit
attribute [local irreducible] RV VH V OpF Calls

set_option maxHeartbeats 400000 in
theorem cond_iter {D : Nat → Prop} {w : World} {nv : Int} {a0 a1 a2 : Option Addr} {n0 c0 n c m d : Nat} {qs1 qs2 : List (List Value)} {b1 : Nat} (hb1 : BoxAt w b1 [.int .i64 nv, .slice a0 n0 c0, .slice a1 n c, .slice a2 m d] 25) (hx : RS 1 D w a1 n c qs1) (hy : RS 4 D w a2 m d qs2) (f1 : ∀ q ∈ qs1, form1 q) (f2 : ∀ q ∈ qs2, form4 q) (h1 : D b1) :
    Iter Tryz.prog 154 #[.pointer (some ⟨b1, 0, none⟩)] (fun i => rvat qs1 i) (fun i => .agg (qat qs2 i).toArray) D n w := by
 have z0 := Ext.refl w; have hLX : LX = 17592186044416 := rfl; have hLY : LY = 8796093022208 := rfl
 intro l J Jx X hX hJs hJxs hY hJ0
 have hx0 := hx.ext hX; have hy0 := hy.ext hX; have b10 := hb1.ext hX
 have l1 := hx.len; have l2 := hy.len; have q1 := hx.cap; have q2 := hy.cap; have q3 := hx.max; have q4 := hy.max
 refine enter (args := [.func (.yield l) #[] #[], .pointer (some ⟨b1, 0, none⟩)]) Tryz.func154 rfl rfl (Nat.le_of_ble_eq_true rfl) ?_
 refine V.seq (V.reg rfl ?_)
 refine vv (rfa rfl fd25_2) ?_
 refine vv (rldb (v := .slice _ _ _) rfl sc22 b10 rfl) ?_
 refine vv (rlen sl22 rfl) ?_
 refine mvi rfl ?_
 refine vnil ?_
 refine V.block ?_
 refine V.loopK (ι := Nat) [(0, .func _ _ _), (1, .pointer (some ⟨_, _, none⟩)), (7, .slice _ _ _), (8, .int _ _)] (fun k => [(9, .int .i64 (k : Int))]) (fun k W => J k W ∧ KD D w W ∧ k ≤ n) (fun k => n - k) (0) ⟨rfl, rfl, rfl, rfl, trivial⟩ ⟨rfl, trivial⟩ ⟨hJ0, hX.kd, Nat.zero_le _⟩ ?_
 intro k E2 W1 h3
 obtain ⟨hJ, hkd, hk⟩ := h3
 have hx1 := hx.kd hkd
 have hy1 := hy.kd hkd
 have b1' := hb1.kd hkd h1; have zk0 := Ext.refl W1; have szk := hkd.size; have lb1k := b1'.lt
 refine V.seq (V.reg rfl ?_)
 refine vlt rfl rfl ?_ ?_
 ·intro c4
  refine vnil ?_
  refine V.seq ?_
  refine V.condT rfl ?_
  refine V.skip ?_
  refine V.seq ?_
  refine V.block ?_
  refine V.seq (V.reg rfl ?_)
  refine mvi rfl ?_
  refine vv (rix sl22 sz23 rfl rfl (by omega) (by omega) (hx1.isS (i := 0) (by omega) (by omega))) ?_
  refine vldR1 hx1 f1 rfl sc23 (by omega) (by omega) ?_
  intro a5 n6 c7 hq8
  refine asi rfl ?_
  refine ass rfl ?_
  refine vnil ?_
  refine V.seq (V.reg rfl ?_)
  refine vo ?_
  refine xal zc48 ?_
  intro W9 x10 b11 nn12
  have s13 := x10.sz
  have z14 := x10
  replace b1' := b1'.ext x10
  refine vnil ?_
  refine V.seq ?_
  refine V.seq (V.reg rfl ?_)
  refine mvi rfl ?_
  refine vv (rfa rfl fd25_3) ?_
  refine vv (rldb (v := .slice _ _ _) rfl sc23 b1' rfl) ?_
  refine vv (rlen sl23 rfl) ?_
  refine vlt rfl rfl ?_ ?_
  ·intro c15
   refine vnil ?_
   refine V.condT rfl ?_
   refine V.reg rfl ?_
   refine vv (rfa rfl fd25_3) ?_
   refine vv (rldb (v := .slice _ _ _) rfl sc23 b1' rfl) ?_
   refine mvi rfl ?_
   refine vv (rix sl23 sz48 rfl rfl (by omega) (by omega) ((hy1.ext z14).isS (i := 0) (by omega) (by omega))) ?_
   refine vldR (hy1.ext z14) f2 rfl ag48 (by omega) (by omega) ?_
   intro n16 a17 l18 c19 n20 a21 l22 c23 hq24
   refine vo ?_
   refine sta (cs' := [_, _, _, _]) b11 rfl rfl sz48 rfl rfl rfl ?_
   intro W25 y26 b11
   have z27 := z14.below (y26.below (by omega))
   replace b1' := b1'.wr y26 (by omega)
   have s28 := y26.size
   refine vnil ?_
   refine V.seq (V.reg rfl ?_)
   refine mvf rfl ?_
   refine mvs rfl ?_
   refine vv (rldb4 rfl ag48 b11 rfl rfl rfl rfl ) ?_
   refine vo ?_
   have hYk : ∀ u v : Value, u = rvat qs1 k → v = .agg (qat qs2 k).toArray → YieldAt Fence.wide 0 Tryz.prog l #[u, v] W25 (fun e B => (e = .returned (.bool true) ∧ J (k + 1) B ∧ KD D W25 B) ∨ (e = .returned (.bool false) ∧ Jx k B ∧ KD D W25 B)) := by intro u v eu ev; subst eu; subst ev; exact hY k _ (hJs _ _ _ hJ z27) (by omega) (hkd.trans (Ext.kd z27))
   refine xyield (vs := [.slice _ _ _, .agg #[.bool _, .slice _ _ _, .bool _, .slice _ _ _]]) rfl rfl (hYk (.slice _ _ _) (.agg #[.bool _, .slice _ _ _, .bool _, .slice _ _ _]) (by rw [show ((k : Int)).toNat = k by omega] at hq8; exact hq8.symm) (by rw [show ((k : Int)).toNat = k by omega] at hq24; rw [hq24])) ?_
   rintro _ W' (⟨rfl, hJ', hkd'⟩ | ⟨rfl, hJx, hkd'⟩) <;> refine ⟨_, rfl, ?_⟩
   ·skip
    refine vv (rnot (q := false) rfl rfl) ?_
    refine vnil ?_
    refine V.condF rfl ?_
    refine V.skip ?_
    refine V.reg rfl ?_
    refine vv (rbin (bAdd (wi (by omega))) rfl rfl) ?_
    refine mvi rfl ?_
    refine vnil ?_
    refine ⟨rfl, k + 1, ⟨rfl, rfl, rfl, rfl, trivial⟩, ⟨rfl, trivial⟩, ⟨hJ', (hkd.trans (Ext.kd z27)).trans hkd', by omega⟩, ?_⟩
    show n - (k + 1) < n - k
    omega
   ·skip
    refine vv (rnot (q := true) rfl rfl) ?_
    refine vnil ?_
    refine V.condT rfl ?_
    refine V.ret ?_
    refine ⟨[], trivial, ?_⟩
    exact ⟨⟨_, rfl⟩, .inr ⟨k, by omega, hJx⟩⟩
  ·intro c15
   refine vnil ?_
   refine V.condF rfl ?_
   refine V.skip ?_
   refine V.seq (V.reg rfl ?_)
   refine mvf rfl ?_
   refine mvs rfl ?_
   refine vv (rldb4 rfl ag48 b11 rfl rfl rfl rfl ) ?_
   refine vo ?_
   have hYk : ∀ u v : Value, u = rvat qs1 k → v = .agg (qat qs2 k).toArray → YieldAt Fence.wide 0 Tryz.prog l #[u, v] W9 (fun e B => (e = .returned (.bool true) ∧ J (k + 1) B ∧ KD D W9 B) ∨ (e = .returned (.bool false) ∧ Jx k B ∧ KD D W9 B)) := by intro u v eu ev; subst eu; subst ev; exact hY k _ (hJs _ _ _ hJ z14) (by omega) (hkd.trans (Ext.kd z14))
   refine xyield (vs := [.slice _ _ _, .agg #[.bool _, .slice _ _ _, .bool _, .slice _ _ _]]) rfl rfl (hYk (.slice _ _ _) (.agg #[.bool _, .slice _ _ _, .bool _, .slice _ _ _]) (by rw [show ((k : Int)).toNat = k by omega] at hq8; exact hq8.symm) (by rw [qat_ge (by omega)]; rfl)) ?_
   rintro _ W' (⟨rfl, hJ', hkd'⟩ | ⟨rfl, hJx, hkd'⟩) <;> refine ⟨_, rfl, ?_⟩
   ·skip
    refine vv (rnot (q := false) rfl rfl) ?_
    refine vnil ?_
    refine V.condF rfl ?_
    refine V.skip ?_
    refine V.reg rfl ?_
    refine vv (rbin (bAdd (wi (by omega))) rfl rfl) ?_
    refine mvi rfl ?_
    refine vnil ?_
    refine ⟨rfl, k + 1, ⟨rfl, rfl, rfl, rfl, trivial⟩, ⟨rfl, trivial⟩, ⟨hJ', (hkd.trans (Ext.kd z14)).trans hkd', by omega⟩, ?_⟩
    show n - (k + 1) < n - k
    omega
   ·skip
    refine vv (rnot (q := true) rfl rfl) ?_
    refine vnil ?_
    refine V.condT rfl ?_
    refine V.ret ?_
    refine ⟨[], trivial, ?_⟩
    exact ⟨⟨_, rfl⟩, .inr ⟨k, by omega, hJx⟩⟩
 ·intro c4
  refine vnil ?_
  refine V.seq ?_
  refine V.condF rfl ?_
  refine V.exit ?_
  refine ⟨[], trivial, ?_⟩
  exact ⟨⟨_, rfl⟩, .inl (by rw [show n = k by omega]; exact hJ)⟩
set_option maxHeartbeats 400000 in
theorem cond_ok (nv : Int) (a0 a1 a2 : Option Addr) (n0 c0 n c m d : Nat) (w : World) :
    Calls Tryz.prog 94 #[.agg #[.int .i64 nv, .slice a0 n0 c0, .slice a1 n c, .slice a2 m d]] w (fun e w' => ∃ b1, b1 = w.heap.size ∧ e = .returned (.func (.func 154) #[] #[.pointer (some ⟨b1, 0, none⟩)]) ∧ Ext w w' ∧ BoxAt w' b1 [.int .i64 nv, .slice a0 n0 c0, .slice a1 n c, .slice a2 m d] 25) := by
 have z0 := Ext.refl w; have hLX : LX = 17592186044416 := rfl; have hLY : LY = 8796093022208 := rfl
 refine enter (args := [.agg #[.int .i64 nv, .slice a0 n0 c0, .slice a1 n c, .slice a2 m d]]) Tryz.func94 rfl rfl (Nat.le_of_ble_eq_true rfl) ?_
 refine V.seq (V.reg rfl ?_)
 refine vo ?_
 refine bxa rfl ?_
 intro W1 x2 b3 nn4
 have s5 := x2.sz
 have z6 := x2
 refine asn rfl ?_
 refine vnil ?_
 refine V.seq (V.reg rfl ?_)
 refine vv (rmk1 (v := .pointer (some ⟨_, _, none⟩)) rfl) ?_
 refine asf rfl ?_
 refine vnil ?_
 refine V.ret ?_
 refine ⟨[.func _ _ _], ⟨rfl, trivial⟩, ?_⟩
 exact ⟨_, rfl, rfl, z6, b3⟩
end Go.Proofs.YtknbjfefeeojlaaGreat
/- Package lp: Slack. -/
namespace Go.Proofs.YtknbjfefeeojlaaGreat
open Go.RowKit
attribute [local irreducible] RV VH V OpF Calls
structure SJ (w : World) (T1 : TypeId) (b1 b3 b4 : Nat) (cs1 : List Value) (v3 v : Value) (qs : List (List Value)) (X : World) : Prop where
  ext : Ext w X
  x1 : BoxAt X b1 cs1 T1
  x3 : BoxAt X b3 [v3] 23
  x4 : BoxAt X b4 [v] 23
  os : OS 4 w.heap.size X 48 v qs
section
variable {w X Y : World} {T1 : TypeId} {B b1 b3 b4 : Nat} {cs1 : List Value} {v3 v v' : Value} {qs : List (List Value)} {rs : List Rat} {S : Nat → Prop}
theorem SJ.tn (h : SJ w T1 b1 b3 b4 cs1 v3 v qs X) (t : Tn B X Y) (hB : w.heap.size ≤ B) : SJ w T1 b1 b3 b4 cs1 v3 v qs Y :=
  ⟨t.ext h.ext hB, h.x1.tn t, h.x3.tn t, h.x4.tn t, h.os.ck (t.ck fun _ => True) fun _ _ => trivial⟩
theorem SJ.xt (h : SJ w T1 b1 b3 b4 cs1 v3 v qs X) (x : Ext X Y) : SJ w T1 b1 b3 b4 cs1 v3 v qs Y :=
  ⟨h.ext.trans x, h.x1.ext x, h.x3.ext x, h.x4.ext x, h.os.ext x⟩
theorem SJ.up (hu : Up S w) (h : SJ w T1 b1 b3 b4 cs1 v3 v qs X) : Up (SW S b4 v) X := fun b hb =>
  ⟨hu b (Nat.le_trans h.ext.sz hb), fun e => by have := h.x4.lt; omega, fun e => by have := (h.os.low b e).2; omega⟩
theorem SJ.app {Z : World} {q : List Value} (h : SJ w T1 b1 b3 b4 cs1 v3 v qs X) (hT : T1 ≠ 48) (hO : OS 4 w.heap.size Y 48 v' (qs ++ [q])) (hg : X.grownBy Y v.ownBlock) (ho : v'.ownBlock = v.ownBlock ∨ v'.ownBlock = some X.heap.size)
    (y : Wr b4 Y Z) (hb : BoxAt Z b4 [v'] 23) (hl : w.heap.size ≤ b4) (n1 : b1 ≠ b4) (n3 : b3 ≠ b4) :
    SJ w T1 b1 b3 b4 cs1 v3 v' (qs ++ [q]) Z ∧ KB w.heap.size X Z ∧ KD (fun k => k < w.heap.size ∨ k = b1) X Z := by
  have k1 : KB w.heap.size X Y := KB.grownS h.os hg (Nat.le_refl _) h.ext.sz
  have ne : ∀ {b : Nat} {cs : List Value} {T : TypeId}, BoxAt X b cs T → T ≠ 48 → BoxAt Y b cs T := fun hb hT => hb.ck (S := fun q => v.ownBlock ≠ some q) (grown_ck hg fun b e h => h e) (h.os.neBox hb hT)
  have k2 : KB w.heap.size Y Z := KB.wr y (ne h.x4 (by decide)) hl
  have o4 : v'.ownBlock ≠ some b4 := by
    rcases ho with h' | h' <;> rw [h']
    · exact h.os.neBox h.x4 (by decide)
    · intro e; injection e with e; have := h.x4.lt; omega
  refine ⟨⟨h.ext.below (k1.trans k2).below, (ne h.x1 hT).wr y n1, (ne h.x3 (by decide)).wr y n3, hb, hO.ck (y.ck (S := fun q => q ≠ b4) (fun h => h rfl)) (fun b e e2 => o4 (e2 ▸ e))⟩, k1.trans k2, ?_⟩
  refine (grown_kd hg (fun b e hd => ?_) (k1.below.mono (Nat.zero_le _))).trans (y.kd (fun hd => ?_))
  · rcases hd with hd | rfl
    · have := (h.os.low b e).1; omega
    · exact h.os.neBox h.x1 hT e
  · rcases hd with hd | hd
    · omega
    · exact n1 hd.symm
end
theorem dot_room {L L3 a LD : Nat} (h : a ≤ 1000) (hLD : (L + L3 + 1) * 1000 + 1 ≤ LD) : (L + L3 + 1) * a + 1 ≤ LD := by have := Nat.mul_le_mul_left (L + L3 + 1) h; omega
def slackS (rss : List (List Rat)) (bs xs : List Rat) (k : Nat) : List Rat := (List.range k).map fun i => vat bs i - dotk (rowat rss i) xs (max (rowat rss i).length xs.length)
theorem slackS_succ (rss : List (List Rat)) (bs xs : List Rat) (k : Nat) : slackS rss bs xs (k + 1) = slackS rss bs xs k ++ [vat bs k - dotk (rowat rss k) xs (max (rowat rss k).length xs.length)] := by simp [slackS, List.range_succ]
theorem slackS_len (rss : List (List Rat)) (bs xs : List Rat) (k : Nat) : (slackS rss bs xs k).length = k := by simp [slackS]

set_option maxHeartbeats 1000000 in
theorem lSlack_ok (nv : Int) (a0 a1 a2 a3 : Option Addr) (n0 c0 n c m d n3 c3 L L3 LD : Nat) (rss : List (List Rat)) (bs xs : List Rat) (S S1 S2 S3 : Nat → Prop) (w : World) (hx : MA L S1 w a1 n c rss) (hy : GA L S2 w a2 m d bs) (hz : GA L3 S3 w a3 n3 c3 xs) (hl1 : 1 ≤ L) (hl3 : 1 ≤ L3) (hrr : ∀ r ∈ rss, r.length ≤ 1000) (hn : n ≤ 1000) (hn3 : n3 ≤ 1000) (hLD : (L + L3 + 1) * 1000 + 1 ≤ LD) (hL : LD + L + L3 < LY) (hu : Up S w) :
    Calls Tryz.prog 20 #[.agg #[.int .i64 nv, .slice a0 n0 c0, .slice a1 n c, .slice a2 m d], .slice a3 n3 c3] w (fun e w' => ∃ a k cc, e = .returned (.slice a k cc) ∧ Ext w w' ∧ GC S w' a k cc (slackS rss bs xs n)) := by
 have z0 := Ext.refl w; have hLX : LX = 17592186044416 := rfl; have hLY : LY = 8796093022208 := rfl
 have hLV : LV = 1099511627776 := rfl
 have l1 := hx.len; have l2 := hy.len; have l3 := hz.len
 obtain ⟨qs1, rx, ax⟩ := hx; obtain ⟨qs2, ry, ay⟩ := hy
 have f1 := RowOf.form ax; have f2 := ay.form
 refine enter (args := [.agg #[.int .i64 nv, .slice a0 n0 c0, .slice a1 n c, .slice a2 m d], .slice a3 n3 c3]) Tryz.func20 rfl rfl (Nat.le_of_ble_eq_true rfl) ?_
 refine V.seq (V.reg rfl ?_)
 refine vo ?_
 refine bxa rfl ?_
 intro W1 x2 b3 nn4
 have s5 := x2.sz
 have z6 := x2
 refine vo ?_
 refine bxs rfl ?_
 intro W7 x8 b9 nn10
 have s11 := x8.sz
 have z12 := z6.trans x8
 replace b3 := b3.ext x8
 refine vo ?_
 refine xal zc23 ?_
 intro W13 x14 b15 nn16
 have s17 := x14.sz
 have z18 := z12.trans x14
 replace b3 := b3.ext x14
 replace b9 := b9.ext x14
 refine vnil ?_
 refine V.seq ?_
 refine V.seq (V.reg rfl ?_)
 refine vv (rldb4 rfl ag25 b3 rfl rfl rfl rfl ) ?_
 refine vo ?_
 refine xcall e94 (cond_ok _ _ _ _ _ _ _ _ _ _ _) rfl rfl ?_
 rintro _ W19 ⟨b1, eb1, rfl, x20, hb1⟩
 have s21 := x20.sz
 have z22 := z18.trans x20
 replace b9 := b9.ext x20
 replace b15 := b15.ext x20
 have lb1 := hb1.lt
 refine ⟨_, rfl, ?_⟩
 refine vnil ?_
 refine V.block ?_
 have lb3 := b9.lt; have lb4 := b15.lt
 refine V.rf (gf := 154) rfl e154 (cond_iter hb1 ((rx.sub (S' := fun q => q < w.heap.size ∨ q = b1) (fun b hb _ => .inl hb)).ext z22) ((ry.sub (S' := fun q => q < w.heap.size ∨ q = b1) (fun b hb _ => .inl hb)).ext z22) f1 f2 (.inr rfl)) (Ext.refl _) (by rintro k (h | rfl) <;> omega) rfl (fun i X => ∃ v qs, SJ w 25 b1 (W1.heap.size) (W7.heap.size) [.int .i64 nv, .slice a0 n0 c0, .slice a1 n c, .slice a2 m d] (.slice a3 n3 c3) v qs X ∧ All2 (QC (SW S (W7.heap.size) v) X) qs (slackS rss bs xs i)) (fun _ _ _ => False) (fun i X Y ⟨v, qs, hA, h⟩ t => ⟨v, qs, hA.tn t (by omega), h.imp fun _ _ h => h.ck (t.ck _)⟩) (fun _ _ _ _ h _ => h) (⟨_, [], ⟨z22, hb1, b9, b15, OS.nil _ _ _ _⟩, trivial⟩) ?_ ?_ ?_
 ·intro l23 i24 X25 hi26 hM27 hk28 hs29
  obtain ⟨d1, e1, g1, p1⟩ := rvat_form f1 i24; obtain ⟨m3, d3, e3, g3, m4, d4, e4, g4, p2⟩ := qat_form f2 i24
  have ev2 : (Value.agg (qat qs2 i24).toArray) = .agg #[.bool m3, .slice d3 e3 g3, .bool m4, .slice d4 e4 g4] := by rw [p2]
  show V _ _ _ _ _ _ (up (up _ _ (rvat qs1 i24)) _ (Value.agg (qat qs2 i24).toArray)) _
  rw [p1, ev2]
  have zX := Ext.refl X25
  refine V.seq (V.reg rfl ?_)
  refine ass rfl ?_
  refine vnil ?_
  refine V.reg rfl ?_
  refine vo ?_
  refine xal zc48 ?_
  intro W30 x31 b32 nn33
  have s34 := x31.sz
  have z35 := x31
  refine vo ?_
  refine sta (cs' := [_, _, _, _]) b32 rfl rfl sz48 rfl rfl rfl ?_
  intro W36 y37 b32
  have z38 := z35.below (y37.below (by omega))
  have s39 := y37.size
  refine vnil ?_
  obtain ⟨v, qs, hA, hQ⟩ := hi26
  have hob : ∀ b, v.ownBlock = some b → b ≠ X25.heap.size := fun b e => by have := (hA.os.low b e).2; omega
  replace hA := hA.xt z38; replace hQ := hQ.imp fun _ _ h => h.ext z38
  have l6 := b32.lt; have lA3 := hA.x3.lt; have lA4 := hA.x4.lt; have sX := z38.sz
  refine ⟨rfl, Kf.ext z38, ?_⟩
  intro Z40 t41
  replace hA := hA.tn t41 (by omega); replace hQ := hQ.imp fun _ _ h => h.ck (t41.ck _); have x6 := b32.tn t41; have st8 := t41.size
  obtain ⟨a9, c9, rfl⟩ := hA.os.form
  have x3 := hA.x3; have x4 := hA.x4; have lq := hQ.len; rw [slackS_len] at lq
  have zZ := Ext.refl Z40
  have hgx := (ax.rv (GA.nil L _ _) p1).ext hA.ext; have hqy := ((ay.qat i24).sub (S' := fun _ => True) (fun _ _ _ => trivial)).ext hA.ext; rw [p2] at hqy; have hxx := hz.ext hA.ext; have hlx := hgx.len; have hly := row_le hrr i24
  refine V.block ?_
  refine V.regS (fun W => KD (fun q => q = (W1.heap.size) ∨ q = (W7.heap.size) ∨ q = (X25.heap.size)) W) mixed rfl ?_
  intro W42 x43
  have s44 := x43.sz
  have z45 := x43
  replace x3 := x3.ext x43
  replace x4 := x4.ext x43
  replace x6 := x6.ext x43
  have q47 := KD.refl (fun q => q = (W1.heap.size) ∨ q = (W7.heap.size) ∨ q = (X25.heap.size)) W42
  have r48 := x3
  have r49 := x4
  have r50 := x6
  refine tk 0 rfl (by kernel_rfl) q47 (pv (fun _ y51 => rldb (v := .slice _ _ _) rfl sc23 (r49.kd y51 (.inr (.inl rfl))) rfl)) ?_
  refine tk 1 rfl (by kernel_rfl) q47 (pv (fun _ y52 => rldb4 rfl ag48 (r50.kd y52 (.inr (.inr rfl))) rfl rfl rfl rfl )) ?_
  refine tk 2 rfl (by kernel_rfl) q47 (pv (fun _ y53 => rmv (v := .slice _ _ _) rfl)) ?_
  refine tk 3 rfl (by kernel_rfl) q47 (pv (fun _ y54 => rldb (v := .slice _ _ _) rfl sc23 (r48.kd y54 (.inl rfl)) rfl)) ?_
  refine ef 4 (by kernel_rfl) rfl ?_
  refine xcall e96 (vDot_ok _ _ _ _ _ _ L L3 _ xs TT _ _ _ (hgx.ext z45) (hxx.ext z45) LD (dot_room (by omega) hLD) (by omega) (by omega) (by omega) (by omega) (by omega) (TT.up _)) rfl rfl ?_
  rintro _ W55 ⟨_, rfl, x56, hqd⟩
  have s57 := x56.sz
  have z58 := z45.trans x56
  replace x3 := x3.ext x56
  replace x4 := x4.ext x56
  replace x6 := x6.ext x56
  have q59 := q47.trans x56.kd
  have hqd9 := hqd.qa (L := LD) ((sz_dotk (hgx.szv hl1) (hxx.szv hl3) hl1 hl3 _).mono (dot_room (by omega) hLD))
  obtain ⟨_, _, _, _, _, _, _, _, rfl⟩ := hqd.form
  refine ⟨_, rfl, ?_⟩
  refine ⟨fun _ => q59, ?_⟩
  refine ef 5 (by kernel_rfl) rfl ?_
  refine xcall e95 (fSub_ok [_, _, _, _] [_, _, _, _] _ _ L LD (SW S (W7.heap.size) (.slice a9 qs.length c9)) _ _ _ (hqy.ext z58) hqd9 (by omega) (by omega) (by omega) (SJ.up hu (hA.xt (x43.trans x56)))) rfl rfl ?_
  rintro _ W60 ⟨_, rfl, x61, hq7⟩
  have s62 := x61.sz
  replace x3 := x3.ext x61
  replace x4 := x4.ext x61
  replace x6 := x6.ext x61
  have q64 := q59.trans x61.kd
  obtain ⟨k1, k2, k3, k4, k5, k6, k7, k8, rfl⟩ := hq7.form
  refine ⟨_, rfl, ?_⟩
  refine ⟨fun _ => q64, ?_⟩
  refine ef 6 (by kernel_rfl) rfl ?_
  refine xbs (zs := [.bool false, .slice _ _ _, .bool false, .slice _ _ _]) (ps := [(0, .agg #[_, _, _, _])]) (cs := [.bool _, .slice _ _ _, .bool _, .slice _ _ _]) sl23 zr48 sz48 rfl rfl rfl rfl rfl rfl ?_
  intro W65 x66 b67 nn68
  have s69 := x66.sz
  replace x3 := x3.ext x66
  replace x4 := x4.ext x66
  replace x6 := x6.ext x66
  have q71 := q64.trans x66.kd
  refine ⟨fun _ => q71, ?_⟩
  refine ef 7 (by kernel_rfl) rfl ?_
  have hA8 := hA.xt (((x43.trans x56).trans x61).trans x66); have hQ8 := hQ.imp fun _ _ h => h.ext (((x43.trans x56).trans x61).trans x66)
  refine xappS sl23 in48 rfl rfl hA8.os rfl rfl b67 rfl rfl (by clear hLD hL; omega) (by decide) (by clear hLD hL; omega) ?_
  intro v2 W8 hO2 hg ho
  have r6x := x6
  have k8 : KB w.heap.size _ W8 := KB.grownS hA8.os hg (Nat.le_refl _) (by omega)
  refine ⟨fun _ => (q71.trans (grown_kd hg (fun b e hh => by rcases hh with rfl | rfl | rfl <;> first | exact hA8.os.neBox hA8.x3 (by decide) e | exact hA8.os.neBox hA8.x4 (by decide) e | exact hob _ e rfl) (k8.below.mono (Nat.zero_le _)))), ?_⟩
  refine ef 8 (by kernel_rfl) rfl ?_
  obtain ⟨a8, c8, rfl⟩ := hO2.form
  refine st1 (v := .slice _ _ _) (cs' := [_]) (hA8.x4.ck (S := fun q => (Value.slice a9 qs.length c9).ownBlock ≠ some q) (grown_ck hg fun b e h => h e) (hA8.os.neBox hA8.x4 (by decide))) rfl rfl sz23 rfl rfl rfl rfl ?_
  intro W9 y9 x4'
  have hWA := hA8.app (by decide) hO2 hg ho y9 x4' (by omega) (by omega) (by omega)
  refine lastT (by kernel_rfl) ?_
  refine dn (by kernel_rfl) ?_
  exact ⟨(Kf.ext (((x43.trans x56).trans x61).trans x66)).trans ⟨hWA.2.1.keeps _, hWA.2.2⟩, _, _, hWA.1, by rw [slackS_succ, show max (rowat rss i24).length xs.length = max e1 n3 from by clear hLD hL; omega]; exact ((app_all (hQ8.snoc (hq7.ext x66)) hg ho).imp fun _ _ h => h.ck (y9.ck (fun h => h.2.1 rfl)))⟩
 ·intro D72 X73 hD74 hI75 hdf76 hs77
  obtain ⟨v, qs, hA, hQ⟩ := hI75
  obtain ⟨a9, c9, rfl⟩ := hA.os.form
  have x4 := hA.x4
  refine V.seq (V.reg rfl ?_)
  refine vv (rldb (v := .slice _ _ _) rfl sc23 x4 rfl) ?_
  refine vo ?_
  refine st1 (v := .slice _ _ _) (cs' := [_]) x4 rfl rfl sz23 rfl rfl rfl rfl ?_
  intro W78 y79 x4
  have z80 := hA.ext.below (y79.below (by omega))
  have hd81 := y79.obj hdf76 (by omega)
  have s82 := y79.size
  refine vnil ?_
  refine V.ret ?_
  refine ⟨D72, rfl, hd81, ?_⟩
  have tp := Tn.putObj (B := w.heap.size) (.deferred none) hd81 (by omega) rfl
  have x4 := x4.tn tp
  have z83 := tp.ext z80 (Nat.le_refl _)
  refine ⟨[.slice _ _ _], ⟨⟨_, rfl, lv1 sc23 x4 rfl⟩, trivial⟩, ?_⟩
  refine ⟨_, _, _, rfl, z83, ?_⟩
  have hQ3 := (hQ.imp fun _ _ h => ((h.ck (y79.ck (S := SW S (W7.heap.size) (.slice a9 qs.length c9)) (fun h => h.2.1 rfl))).ck (tp.ck _)).sub (fun b _ h => h.1) : All2 (QC S _) qs _)
  have hO3 := (hA.os.ck (y79.ck (S := fun q => q ≠ (W7.heap.size)) (fun h => h rfl)) (fun b e e2 => hA.os.neBox hA.x4 (by decide) (e2 ▸ e))).ck (tp.ck fun _ => True) (fun _ _ => trivial)
  exact ⟨qs, hO3.rs (fun b hb _ => hu b hb), hQ3⟩
 ·intro _ _ _ _ _ _ h; exact h.elim
end Go.Proofs.YtknbjfefeeojlaaGreat
/- Package lp: Valid. -/
namespace Go.Proofs.YtknbjfefeeojlaaGreat
open Go.RowKit
attribute [local irreducible] RV VH V OpF Calls
section
variable {P : Program} {ρ : Operand → Value} {W : World} {d : Option Tmp} {ty : TypeId} {pos : String} {af : Array Edge} {g : Option (Nat × Bool)} {x y : Operand}
theorem part_int {t : TypeId} {k : IntKind} {xs : Array Value} {i : Nat} {v : Value} (hu : P.underlying t = some (.int k)) (hx : xs[i]? = some v) : (part t xs i).run P W = .ok v W := by
  simp [part, isAgg, run_underlying hu, hx]
theorem eqF_int {D : Nat} {f : Field} {fs : List Field} {xs ys : Array Value} {k k' : IntKind} {a b : Int} (hn : (f.name == "_") = false) (hu : P.underlying f.type = some (.int k)) (hx : xs[f.offset]? = some (.int k' a)) (hy : ys[f.offset]? = some (.int k' b)) {q : Bool}
    (h : (Op.eqFields (D + 1) xs ys fs).run P W = .ok q W) : (Op.eqFields (D + 1) xs ys (f :: fs)).run P W = .ok ((a == b) && q) W := by
  have hn' : f.name ≠ "_" := fun e => by rw [e] at hn; exact absurd hn (by decide)
  rw [Op.eqFields, if_pos hn']
  simp only [Sem.run_bind, part_int hu hx, part_int hu hy, Result.andThen_ok, run_equalIn_int W D f.type k' k a b hu]
  cases hq : (a == b) <;> simp [h]
theorem rseq4 {t2 : TypeId} {a1 a2 a3 a4 b1 b2 b3 b4 : Int} {q : Bool} (hx : ρ x = .agg #[.int .i64 a1, .int .i64 a2, .int .i64 a3, .int .i64 a4]) (hy : ρ y = .agg #[.int .i64 b1, .int .i64 b2, .int .i64 b3, .int .i64 b4]) (hq : ((a1 == b1) && ((a2 == b2) && ((a3 == b3) && ((a4 == b4) && true)))) = q) :
    (execOp ρ ⟨d, .binOp .eql 93 x y t2, ty, pos, af, g⟩).run Tryz.prog W = .ok (.value (.bool q)) W := by
  subst hq
  have h1 := run_eqGuard_agg (P := Tryz.prog) W .eql 93 x y #[.int .i64 a1, .int .i64 a2, .int .i64 a3, .int .i64 a4] #[.int .i64 b1, .int .i64 b2, .int .i64 b3, .int .i64 b4] (by kernel_rfl)
  have h2 := run_eql_struct (P := Tryz.prog) W 93 #[.int .i64 a1, .int .i64 a2, .int .i64 a3, .int .i64 a4] #[.int .i64 b1, .int .i64 b2, .int .i64 b3, .int .i64 b4]
  have h3 := run_equalIn_agg (P := Tryz.prog) W 9999 93 #[.int .i64 a1, .int .i64 a2, .int .i64 a3, .int .i64 a4] #[.int .i64 b1, .int .i64 b2, .int .i64 b3, .int .i64 b4] (by kernel_rfl) (by kernel_rfl)
  obtain ⟨f1, f2, f3, f4, hf, ⟨n1, u1, o1⟩, ⟨n2, u2, o2⟩, ⟨n3, u3, o3⟩, n4, u4, o4⟩ : ∃ f1 f2 f3 f4 : Field, (Tryz.prog.fieldsOf 93).toList = [f1, f2, f3, f4] ∧
      ((f1.name == "_") = false ∧ Tryz.prog.underlying f1.type = some (.int .i64) ∧ f1.offset = 0) ∧ ((f2.name == "_") = false ∧ Tryz.prog.underlying f2.type = some (.int .i64) ∧ f2.offset = 1) ∧
      ((f3.name == "_") = false ∧ Tryz.prog.underlying f3.type = some (.int .i64) ∧ f3.offset = 2) ∧ (f4.name == "_") = false ∧ Tryz.prog.underlying f4.type = some (.int .i64) ∧ f4.offset = 3 :=
    ⟨(Tryz.prog.fieldsOf 93).toList[0]!, (Tryz.prog.fieldsOf 93).toList[1]!, (Tryz.prog.fieldsOf 93).toList[2]!, (Tryz.prog.fieldsOf 93).toList[3]!, by kernel_rfl, ⟨by kernel_rfl, by kernel_rfl, by kernel_rfl⟩, ⟨by kernel_rfl, by kernel_rfl, by kernel_rfl⟩, ⟨by kernel_rfl, by kernel_rfl, by kernel_rfl⟩, by kernel_rfl, by kernel_rfl, by kernel_rfl⟩
  have h4 : (Op.eqFields 9999 #[.int .i64 a1, .int .i64 a2, .int .i64 a3, .int .i64 a4] #[.int .i64 b1, .int .i64 b2, .int .i64 b3, .int .i64 b4] (Tryz.prog.fieldsOf 93).toList).run Tryz.prog W = .ok ((a1 == b1) && ((a2 == b2) && ((a3 == b3) && ((a4 == b4) && true)))) W := by
    rw [hf]
    exact eqF_int n1 u1 (by rw [o1]; rfl) (by rw [o1]; rfl) (eqF_int n2 u2 (by rw [o2]; rfl) (by rw [o2]; rfl) (eqF_int n3 u3 (by rw [o3]; rfl) (by rw [o3]; rfl) (eqF_int n4 u4 (by rw [o4]; rfl) (by rw [o4]; rfl) (by simp [Op.eqFields]))))
  have h5 : (binOp .eql 93 (.agg #[.int .i64 a1, .int .i64 a2, .int .i64 a3, .int .i64 a4]) (.agg #[.int .i64 b1, .int .i64 b2, .int .i64 b3, .int .i64 b4])).run Tryz.prog W = .ok (.bool ((a1 == b1) && ((a2 == b2) && ((a3 == b3) && ((a4 == b4) && true))))) W := by
    rw [h2, h3, h4]; rfl
  unfold execOp
  simp only [hx, hy, Sem.run_bind, h1, h5, Result.andThen_ok]
  rfl
end

set_option maxHeartbeats 400000 in
theorem of_lp_ok (nv : Int) (a0 a1 a2 : Option Addr) (n0 c0 n c m d : Nat) (w : World) :
    Calls Tryz.prog 85 #[.agg #[.int .i64 nv, .slice a0 n0 c0, .slice a1 n c, .slice a2 m d]] w (fun e w' => e = .returned (.agg #[.int .i64 nv, .int .i64 (n0 : Int), .int .i64 (n : Int), .int .i64 (m : Int)]) ∧ Ext w w') := by
 have z0 := Ext.refl w; have hLX : LX = 17592186044416 := rfl; have hLY : LY = 8796093022208 := rfl
 refine enter (args := [.agg #[.int .i64 nv, .slice a0 n0 c0, .slice a1 n c, .slice a2 m d]]) Tryz.func85 rfl rfl (Nat.le_of_ble_eq_true rfl) ?_
 refine V.seq (V.reg rfl ?_)
 refine vo ?_
 refine bxa rfl ?_
 intro W1 x2 b3 nn4
 have s5 := x2.sz
 have z6 := x2
 refine vo ?_
 refine xal zc93 ?_
 intro W7 x8 b9 nn10
 have s11 := x8.sz
 have z12 := z6.trans x8
 replace b3 := b3.ext x8
 refine vnil ?_
 refine V.seq (V.reg rfl ?_)
 refine vv (rfa rfl fd25_0) ?_
 refine vv (rldb (v := .int _ _) rfl sc3 b3 rfl) ?_
 refine vv (rfa rfl fd25_1) ?_
 refine vv (rldb (v := .slice _ _ _) rfl sc22 b3 rfl) ?_
 refine vv (rlen sl22 rfl) ?_
 refine vv (rfa rfl fd25_2) ?_
 refine vv (rldb (v := .slice _ _ _) rfl sc22 b3 rfl) ?_
 refine vv (rlen sl22 rfl) ?_
 refine vv (rfa rfl fd25_3) ?_
 refine vv (rldb (v := .slice _ _ _) rfl sc23 b3 rfl) ?_
 refine vv (rlen sl23 rfl) ?_
 refine vv (rbd (ps := [(0, .int _ _), (1, .int _ _), (2, .int _ _), (3, .int _ _)]) (cs := [.int _ _, .int _ _, .int _ _, .int _ _]) pl93 rfl rfl) ?_
 refine vo ?_
 refine sta (cs' := [_, _, _, _]) b9 rfl rfl sz93 rfl rfl rfl ?_
 intro W13 y14 b9
 have z15 := z12.below (y14.below (by omega))
 have s16 := y14.size
 refine vnil ?_
 refine V.ret ?_
 refine ⟨[_], ⟨⟨_, rfl, lvb ag93 b9 rfl⟩, trivial⟩, ?_⟩
 exact ⟨rfl, z15⟩
set_option maxHeartbeats 400000 in
theorem cut_lp_ok (x0 x1 x2 x3 : Int) (w : World) :
    Calls Tryz.prog 86 #[.agg #[.int .i64 x0, .int .i64 x1, .int .i64 x2, .int .i64 x3]] w (fun e w' => e = .returned (.agg #[.int .i64 (min (max x0 0) 64), .int .i64 (min (max x1 1) 4), .int .i64 (min x2 128), .int .i64 (min x2 128)]) ∧ Ext w w') := by
 have z0 := Ext.refl w; have hLX : LX = 17592186044416 := rfl; have hLY : LY = 8796093022208 := rfl
 refine enter (args := [.agg #[.int .i64 x0, .int .i64 x1, .int .i64 x2, .int .i64 x3]]) Tryz.func86 rfl rfl (Nat.le_of_ble_eq_true rfl) ?_
 refine V.seq (V.reg rfl ?_)
 refine vo ?_
 refine bxa rfl ?_
 intro W1 x2 b3 nn4
 have s5 := x2.sz
 have z6 := x2
 refine vo ?_
 refine xal zc93 ?_
 intro W7 x8 b9 nn10
 have s11 := x8.sz
 have z12 := z6.trans x8
 replace b3 := b3.ext x8
 refine vnil ?_
 refine V.seq (V.reg rfl ?_)
 refine vv (rfa rfl fd93_2) ?_
 refine vv (rldb (v := .int _ _) rfl sc3 b3 rfl) ?_
 refine vv (rmin rfl rfl rfl) ?_
 refine asi rfl ?_
 refine vnil ?_
 refine V.seq (V.reg rfl ?_)
 refine vv (rfa rfl fd93_0) ?_
 refine vv (rldb (v := .int _ _) rfl sc3 b3 rfl) ?_
 refine vv (rmax rfl rfl rfl) ?_
 refine vv (rmin rfl rfl rfl) ?_
 refine vv (rfa rfl fd93_1) ?_
 refine vv (rldb (v := .int _ _) rfl sc3 b3 rfl) ?_
 refine vv (rmax rfl rfl rfl) ?_
 refine vv (rmin rfl rfl rfl) ?_
 refine mvi rfl ?_
 refine mvi rfl ?_
 refine vv (rbd (ps := [(0, .int _ _), (1, .int _ _), (2, .int _ _), (3, .int _ _)]) (cs := [.int _ _, .int _ _, .int _ _, .int _ _]) pl93 rfl rfl) ?_
 refine vo ?_
 refine sta (cs' := [_, _, _, _]) b9 rfl rfl sz93 rfl rfl rfl ?_
 intro W13 y14 b9
 have z15 := z12.below (y14.below (by omega))
 have s16 := y14.size
 refine vnil ?_
 refine V.ret ?_
 refine ⟨[_], ⟨⟨_, rfl, lvb ag93 b9 rfl⟩, trivial⟩, ?_⟩
 exact ⟨rfl, z15⟩

structure ValidP (nv : Int) (n0 n m : Nat) (obj rss : List (List Rat)) : Prop where
  sz : 0 ≤ nv ∧ nv ≤ 64 ∧ 1 ≤ n0 ∧ n0 ≤ 4 ∧ n ≤ 128 ∧ m = n
  co : (colsN obj : Int) ≤ nv
  cr : (colsN rss : Int) ≤ nv

set_option maxHeartbeats 1000000 in
theorem valid_ok (L : Nat) (obj rss : List (List Rat)) (S0 S1 : Nat → Prop) (nv : Int) (a0 a1 a2 : Option Addr) (n0 c0 n c m d : Nat) (w : World) (ho : MA L S0 w a0 n0 c0 obj) (hx : MA L S1 w a1 n c rss) :
    Calls Tryz.prog 17 #[.agg #[.int .i64 nv, .slice a0 n0 c0, .slice a1 n c, .slice a2 m d]] w (fun e w' => ∃ q, e = .returned (.bool q) ∧ Ext w w' ∧ (q = true ↔ ValidP nv n0 n m obj rss)) := by
 have z0 := Ext.refl w; have hLX : LX = 17592186044416 := rfl; have hLY : LY = 8796093022208 := rfl
 have hLV : LV = 1099511627776 := rfl
 have l0 := ho.len; have l1 := hx.len
 refine enter (args := [.agg #[.int .i64 nv, .slice a0 n0 c0, .slice a1 n c, .slice a2 m d]]) Tryz.func17 rfl rfl (Nat.le_of_ble_eq_true rfl) ?_
 refine V.seq (V.reg rfl ?_)
 refine vo ?_
 refine bxa rfl ?_
 intro W1 x2 b3 nn4
 have s5 := x2.sz
 have z6 := x2
 refine asb rfl ?_
 refine vnil ?_
 refine V.seq (V.reg rfl ?_)
 refine vv (rldb4 rfl ag25 b3 rfl rfl rfl rfl ) ?_
 refine vo ?_
 refine xcall e85 (of_lp_ok _ _ _ _ _ _ _ _ _ _ _) rfl rfl ?_
 rintro _ Wo ⟨rfl, xo⟩
 by_cases hsz : 0 ≤ nv ∧ nv ≤ 64 ∧ 1 ≤ n0 ∧ n0 ≤ 4 ∧ n ≤ 128 ∧ m = n
 ·refine ⟨_, rfl, ?_⟩
  have s7 := xo.sz
  have z8 := z6.trans xo
  replace b3 := b3.ext xo
  refine vo ?_
  refine xal zc93 ?_
  intro W9 x10 b11 nn12
  have s13 := x10.sz
  have z14 := z8.trans x10
  replace b3 := b3.ext x10
  refine vo ?_
  refine sta (cs' := [_, _, _, _]) b11 rfl rfl sz93 rfl rfl rfl ?_
  intro W15 y16 b11
  have z17 := z14.below (y16.below (by omega))
  replace b3 := b3.wr y16 (by omega)
  have s18 := y16.size
  refine vnil ?_
  refine V.seq (V.regD mixed rfl ?_)
  intro W19 x20
  have s21 := x20.sz
  have z22 := z17.trans x20
  replace b3 := b3.ext x20
  replace b11 := b11.ext x20
  have q23 := Ext.refl W19
  have r24 := b3
  have r25 := b11
  refine tk 0 rfl (by kernel_rfl) q23 (pv (fun _ y26 => rldb4 rfl ag93 (r25.ext y26) rfl rfl rfl rfl )) ?_
  refine tk 1 rfl (by kernel_rfl) q23 (pv (fun _ y27 => rldb4 rfl ag93 (r25.ext y27) rfl rfl rfl rfl )) ?_
  refine ef 2 (by kernel_rfl) rfl ?_
  refine xcall e86 (cut_lp_ok _ _ _ _ _) rfl rfl ?_
  rintro _ W28 ⟨rfl, x29⟩
  have s30 := x29.sz
  have z31 := z22.trans x29
  have q32 := q23.trans x29
  refine ⟨_, rfl, ?_⟩
  refine ⟨fun _ => q32, ?_⟩
  refine tk 3 rfl (by kernel_rfl) q32 (pv (fun _ y33 => rseq4 (q := true) rfl rfl (by simp only [Bool.and_eq_true, beq_iff_eq, and_true]; omega))) ?_
  refine tk 4 rfl (by kernel_rfl) q32 (pv (fun _ y34 => rmv (v := .bool true) rfl)) ?_
  refine tk 5 rfl (by kernel_rfl) q32 (pg rfl (fun _ y35 => rfa rfl fd25_1)) ?_
  refine tk 6 rfl (by kernel_rfl) q32 (pg rfl (fun _ y36 => rldb (v := .slice _ _ _) rfl sc22 (r24.ext y36) rfl)) ?_
  refine tk 8 rfl (by kernel_rfl) q32 (pg rfl (fun _ y37 => rfa rfl fd25_0)) ?_
  refine tk 9 rfl (by kernel_rfl) q32 (pg rfl (fun _ y38 => rldb (v := .int _ _) rfl sc3 (r24.ext y38) rfl)) ?_
  refine efg 7 (by kernel_rfl) rfl rfl ?_
  refine xcall e35 (mCols_ok _ _ _ _ _ _ _ (ho.ext z31)) rfl rfl ?_
  rintro _ W39 ⟨rfl, x40⟩
  have s41 := x40.sz
  have z42 := z31.trans x40
  have q43 := q32.trans x40
  refine ⟨_, rfl, ?_⟩
  refine ⟨fun _ => q43, ?_⟩
  refine tkLe 10 rfl (by kernel_rfl) q43 rfl rfl (fun _ h => pg rfl h) ?_ ?_
  ·intro c10
   refine tk 11 rfl (by kernel_rfl) q43 (pv (fun _ y45 => rpk (v := .bool true) rfl rfl)) ?_
   refine tk 12 rfl (by kernel_rfl) q43 (pv (fun _ y46 => rmv (v := .bool true) rfl)) ?_
   refine tk 13 rfl (by kernel_rfl) q43 (pg rfl (fun _ y47 => rfa rfl fd25_2)) ?_
   refine tk 14 rfl (by kernel_rfl) q43 (pg rfl (fun _ y48 => rldb (v := .slice _ _ _) rfl sc22 (r24.ext y48) rfl)) ?_
   refine tk 16 rfl (by kernel_rfl) q43 (pg rfl (fun _ y49 => rfa rfl fd25_0)) ?_
   refine tk 17 rfl (by kernel_rfl) q43 (pg rfl (fun _ y50 => rldb (v := .int _ _) rfl sc3 (r24.ext y50) rfl)) ?_
   refine efg 15 (by kernel_rfl) rfl rfl ?_
   refine xcall e35 (mCols_ok _ _ _ _ _ _ _ (hx.ext z42)) rfl rfl ?_
   rintro _ W51 ⟨rfl, x52⟩
   have s53 := x52.sz
   have z54 := z42.trans x52
   have q55 := q43.trans x52
   refine ⟨_, rfl, ?_⟩
   refine ⟨fun _ => q55, ?_⟩
   refine tkLe 18 rfl (by kernel_rfl) q55 rfl rfl (fun _ h => pg rfl h) ?_ ?_
   ·intro c18
    refine tk 19 rfl (by kernel_rfl) q55 (pv (fun _ y57 => rpk (v := .bool true) rfl rfl)) ?_
    refine tk 20 rfl (by kernel_rfl) q55 (pv (fun _ y58 => ras (v := .bool true) rfl)) ?_
    refine dn (by kernel_rfl) ?_
    refine V.ret ?_
    refine ⟨[.bool true], ⟨rfl, trivial⟩, ?_⟩
    refine ⟨_, rfl, z54, ?_⟩
    first | exact ⟨fun _ => ⟨hsz, by omega, by omega⟩, fun _ => rfl⟩ | exact ⟨fun h => (by cases h), fun h => by have h1 := h.sz; have h2 := h.co; have h3 := h.cr; omega⟩
   ·intro c18
    refine tk 19 rfl (by kernel_rfl) q55 (pv (fun _ y59 => rpk (v := .bool false) rfl rfl)) ?_
    refine tk 20 rfl (by kernel_rfl) q55 (pv (fun _ y60 => ras (v := .bool false) rfl)) ?_
    refine dn (by kernel_rfl) ?_
    refine V.ret ?_
    refine ⟨[.bool false], ⟨rfl, trivial⟩, ?_⟩
    refine ⟨_, rfl, z54, ?_⟩
    first | exact ⟨fun _ => ⟨hsz, by omega, by omega⟩, fun _ => rfl⟩ | exact ⟨fun h => (by cases h), fun h => by have h1 := h.sz; have h2 := h.co; have h3 := h.cr; omega⟩
  ·intro c10
   refine tk 11 rfl (by kernel_rfl) q43 (pv (fun _ y61 => rpk (v := .bool false) rfl rfl)) ?_
   refine tk 12 rfl (by kernel_rfl) q43 (pv (fun _ y62 => rmv (v := .bool false) rfl)) ?_
   refine tk 13 rfl (by kernel_rfl) q43 (pgn (b := false) rfl rfl) ?_
   refine tk 14 rfl (by kernel_rfl) q43 (pgn (b := false) rfl rfl) ?_
   refine tk 15 rfl (by kernel_rfl) q43 (pgn (b := false) rfl rfl) ?_
   refine tk 16 rfl (by kernel_rfl) q43 (pgn (b := false) rfl rfl) ?_
   refine tk 17 rfl (by kernel_rfl) q43 (pgn (b := false) rfl rfl) ?_
   refine tk 18 rfl (by kernel_rfl) q43 (pgn (b := false) rfl rfl) ?_
   refine tk 19 rfl (by kernel_rfl) q43 (pv (fun _ y63 => rpk (v := .bool false) rfl rfl)) ?_
   refine tk 20 rfl (by kernel_rfl) q43 (pv (fun _ y64 => ras (v := .bool false) rfl)) ?_
   refine dn (by kernel_rfl) ?_
   refine V.ret ?_
   refine ⟨[.bool false], ⟨rfl, trivial⟩, ?_⟩
   refine ⟨_, rfl, z42, ?_⟩
   first | exact ⟨fun _ => ⟨hsz, by omega, by omega⟩, fun _ => rfl⟩ | exact ⟨fun h => (by cases h), fun h => by have h1 := h.sz; have h2 := h.co; have h3 := h.cr; omega⟩
 ·refine ⟨_, rfl, ?_⟩
  have s65 := xo.sz
  have z66 := z6.trans xo
  replace b3 := b3.ext xo
  refine vo ?_
  refine xal zc93 ?_
  intro W67 x68 b69 nn70
  have s71 := x68.sz
  have z72 := z66.trans x68
  replace b3 := b3.ext x68
  refine vo ?_
  refine sta (cs' := [_, _, _, _]) b69 rfl rfl sz93 rfl rfl rfl ?_
  intro W73 y74 b69
  have z75 := z72.below (y74.below (by omega))
  replace b3 := b3.wr y74 (by omega)
  have s76 := y74.size
  refine vnil ?_
  refine V.seq (V.regD mixed rfl ?_)
  intro W77 x78
  have s79 := x78.sz
  have z80 := z75.trans x78
  replace b3 := b3.ext x78
  replace b69 := b69.ext x78
  have q81 := Ext.refl W77
  have r82 := b3
  have r83 := b69
  refine tk 0 rfl (by kernel_rfl) q81 (pv (fun _ y84 => rldb4 rfl ag93 (r83.ext y84) rfl rfl rfl rfl )) ?_
  refine tk 1 rfl (by kernel_rfl) q81 (pv (fun _ y85 => rldb4 rfl ag93 (r83.ext y85) rfl rfl rfl rfl )) ?_
  refine ef 2 (by kernel_rfl) rfl ?_
  refine xcall e86 (cut_lp_ok _ _ _ _ _) rfl rfl ?_
  rintro _ W86 ⟨rfl, x87⟩
  have s88 := x87.sz
  have z89 := z80.trans x87
  have q90 := q81.trans x87
  refine ⟨_, rfl, ?_⟩
  refine ⟨fun _ => q90, ?_⟩
  refine tk 3 rfl (by kernel_rfl) q90 (pv (fun _ y91 => rseq4 (q := false) rfl rfl (by rw [Bool.eq_false_iff]; intro hh; simp only [Bool.and_eq_true, beq_iff_eq, and_true, ne_eq] at hh; omega))) ?_
  refine tk 4 rfl (by kernel_rfl) q90 (pv (fun _ y92 => rmv (v := .bool false) rfl)) ?_
  refine tk 5 rfl (by kernel_rfl) q90 (pgn (b := false) rfl rfl) ?_
  refine tk 6 rfl (by kernel_rfl) q90 (pgn (b := false) rfl rfl) ?_
  refine tk 7 rfl (by kernel_rfl) q90 (pgn (b := false) rfl rfl) ?_
  refine tk 8 rfl (by kernel_rfl) q90 (pgn (b := false) rfl rfl) ?_
  refine tk 9 rfl (by kernel_rfl) q90 (pgn (b := false) rfl rfl) ?_
  refine tk 10 rfl (by kernel_rfl) q90 (pgn (b := false) rfl rfl) ?_
  refine tk 11 rfl (by kernel_rfl) q90 (pv (fun _ y93 => rpk (v := .bool false) rfl rfl)) ?_
  refine tk 12 rfl (by kernel_rfl) q90 (pv (fun _ y94 => rmv (v := .bool false) rfl)) ?_
  refine tk 13 rfl (by kernel_rfl) q90 (pgn (b := false) rfl rfl) ?_
  refine tk 14 rfl (by kernel_rfl) q90 (pgn (b := false) rfl rfl) ?_
  refine tk 15 rfl (by kernel_rfl) q90 (pgn (b := false) rfl rfl) ?_
  refine tk 16 rfl (by kernel_rfl) q90 (pgn (b := false) rfl rfl) ?_
  refine tk 17 rfl (by kernel_rfl) q90 (pgn (b := false) rfl rfl) ?_
  refine tk 18 rfl (by kernel_rfl) q90 (pgn (b := false) rfl rfl) ?_
  refine tk 19 rfl (by kernel_rfl) q90 (pv (fun _ y95 => rpk (v := .bool false) rfl rfl)) ?_
  refine tk 20 rfl (by kernel_rfl) q90 (pv (fun _ y96 => ras (v := .bool false) rfl)) ?_
  refine dn (by kernel_rfl) ?_
  refine V.ret ?_
  refine ⟨[.bool false], ⟨rfl, trivial⟩, ?_⟩
  refine ⟨_, rfl, z89, ?_⟩
  first | exact ⟨fun _ => ⟨hsz, by omega, by omega⟩, fun _ => rfl⟩ | exact ⟨fun h => (by cases h), fun h => by have h1 := h.sz; have h2 := h.co; have h3 := h.cr; omega⟩
end Go.Proofs.YtknbjfefeeojlaaGreat
/- Package lp: Evaluate, Compare. -/
namespace Go.Proofs.YtknbjfefeeojlaaGreat
open Go.RowKit
attribute [local irreducible] RV VH V OpF Calls

set_option maxHeartbeats 400000 in
theorem eval_ok (L L3 LD : Nat) (obj : List (List Rat)) (xs : List Rat) (S S0 S3 : Nat → Prop) (a3 : Option Addr) (n3 c3 : Nat) (nv : Int) (a0 a1 a2 : Option Addr) (n0 c0 n c m d : Nat) (w : World) (ho : MA L S0 w a0 n0 c0 obj) (hz : GA L3 S3 w a3 n3 c3 xs) (hl1 : 1 ≤ L) (hl3 : 1 ≤ L3) (hro : ∀ r ∈ obj, r.length ≤ 1000) (hn0 : n0 ≤ 1000) (hn3 : n3 ≤ 1000) (hLD : (L + L3 + 1) * 1000 + 1 ≤ LD) (hL : LD + L + L3 < LY) (hu : Up S w) :
    Calls Tryz.prog 25 #[.agg #[.int .i64 nv, .slice a0 n0 c0, .slice a1 n c, .slice a2 m d], .slice a3 n3 c3] w (fun e w' => ∃ a k cc, e = .returned (.slice a k cc) ∧ Ext w w' ∧ GC S w' a k cc (mulv obj xs)) := by
 have z0 := Ext.refl w; have hLX : LX = 17592186044416 := rfl; have hLY : LY = 8796093022208 := rfl
 have hLV : LV = 1099511627776 := rfl
 refine enter (args := [.agg #[.int .i64 nv, .slice a0 n0 c0, .slice a1 n c, .slice a2 m d], .slice a3 n3 c3]) Tryz.func25 rfl rfl (Nat.le_of_ble_eq_true rfl) ?_
 refine V.seq (V.reg rfl ?_)
 refine vo ?_
 refine bxa rfl ?_
 intro W1 x2 b3 nn4
 have s5 := x2.sz
 have z6 := x2
 refine ass rfl ?_
 refine vnil ?_
 refine V.seq (V.reg rfl ?_)
 refine vv (rfa rfl fd25_1) ?_
 refine vv (rldb (v := .slice _ _ _) rfl sc22 b3 rfl) ?_
 refine mvs rfl ?_
 refine vo ?_
 refine xcall e22 (mMulVec_ok _ _ _ _ _ _ L L3 1000 LD obj xs S _ _ _ (ho.ext z6) (hz.ext z6) hro hn3 (by clear hLD hL; omega) hLD hL hl1 hl3 (by clear hLD hL; omega) (hu.mono (by clear hLD hL; omega))) rfl rfl ?_
 rintro _ W7 ⟨_, _, _, rfl, x8, hv⟩
 have s9 := x8.sz
 have z10 := z6.trans x8
 refine ⟨_, rfl, ?_⟩
 refine ass rfl ?_
 refine vnil ?_
 refine V.ret ?_
 refine ⟨[.slice _ _ _], ⟨rfl, trivial⟩, ?_⟩
 exact ⟨_, _, _, rfl, z10, hv⟩

theorem mulv_szD {L L3 LD : Nat} {obj : List (List Rat)} {xs : List Rat} (ho : szR L obj) (hx : szV L3 xs) (hl1 : 1 ≤ L) (hl3 : 1 ≤ L3) (hro : ∀ r ∈ obj, r.length ≤ 1000) (hn3 : xs.length ≤ 1000) (hLD : (L + L3 + 1) * 1000 + 1 ≤ LD) : szV LD (mulv obj xs) :=
  mulv_sz (R := 1000) ho hx hl1 hl3 hro hn3 hLD

set_option maxHeartbeats 1000000 in
theorem compare_ok (L L3 LD : Nat) (obj : List (List Rat)) (xs ys : List Rat) (S0 S3 S4 : Nat → Prop) (a3 a4 : Option Addr) (n3 c3 n4 c4 : Nat) (nv : Int) (a0 a1 a2 : Option Addr) (n0 c0 n c m d : Nat) (w : World) (ho : MA L S0 w a0 n0 c0 obj) (hz : GA L3 S3 w a3 n3 c3 xs) (hy : GA L3 S4 w a4 n4 c4 ys) (hl1 : 1 ≤ L) (hl3 : 1 ≤ L3) (hro : ∀ r ∈ obj, r.length ≤ 1000) (hn0 : n0 ≤ 1000) (hn3 : n3 ≤ 1000) (hn4 : n4 ≤ 1000) (hLD : (L + L3 + 1) * 1000 + 1 ≤ LD) (hL : LD + LD + L + L3 + L3 < LY) :
    Calls Tryz.prog 77 #[.agg #[.int .i64 nv, .slice a0 n0 c0, .slice a1 n c, .slice a2 m d], .slice a3 n3 c3, .slice a4 n4 c4] w (fun e w' => ∃ s t : Int, e = .returned (.int .i64 s) ∧ Ext w w' ∧ LexP (mulv obj xs) (mulv obj ys) n0 t ∧ (t ≠ 0 → s = t) ∧ (t = 0 → LexP ys xs (max n4 n3) s)) := by
 have z0 := Ext.refl w; have hLX : LX = 17592186044416 := rfl; have hLY : LY = 8796093022208 := rfl
 have hLV : LV = 1099511627776 := rfl
 have hos := ho.rowsz hl1; have l0 := ho.len
 refine enter (args := [.agg #[.int .i64 nv, .slice a0 n0 c0, .slice a1 n c, .slice a2 m d], .slice a3 n3 c3, .slice a4 n4 c4]) Tryz.func77 rfl rfl (Nat.le_of_ble_eq_true rfl) ?_
 refine V.seq (V.reg rfl ?_)
 refine vo ?_
 refine bxa rfl ?_
 intro W1 x2 b3 nn4
 have s5 := x2.sz
 have z6 := x2
 refine asi rfl ?_
 refine vnil ?_
 refine V.seq ?_
 refine V.seq (V.regD mixed rfl ?_)
 intro W7 x8
 have s9 := x8.sz
 have z10 := z6.trans x8
 replace b3 := b3.ext x8
 have q11 := Ext.refl W7
 have r12 := b3
 refine tk 0 rfl (by kernel_rfl) q11 (pv (fun _ y13 => rldb4 rfl ag25 (r12.ext y13) rfl rfl rfl rfl )) ?_
 refine tk 1 rfl (by kernel_rfl) q11 (pv (fun _ y14 => rmv (v := .slice _ _ _) rfl)) ?_
 refine tk 3 rfl (by kernel_rfl) q11 (pv (fun _ y15 => rldb4 rfl ag25 (r12.ext y15) rfl rfl rfl rfl )) ?_
 refine tk 4 rfl (by kernel_rfl) q11 (pv (fun _ y16 => rmv (v := .slice _ _ _) rfl)) ?_
 refine ef 2 (by kernel_rfl) rfl ?_
 refine xcall e25 (eval_ok L L3 LD obj xs TT _ _ _ _ _ nv _ _ _ _ _ _ _ _ _ _ (ho.ext z10) (hz.ext z10) hl1 hl3 hro hn0 (by clear hLD hL; omega) hLD (by omega) (TT.up _)) rfl rfl ?_
 rintro _ W17 ⟨_, k1, c1, rfl, x18, hv1⟩
 have s19 := x18.sz
 have z20 := z10.trans x18
 have q21 := q11.trans x18
 have hv1a := hv1.va (mulv_szD hos (hz.szv hl3) hl1 hl3 hro (by clear hLD hL; have := hz.len; omega) hLD)
 have hv1l := hv1.len; rw [len_mulv] at hv1l
 refine ⟨_, rfl, ?_⟩
 refine ⟨fun _ => q21, ?_⟩
 refine ef 5 (by kernel_rfl) rfl ?_
 refine xcall e25 (eval_ok L L3 LD obj ys TT _ _ _ _ _ nv _ _ _ _ _ _ _ _ _ _ (ho.ext z20) (hy.ext z20) hl1 hl3 hro hn0 (by clear hLD hL; omega) hLD (by omega) (TT.up _)) rfl rfl ?_
 rintro _ W22 ⟨_, k2, c2, rfl, x23, hv2⟩
 have s24 := x23.sz
 have z25 := z20.trans x23
 have q26 := q21.trans x23
 have hv2a := hv2.va (mulv_szD hos (hy.szv hl3) hl1 hl3 hro (by clear hLD hL; have := hy.len; omega) hLD)
 have hv2l := hv2.len; rw [len_mulv] at hv2l
 refine ⟨_, rfl, ?_⟩
 refine ⟨fun _ => q26, ?_⟩
 refine ef 6 (by kernel_rfl) rfl ?_
 refine xcall e97 (vCompare_ok _ _ _ _ _ _ LD LD _ _ _ _ _ (hv1a.ext x23) hv2a (by clear hLD; omega) (by omega) (by omega) (by clear hLD hL; omega) (by clear hLD hL; omega)) rfl rfl ?_
 rintro _ W27 ⟨t9, rfl, x28, hlt⟩
 have s29 := x28.sz
 have z30 := z25.trans x28
 have q31 := q26.trans x28
 replace hlt : LexP (mulv obj xs) (mulv obj ys) n0 t9 := by rw [← hv1l, ← hv2l, Nat.max_self, l0] at hlt; exact hlt
 refine ⟨_, rfl, ?_⟩
 refine ⟨fun _ => q31, ?_⟩
 refine tk 7 rfl (by kernel_rfl) q31 (pv (fun _ y32 => ras (v := .int _ _) rfl)) ?_
 refine dn (by kernel_rfl) ?_
 refine V.seq (V.reg rfl ?_)
 refine mvi rfl ?_
 refine vne rfl rfl ?_ ?_
 ·intro c21
  refine vnil ?_
  refine V.condT rfl ?_
  refine V.seq (V.reg rfl ?_)
  refine mvi rfl ?_
  refine asi rfl ?_
  refine vnil ?_
  refine V.ret ?_
  refine ⟨[.int _ _], ⟨rfl, trivial⟩, ?_⟩
  exact ⟨_, t9, rfl, z30, hlt, fun _ => rfl, fun h => absurd h (by omega)⟩
 ·intro c21
  refine vnil ?_
  refine V.condF rfl ?_
  refine V.skip ?_
  refine V.seq (V.reg rfl ?_)
  refine mvs rfl ?_
  refine mvs rfl ?_
  refine vo ?_
  refine xcall e97 (vCompare_ok _ _ _ _ _ _ L3 L3 _ _ _ _ _ (hy.ext z30) (hz.ext z30) (by clear hLD; omega) (by omega) (by omega) (by clear hLD hL; omega) (by clear hLD hL; omega)) rfl rfl ?_
  rintro _ W33 ⟨s9, rfl, x34, hls⟩
  have s35 := x34.sz
  have z36 := z30.trans x34
  refine ⟨_, rfl, ?_⟩
  refine asi rfl ?_
  refine vnil ?_
  refine V.ret ?_
  refine ⟨[.int _ _], ⟨rfl, trivial⟩, ?_⟩
  exact ⟨_, t9, rfl, z36, hlt, fun h => absurd h (by omega), fun _ => hls⟩
end Go.Proofs.YtknbjfefeeojlaaGreat
/- Package lp: Feasible. -/
namespace Go.Proofs.YtknbjfefeeojlaaGreat
open Go.RowKit
attribute [local irreducible] RV VH V OpF Calls
def nonneg (rs : List Rat) : Prop := ∀ i, ¬ vat rs i < 0
theorem fg_neg {rs : List Rat} {k : Nat} {q : Bool} (hl : rs.length = k) (h : q = true ↔ ∃ j, j < max 0 k ∧ vat rs j < vat [] j) : q = true ↔ ¬ nonneg rs := by
  refine h.trans ⟨fun ⟨j, _, h1⟩ h2 => h2 j h1, fun h1 => ?_⟩
  false_or_by_contra; rename_i h2
  refine h1 fun i hi => ?_
  rcases Nat.lt_or_ge i k with h3 | h3
  · exact h2 ⟨i, by omega, hi⟩
  · rw [vat_ge (by omega)] at hi; exact absurd hi (by decide)
theorem slackS_sz {L L3 LD : Nat} {rss : List (List Rat)} {bs xs : List Rat} (hr : szR L rss) (hb : szV L bs) (hx : szV L3 xs) (hl1 : 1 ≤ L) (hl3 : 1 ≤ L3) (hrr : ∀ r ∈ rss, r.length ≤ 1000) (hn3 : xs.length ≤ 1000) (hLD : (L + L3 + 1) * 1000 + 1 ≤ LD) (k : Nat) : szV (L + LD + 1) (slackS rss bs xs k) := by
  intro r h
  obtain ⟨i, _, rfl⟩ := List.mem_map.1 h
  have hi := row_le hrr i
  refine sz_sub (szV_at hb hl1 _) ((sz_dotk (hr.row i) hx hl1 hl3 _).mono (dot_room (by clear hLD; omega) hLD))
structure FeasP (nv : Int) (n0 n m : Nat) (obj rss : List (List Rat)) (bs xs : List Rat) : Prop where
  valid : ValidP nv n0 n m obj rss
  len : (xs.length : Int) ≤ nv
  x : nonneg xs
  s : nonneg (slackS rss bs xs n)

set_option maxHeartbeats 1000000 in
theorem feas_ok (L L3 LD : Nat) (obj rss : List (List Rat)) (bs xs : List Rat) (S0 S1 S2 S3 : Nat → Prop) (a3 : Option Addr) (n3 c3 : Nat) (nv : Int) (a0 a1 a2 : Option Addr) (n0 c0 n c m d : Nat) (w : World) (ho : MA L S0 w a0 n0 c0 obj) (hx : MA L S1 w a1 n c rss) (hy : GA L S2 w a2 m d bs) (hz : GA L3 S3 w a3 n3 c3 xs) (hl1 : 1 ≤ L) (hl3 : 1 ≤ L3) (hrr : ∀ r ∈ rss, r.length ≤ 1000) (hn : n ≤ 1000) (hn3 : n3 ≤ 1000) (hLD : (L + L3 + 1) * 1000 + 1 ≤ LD) (hL : 3 * LD + L + L3 + 3 < LY) :
    Calls Tryz.prog 75 #[.agg #[.int .i64 nv, .slice a0 n0 c0, .slice a1 n c, .slice a2 m d], .slice a3 n3 c3] w (fun e w' => ∃ q, e = .returned (.bool q) ∧ Ext w w' ∧ (q = true ↔ FeasP nv n0 n m obj rss bs xs)) := by
 have z0 := Ext.refl w; have hLX : LX = 17592186044416 := rfl; have hLY : LY = 8796093022208 := rfl
 have hLV : LV = 1099511627776 := rfl
 have l1 := hx.len; have l3 := hz.len; have hrs := hx.rowsz hl1; have hbs := hy.szv hl1; have hxs := hz.szv hl3
 have hxs2 : szV (L + LD + 1) xs := fun x hx => (hxs x hx).mono (by omega)
 refine enter (args := [.agg #[.int .i64 nv, .slice a0 n0 c0, .slice a1 n c, .slice a2 m d], .slice a3 n3 c3]) Tryz.func75 rfl rfl (Nat.le_of_ble_eq_true rfl) ?_
 refine V.seq (V.reg rfl ?_)
 refine vo ?_
 refine bxa rfl ?_
 intro W1 x2 b3 nn4
 have s5 := x2.sz
 have z6 := x2
 refine asb rfl ?_
 refine vnil ?_
 refine V.scope ?_
 refine V.seq (V.reg rfl ?_)
 refine vv (rldb4 rfl ag25 b3 rfl rfl rfl rfl ) ?_
 refine vo ?_
 refine xcall e17 (valid_ok L obj rss S0 S1 _ _ _ _ _ _ _ _ _ _ _ (ho.ext z6) (hx.ext z6)) rfl rfl ?_
 rintro _ Wv ⟨qv, rfl, xv, hqv⟩
 refine ⟨_, rfl, ?_⟩
 cases qv
 ·skip
  have s7 := xv.sz
  have z8 := z6.trans xv
  replace b3 := b3.ext xv
  refine mvb rfl ?_
  refine vgn (b := false) rfl rfl ?_
  refine vgn (b := false) rfl rfl ?_
  refine vgn (b := false) rfl rfl ?_
  refine vgn (b := false) rfl rfl ?_
  refine vgn (b := false) rfl rfl ?_
  refine vv (rpk (v := .bool false) rfl rfl) ?_
  refine asb rfl ?_
  refine vnil ?_
  refine V.seq ?_
  refine V.label ?_
  refine V.seq ?_
  refine V.seq (V.reg rfl ?_)
  refine mvs rfl ?_
  refine vv (rldb4 rfl ag25 b3 rfl rfl rfl rfl ) ?_
  refine mvs rfl ?_
  refine vo ?_
  refine xcall e20 (lSlack_ok nv _ _ _ _ _ _ n _ _ _ _ _ L L3 LD rss bs xs TT _ _ _ _ (hx.ext z8) (hy.ext z8) (hz.ext z8) hl1 hl3 hrr (by clear hLD hL; omega) (by clear hLD hL; omega) hLD (by omega) (TT.up _)) rfl rfl ?_
  rintro _ W9 ⟨_, k9, c9, rfl, x10, hsl⟩
  have s11 := x10.sz
  have z12 := z8.trans x10
  have hsla := hsl.va (slackS_sz hrs hbs hxs hl1 hl3 hrr (by clear hLD hL; omega) hLD n)
  have hsll := hsl.len; rw [slackS_len] at hsll
  refine ⟨_, rfl, ?_⟩
  refine vo ?_
  refine xbs (ps := [(0, .slice _ _ _), (1, .slice _ _ _)]) (cs := [.slice _ _ _, .slice _ _ _]) sl22 zr23 sz23 rfl rfl rfl rfl rfl rfl ?_
  intro W13 x14 b15 nn16
  have s17 := x14.sz
  have z18 := z12.trans x14
  refine vv (rlen sl22 rfl) ?_
  refine mvi rfl ?_
  refine vnil ?_
  refine V.block ?_
  have hm2 : MA (L + LD + 1) TT W13 (some ⟨W9.heap.size, 0, none⟩) 2 2 [xs, slackS rss bs xs n] := ⟨[[.slice _ _ _], [.slice _ _ _]], RS.lit (s := 1) (S := TT) (n := 2) _ b15 rfl (by simp) trivial rfl (by clear hLD hL; omega), ⟨_, _, _, rfl, (GA.mono (hz.ext z18) (by omega)).sub (fun _ _ _ => trivial)⟩, ⟨_, _, _, rfl, (hsla.ext x14)⟩, trivial⟩
  refine V.loopK (ι := Nat × Bool) [(23, .slice _ _ _), (24, .int _ _)] (fun ⟨k, q5⟩ => [(25, .int .i64 (k : Int)), (5, .bool q5)]) (fun ⟨k, q5⟩ W => Ext W13 W ∧ k ≤ 2 ∧ q5 = false ∧ ∀ j,  j < k → nonneg (rowat [xs, slackS rss bs xs n] j)) (fun ⟨k, q5⟩ => 2 - k) ((0, false)) ⟨rfl, rfl, trivial⟩ ⟨rfl, rfl, trivial⟩ ⟨Ext.refl _, Nat.zero_le _, rfl, fun j hj => absurd hj (Nat.not_lt_zero _)⟩ ?_
  intro i21 E22 W20 h23
  obtain ⟨k, q5⟩ := i21
  simp only at h23
  show V _ _ _ _ _ _ (ups (ups _ _) [(25, .int .i64 (k : Int)), (5, .bool q5)]) _
  obtain ⟨x24, hk, hq5, hN⟩ := h23
  have s25 := x24.sz
  have z26 := z18.trans x24
  have z27 := x24
  refine V.seq (V.reg rfl ?_)
  refine vlt rfl rfl ?_ ?_
  ·intro c28
   obtain ⟨ra0, rk0, rc0, hcr0, hg0⟩ := ((hm2.ext z27)).el (i := (k : Int)) (by omega) (by clear hLD hL; omega)
   simp only [Int.toNat_natCast] at hg0
   have hrl0 : (rowat [xs, slackS rss bs xs n] k).length ≤ 1000 := by
    have hk2 : k = 0 ∨ k = 1 := by clear hLD hL; omega
    rcases hk2 with rfl | rfl
    ·show xs.length ≤ 1000; clear hLD hL; omega
    ·show (slackS rss bs xs n).length ≤ 1000; rw [slackS_len]; exact hn
   have cr0 : C1 W20 _ _ := hcr0; have hgl0 := hg0.len
   refine vnil ?_
   refine V.seq ?_
   refine V.condT rfl ?_
   refine V.skip ?_
   refine V.seq ?_
   refine V.block ?_
   refine V.seq (V.reg rfl ?_)
   refine vv (rix sl22 sz23 rfl rfl (by clear hLD hL; omega) (by clear hLD hL; omega) rfl) ?_
   refine vv (rld1 (v := .slice _ _ _) rfl sc23 cr0) ?_
   refine ass rfl ?_
   refine vnil ?_
   refine V.seq (V.reg rfl ?_)
   refine mvs rfl ?_
   refine vo ?_
   refine xcall e145 (vFirst_ok _ _ _ _ _ _ 1 (L + LD + 1) [] _ TT _ _ (GA.nil _ _ _) hg0 (by clear hLD; omega) (by omega) (by clear hLD hL; omega) (by clear hLD hL; omega) (by clear hLD hL; omega)) rfl rfl ?_
   rintro _ Wf ⟨sf, qf, rfl, xf, hqf⟩
   refine ⟨_, rfl, ?_⟩
   replace hqf := fg_neg hgl0 hqf
   cases qf
   ·skip
    have s29 := xf.sz
    have z31 := z27.trans xf
    refine mvt rfl ?_
    refine vv (rext (v := .int _ _) rfl rfl) ?_
    refine vv (rext (v := .bool false) rfl rfl) ?_
    refine asi rfl ?_
    refine asb rfl ?_
    refine vnil ?_
    refine V.seq (V.reg rfl ?_)
    refine mvb rfl ?_
    refine vnil ?_
    refine V.condF rfl ?_
    refine V.skip ?_
    refine V.reg rfl ?_
    refine vv (rbin (bAdd (wi (by omega))) rfl rfl) ?_
    refine mvi rfl ?_
    refine vnil ?_
    refine ⟨rfl, (k + 1, q5), ⟨rfl, rfl, trivial⟩, ⟨rfl, rfl, trivial⟩, ⟨z31, by clear hLD hL; omega, hq5, fun j hj => by
     rcases Nat.lt_succ_iff_lt_or_eq.1 hj with h | rfl
     ·exact hN j h
     ·false_or_by_contra; rename_i h9; exact absurd (hqf.2 h9) (by decide)⟩, ?_⟩
    show 2 - (k + 1) < 2 - k
    clear hLD hL
    omega
   ·skip
    have s32 := xf.sz
    have z33 := z26.trans xf
    refine mvt rfl ?_
    refine vv (rext (v := .int _ _) rfl rfl) ?_
    refine vv (rext (v := .bool true) rfl rfl) ?_
    refine asi rfl ?_
    refine asb rfl ?_
    refine vnil ?_
    refine V.seq (V.reg rfl ?_)
    refine mvb rfl ?_
    refine vnil ?_
    refine V.condT rfl ?_
    refine V.seq (V.reg rfl ?_)
    refine asb rfl ?_
    refine vnil ?_
    refine V.exit ?_
    refine V.seq (V.reg rfl ?_)
    refine mvb rfl ?_
    refine asb rfl ?_
    refine vnil ?_
    refine V.ret ?_
    refine ⟨[.bool false], ⟨rfl, trivial⟩, ?_⟩
    refine ⟨_, rfl, z33, ⟨fun h => (by cases h), fun h => absurd ?_ (hqf.1 rfl)⟩⟩
    have hk2 : k = 0 ∨ k = 1 := by clear hLD hL; omega
    rcases hk2 with rfl | rfl
    ·exact h.x
    ·exact h.s
  ·intro c28
   refine vnil ?_
   refine V.seq ?_
   refine V.condF rfl ?_
   refine V.exit ?_
   refine V.seq (V.reg rfl ?_)
   refine mvb rfl ?_
   refine asb rfl ?_
   refine vnil ?_
   refine V.ret ?_
   refine ⟨[.bool _], ⟨rfl, trivial⟩, ?_⟩
   subst hq5
   refine ⟨_, rfl, z26, ⟨fun h => (by cases h), fun h => ?_⟩⟩
   first | exact absurd (hqv.2 h.valid) (by decide) | (have h2 := h.len; clear hLD hL; omega)
 ·skip
  have s35 := xv.sz
  have z36 := z6.trans xv
  replace b3 := b3.ext xv
  refine mvb rfl ?_
  refine vg rfl ?_
  refine mvs rfl ?_
  refine vg rfl ?_
  refine vv (rlen sl23 rfl) ?_
  refine vg rfl ?_
  refine vv (rfa rfl fd25_0) ?_
  refine vg rfl ?_
  refine vv (rldb (v := .int _ _) rfl sc3 b3 rfl) ?_
  refine vg rfl ?_
  refine vle rfl rfl ?_ ?_
  ·intro c17
   refine vv (rpk (v := .bool true) rfl rfl) ?_
   refine asb rfl ?_
   refine vnil ?_
   refine V.seq ?_
   refine V.label ?_
   refine V.seq ?_
   refine V.seq (V.reg rfl ?_)
   refine mvs rfl ?_
   refine vv (rldb4 rfl ag25 b3 rfl rfl rfl rfl ) ?_
   refine mvs rfl ?_
   refine vo ?_
   refine xcall e20 (lSlack_ok nv _ _ _ _ _ _ n _ _ _ _ _ L L3 LD rss bs xs TT _ _ _ _ (hx.ext z36) (hy.ext z36) (hz.ext z36) hl1 hl3 hrr (by clear hLD hL; omega) (by clear hLD hL; omega) hLD (by omega) (TT.up _)) rfl rfl ?_
   rintro _ W37 ⟨_, k9, c9, rfl, x38, hsl⟩
   have s39 := x38.sz
   have z40 := z36.trans x38
   have hsla := hsl.va (slackS_sz hrs hbs hxs hl1 hl3 hrr (by clear hLD hL; omega) hLD n)
   have hsll := hsl.len; rw [slackS_len] at hsll
   refine ⟨_, rfl, ?_⟩
   refine vo ?_
   refine xbs (ps := [(0, .slice _ _ _), (1, .slice _ _ _)]) (cs := [.slice _ _ _, .slice _ _ _]) sl22 zr23 sz23 rfl rfl rfl rfl rfl rfl ?_
   intro W41 x42 b43 nn44
   have s45 := x42.sz
   have z46 := z40.trans x42
   refine vv (rlen sl22 rfl) ?_
   refine mvi rfl ?_
   refine vnil ?_
   refine V.block ?_
   have hm2 : MA (L + LD + 1) TT W41 (some ⟨W37.heap.size, 0, none⟩) 2 2 [xs, slackS rss bs xs n] := ⟨[[.slice _ _ _], [.slice _ _ _]], RS.lit (s := 1) (S := TT) (n := 2) _ b43 rfl (by simp) trivial rfl (by clear hLD hL; omega), ⟨_, _, _, rfl, (GA.mono (hz.ext z46) (by omega)).sub (fun _ _ _ => trivial)⟩, ⟨_, _, _, rfl, (hsla.ext x42)⟩, trivial⟩
   refine V.loopK (ι := Nat × Bool) [(23, .slice _ _ _), (24, .int _ _)] (fun ⟨k, q5⟩ => [(25, .int .i64 (k : Int)), (5, .bool q5)]) (fun ⟨k, q5⟩ W => Ext W41 W ∧ k ≤ 2 ∧ q5 = true ∧ ∀ j,  j < k → nonneg (rowat [xs, slackS rss bs xs n] j)) (fun ⟨k, q5⟩ => 2 - k) ((0, true)) ⟨rfl, rfl, trivial⟩ ⟨rfl, rfl, trivial⟩ ⟨Ext.refl _, Nat.zero_le _, rfl, fun j hj => absurd hj (Nat.not_lt_zero _)⟩ ?_
   intro i49 E50 W48 h51
   obtain ⟨k, q5⟩ := i49
   simp only at h51
   show V _ _ _ _ _ _ (ups (ups _ _) [(25, .int .i64 (k : Int)), (5, .bool q5)]) _
   obtain ⟨x52, hk, hq5, hN⟩ := h51
   have s53 := x52.sz
   have z54 := z46.trans x52
   have z55 := x52
   refine V.seq (V.reg rfl ?_)
   refine vlt rfl rfl ?_ ?_
   ·intro c56
    obtain ⟨ra0, rk0, rc0, hcr0, hg0⟩ := ((hm2.ext z55)).el (i := (k : Int)) (by omega) (by clear hLD hL; omega)
    simp only [Int.toNat_natCast] at hg0
    have hrl0 : (rowat [xs, slackS rss bs xs n] k).length ≤ 1000 := by
     have hk2 : k = 0 ∨ k = 1 := by clear hLD hL; omega
     rcases hk2 with rfl | rfl
     ·show xs.length ≤ 1000; clear hLD hL; omega
     ·show (slackS rss bs xs n).length ≤ 1000; rw [slackS_len]; exact hn
    have cr0 : C1 W48 _ _ := hcr0; have hgl0 := hg0.len
    refine vnil ?_
    refine V.seq ?_
    refine V.condT rfl ?_
    refine V.skip ?_
    refine V.seq ?_
    refine V.block ?_
    refine V.seq (V.reg rfl ?_)
    refine vv (rix sl22 sz23 rfl rfl (by clear hLD hL; omega) (by clear hLD hL; omega) rfl) ?_
    refine vv (rld1 (v := .slice _ _ _) rfl sc23 cr0) ?_
    refine ass rfl ?_
    refine vnil ?_
    refine V.seq (V.reg rfl ?_)
    refine mvs rfl ?_
    refine vo ?_
    refine xcall e145 (vFirst_ok _ _ _ _ _ _ 1 (L + LD + 1) [] _ TT _ _ (GA.nil _ _ _) hg0 (by clear hLD; omega) (by omega) (by clear hLD hL; omega) (by clear hLD hL; omega) (by clear hLD hL; omega)) rfl rfl ?_
    rintro _ Wf ⟨sf, qf, rfl, xf, hqf⟩
    refine ⟨_, rfl, ?_⟩
    replace hqf := fg_neg hgl0 hqf
    cases qf
    ·skip
     have s57 := xf.sz
     have z59 := z55.trans xf
     refine mvt rfl ?_
     refine vv (rext (v := .int _ _) rfl rfl) ?_
     refine vv (rext (v := .bool false) rfl rfl) ?_
     refine asi rfl ?_
     refine asb rfl ?_
     refine vnil ?_
     refine V.seq (V.reg rfl ?_)
     refine mvb rfl ?_
     refine vnil ?_
     refine V.condF rfl ?_
     refine V.skip ?_
     refine V.reg rfl ?_
     refine vv (rbin (bAdd (wi (by omega))) rfl rfl) ?_
     refine mvi rfl ?_
     refine vnil ?_
     refine ⟨rfl, (k + 1, q5), ⟨rfl, rfl, trivial⟩, ⟨rfl, rfl, trivial⟩, ⟨z59, by clear hLD hL; omega, hq5, fun j hj => by
      rcases Nat.lt_succ_iff_lt_or_eq.1 hj with h | rfl
      ·exact hN j h
      ·false_or_by_contra; rename_i h9; exact absurd (hqf.2 h9) (by decide)⟩, ?_⟩
     show 2 - (k + 1) < 2 - k
     clear hLD hL
     omega
    ·skip
     have s60 := xf.sz
     have z61 := z54.trans xf
     refine mvt rfl ?_
     refine vv (rext (v := .int _ _) rfl rfl) ?_
     refine vv (rext (v := .bool true) rfl rfl) ?_
     refine asi rfl ?_
     refine asb rfl ?_
     refine vnil ?_
     refine V.seq (V.reg rfl ?_)
     refine mvb rfl ?_
     refine vnil ?_
     refine V.condT rfl ?_
     refine V.seq (V.reg rfl ?_)
     refine asb rfl ?_
     refine vnil ?_
     refine V.exit ?_
     refine V.seq (V.reg rfl ?_)
     refine mvb rfl ?_
     refine asb rfl ?_
     refine vnil ?_
     refine V.ret ?_
     refine ⟨[.bool false], ⟨rfl, trivial⟩, ?_⟩
     refine ⟨_, rfl, z61, ⟨fun h => (by cases h), fun h => absurd ?_ (hqf.1 rfl)⟩⟩
     have hk2 : k = 0 ∨ k = 1 := by clear hLD hL; omega
     rcases hk2 with rfl | rfl
     ·exact h.x
     ·exact h.s
   ·intro c56
    refine vnil ?_
    refine V.seq ?_
    refine V.condF rfl ?_
    refine V.exit ?_
    refine V.seq (V.reg rfl ?_)
    refine mvb rfl ?_
    refine asb rfl ?_
    refine vnil ?_
    refine V.ret ?_
    refine ⟨[.bool _], ⟨rfl, trivial⟩, ?_⟩
    have ek : k = 2 := by clear hLD hL; omega
    subst ek
    subst hq5
    exact ⟨_, rfl, z54, ⟨fun _ => ⟨hqv.1 rfl, by clear hLD hL; omega, hN 0 (by omega), hN 1 (by omega)⟩, fun _ => rfl⟩⟩
  ·intro c17
   refine vv (rpk (v := .bool false) rfl rfl) ?_
   refine asb rfl ?_
   refine vnil ?_
   refine V.seq ?_
   refine V.label ?_
   refine V.seq ?_
   refine V.seq (V.reg rfl ?_)
   refine mvs rfl ?_
   refine vv (rldb4 rfl ag25 b3 rfl rfl rfl rfl ) ?_
   refine mvs rfl ?_
   refine vo ?_
   refine xcall e20 (lSlack_ok nv _ _ _ _ _ _ n _ _ _ _ _ L L3 LD rss bs xs TT _ _ _ _ (hx.ext z36) (hy.ext z36) (hz.ext z36) hl1 hl3 hrr (by clear hLD hL; omega) (by clear hLD hL; omega) hLD (by omega) (TT.up _)) rfl rfl ?_
   rintro _ W63 ⟨_, k9, c9, rfl, x64, hsl⟩
   have s65 := x64.sz
   have z66 := z36.trans x64
   have hsla := hsl.va (slackS_sz hrs hbs hxs hl1 hl3 hrr (by clear hLD hL; omega) hLD n)
   have hsll := hsl.len; rw [slackS_len] at hsll
   refine ⟨_, rfl, ?_⟩
   refine vo ?_
   refine xbs (ps := [(0, .slice _ _ _), (1, .slice _ _ _)]) (cs := [.slice _ _ _, .slice _ _ _]) sl22 zr23 sz23 rfl rfl rfl rfl rfl rfl ?_
   intro W67 x68 b69 nn70
   have s71 := x68.sz
   have z72 := z66.trans x68
   refine vv (rlen sl22 rfl) ?_
   refine mvi rfl ?_
   refine vnil ?_
   refine V.block ?_
   have hm2 : MA (L + LD + 1) TT W67 (some ⟨W63.heap.size, 0, none⟩) 2 2 [xs, slackS rss bs xs n] := ⟨[[.slice _ _ _], [.slice _ _ _]], RS.lit (s := 1) (S := TT) (n := 2) _ b69 rfl (by simp) trivial rfl (by clear hLD hL; omega), ⟨_, _, _, rfl, (GA.mono (hz.ext z72) (by omega)).sub (fun _ _ _ => trivial)⟩, ⟨_, _, _, rfl, (hsla.ext x68)⟩, trivial⟩
   refine V.loopK (ι := Nat × Bool) [(23, .slice _ _ _), (24, .int _ _)] (fun ⟨k, q5⟩ => [(25, .int .i64 (k : Int)), (5, .bool q5)]) (fun ⟨k, q5⟩ W => Ext W67 W ∧ k ≤ 2 ∧ q5 = false ∧ ∀ j,  j < k → nonneg (rowat [xs, slackS rss bs xs n] j)) (fun ⟨k, q5⟩ => 2 - k) ((0, false)) ⟨rfl, rfl, trivial⟩ ⟨rfl, rfl, trivial⟩ ⟨Ext.refl _, Nat.zero_le _, rfl, fun j hj => absurd hj (Nat.not_lt_zero _)⟩ ?_
   intro i75 E76 W74 h77
   obtain ⟨k, q5⟩ := i75
   simp only at h77
   show V _ _ _ _ _ _ (ups (ups _ _) [(25, .int .i64 (k : Int)), (5, .bool q5)]) _
   obtain ⟨x78, hk, hq5, hN⟩ := h77
   have s79 := x78.sz
   have z80 := z72.trans x78
   have z81 := x78
   refine V.seq (V.reg rfl ?_)
   refine vlt rfl rfl ?_ ?_
   ·intro c82
    obtain ⟨ra0, rk0, rc0, hcr0, hg0⟩ := ((hm2.ext z81)).el (i := (k : Int)) (by omega) (by clear hLD hL; omega)
    simp only [Int.toNat_natCast] at hg0
    have hrl0 : (rowat [xs, slackS rss bs xs n] k).length ≤ 1000 := by
     have hk2 : k = 0 ∨ k = 1 := by clear hLD hL; omega
     rcases hk2 with rfl | rfl
     ·show xs.length ≤ 1000; clear hLD hL; omega
     ·show (slackS rss bs xs n).length ≤ 1000; rw [slackS_len]; exact hn
    have cr0 : C1 W74 _ _ := hcr0; have hgl0 := hg0.len
    refine vnil ?_
    refine V.seq ?_
    refine V.condT rfl ?_
    refine V.skip ?_
    refine V.seq ?_
    refine V.block ?_
    refine V.seq (V.reg rfl ?_)
    refine vv (rix sl22 sz23 rfl rfl (by clear hLD hL; omega) (by clear hLD hL; omega) rfl) ?_
    refine vv (rld1 (v := .slice _ _ _) rfl sc23 cr0) ?_
    refine ass rfl ?_
    refine vnil ?_
    refine V.seq (V.reg rfl ?_)
    refine mvs rfl ?_
    refine vo ?_
    refine xcall e145 (vFirst_ok _ _ _ _ _ _ 1 (L + LD + 1) [] _ TT _ _ (GA.nil _ _ _) hg0 (by clear hLD; omega) (by omega) (by clear hLD hL; omega) (by clear hLD hL; omega) (by clear hLD hL; omega)) rfl rfl ?_
    rintro _ Wf ⟨sf, qf, rfl, xf, hqf⟩
    refine ⟨_, rfl, ?_⟩
    replace hqf := fg_neg hgl0 hqf
    cases qf
    ·skip
     have s83 := xf.sz
     have z85 := z81.trans xf
     refine mvt rfl ?_
     refine vv (rext (v := .int _ _) rfl rfl) ?_
     refine vv (rext (v := .bool false) rfl rfl) ?_
     refine asi rfl ?_
     refine asb rfl ?_
     refine vnil ?_
     refine V.seq (V.reg rfl ?_)
     refine mvb rfl ?_
     refine vnil ?_
     refine V.condF rfl ?_
     refine V.skip ?_
     refine V.reg rfl ?_
     refine vv (rbin (bAdd (wi (by omega))) rfl rfl) ?_
     refine mvi rfl ?_
     refine vnil ?_
     refine ⟨rfl, (k + 1, q5), ⟨rfl, rfl, trivial⟩, ⟨rfl, rfl, trivial⟩, ⟨z85, by clear hLD hL; omega, hq5, fun j hj => by
      rcases Nat.lt_succ_iff_lt_or_eq.1 hj with h | rfl
      ·exact hN j h
      ·false_or_by_contra; rename_i h9; exact absurd (hqf.2 h9) (by decide)⟩, ?_⟩
     show 2 - (k + 1) < 2 - k
     clear hLD hL
     omega
    ·skip
     have s86 := xf.sz
     have z87 := z80.trans xf
     refine mvt rfl ?_
     refine vv (rext (v := .int _ _) rfl rfl) ?_
     refine vv (rext (v := .bool true) rfl rfl) ?_
     refine asi rfl ?_
     refine asb rfl ?_
     refine vnil ?_
     refine V.seq (V.reg rfl ?_)
     refine mvb rfl ?_
     refine vnil ?_
     refine V.condT rfl ?_
     refine V.seq (V.reg rfl ?_)
     refine asb rfl ?_
     refine vnil ?_
     refine V.exit ?_
     refine V.seq (V.reg rfl ?_)
     refine mvb rfl ?_
     refine asb rfl ?_
     refine vnil ?_
     refine V.ret ?_
     refine ⟨[.bool false], ⟨rfl, trivial⟩, ?_⟩
     refine ⟨_, rfl, z87, ⟨fun h => (by cases h), fun h => absurd ?_ (hqf.1 rfl)⟩⟩
     have hk2 : k = 0 ∨ k = 1 := by clear hLD hL; omega
     rcases hk2 with rfl | rfl
     ·exact h.x
     ·exact h.s
   ·intro c82
    refine vnil ?_
    refine V.seq ?_
    refine V.condF rfl ?_
    refine V.exit ?_
    refine V.seq (V.reg rfl ?_)
    refine mvb rfl ?_
    refine asb rfl ?_
    refine vnil ?_
    refine V.ret ?_
    refine ⟨[.bool _], ⟨rfl, trivial⟩, ?_⟩
    subst hq5
    refine ⟨_, rfl, z80, ⟨fun h => (by cases h), fun h => ?_⟩⟩
    first | exact absurd (hqv.2 h.valid) (by decide) | (have h2 := h.len; clear hLD hL; omega)
end Go.Proofs.YtknbjfefeeojlaaGreat
/- Reference: May; law 06: bare. -/
namespace Go.Proofs.YtknbjfefeeojlaaGreat
open Go.RowKit
attribute [local irreducible] RV VH V OpF Calls
structure MayP (nv : Int) (n0 n m : Nat) (co cr : Nat) : Prop where
  sz : 0 ≤ nv ∧ nv ≤ 64 ∧ 1 ≤ n0 ∧ n0 ≤ 4 ∧ n ≤ 128 ∧ m = n
  co : (co : Int) ≤ nv
  cr : (cr : Int) ≤ nv

set_option maxHeartbeats 400000 in
theorem short_ok (a1 : Option Addr) (n c : Nat) (k : Int) (ρs : List (List RawQ)) (S1 : Nat → Prop) (w : World) (hm : MX S1 w a1 n c ρs) :
    Calls Tryz.prog 149 #[.slice a1 n c, .int .i64 k] w (fun e w' => ∃ q, e = .returned (.bool q) ∧ Ext w w' ∧ (q = true ↔ (colsG ρs : Int) ≤ k)) := by
 have z0 := Ext.refl w; have hLX : LX = 17592186044416 := rfl; have hLY : LY = 8796093022208 := rfl
 refine enter (args := [.slice a1 n c, .int .i64 k]) Tryz.func149 rfl rfl (Nat.le_of_ble_eq_true rfl) ?_
 refine V.seq (V.reg rfl ?_)
 refine asb rfl ?_
 refine vnil ?_
 refine V.seq (V.reg rfl ?_)
 refine mvs rfl ?_
 refine vo ?_
 refine xcall e36 (rCols_ok _ _ _ _ _ _ hm) rfl rfl ?_
 rintro _ _ ⟨rfl, rfl⟩
 refine ⟨_, rfl, ?_⟩
 refine mvi rfl ?_
 refine vle rfl rfl ?_ ?_
 ·intro c13
  refine asb rfl ?_
  refine vnil ?_
  refine V.ret ?_
  refine ⟨[.bool true], ⟨rfl, trivial⟩, ?_⟩
  refine ⟨_, rfl, (Ext.refl w), ?_⟩
  simp only [true_iff, reduceCtorEq, false_iff]; omega
 ·intro c13
  refine asb rfl ?_
  refine vnil ?_
  refine V.ret ?_
  refine ⟨[.bool false], ⟨rfl, trivial⟩, ?_⟩
  refine ⟨_, rfl, (Ext.refl w), ?_⟩
  simp only [true_iff, reduceCtorEq, false_iff]; omega
set_option maxHeartbeats 2000000 in
theorem may_ok (ρo ρs : List (List RawQ)) (S0 S1 : Nat → Prop) (nv : Int) (a0 a1 a2 : Option Addr) (n0 c0 n c m d : Nat) (w : World) (ho : MX S0 w a0 n0 c0 ρo) (hm : MX S1 w a1 n c ρs) :
    Calls Tryz.prog 79 #[.agg #[.int .i64 nv, .slice a0 n0 c0, .slice a1 n c, .slice a2 m d]] w (fun e w' => ∃ q, e = .returned (.bool q) ∧ Ext w w' ∧ (q = true ↔ MayP nv n0 n m (colsG ρo) (colsG ρs))) := by
 have z0 := Ext.refl w; have hLX : LX = 17592186044416 := rfl; have hLY : LY = 8796093022208 := rfl
 refine enter (args := [.agg #[.int .i64 nv, .slice a0 n0 c0, .slice a1 n c, .slice a2 m d]]) Tryz.func79 rfl rfl (Nat.le_of_ble_eq_true rfl) ?_
 refine V.seq (V.reg rfl ?_)
 refine vo ?_
 refine bxa rfl ?_
 intro W1 x2 b3 nn4
 have s5 := x2.sz
 have z6 := x2
 refine asb rfl ?_
 refine vnil ?_
 refine V.seq ?_
 refine V.seq (V.reg rfl ?_)
 refine vv (rfa rfl fd25_0) ?_
 refine vv (rldb (v := .int _ _) rfl sc3 b3 rfl) ?_
 refine vlt rfl rfl ?_ ?_
 ·intro c7
  refine mvb rfl ?_
  refine vgn (b := true) rfl rfl ?_
  refine vgn (b := true) rfl rfl ?_
  refine vgn (b := true) rfl rfl ?_
  refine vv (rpk (v := .bool true) rfl rfl) ?_
  refine mvb rfl ?_
  refine vgn (b := true) rfl rfl ?_
  refine vgn (b := true) rfl rfl ?_
  refine vgn (b := true) rfl rfl ?_
  refine vgn (b := true) rfl rfl ?_
  refine vv (rpk (v := .bool true) rfl rfl) ?_
  refine mvb rfl ?_
  refine vgn (b := true) rfl rfl ?_
  refine vgn (b := true) rfl rfl ?_
  refine vgn (b := true) rfl rfl ?_
  refine vgn (b := true) rfl rfl ?_
  refine vv (rpk (v := .bool true) rfl rfl) ?_
  refine mvb rfl ?_
  refine vgn (b := true) rfl rfl ?_
  refine vgn (b := true) rfl rfl ?_
  refine vgn (b := true) rfl rfl ?_
  refine vgn (b := true) rfl rfl ?_
  refine vv (rpk (v := .bool true) rfl rfl) ?_
  refine mvb rfl ?_
  refine vgn (b := true) rfl rfl ?_
  refine vgn (b := true) rfl rfl ?_
  refine vgn (b := true) rfl rfl ?_
  refine vgn (b := true) rfl rfl ?_
  refine vgn (b := true) rfl rfl ?_
  refine vgn (b := true) rfl rfl ?_
  refine vgn (b := true) rfl rfl ?_
  refine vv (rpk (v := .bool true) rfl rfl) ?_
  refine vnil ?_
  refine V.condT rfl ?_
  refine V.seq (V.reg rfl ?_)
  refine asb rfl ?_
  refine vnil ?_
  refine V.ret ?_
  refine ⟨[.bool false], ⟨rfl, trivial⟩, ?_⟩
  refine ⟨_, rfl, z6, fun h => (by cases h), fun h => ?_⟩
  have h1 := h.sz; have h2 := h.co; have h3 := h.cr
  first | omega | exact absurd (hs2.2 h3) (by decide) | exact absurd (hs1.2 h2) (by decide)
 ·intro c7
  refine mvb rfl ?_
  refine vg rfl ?_
  refine vv (rfa rfl fd25_0) ?_
  refine vg rfl ?_
  refine vv (rldb (v := .int _ _) rfl sc3 b3 rfl) ?_
  refine vg rfl ?_
  refine vgt rfl rfl ?_ ?_
  ·intro c8
   refine vv (rpk (v := .bool true) rfl rfl) ?_
   refine mvb rfl ?_
   refine vgn (b := true) rfl rfl ?_
   refine vgn (b := true) rfl rfl ?_
   refine vgn (b := true) rfl rfl ?_
   refine vgn (b := true) rfl rfl ?_
   refine vv (rpk (v := .bool true) rfl rfl) ?_
   refine mvb rfl ?_
   refine vgn (b := true) rfl rfl ?_
   refine vgn (b := true) rfl rfl ?_
   refine vgn (b := true) rfl rfl ?_
   refine vgn (b := true) rfl rfl ?_
   refine vv (rpk (v := .bool true) rfl rfl) ?_
   refine mvb rfl ?_
   refine vgn (b := true) rfl rfl ?_
   refine vgn (b := true) rfl rfl ?_
   refine vgn (b := true) rfl rfl ?_
   refine vgn (b := true) rfl rfl ?_
   refine vv (rpk (v := .bool true) rfl rfl) ?_
   refine mvb rfl ?_
   refine vgn (b := true) rfl rfl ?_
   refine vgn (b := true) rfl rfl ?_
   refine vgn (b := true) rfl rfl ?_
   refine vgn (b := true) rfl rfl ?_
   refine vgn (b := true) rfl rfl ?_
   refine vgn (b := true) rfl rfl ?_
   refine vgn (b := true) rfl rfl ?_
   refine vv (rpk (v := .bool true) rfl rfl) ?_
   refine vnil ?_
   refine V.condT rfl ?_
   refine V.seq (V.reg rfl ?_)
   refine asb rfl ?_
   refine vnil ?_
   refine V.ret ?_
   refine ⟨[.bool false], ⟨rfl, trivial⟩, ?_⟩
   refine ⟨_, rfl, z6, fun h => (by cases h), fun h => ?_⟩
   have h1 := h.sz; have h2 := h.co; have h3 := h.cr
   first | omega | exact absurd (hs2.2 h3) (by decide) | exact absurd (hs1.2 h2) (by decide)
  ·intro c8
   refine vv (rpk (v := .bool false) rfl rfl) ?_
   refine mvb rfl ?_
   refine vg rfl ?_
   refine vv (rfa rfl fd25_1) ?_
   refine vg rfl ?_
   refine vv (rldb (v := .slice _ _ _) rfl sc22 b3 rfl) ?_
   refine vg rfl ?_
   refine vv (rlen sl22 rfl) ?_
   refine vg rfl ?_
   refine vlt rfl rfl ?_ ?_
   ·intro c9
    refine vv (rpk (v := .bool true) rfl rfl) ?_
    refine mvb rfl ?_
    refine vgn (b := true) rfl rfl ?_
    refine vgn (b := true) rfl rfl ?_
    refine vgn (b := true) rfl rfl ?_
    refine vgn (b := true) rfl rfl ?_
    refine vv (rpk (v := .bool true) rfl rfl) ?_
    refine mvb rfl ?_
    refine vgn (b := true) rfl rfl ?_
    refine vgn (b := true) rfl rfl ?_
    refine vgn (b := true) rfl rfl ?_
    refine vgn (b := true) rfl rfl ?_
    refine vv (rpk (v := .bool true) rfl rfl) ?_
    refine mvb rfl ?_
    refine vgn (b := true) rfl rfl ?_
    refine vgn (b := true) rfl rfl ?_
    refine vgn (b := true) rfl rfl ?_
    refine vgn (b := true) rfl rfl ?_
    refine vgn (b := true) rfl rfl ?_
    refine vgn (b := true) rfl rfl ?_
    refine vgn (b := true) rfl rfl ?_
    refine vv (rpk (v := .bool true) rfl rfl) ?_
    refine vnil ?_
    refine V.condT rfl ?_
    refine V.seq (V.reg rfl ?_)
    refine asb rfl ?_
    refine vnil ?_
    refine V.ret ?_
    refine ⟨[.bool false], ⟨rfl, trivial⟩, ?_⟩
    refine ⟨_, rfl, z6, fun h => (by cases h), fun h => ?_⟩
    have h1 := h.sz; have h2 := h.co; have h3 := h.cr
    first | omega | exact absurd (hs2.2 h3) (by decide) | exact absurd (hs1.2 h2) (by decide)
   ·intro c9
    refine vv (rpk (v := .bool false) rfl rfl) ?_
    refine mvb rfl ?_
    refine vg rfl ?_
    refine vv (rfa rfl fd25_1) ?_
    refine vg rfl ?_
    refine vv (rldb (v := .slice _ _ _) rfl sc22 b3 rfl) ?_
    refine vg rfl ?_
    refine vv (rlen sl22 rfl) ?_
    refine vg rfl ?_
    refine vgt rfl rfl ?_ ?_
    ·intro c10
     refine vv (rpk (v := .bool true) rfl rfl) ?_
     refine mvb rfl ?_
     refine vgn (b := true) rfl rfl ?_
     refine vgn (b := true) rfl rfl ?_
     refine vgn (b := true) rfl rfl ?_
     refine vgn (b := true) rfl rfl ?_
     refine vv (rpk (v := .bool true) rfl rfl) ?_
     refine mvb rfl ?_
     refine vgn (b := true) rfl rfl ?_
     refine vgn (b := true) rfl rfl ?_
     refine vgn (b := true) rfl rfl ?_
     refine vgn (b := true) rfl rfl ?_
     refine vgn (b := true) rfl rfl ?_
     refine vgn (b := true) rfl rfl ?_
     refine vgn (b := true) rfl rfl ?_
     refine vv (rpk (v := .bool true) rfl rfl) ?_
     refine vnil ?_
     refine V.condT rfl ?_
     refine V.seq (V.reg rfl ?_)
     refine asb rfl ?_
     refine vnil ?_
     refine V.ret ?_
     refine ⟨[.bool false], ⟨rfl, trivial⟩, ?_⟩
     refine ⟨_, rfl, z6, fun h => (by cases h), fun h => ?_⟩
     have h1 := h.sz; have h2 := h.co; have h3 := h.cr
     first | omega | exact absurd (hs2.2 h3) (by decide) | exact absurd (hs1.2 h2) (by decide)
    ·intro c10
     refine vv (rpk (v := .bool false) rfl rfl) ?_
     refine mvb rfl ?_
     refine vg rfl ?_
     refine vv (rfa rfl fd25_2) ?_
     refine vg rfl ?_
     refine vv (rldb (v := .slice _ _ _) rfl sc22 b3 rfl) ?_
     refine vg rfl ?_
     refine vv (rlen sl22 rfl) ?_
     refine vg rfl ?_
     refine vgt rfl rfl ?_ ?_
     ·intro c11
      refine vv (rpk (v := .bool true) rfl rfl) ?_
      refine mvb rfl ?_
      refine vgn (b := true) rfl rfl ?_
      refine vgn (b := true) rfl rfl ?_
      refine vgn (b := true) rfl rfl ?_
      refine vgn (b := true) rfl rfl ?_
      refine vgn (b := true) rfl rfl ?_
      refine vgn (b := true) rfl rfl ?_
      refine vgn (b := true) rfl rfl ?_
      refine vv (rpk (v := .bool true) rfl rfl) ?_
      refine vnil ?_
      refine V.condT rfl ?_
      refine V.seq (V.reg rfl ?_)
      refine asb rfl ?_
      refine vnil ?_
      refine V.ret ?_
      refine ⟨[.bool false], ⟨rfl, trivial⟩, ?_⟩
      refine ⟨_, rfl, z6, fun h => (by cases h), fun h => ?_⟩
      have h1 := h.sz; have h2 := h.co; have h3 := h.cr
      first | omega | exact absurd (hs2.2 h3) (by decide) | exact absurd (hs1.2 h2) (by decide)
     ·intro c11
      refine vv (rpk (v := .bool false) rfl rfl) ?_
      refine mvb rfl ?_
      refine vg rfl ?_
      refine vv (rfa rfl fd25_3) ?_
      refine vg rfl ?_
      refine vv (rldb (v := .slice _ _ _) rfl sc23 b3 rfl) ?_
      refine vg rfl ?_
      refine vv (rlen sl23 rfl) ?_
      refine vg rfl ?_
      refine vv (rfa rfl fd25_2) ?_
      refine vg rfl ?_
      refine vv (rldb (v := .slice _ _ _) rfl sc22 b3 rfl) ?_
      refine vg rfl ?_
      refine vv (rlen sl22 rfl) ?_
      refine vg rfl ?_
      refine vne rfl rfl ?_ ?_
      ·intro c12
       refine vv (rpk (v := .bool true) rfl rfl) ?_
       refine vnil ?_
       refine V.condT rfl ?_
       refine V.seq (V.reg rfl ?_)
       refine asb rfl ?_
       refine vnil ?_
       refine V.ret ?_
       refine ⟨[.bool false], ⟨rfl, trivial⟩, ?_⟩
       refine ⟨_, rfl, z6, fun h => (by cases h), fun h => ?_⟩
       have h1 := h.sz; have h2 := h.co; have h3 := h.cr
       first | omega | exact absurd (hs2.2 h3) (by decide) | exact absurd (hs1.2 h2) (by decide)
      ·intro c12
       refine vv (rpk (v := .bool false) rfl rfl) ?_
       refine vnil ?_
       refine V.condF rfl ?_
       refine V.skip ?_
       refine V.seq (V.reg rfl ?_)
       refine vv (rfa rfl fd25_1) ?_
       refine vv (rldb (v := .slice _ _ _) rfl sc22 b3 rfl) ?_
       refine vv (rfa rfl fd25_0) ?_
       refine vv (rldb (v := .int _ _) rfl sc3 b3 rfl) ?_
       refine vo ?_
       refine xcall e149 (short_ok _ _ _ _ _ _ _ (ho.ext z6)) rfl rfl ?_
       rintro _ Ws1 ⟨qs1, rfl, xs1, hs1⟩
       refine ⟨_, rfl, ?_⟩
       cases qs1
       ·skip
        have s13 := xs1.sz
        have z14 := z6.trans xs1
        refine mvb rfl ?_
        refine vgn (b := false) rfl rfl ?_
        refine vgn (b := false) rfl rfl ?_
        refine vgn (b := false) rfl rfl ?_
        refine vgn (b := false) rfl rfl ?_
        refine vgn (b := false) rfl rfl ?_
        refine vv (rpk (v := .bool false) rfl rfl) ?_
        refine asb rfl ?_
        refine vnil ?_
        refine V.ret ?_
        refine ⟨[.bool false], ⟨rfl, trivial⟩, ?_⟩
        refine ⟨_, rfl, z14, fun h => (by cases h), fun h => ?_⟩
        have h1 := h.sz; have h2 := h.co; have h3 := h.cr
        first | omega | exact absurd (hs2.2 h3) (by decide) | exact absurd (hs1.2 h2) (by decide)
       ·skip
        have s15 := xs1.sz
        have z16 := z6.trans xs1
        replace b3 := b3.ext xs1
        refine mvb rfl ?_
        refine vg rfl ?_
        refine vv (rfa rfl fd25_2) ?_
        refine vg rfl ?_
        refine vv (rldb (v := .slice _ _ _) rfl sc22 b3 rfl) ?_
        refine vg rfl ?_
        refine vv (rfa rfl fd25_0) ?_
        refine vg rfl ?_
        refine vv (rldb (v := .int _ _) rfl sc3 b3 rfl) ?_
        refine vg rfl ?_
        refine vo ?_
        refine xcall e149 (short_ok _ _ _ _ _ _ _ (hm.ext z16)) rfl rfl ?_
        rintro _ Ws2 ⟨qs2, rfl, xs2, hs2⟩
        refine ⟨_, rfl, ?_⟩
        cases qs2
        ·skip
         have s17 := xs2.sz
         have z18 := z16.trans xs2
         refine vv (rpk (v := .bool false) rfl rfl) ?_
         refine asb rfl ?_
         refine vnil ?_
         refine V.ret ?_
         refine ⟨[.bool false], ⟨rfl, trivial⟩, ?_⟩
         refine ⟨_, rfl, z18, fun h => (by cases h), fun h => ?_⟩
         have h1 := h.sz; have h2 := h.co; have h3 := h.cr
         first | omega | exact absurd (hs2.2 h3) (by decide) | exact absurd (hs1.2 h2) (by decide)
        ·skip
         have s19 := xs2.sz
         have z20 := z16.trans xs2
         refine vv (rpk (v := .bool true) rfl rfl) ?_
         refine asb rfl ?_
         refine vnil ?_
         refine V.ret ?_
         refine ⟨[.bool true], ⟨rfl, trivial⟩, ?_⟩
         exact ⟨_, rfl, z20, fun _ => ⟨by omega, hs1.1 rfl, hs2.1 rfl⟩, fun _ => rfl⟩
end Go.Proofs.YtknbjfefeeojlaaGreat
/- slices: Index, Contains; tableau: the state. -/
namespace Go.Proofs.YtknbjfefeeojlaaGreat
open Go.RowKit
attribute [local irreducible] RV VH V OpF Calls

set_option maxHeartbeats 400000 in
theorem index_ok (a1 : Option Addr) (n c : Nat) (xs : List Int) (z : Int) (S1 : Nat → Prop) (w : World) (hx : RN .i64 S1 w a1 n c xs) :
    Calls Tryz.prog 152 #[.slice a1 n c, .int .i64 z] w (fun e w' => ∃ q : Int, e = .returned (.int .i64 q) ∧ w = w' ∧ ((q = -1 ∧ ∀ j : Nat, j < n → wd xs j ≠ z) ∨ ∃ k : Nat, k < n ∧ q = k ∧ wd xs k = z ∧ ∀ j : Nat, j < k → wd xs j ≠ z)) := by
 have z0 := Ext.refl w; have hLX : LX = 17592186044416 := rfl; have hLY : LY = 8796093022208 := rfl
 have l1 := hx.len; have l2 := hx.cap; have l3 := hx.max
 refine enter (args := [.slice a1 n c, .int .i64 z]) Tryz.func152 rfl rfl (Nat.le_of_ble_eq_true rfl) ?_
 refine V.seq (V.reg rfl ?_)
 refine asi rfl ?_
 refine vnil ?_
 refine V.seq ?_
 refine V.seq (V.reg rfl ?_)
 refine mvs rfl ?_
 refine vv (rlen sl73 rfl) ?_
 refine mvi rfl ?_
 refine vnil ?_
 refine V.block ?_
 refine V.loopK (ι := Nat) [(0, .slice _ _ _), (1, .int _ _), (7, .int _ _)] (fun k => [(8, .int .i64 (k : Int))]) (fun k W => w = W ∧ k ≤ n ∧ ∀ j : Nat, j < k → wd xs j ≠ z) (fun k => n - k) (0) ⟨rfl, rfl, rfl, trivial⟩ ⟨rfl, trivial⟩ ⟨rfl, Nat.zero_le _, fun j hj => absurd hj (Nat.not_lt_zero _)⟩ ?_
 intro k E2 W1 h3
 obtain ⟨rfl, hk, hz⟩ := h3
 refine V.seq (V.reg rfl ?_)
 refine vlt rfl rfl ?_ ?_
 ·intro c4
  refine vnil ?_
  refine V.seq ?_
  refine V.condT rfl ?_
  refine V.skip ?_
  refine V.seq ?_
  refine V.block ?_
  refine V.seq (V.reg rfl ?_)
  refine mvi rfl ?_
  refine asi rfl ?_
  refine vnil ?_
  refine V.seq (V.reg rfl ?_)
  refine mvi rfl ?_
  refine mvs rfl ?_
  refine mvi rfl ?_
  refine vv (rixn hx sl73 sz3 rfl rfl (by omega) (by omega)) ?_
  refine vldN hx rfl sc3 (by omega) (by omega) ?_
  intro q5 hq5 hk6
  simp only [kb] at hk6
  refine veq rfl rfl ?_ ?_
  ·intro cz
   refine vnil ?_
   refine V.condT rfl ?_
   refine V.seq (V.reg rfl ?_)
   refine mvi rfl ?_
   refine asi rfl ?_
   refine vnil ?_
   refine V.ret ?_
   refine ⟨[.int _ _], ⟨rfl, trivial⟩, ?_⟩
   exact ⟨_, rfl, rfl, .inr ⟨k, by omega, rfl, by omega, hz⟩⟩
  ·intro cz
   refine vnil ?_
   refine V.condF rfl ?_
   refine V.skip ?_
   refine V.reg rfl ?_
   refine vv (rbin (bAdd (wi (by omega))) rfl rfl) ?_
   refine mvi rfl ?_
   refine vnil ?_
   refine ⟨rfl, k + 1, ⟨rfl, rfl, rfl, trivial⟩, ⟨rfl, trivial⟩, ⟨rfl, by omega, fun j hj => (by
    rcases Nat.lt_succ_iff_lt_or_eq.1 hj with h | rfl
    ·exact hz j h
    ·omega)⟩, ?_⟩
   show n - (k + 1) < n - k
   omega
 ·intro c4
  refine vnil ?_
  refine V.seq ?_
  refine V.condF rfl ?_
  refine V.exit ?_
  refine V.seq (V.reg rfl ?_)
  refine asi rfl ?_
  refine vnil ?_
  refine V.ret ?_
  refine ⟨[.int _ _], ⟨rfl, trivial⟩, ?_⟩
  exact ⟨_, rfl, rfl, .inl ⟨rfl, fun j hj => hz j (by omega)⟩⟩
set_option maxHeartbeats 400000 in
theorem contains_ok (a1 : Option Addr) (n c : Nat) (xs : List Int) (z : Int) (S1 : Nat → Prop) (w : World) (hx : RN .i64 S1 w a1 n c xs) :
    Calls Tryz.prog 88 #[.slice a1 n c, .int .i64 z] w (fun e w' => ∃ q, e = .returned (.bool q) ∧ w = w' ∧ (q = true ↔ z ∈ xs)) := by
 have z0 := Ext.refl w; have hLX : LX = 17592186044416 := rfl; have hLY : LY = 8796093022208 := rfl
 have l1 := hx.len
 refine enter (args := [.slice a1 n c, .int .i64 z]) Tryz.func88 rfl rfl (Nat.le_of_ble_eq_true rfl) ?_
 refine V.seq (V.reg rfl ?_)
 refine asb rfl ?_
 refine vnil ?_
 refine V.seq (V.reg rfl ?_)
 refine mvs rfl ?_
 refine mvi rfl ?_
 refine vo ?_
 refine xcall e152 (index_ok _ _ _ _ _ _ _ hx) rfl rfl ?_
 rintro _ _ ⟨q9, rfl, rfl, hq9⟩
 refine ⟨_, rfl, ?_⟩
 refine vge rfl rfl ?_ ?_
 ·intro c13
  refine asb rfl ?_
  refine vnil ?_
  refine V.ret ?_
  refine ⟨[.bool true], ⟨rfl, trivial⟩, ?_⟩
  refine ⟨_, rfl, rfl, ?_⟩
  rcases hq9 with ⟨hq1, hq2⟩ | ⟨k, hk, hq1, hq2, _⟩
  ·first | omega | exact ⟨fun h => (by cases h), fun h => by obtain ⟨j, hj, e⟩ := wd_mem.2 h; exact absurd e (hq2 j (by omega))⟩
  ·first | omega | exact ⟨fun _ => wd_mem.1 ⟨k, by omega, hq2⟩, fun _ => rfl⟩
 ·intro c13
  refine asb rfl ?_
  refine vnil ?_
  refine V.ret ?_
  refine ⟨[.bool false], ⟨rfl, trivial⟩, ?_⟩
  refine ⟨_, rfl, rfl, ?_⟩
  rcases hq9 with ⟨hq1, hq2⟩ | ⟨k, hk, hq1, hq2, _⟩
  ·first | omega | exact ⟨fun h => (by cases h), fun h => by obtain ⟨j, hj, e⟩ := wd_mem.2 h; exact absurd e (hq2 j (by omega))⟩
  ·first | omega | exact ⟨fun _ => wd_mem.1 ⟨k, by omega, hq2⟩, fun _ => rfl⟩
end Go.Proofs.YtknbjfefeeojlaaGreat
/- The state of a tableau in the store. -/
namespace Go.Proofs.YtknbjfefeeojlaaGreat
open Go.RowKit
attribute [local irreducible] RV VH V OpF Calls
/-- A tableau at block bw: its basis pv and its rows v are own slices; the goals are read only. -/
structure TS (B bw : Nat) (N : Int) (ag : Option Addr) (ng cg : Nat) (goals : List (List Rat)) (v pv : Value) (rows : List (List Rat)) (piv : List Int) (W : World) : Prop where
  x : BoxAt W bw [.int .i64 N, .slice ag ng cg, pv, v] 91
  g : GO 1 (RowOf GC) (XS B bw pv) B W 23 v rows
  p : OI .i64 B W 3 pv piv
  m : MC (KQ bw v pv) W ag ng cg goals
  hB : B ≤ bw
section
variable {B bw n c ng cg : Nat} {N : Int} {v pv : Value} {goals rows : List (List Rat)} {piv : List Int} {W W' : World} {a ag : Option Addr}
theorem TS.ext (h : TS B bw N ag ng cg goals v pv rows piv W) (y : Ext W W') : TS B bw N ag ng cg goals v pv rows piv W' :=
  ⟨h.x.ext y, h.g.ext okRowC y, h.p.ext y, MG.ck okRowC h.m (y.ck _), h.hB⟩
theorem TS.vb (h : TS B bw N ag ng cg goals v pv rows piv W) : v.ownBlock ≠ some bw := by
  obtain ⟨qs, h1, _⟩ := h.g; exact h1.neBox h.x (by decide)
theorem TS.pb (h : TS B bw N ag ng cg goals v pv rows piv W) : pv.ownBlock ≠ some bw := h.p.neBox h.x (by decide)
theorem TS.vp (h : TS B bw N ag ng cg goals v pv rows piv W) {b : Nat} (e : v.ownBlock = some b) : pv.ownBlock ≠ some b := by
  obtain ⟨qs, h1, _⟩ := h.g
  obtain ⟨cur, hb⟩ := h1.obox e
  exact h.p.neBox hb (by decide)
theorem TS.vlow (h : TS B bw N ag ng cg goals v pv rows piv W) : ∀ b, v.ownBlock = some b → B ≤ b ∧ b < W.heap.size := by
  obtain ⟨qs, h1, _⟩ := h.g; exact h1.low
theorem TS.up (h : TS B bw N ag ng cg goals v pv rows piv W) : Up (SO (XS B bw pv) v) W := fun b hb => by
  have := h.x.lt; have := h.hB
  exact ⟨⟨by omega, by omega, fun e => by have := (h.p.low b e).2; omega⟩, fun e => by have := (h.vlow b e).2; omega⟩
theorem TS.upq (h : TS B bw N ag ng cg goals v pv rows piv W) : Up (KQ bw v pv) W := fun b hb => by
  have := h.x.lt
  exact ⟨by omega, fun e => by have := (h.vlow b e).2; omega, fun e => by have := (h.p.low b e).2; omega⟩
theorem TS.mc (h : TS B bw N ag ng cg goals v pv rows piv W) (hv : v = .slice a n c) : MC TT W a n c rows := by
  subst hv; exact GO.rd okRowC h.g
theorem TS.pn (h : TS B bw N ag ng cg goals v pv rows piv W) (hv : pv = .slice a n c) : RN .i64 TT W a n c piv := by
  subst hv; exact h.p.rn fun _ _ _ => trivial
/-- One column more in the basis, and the new list is stored. -/
theorem TS.push {pv' : Value} {W1 W2 : World} {z : Int} (h : TS B bw N ag ng cg goals v pv rows piv W) (hO : OI .i64 B W1 3 pv' (piv ++ [z])) (hg : W.grownBy W1 pv.ownBlock) (ho : pv'.ownBlock = pv.ownBlock ∨ pv'.ownBlock = some W.heap.size) (hos : Below 0 W W1) (y : Wr bw W1 W2) (hb : BoxAt W2 bw [.int .i64 N, .slice ag ng cg, pv', v] 91) :
    TS B bw N ag ng cg goals v pv' rows (piv ++ [z]) W2 ∧ KD (KQ bw v pv) W W2 := by
  have nb : ∀ b, b < W.heap.size → pv.ownBlock ≠ some b → pv'.ownBlock ≠ some b := fun b hb hp e => by
    rcases ho with h' | h'
    · exact hp (h' ▸ e)
    · rw [h'] at e; injection e with e; omega
  have kg : CK (fun b => pv.ownBlock ≠ some b) W W1 := grown_ck hg fun b e h => h e
  have kd : KD (KQ bw v pv) W W2 := (grown_kd hg (fun b e hd => hd.2.2 e) hos).trans (y.kd fun hd => hd.1 rfl)
  refine ⟨⟨hb, ?_, ?_, ?_, h.hB⟩, kd⟩
  · obtain ⟨qs, h1, h2⟩ := h.g
    have o1 : OS 1 B W1 23 v qs := h1.ck kg fun b e => h.vp e
    refine ⟨qs, o1.ck (y.ck (S := fun b => b ≠ bw) fun hh => hh rfl) (fun b e => fun hh => h.vb (hh ▸ e)), h2.imp fun _ _ hq => ?_⟩
    have h3 := okRowC.sub (S' := fun b => SO (XS B bw pv) v b ∧ pv'.ownBlock ≠ some b) hq fun b hb hs => ⟨hs, nb b hb hs.1.2.2⟩
    have h4 := okRowC.ck h3 (kg.sub fun b hs => hs.1.1.2.2)
    have h5 := okRowC.ck h4 (y.ck (fun hh => hh.1.1.2.1 rfl))
    exact okRowC.sub h5 fun b _ hs => ⟨⟨hs.1.1.1, hs.1.1.2.1, hs.2⟩, hs.1.2⟩
  · refine hO.ck (y.ck (S := fun b => b ≠ bw) fun hh => hh rfl) (fun b e hh => ?_)
    subst hh
    rcases ho with h' | h'
    · exact h.pb (h' ▸ e)
    · rw [h'] at e; injection e with e; have := h.x.lt; omega
  · have m1 := MG.sub okRowC h.m (S' := fun b => KQ bw v pv b ∧ pv'.ownBlock ≠ some b) fun b hb hs => ⟨hs, nb b hb hs.2.2⟩
    have m2 := MG.ck okRowC m1 (kd.ck.sub fun b hs => hs.1)
    exact MG.sub okRowC m2 fun b _ hs => ⟨hs.1.1, hs.1.2.1, hs.2⟩
/-- One row more, and the new list is stored. -/
theorem TS.pushR {v' : Value} {W1 W2 : World} {rr : List Rat} (h : TS B bw N ag ng cg goals v pv rows piv W) (hG : GO 1 (RowOf GC) (XS B bw pv) B W1 23 v' (rows ++ [rr])) (hg : W.grownBy W1 v.ownBlock) (ho : v'.ownBlock = v.ownBlock ∨ v'.ownBlock = some W.heap.size) (hos : Below 0 W W1) (y : Wr bw W1 W2) (hb : BoxAt W2 bw [.int .i64 N, .slice ag ng cg, pv, v'] 91) :
    TS B bw N ag ng cg goals v' pv (rows ++ [rr]) piv W2 ∧ KD (KQ bw v pv) W W2 := by
  have nb : ∀ b, b < W.heap.size → v.ownBlock ≠ some b → v'.ownBlock ≠ some b := fun b hb hp e => by
    rcases ho with h' | h'
    · exact hp (h' ▸ e)
    · rw [h'] at e; injection e with e; omega
  have kg : CK (fun b => v.ownBlock ≠ some b) W W1 := grown_ck hg fun b e h => h e
  have kd : KD (KQ bw v pv) W W2 := (grown_kd hg (fun b e hd => hd.2.1 e) hos).trans (y.kd fun hd => hd.1 rfl)
  refine ⟨⟨hb, ?_, ?_, ?_, h.hB⟩, kd⟩
  · obtain ⟨qs, h1, h2⟩ := hG
    refine ⟨qs, h1.ck (y.ck (S := fun b => b ≠ bw) fun hh => hh rfl) (fun b e hh => ?_), h2.imp fun _ _ hq => okRowC.ck hq (y.ck (fun hh => hh.1.2.1 rfl))⟩
    subst hh
    exact nb _ h.x.lt h.vb e
  · exact (h.p.ck kg fun b e e2 => h.vp e2 e).ck (y.ck (S := fun b => b ≠ bw) fun hh => hh rfl) (fun b e hh => h.pb (hh ▸ e))
  · have m1 := MG.sub okRowC h.m (S' := fun b => KQ bw v pv b ∧ v'.ownBlock ≠ some b) fun b hb hs => ⟨hs, nb b hb hs.2.1⟩
    have m2 := MG.ck okRowC m1 (kd.ck.sub fun b hs => hs.1)
    exact MG.sub okRowC m2 fun b _ hs => ⟨hs.1.1, hs.2, hs.1.2.2⟩
end
section
variable {B bw n c n' c' ng cg : Nat} {N : Int} {v pv : Value} {goals rows : List (List Rat)} {piv : List Int} {W W' : World} {a a' ag : Option Addr} {ρ : Operand → Value} {d : Option Tmp} {ty T : TypeId} {pos : String} {af : Array Edge} {gd : Option (Nat × Bool)} {x y : Operand} {K : Value → World → Prop} {rr : List Rat}
/-- t.rows[i] = u -/
theorem xstT {r : Option Nat} {i : Int} (h : TS B bw N ag ng cg goals v pv rows piv W) (hv : v = .slice a n c) (hx : ρ x = .pointer (some (adr a i 1))) (hy : ρ y = .slice a' n' c') (hT : Sz Tryz.prog T 1) (h0 : 0 ≤ i) (h1 : i < n) (hel : GC (SO (XS B bw pv) v) W a' n' c' rr)
    (hk2 : ∀ W', TS B bw N ag ng cg goals v pv (rows.set i.toNat rr) piv W' → KD (KQ bw v pv) W W' → K undef W') : OpF r Tryz.prog ρ ⟨d, .store T x y, ty, pos, af, gd⟩ W K := by
  refine xstG (q := [.slice a' n' c']) okRowC h.g hv hx hy rfl hT rfl rfl h0 h1 ⟨_, _, _, rfl, hel⟩ ?_
  intro b W' hb y' hG
  have kd : KD (KQ bw v pv) W W' := y'.kd fun hd => hd.2.1 hb
  exact hk2 W' ⟨h.x.wr y' (fun e => h.vb (e ▸ hb)), hG, h.p.ck (y'.ck (S := fun q => q ≠ b) fun hh => hh rfl) (fun q e hh => h.vp hb (hh ▸ e)), MG.ck okRowC h.m kd.ck, h.hB⟩ kd
end
end Go.Proofs.YtknbjfefeeojlaaGreat
/- Package tableau: cols, Basis. -/
namespace Go.Proofs.YtknbjfefeeojlaaGreat
open Go.RowKit
attribute [local irreducible] RV VH V OpF Calls
theorem rpnil {P : Program} {ρ : Operand → Value} {W : World} {d : Option Tmp} {ty t1 t2 : TypeId} {pos : String} {af : Array Edge} {g : Option (Nat × Bool)} {x y : Operand} {p : Option Addr} {q : Bool} (hu : P.underlying t1 = some (.pointer (P.pointee t1))) (hx : ρ x = .pointer p) (hy : ρ y = .pointer none) (hq : p.isNone = q) :
    (execOp ρ ⟨d, .binOp .eql t1 x y t2, ty, pos, af, g⟩).run P W = .ok (.value (.bool q)) W := by
  subst hq
  unfold execOp
  have h := run_eql_pointer_nil (P := P) (w := W) t1 p hu
  have h2 : (eqGuard .eql t1 x y (.pointer p) (.pointer none)).run P W = .ok () W := by simp [eqGuard]
  simp [hx, hy, h, h2]
theorem rpnn {P : Program} {ρ : Operand → Value} {W : World} {d : Option Tmp} {ty t1 t2 : TypeId} {pos : String} {af : Array Edge} {g : Option (Nat × Bool)} {x y : Operand} {p : Option Addr} {q : Bool} (hu : P.underlying t1 = some (.pointer (P.pointee t1))) (hx : ρ x = .pointer p) (hy : ρ y = .pointer none) (hq : (!p.isNone) = q) :
    (execOp ρ ⟨d, .binOp .neq t1 x y t2, ty, pos, af, g⟩).run P W = .ok (.value (.bool q)) W := by
  subst hq
  unfold execOp
  have h := run_neq_pointer_nil (P := P) (w := W) t1 p hu
  have h2 : (eqGuard .neq t1 x y (.pointer p) (.pointer none)).run P W = .ok () W := by simp [eqGuard]
  simp [hx, hy, h, h2]

set_option maxHeartbeats 400000 in
theorem cols_ok (bw : Nat) (N : Int) (ag ap a : Option Addr) (ng cg np cp n c : Nat) (w : World) (hb : BoxAt w bw [.int .i64 N, .slice ag ng cg, .slice ap np cp, .slice a n c] 91) (hN : 0 ≤ N ∧ N ≤ 64) (hn : n ≤ 1000) :
    Calls Tryz.prog 87 #[.pointer (some ⟨bw, 0, none⟩)] w (fun e w' => e = .returned (.int .i64 (N + (n : Int))) ∧ Ext w w') := by
 have z0 := Ext.refl w; have hLX : LX = 17592186044416 := rfl; have hLY : LY = 8796093022208 := rfl
 refine enter (args := [.pointer (some ⟨bw, 0, none⟩)]) Tryz.func87 rfl rfl (Nat.le_of_ble_eq_true rfl) ?_
 refine V.seq (V.reg rfl ?_)
 refine asi rfl ?_
 refine vnil ?_
 refine V.seq (V.regD mixed rfl ?_)
 intro W1 x2
 have s3 := x2.sz
 have z4 := x2
 replace hb := hb.ext x2
 have q5 := Ext.refl W1
 have r6 := hb
 refine tk 0 rfl (by kernel_rfl) q5 (pv (fun _ y7 => rmv (v := .pointer (some ⟨_, _, none⟩)) rfl)) ?_
 refine tk 1 rfl (by kernel_rfl) q5 (pv (fun _ y8 => rnc (v := .pointer (some ⟨_, _, none⟩)) rfl rfl)) ?_
 refine tk 2 rfl (by kernel_rfl) q5 (pv (fun _ y9 => rfa rfl fd91_0)) ?_
 refine tk 3 rfl (by kernel_rfl) q5 (pv (fun _ y10 => rldb (v := .int _ _) rfl sc3 (r6.ext y10) rfl)) ?_
 refine tk 4 rfl (by kernel_rfl) q5 (pv (fun _ y11 => rmv (v := .pointer (some ⟨_, _, none⟩)) rfl)) ?_
 refine tk 5 rfl (by kernel_rfl) q5 (pv (fun _ y12 => rnc (v := .pointer (some ⟨_, _, none⟩)) rfl rfl)) ?_
 refine tk 6 rfl (by kernel_rfl) q5 (pv (fun _ y13 => rfa rfl fd91_3)) ?_
 refine tk 7 rfl (by kernel_rfl) q5 (pv (fun _ y14 => rldb (v := .slice _ _ _) rfl sc22 (r6.ext y14) rfl)) ?_
 refine tk 8 rfl (by kernel_rfl) q5 (pv (fun _ y15 => rlen sl22 rfl)) ?_
 refine tk 9 rfl (by kernel_rfl) q5 (pv (fun _ y16 => rbin (bAdd (wi (by omega))) rfl rfl)) ?_
 refine tk 10 rfl (by kernel_rfl) q5 (pv (fun _ y17 => ras (v := .int _ _) rfl)) ?_
 refine dn (by kernel_rfl) ?_
 refine V.ret ?_
 refine ⟨[.int _ _], ⟨rfl, trivial⟩, ?_⟩
 exact ⟨rfl, z4⟩
theorem row_mem {rows : List (List Rat)} {i : Nat} (h : i < rows.length) : rowat rows i ∈ rows := by
  unfold rowat; rw [List.getD_eq_getElem?_getD, List.getElem?_eq_getElem h]; exact List.getElem_mem h

set_option maxHeartbeats 400000 in
theorem tRHS_ok (bw : Nat) (N : Int) (ag ap a : Option Addr) (ng cg np cp n c : Nat) (w : World) (hb : BoxAt w bw [.int .i64 N, .slice ag ng cg, .slice ap np cp, .slice a n c] 91) (M L1 : Nat) (rows : List (List Rat)) (S S1 : Nat → Prop) (hr : MA L1 S1 w a n c rows) (hN : 0 ≤ N ∧ N ≤ 64) (hn : n ≤ 1000) (hM : N + (n : Int) = (M : Int)) (hrr : ∀ r ∈ rows, r.length = M + 1) (hL : L1 < LY) (hl1 : 1 ≤ L1) (hu : Up S w) :
    Calls Tryz.prog 24 #[.pointer (some ⟨bw, 0, none⟩)] w (fun e w' => ∃ ra rk rc, e = .returned (.slice ra rk rc) ∧ Ext w w' ∧ GC S w' ra rk rc (rows.map fun r => vat r M)) := by
 have z0 := Ext.refl w; have hLX : LX = 17592186044416 := rfl; have hLY : LY = 8796093022208 := rfl
 have hLV : LV = 1099511627776 := rfl
 have l1 := hr.len; have l2 := hr.max
 refine enter (args := [.pointer (some ⟨bw, 0, none⟩)]) Tryz.func24 rfl rfl (Nat.le_of_ble_eq_true rfl) ?_
 refine V.seq (V.reg rfl ?_)
 refine ass rfl ?_
 refine vnil ?_
 refine V.seq ?_
 refine V.seq (V.reg rfl ?_)
 refine mvp rfl ?_
 refine vv (rpnil (q := false) (by kernel_rfl) rfl rfl rfl) ?_
 refine vnil ?_
 refine V.condF rfl ?_
 refine V.skip ?_
 refine V.seq ?_
 refine V.seq (V.reg rfl ?_)
 refine mvp rfl ?_
 refine vv (rnc (v := .pointer (some ⟨_, _, none⟩)) rfl rfl) ?_
 refine vv (rfa rfl fd91_3) ?_
 refine vv (rldb (v := .slice _ _ _) rfl sc22 hb rfl) ?_
 refine vv (rlen sl22 rfl) ?_
 refine mvi rfl ?_
 refine vnil ?_
 refine V.block ?_
 refine V.loopK (ι := Nat × Value) [(0, .pointer (some ⟨_, _, none⟩)), (10, .slice _ _ _), (11, .int _ _)] (fun ⟨k, v⟩ => [(12, .int .i64 (k : Int)), (2, v)]) (fun ⟨k, v⟩ W => Ext w W ∧ k ≤ n ∧ GO 4 QC S w.heap.size W 48 v ((rows.take k).map fun r => vat r M)) (fun ⟨k, v⟩ => n - k) ((0, _)) ⟨rfl, rfl, rfl, trivial⟩ ⟨rfl, rfl, trivial⟩ ⟨Ext.refl _, Nat.zero_le _, GO.nil _ _⟩ ?_
 intro i2 E3 W1 h4
 obtain ⟨k, v⟩ := i2
 simp only at h4
 show V _ _ _ _ _ _ (ups (ups _ _) [(12, .int .i64 (k : Int)), (2, v)]) _
 obtain ⟨x5, hk, hO⟩ := h4
 have s6 := x5.sz
 have z7 := x5
 replace hb := hb.ext x5
 refine V.seq (V.reg rfl ?_)
 refine vlt rfl rfl ?_ ?_
 ·intro c8
  have hrw : (rowat rows ((k : Int)).toNat).length = M + 1 := hrr _ (row_mem (by omega))
  refine vnil ?_
  refine V.seq ?_
  refine V.condT rfl ?_
  refine V.skip ?_
  refine V.seq ?_
  refine V.block ?_
  refine V.seq (V.reg rfl ?_)
  refine vv (rix sl22 sz23 rfl rfl (by omega) (by omega) ((hr.ext z7).isS (i := 0) (by omega) (by omega))) ?_
  refine vldRow (hr.ext z7) rfl sc23 (by omega) (by omega) ?_
  intro a9 n10 c11 hg12
  have hg12l := hg12.len; have hg12m := hg12.max
  refine ass rfl ?_
  refine vnil ?_
  refine V.reg rfl ?_
  refine vv (rmv (v := v) rfl) ?_
  refine mvs rfl ?_
  refine mvp rfl ?_
  refine vo ?_
  refine xcall e87 (cols_ok _ N _ _ _ _ _ _ _ n _ _ hb hN hn) rfl rfl ?_
  rintro _ W13 ⟨rfl, x14⟩
  have s15 := x14.sz
  have z16 := z7.trans x14
  replace hb := hb.ext x14
  replace hO := hO.ext okQC x14
  refine ⟨_, rfl, ?_⟩
  refine vv (rix sl23 sz48 rfl rfl (by omega) (by omega) ((hg12.ext x14).isS (i := 0) (by omega) (by omega))) ?_
  refine vldQ (hg12.ext x14) rfl ag48 (by omega) (by omega) ?_
  intro n17 a18 l19 c20 n21 a22 l23 c24 hq25
  refine vo ?_
  refine xcall e92 (fCanon_ok _ _ _ _ _ _ hq25 (by omega) (by omega) (GO.up hO hu (by omega))) rfl rfl ?_
  rintro _ W27 ⟨_, rfl, x28, hq26⟩
  have s29 := x28.sz
  have z30 := z16.trans x28
  replace hb := hb.ext x28
  replace hO := hO.ext okQC x28
  obtain ⟨_, _, _, _, _, _, _, _, rfl⟩ := hq26.form
  refine ⟨_, rfl, ?_⟩
  refine vo ?_
  refine xbs (zs := [.bool false, .slice _ _ _, .bool false, .slice _ _ _]) (ps := [(0, .agg #[_, _, _, _])]) (cs := [.bool _, .slice _ _ _, .bool _, .slice _ _ _]) sl23 zr48 sz48 rfl rfl rfl rfl rfl rfl ?_
  intro W31 x32 b33 nn34
  have s35 := x32.sz
  have z36 := z30.trans x32
  replace hb := hb.ext x32
  replace hO := hO.ext okQC x32
  refine vo ?_
  refine xappG okQC sl23 in48 rfl rfl hO rfl rfl b33 rfl rfl ((QC.cast (r' := vat (rowat rows ((k : Int)).toNat) M) (hq26.ext x32) (by rw [hM]; rfl))) (by simp; omega) (by decide) (by omega) ?_
  intro v37 W38 hO39 hg40
  have y41 := hg40.below; have s42 := y41.size
  have z43 := z36.below (y41.mono (by omega))
  refine vv (ras (v := v37) rfl) ?_
  refine vnil ?_
  refine V.reg rfl ?_
  refine vv (rbin (bAdd (wi (by omega))) rfl rfl) ?_
  refine mvi rfl ?_
  refine vnil ?_
  refine ⟨rfl, (k + 1, _), ⟨rfl, rfl, rfl, trivial⟩, ⟨rfl, rfl, trivial⟩, ⟨z43, by omega, by rw [take_row _ rows k (by omega)]; exact hO39⟩, ?_⟩
  show n - (k + 1) < n - k
  omega
 ·intro c8
  refine vnil ?_
  refine V.seq ?_
  refine V.condF rfl ?_
  refine V.exit ?_
  refine V.seq (V.reg rfl ?_)
  refine vv (rmv (v := v) rfl) ?_
  refine vv (ras (v := v) rfl) ?_
  refine vnil ?_
  refine V.ret ?_
  refine ⟨[v], ⟨rfl, trivial⟩, ?_⟩
  obtain ⟨a', c', rfl⟩ := hO.form
  have hf := hO.fin okQC (fun b hb _ => hu b (by omega))
  refine ⟨_, _, _, rfl, z7, ?_⟩
  rw [List.take_of_length_le (by omega)] at hf ⊢
  exact hf
set_option maxHeartbeats 400000 in
theorem tFeas_ok (bw : Nat) (N : Int) (ag ap a : Option Addr) (ng cg np cp n c : Nat) (w : World) (hb : BoxAt w bw [.int .i64 N, .slice ag ng cg, .slice ap np cp, .slice a n c] 91) (M L1 : Nat) (rows : List (List Rat)) (S1 : Nat → Prop) (hr : MA L1 S1 w a n c rows) (hN : 0 ≤ N ∧ N ≤ 64) (hn : n ≤ 1000) (hM : N + (n : Int) = (M : Int)) (hrr : ∀ r ∈ rows, r.length = M + 1) (hL : L1 + 1 < LY) (hl1 : 1 ≤ L1) :
    Calls Tryz.prog 74 #[.pointer (some ⟨bw, 0, none⟩)] w (fun e w' => ∃ q, e = .returned (.bool q) ∧ Ext w w' ∧ (q = true ↔ nonneg (rows.map fun r => vat r M))) := by
 have z0 := Ext.refl w; have hLX : LX = 17592186044416 := rfl; have hLY : LY = 8796093022208 := rfl
 have hLV : LV = 1099511627776 := rfl
 have l1 := hr.len; have l2 := hr.max; have hrs := hr.rowsz hl1
 refine enter (args := [.pointer (some ⟨bw, 0, none⟩)]) Tryz.func74 rfl rfl (Nat.le_of_ble_eq_true rfl) ?_
 refine V.seq (V.reg rfl ?_)
 refine asb rfl ?_
 refine vnil ?_
 refine V.seq (V.reg rfl ?_)
 refine mvp rfl ?_
 refine vo ?_
 refine xcall e24 (tRHS_ok _ N _ _ _ _ _ _ _ n _ _ hb M L1 rows TT S1 hr hN hn hM hrr (by omega) hl1 (TT.up _)) rfl rfl ?_
 rintro _ W1 ⟨_, kr, cr, rfl, x2, hrv⟩
 have s3 := x2.sz
 have z4 := x2
 replace hb := hb.ext x2
 have hra := hrv.va (L := L1) (fun x hx => by obtain ⟨r, hr9, rfl⟩ := List.mem_map.1 hx; exact szV_at (hrs r hr9) hl1 _)
 have hrl := hrv.len; have hrl2 := hrl; rw [List.length_map] at hrl2
 refine ⟨_, rfl, ?_⟩
 refine vo ?_
 refine xcall e145 (vFirst_ok _ _ _ _ _ _ 1 L1 [] _ TT _ _ (GA.nil _ _ _) hra (by omega) (by omega) (by omega) (by omega) (by omega)) rfl rfl ?_
 rintro _ Wf ⟨sf, qf, rfl, xf, hqf⟩
 refine ⟨_, rfl, ?_⟩
 replace hqf := fg_neg hrl hqf
 cases qf
 ·skip
  have s5 := xf.sz
  have z6 := z4.trans xf
  replace hb := hb.ext xf
  refine mvt rfl ?_
  refine vv (rext (v := .int _ _) rfl rfl) ?_
  refine vv (rext (v := .bool false) rfl rfl) ?_
  refine asi rfl ?_
  refine asb rfl ?_
  refine vnil ?_
  refine V.seq (V.reg rfl ?_)
  refine mvp rfl ?_
  refine vv (rpnn (q := true) (by kernel_rfl) rfl rfl rfl) ?_
  refine mvb rfl ?_
  refine vg rfl ?_
  refine mvb rfl ?_
  refine vg rfl ?_
  refine vv (rnot (q := true) rfl rfl) ?_
  refine vv (rpk (v := .bool true) rfl rfl) ?_
  refine asb rfl ?_
  refine vnil ?_
  refine V.ret ?_
  refine ⟨[.bool true], ⟨rfl, trivial⟩, ?_⟩
  exact ⟨_, rfl, z6, fun _ => (by false_or_by_contra; rename_i h9; exact absurd (hqf.2 h9) (by decide)), fun _ => rfl⟩
 ·skip
  have s7 := xf.sz
  have z8 := z4.trans xf
  replace hb := hb.ext xf
  refine mvt rfl ?_
  refine vv (rext (v := .int _ _) rfl rfl) ?_
  refine vv (rext (v := .bool true) rfl rfl) ?_
  refine asi rfl ?_
  refine asb rfl ?_
  refine vnil ?_
  refine V.seq (V.reg rfl ?_)
  refine mvp rfl ?_
  refine vv (rpnn (q := true) (by kernel_rfl) rfl rfl rfl) ?_
  refine mvb rfl ?_
  refine vg rfl ?_
  refine mvb rfl ?_
  refine vg rfl ?_
  refine vv (rnot (q := false) rfl rfl) ?_
  refine vv (rpk (v := .bool false) rfl rfl) ?_
  refine asb rfl ?_
  refine vnil ?_
  refine V.ret ?_
  refine ⟨[.bool false], ⟨rfl, trivial⟩, ?_⟩
  exact ⟨_, rfl, z8, fun h => (by cases h), fun h => absurd h (hqf.1 rfl)⟩
end Go.Proofs.YtknbjfefeeojlaaGreat
/- Determinants: plain mathematics. -/
namespace Go.Proofs.YtknbjfefeeojlaaGreat
/-! ### Sums -/
theorem sumk_add (f g : Nat → Rat) : ∀ k, sumk (fun i => f i + g i) k = sumk f k + sumk g k
  | 0 => (Rat.add_zero 0).symm
  | k + 1 => by simp only [sumk]; rw [sumk_add f g k]; grind
theorem sumk_mul (c : Rat) (f : Nat → Rat) : ∀ k, sumk (fun i => c * f i) k = c * sumk f k
  | 0 => by simp [sumk]
  | k + 1 => by simp only [sumk]; rw [sumk_mul c f k]; grind
theorem sumk_mulr (c : Rat) (f : Nat → Rat) (k : Nat) : sumk (fun i => f i * c) k = sumk f k * c := by
  rw [Rat.mul_comm, ← sumk_mul]; exact sumk_ext fun i _ => Rat.mul_comm _ _
theorem sumk_comm (f : Nat → Nat → Rat) (m : Nat) : ∀ n, sumk (fun i => sumk (fun j => f i j) m) n = sumk (fun j => sumk (fun i => f i j) n) m
  | 0 => by simp only [sumk]; exact (sumk_zero fun _ _ => rfl).symm
  | n + 1 => by simp only [sumk]; rw [sumk_comm f m n, ← sumk_add]
theorem sumk_only {f : Nat → Rat} {a : Nat} : ∀ {k : Nat}, a < k → (∀ i, i < k → i ≠ a → f i = 0) → sumk f k = f a
  | 0, h, _ => by omega
  | k + 1, h, hz => by
    simp only [sumk]
    by_cases e : k = a
    · subst e; rw [sumk_zero fun i hi => hz i (by omega) (by omega), Rat.zero_add]
    · rw [sumk_only (by omega) (fun i hi => hz i (by omega)), hz k (by omega) e, Rat.add_zero]
/-! ### Determinants -/
abbrev MF := Nat → Nat → Rat
def setc (A : MF) (c : Nat) (u : Nat → Rat) : MF := fun i j => if j = c then u i else A i j
def swapc (A : MF) (a b : Nat) : MF := fun i j => A i (if j = a then b else if j = b then a else j)
/-- A function of the columns that reckons as a determinant does. -/
structure ColP (n : Nat) (g : MF → Rat) : Prop where
  congr : ∀ A B : MF, (∀ i j, i < n → j < n → A i j = B i j) → g A = g B
  swap : ∀ (A : MF) (a b : Nat), a < n → b < n → a ≠ b → g (swapc A a b) = - g A
  mul : ∀ (A : MF) (a : Nat) (s : Rat), a < n → g (setc A a fun i => s * A i a) = s * g A
  add : ∀ (A : MF) (a b : Nat) (s : Rat), a < n → b < n → a ≠ b → g (setc A a fun i => A i a + s * A i b) = g A
def idf : MF := fun i j => if i = j then 1 else 0
end Go.Proofs.YtknbjfefeeojlaaGreat
/- The reduced row echelon form: plain mathematics. -/
namespace Go.Proofs.YtknbjfefeeojlaaGreat
/-! ### Entries -/
def sw (p d i : Nat) : Nat := if i = d then p else if i = p then d else i
theorem mat_swapR {rows : List (List Rat)} {p d i k : Nat} (hp : p < rows.length) (hd : d < rows.length) (hi : i < rows.length) : mat (swapR rows p d) i k = mat rows (sw p d i) k := by
  unfold mat swapR sw
  rw [rowat_set (by simpa using hd)]
  by_cases e : i = d
  · rw [if_pos e, if_pos e]
  · rw [if_neg e, if_neg e, rowat_set hp]
    by_cases e2 : i = p
    · rw [if_pos e2, if_pos e2]
    · rw [if_neg e2, if_neg e2]
theorem vat_sclR (r : Rat) (xs : List Rat) (k : Nat) : vat (sclR r xs) k = r * vat xs k := by
  unfold sclR
  rcases Nat.lt_or_ge k (max xs.length 0) with h | h
  · rw [vat_zipf _ _ _ h, show vat [] k = 0 from rfl, Rat.add_zero]
  · rw [vat_ge (by rw [zipf_len]; omega), vat_ge (rs := xs) (by omega), Rat.mul_zero]
theorem vat_axR (r : Rat) (xs ys : List Rat) (k : Nat) : vat (axR r xs ys) k = r * vat xs k + vat ys k := by
  unfold axR
  rcases Nat.lt_or_ge k (max xs.length ys.length) with h | h
  · rw [vat_zipf _ _ _ h]
  · rw [vat_ge (by rw [zipf_len]; omega), vat_ge (rs := xs) (by omega), vat_ge (rs := ys) (by omega), Rat.mul_zero, Rat.add_zero]
theorem mat_divR {rows : List (List Rat)} {d k i c : Nat} (hd : d < rows.length) : mat (divR rows d k) i c = if i = d then 1 / mat rows d k * mat rows d c else mat rows i c := by
  unfold mat divR
  rw [rowat_set hd]
  split
  · rw [vat_sclR]; rfl
  · rfl
theorem mat_elimS {rows : List (List Rat)} {d k i j c : Nat} (hj : j < rows.length) : mat (elimS rows d k i) j c = if j < i ∧ j ≠ d then mat rows j c - mat rows j k * mat rows d c else mat rows j c := by
  unfold mat
  rw [elimS_row hj]
  by_cases h1 : j < i
  · rw [if_pos h1]
    unfold elimT
    by_cases h2 : j = d
    · rw [if_pos (Or.inl h2), if_neg (fun h => h.2 h2)]
    · by_cases h3 : mat rows j k = 0
      · rw [if_pos (Or.inr h3), if_pos ⟨h1, h2⟩]
        have h4 : vat (rowat rows j) k = 0 := h3
        rw [h4]; grind
      · rw [if_neg (fun h => h.elim h2 h3), if_pos ⟨h1, h2⟩, vat_axR]
        show -(vat (rowat rows j) k) * _ + _ = _
        grind
  · rw [if_neg h1, if_neg (fun h => h1 h.1)]
theorem mat_colR {rows : List (List Rat)} {d k p i c : Nat} (hp : p < rows.length) (hd : d < rows.length) (hi : i < rows.length) :
    mat (colR rows d k p) i c = if i = d then mat rows p c / mat rows p k else mat rows (sw p d i) c - mat rows (sw p d i) k * (mat rows p c / mat rows p k) := by
  have e : ∀ c, mat (divR (swapR rows p d) d k) d c = mat rows p c / mat rows p k := fun c => by
    rw [mat_divR (by rw [swapR_len]; exact hd), if_pos rfl, mat_swapR hp hd hd, mat_swapR hp hd hd]
    unfold sw; rw [if_pos rfl, Rat.div_def, Rat.div_def]; grind
  unfold colR
  rw [mat_elimS (by rw [divR_len, swapR_len]; exact hi)]
  by_cases h : i = d
  · rw [if_pos h, if_neg (by omega), h, e]
  · rw [if_neg h, if_pos ⟨hi, h⟩, e, mat_divR (by rw [swapR_len]; exact hd), if_neg h, mat_divR (by rw [swapR_len]; exact hd), if_neg h, mat_swapR hp hd hi, mat_swapR hp hd hi]
/-! ### Rows that are combinations of rows -/
theorem choose_fn {α : Type} [Inhabited α] {m : Nat} {p : Nat → α → Prop} (h : ∀ t, t < m → ∃ c, p t c) : ∃ D : Nat → α, ∀ t, t < m → p t (D t) := by
  induction m with
  | zero => exact ⟨fun _ => default, fun t ht => absurd ht (Nat.not_lt_zero _)⟩
  | succ m ih =>
    obtain ⟨D, hD⟩ := ih fun t ht => h t (by omega)
    obtain ⟨c, hc⟩ := h m (by omega)
    refine ⟨fun t => if t = m then c else D t, fun t ht => ?_⟩
    by_cases e : t = m
    · subst e; simpa using hc
    · simp only [if_neg e]; exact hD t (by omega)
def Sub (A B : List (List Rat)) : Prop := ∀ i, i < A.length → ∃ c : Nat → Rat, ∀ k, mat A i k = sumk (fun t => c t * mat B t k) B.length
theorem Sub.trans {A B C : List (List Rat)} (h1 : Sub A B) (h2 : Sub B C) : Sub A C := fun i hi => by
  obtain ⟨c, hc⟩ := h1 i hi
  have hD : ∃ D : Nat → Nat → Rat, ∀ t, t < B.length → ∀ k, mat B t k = sumk (fun s => D t s * mat C s k) C.length :=
    choose_fn fun t ht => h2 t ht
  obtain ⟨D, hD⟩ := hD
  refine ⟨fun s => sumk (fun t => c t * D t s) B.length, fun k => ?_⟩
  rw [hc k, sumk_ext (g := fun t => sumk (fun s => c t * D t s * mat C s k) C.length) fun t ht => by
    rw [hD t ht k, ← sumk_mul]; exact sumk_ext fun s _ => by grind]
  rw [sumk_comm]
  exact sumk_ext fun s _ => sumk_mulr _ _ _
theorem Sub.two {A B : List (List Rat)} (h : ∀ i, i < A.length → ∃ p q x y, p < B.length ∧ q < B.length ∧ ∀ k, mat A i k = x * mat B p k + y * mat B q k) : Sub A B := fun i hi => by
  obtain ⟨p, q, x, y, hp, hq, h⟩ := h i hi
  refine ⟨fun t => (if t = p then x else 0) + (if t = q then y else 0), fun k => ?_⟩
  rw [h k, sumk_ext (g := fun t => (if t = p then x else 0) * mat B t k + (if t = q then y else 0) * mat B t k) fun t _ => by grind, sumk_add]
  rw [sumk_only hp fun t _ ht => by rw [if_neg ht, Rat.zero_mul], sumk_only hq fun t _ ht => by rw [if_neg ht, Rat.zero_mul], if_pos rfl, if_pos rfl]
theorem Sub.refl (A : List (List Rat)) : Sub A A := Sub.two fun i hi => ⟨i, i, 1, 0, hi, hi, fun k => by grind⟩
theorem Sub.swap {rows : List (List Rat)} {p d : Nat} (hp : p < rows.length) (hd : d < rows.length) : Sub (swapR rows p d) rows ∧ Sub rows (swapR rows p d) := by
  have hs : ∀ i, i < rows.length → sw p d i < rows.length := fun i hi => by unfold sw; split; exact hp; split; exact hd; exact hi
  have hss : ∀ i, sw p d (sw p d i) = i := fun i => by unfold sw; split <;> split <;> (try split) <;> omega
  refine ⟨Sub.two fun i hi => ?_, Sub.two fun i hi => ?_⟩
  · rw [swapR_len] at hi
    exact ⟨_, _, 1, 0, hs i hi, hs i hi, fun k => by rw [mat_swapR hp hd hi]; grind⟩
  · exact ⟨sw p d i, sw p d i, 1, 0, by rw [swapR_len]; exact hs i hi, by rw [swapR_len]; exact hs i hi, fun k => by rw [mat_swapR hp hd (hs i hi), hss]; grind⟩
theorem Sub.div {rows : List (List Rat)} {d k : Nat} (hd : d < rows.length) (hk : mat rows d k ≠ 0) : Sub (divR rows d k) rows ∧ Sub rows (divR rows d k) := by
  refine ⟨Sub.two fun i hi => ?_, Sub.two fun i hi => ?_⟩
  · rw [divR_len] at hi
    by_cases e : i = d
    · exact ⟨d, d, 1 / mat rows d k, 0, hd, hd, fun c => by rw [mat_divR hd, if_pos e]; grind⟩
    · exact ⟨i, i, 1, 0, hi, hi, fun c => by rw [mat_divR hd, if_neg e]; grind⟩
  · by_cases e : i = d
    · subst e
      refine ⟨i, i, mat rows i k, 0, by rw [divR_len]; exact hd, by rw [divR_len]; exact hd, fun c => ?_⟩
      rw [mat_divR hd, if_pos rfl, Rat.div_def, Rat.one_mul, ← Rat.mul_assoc, Rat.mul_inv_cancel _ hk]; grind
    · exact ⟨i, i, 1, 0, by rw [divR_len]; exact hi, by rw [divR_len]; exact hi, fun c => by rw [mat_divR hd, if_neg e]; grind⟩
theorem Sub.elim {rows : List (List Rat)} {d k i : Nat} (hd : d < rows.length) : Sub (elimS rows d k i) rows ∧ Sub rows (elimS rows d k i) := by
  refine ⟨Sub.two fun j hj => ?_, Sub.two fun j hj => ?_⟩
  · rw [elimS_len] at hj
    by_cases h : j < i ∧ j ≠ d
    · exact ⟨j, d, 1, -(mat rows j k), hj, hd, fun c => by rw [mat_elimS hj, if_pos h]; grind⟩
    · exact ⟨j, j, 1, 0, hj, hj, fun c => by rw [mat_elimS hj, if_neg h]; grind⟩
  · have hj' : j < (elimS rows d k i).length := by rw [elimS_len]; exact hj
    have hd' : d < (elimS rows d k i).length := by rw [elimS_len]; exact hd
    have ed : ∀ c, mat (elimS rows d k i) d c = mat rows d c := fun c => by rw [mat_elimS hd, if_neg (by omega)]
    by_cases h : j < i ∧ j ≠ d
    · exact ⟨j, d, 1, mat rows j k, hj', hd', fun c => by rw [mat_elimS hj, if_pos h, ed]; grind⟩
    · exact ⟨j, j, 1, 0, hj', hj', fun c => by rw [mat_elimS hj, if_neg h]; grind⟩
theorem Sub.col {rows : List (List Rat)} {d k p : Nat} (hp : p < rows.length) (hd : d < rows.length) (hk : mat rows p k ≠ 0) : Sub (colR rows d k p) rows ∧ Sub rows (colR rows d k p) := by
  have h1 := Sub.swap hp hd
  have h2 := Sub.div (rows := swapR rows p d) (d := d) (k := k) (by rw [swapR_len]; exact hd) (by rw [mat_swapR hp hd hd]; unfold sw; rw [if_pos rfl]; exact hk)
  have h3 := Sub.elim (rows := divR (swapR rows p d) d k) (d := d) (k := k) (i := rows.length) (by rw [divR_len, swapR_len]; exact hd)
  exact ⟨(h3.1.trans h2.1).trans h1.1, (h1.2.trans h2.2).trans h3.2⟩
/-! ### The state after n columns -/
def pvt (piv : List Int) (j : Nat) : Nat := (wd piv j).toNat
structure RI (rows0 rows : List (List Rat)) (piv : List Int) (n : Nat) : Prop where
  len : rows.length = rows0.length
  pl : piv.length ≤ rows.length
  nn : ∀ j, j < piv.length → wd piv j = (pvt piv j : Int)
  lt : ∀ j, j < piv.length → pvt piv j < n
  inc : ∀ i j, i < j → j < piv.length → pvt piv i < pvt piv j
  one : ∀ i j, i < rows.length → j < piv.length → mat rows i (pvt piv j) = if i = j then 1 else 0
  low : ∀ i k, piv.length ≤ i → k < n → mat rows i k = 0
  lead : ∀ i k, i < piv.length → k < pvt piv i → mat rows i k = 0
  fwd : Sub rows rows0
  bwd : Sub rows0 rows
theorem pf_nz {rows : List (List Rat)} {k d : Nat} (hd : d ≤ rows.length) (h : pf rows k d < rows.length) : d ≤ pf rows k d ∧ mat rows (pf rows k d) k ≠ 0 := ⟨(pf_is hd).1, (pf_is hd).2.2.2 h⟩
theorem RI.step {rows0 rows : List (List Rat)} {piv : List Int} {δ : Rat} {n : Nat} (h : RI rows0 rows piv n) : RI rows0 (colS (rows, piv, δ) n).1 (colS (rows, piv, δ) n).2.1 (n + 1) := by
  unfold colS
  split
  · rename_i hp
    simp only at hp
    obtain ⟨hdp, hnz⟩ := pf_nz h.pl hp
    generalize hP : pf rows n piv.length = p at *
    simp only [hP]
    have hd : piv.length < rows.length := by omega
    have e1 : ∀ j, j < piv.length → pvt (piv ++ [(n : Int)]) j = pvt piv j := fun j hj => by simp [pvt, wd, hj, List.getElem?_append_left hj]
    have e2 : pvt (piv ++ [(n : Int)]) piv.length = n := by simp [pvt, wd]
    have hm : ∀ i c, i < rows.length → mat (colR rows piv.length n p) i c = if i = piv.length then mat rows p c / mat rows p n else mat rows (sw p piv.length i) c - mat rows (sw p piv.length i) n * (mat rows p c / mat rows p n) := fun i c hi => mat_colR hp hd hi
    have hz : ∀ c, c < n → mat rows p c = 0 := fun c hc => h.low p c (by omega) hc
    have hz2 : ∀ c, c < n → mat rows p c / mat rows p n = 0 := fun c hc => by rw [hz c hc, Rat.div_def, Rat.zero_mul]
    have hlow : ∀ i k, piv.length + 1 ≤ i → k < n + 1 → mat (colR rows piv.length n p) i k = 0 := fun i k hi hk => by
      rcases Nat.lt_or_ge i rows.length with hl | hl
      · rw [hm i k hl, if_neg (by omega)]
        rcases Nat.lt_succ_iff_lt_or_eq.1 hk with hk | rfl
        · rw [hz2 k hk, Rat.mul_zero, h.low _ k (by unfold sw; split; omega; split <;> omega) hk]; grind
        · rw [Rat.div_def, Rat.mul_inv_cancel _ hnz]; grind
      · exact mat_ge1 (by rw [colR_len]; exact hl)
    have hc := Sub.col (d := piv.length) (k := n) hp hd hnz
    refine ⟨by rw [colR_len]; exact h.len, by simp only [List.length_append, List.length_singleton, colR_len]; omega, ?_, ?_, ?_, ?_, ?_, ?_, hc.1.trans h.fwd, h.bwd.trans hc.2⟩
    · intro j hj
      simp only [List.length_append, List.length_singleton] at hj
      rcases Nat.lt_succ_iff_lt_or_eq.1 hj with hj | rfl
      · rw [e1 j hj, ← h.nn j hj]; simp [wd, hj, List.getElem?_append_left hj]
      · rw [e2]; simp [wd]
    · intro j hj
      simp only [List.length_append, List.length_singleton] at hj
      rcases Nat.lt_succ_iff_lt_or_eq.1 hj with hj | rfl
      · rw [e1 j hj]; have := h.lt j hj; omega
      · rw [e2]; omega
    · intro i j hij hj
      simp only [List.length_append, List.length_singleton] at hj
      rcases Nat.lt_succ_iff_lt_or_eq.1 hj with hj | rfl
      · rw [e1 j hj, e1 i (by omega)]; exact h.inc i j hij hj
      · rw [e2, e1 i hij]; exact h.lt i hij
    · intro i j hi hj
      rw [colR_len] at hi
      simp only [List.length_append, List.length_singleton] at hj
      rcases Nat.lt_succ_iff_lt_or_eq.1 hj with hj | rfl
      · have hjn := h.lt j hj
        rw [e1 j hj, hm i _ hi, hz2 _ hjn]
        by_cases e : i = piv.length
        · rw [if_pos e, if_neg (by omega)]
        · rw [if_neg e]
          by_cases e3 : i = p
          · rw [show sw p piv.length i = piv.length by unfold sw; rw [if_neg e, if_pos e3], h.one _ j hd hj, if_neg (by omega), if_neg (by omega)]; grind
          · rw [show sw p piv.length i = i by unfold sw; rw [if_neg e, if_neg e3], h.one _ j hi hj]; grind
      · rw [e2, hm i _ hi]
        by_cases e : i = piv.length
        · rw [if_pos e, if_pos e, Rat.div_def, Rat.mul_inv_cancel _ hnz]
        · rw [if_neg e, if_neg e, Rat.div_def, Rat.mul_inv_cancel _ hnz]; grind
    · intro i k hi hk
      simp only [List.length_append, List.length_singleton] at hi
      exact hlow i k hi hk
    · intro i k hi hk
      simp only [List.length_append, List.length_singleton] at hi
      rcases Nat.lt_succ_iff_lt_or_eq.1 hi with hi | rfl
      · rw [e1 i hi] at hk
        have hin := h.lt i hi
        rw [hm i k (by omega), if_neg (by omega), hz2 k (by omega), show sw p piv.length i = i by unfold sw; rw [if_neg (by omega), if_neg (by omega)], h.lead i k hi hk]; grind
      · rw [e2] at hk
        rw [hm _ k hd, if_pos rfl, hz2 k hk]
  · rename_i hp
    simp only at hp
    have hp2 := pf_is (rows := rows) (k := n) h.pl
    refine ⟨h.len, h.pl, h.nn, fun j hj => Nat.lt_succ_of_lt (h.lt j hj), h.inc, h.one, fun i k hi hk => ?_, h.lead, h.fwd, h.bwd⟩
    rcases Nat.lt_succ_iff_lt_or_eq.1 hk with hk | rfl
    · exact h.low i k hi hk
    · rcases Nat.lt_or_ge i rows.length with hl | hl
      · exact hp2.2.2.1 i hi (by have := hp2.2.1; omega)
      · exact mat_ge1 hl
theorem redS_RI (rows : List (List Rat)) : ∀ n, RI rows (redS rows n).1 (redS rows n).2.1 n
  | 0 => ⟨rfl, Nat.zero_le _, fun _ h => absurd h (Nat.not_lt_zero _), fun _ h => absurd h (Nat.not_lt_zero _), fun _ _ _ h => absurd h (Nat.not_lt_zero _), fun _ _ _ h => absurd h (Nat.not_lt_zero _), fun _ _ _ h => absurd h (Nat.not_lt_zero _), fun _ _ h => absurd h (Nat.not_lt_zero _), Sub.refl _, Sub.refl _⟩
  | n + 1 => (redS_RI rows n).step (δ := (redS rows n).2.2)
theorem rect_ge {N : Nat} {rows : List (List Rat)} (h : rect N rows) {i k : Nat} (hk : N ≤ k) : mat rows i k = 0 := by
  rcases Nat.lt_or_ge i rows.length with hl | hl
  · exact mat_ge2 (by rw [h.row hl]; exact hk)
  · exact mat_ge1 hl
section
variable {rows0 rows : List (List Rat)} {piv : List Int} {n : Nat}
theorem RI.zero {N : Nat} (h : RI rows0 rows piv n) (hr : rect N rows) (hN : N ≤ n) (t k : Nat) (ht : piv.length ≤ t) : mat rows t k = 0 := by
  rcases Nat.lt_or_ge k n with hk | hk
  · exact h.low t k ht hk
  · exact rect_ge hr (by omega)
end
def rank (rows : List (List Rat)) (n : Nat) : Nat := (redS rows n).2.1.length
end Go.Proofs.YtknbjfefeeojlaaGreat
/- The determinant is what the elimination reckons; products, transposes, operations on rows: plain mathematics. -/
namespace Go.Proofs.YtknbjfefeeojlaaGreat
/-- Rows as columns. -/
def trA (rows : List (List Rat)) : MF := fun i j => mat rows j i
def detR (rows : List (List Rat)) (n : Nat) : Rat := if rank rows n < n then 0 else (redS rows n).2.2
section
variable {n : Nat} {g : MF → Rat}
theorem ColP.swapR (hg : ColP n g) {rows : List (List Rat)} (hl : rows.length = n) {p d : Nat} (hp : p < n) (hd : d < n) : g (trA (swapR rows p d)) = if p = d then g (trA rows) else - g (trA rows) := by
  split
  · rename_i h; subst h; rw [swapR_self]
  · rename_i h
    rw [← hg.swap _ d p hd hp (Ne.symm h)]
    refine hg.congr _ _ fun i j _ hj => ?_
    unfold trA swapc
    rw [mat_swapR (by omega) (by omega) (by omega)]; rfl
theorem ColP.divR (hg : ColP n g) {rows : List (List Rat)} (hl : rows.length = n) {d k : Nat} (hd : d < n) (hk : mat rows d k ≠ 0) : g (trA rows) = mat rows d k * g (trA (divR rows d k)) := by
  have h := hg.mul (trA rows) d (1 / mat rows d k) hd
  rw [show g (trA (Proofs.YtknbjfefeeojlaaGreat.divR rows d k)) = g (setc (trA rows) d fun i => 1 / mat rows d k * trA rows i d) from hg.congr _ _ fun i j _ hj => by
    unfold trA setc; rw [mat_divR (by omega)], h, Rat.div_def, Rat.one_mul, ← Rat.mul_assoc, Rat.mul_inv_cancel _ hk, Rat.one_mul]
theorem ColP.elim (hg : ColP n g) {rows : List (List Rat)} (hl : rows.length = n) {d k : Nat} (hd : d < n) : ∀ i, i ≤ n → g (trA (elimS rows d k i)) = g (trA rows)
  | 0, _ => by rw [elimS_zero]
  | i + 1, hi => by
    rw [← ColP.elim hg hl hd i (by omega)]
    by_cases e : i = d
    · rw [elimS_keep (by omega) (.inl e)]
    · rw [← hg.add (trA (elimS rows d k i)) i d (-(mat rows i k)) (by omega) hd e]
      refine hg.congr _ _ fun a j _ hj => ?_
      show mat (elimS rows d k (i + 1)) j a = if j = i then mat (elimS rows d k i) i a + -(mat rows i k) * mat (elimS rows d k i) d a else mat (elimS rows d k i) j a
      rw [mat_elimS (j := j) (by omega), mat_elimS (j := i) (by omega), mat_elimS (j := d) (by omega), mat_elimS (j := j) (by omega)]
      by_cases e2 : j = i
      · subst e2
        rw [if_pos ⟨by omega, e⟩, if_pos rfl, if_neg (by omega), if_neg (by omega)]; grind
      · rw [if_neg e2]
        by_cases e3 : j < i ∧ j ≠ d
        · rw [if_pos e3, if_pos ⟨by omega, e3.2⟩]
        · rw [if_neg e3, if_neg (by omega)]
theorem ColP.red (hg : ColP n g) {rows : List (List Rat)} (hl : rows.length = n) : ∀ k, g (trA rows) = (redS rows k).2.2 * g (trA (redS rows k).1)
  | 0 => by simp [redS]
  | k + 1 => by
    have ih := ColP.red hg hl k
    have hR := redS_RI rows k
    rw [redS, show redS rows k = ((redS rows k).1, (redS rows k).2.1, (redS rows k).2.2) from rfl]
    generalize (redS rows k).1 = R at *
    generalize (redS rows k).2.1 = p at *
    generalize (redS rows k).2.2 = δ at *
    have hRl : R.length = n := by rw [hR.len, hl]
    unfold colS
    split
    · rename_i hp
      simp only at hp
      obtain ⟨h1, h2⟩ := pf_nz hR.pl hp
      have hid : pf R k p.length < R.length := hp
      generalize pf R k p.length = q at *
      have hd : p.length < n := by omega
      have hq : q < n := by omega
      show _ = ((if q = p.length then δ else -δ) * mat (Proofs.YtknbjfefeeojlaaGreat.swapR R q p.length) p.length k) * g (trA (colR R p.length k q))
      have hs := hg.swapR hRl hq hd
      have hsl : (Proofs.YtknbjfefeeojlaaGreat.swapR R q p.length).length = n := by rw [swapR_len, hRl]
      have hnz : mat (Proofs.YtknbjfefeeojlaaGreat.swapR R q p.length) p.length k ≠ 0 := by
        rw [mat_swapR hp (by omega) (by omega)]; unfold sw; rw [if_pos rfl]; exact h2
      have hv := hg.divR hsl hd hnz
      have he := hg.elim (rows := Proofs.YtknbjfefeeojlaaGreat.divR (Proofs.YtknbjfefeeojlaaGreat.swapR R q p.length) p.length k) (by rw [divR_len, hsl]) hd (k := k) n (Nat.le_refl _)
      unfold colR
      rw [show R.length = n from hRl, he, ih]
      have e : g (trA R) = (if q = p.length then 1 else -1) * g (trA (Proofs.YtknbjfefeeojlaaGreat.swapR R q p.length)) := by
        rw [hs]; split <;> grind
      rw [e, hv]
      split <;> grind
    · exact ih
end
theorem gap (piv : List Int) (n : Nat) (h1 : ∀ i j, i < j → j < piv.length → pvt piv i < pvt piv j) (h2 : ∀ j, j < piv.length → pvt piv j < n) (hl : piv.length = n) : ∀ j, j < n → pvt piv j = j := by
  have lo : ∀ j, j < n → j ≤ pvt piv j := by
    intro j
    induction j with
    | zero => intro _; omega
    | succ j ih => intro hj; have := ih (by omega); have := h1 j (j + 1) (by omega) (by omega); omega
  have hi : ∀ d j, j < n → n - 1 - j = d → pvt piv j ≤ j := by
    intro d
    induction d with
    | zero => intro j hj he; have := h2 j (by omega); omega
    | succ d ih => intro j hj he; have := ih (j + 1) (by omega) (by omega); have := h1 j (j + 1) (by omega) (by omega); omega
  exact fun j hj => by have := lo j hj; have := hi _ j hj rfl; omega
/-- All columns bear pivots: the first n columns are those of the identity. -/
theorem RI.full {rows0 rows : List (List Rat)} {piv : List Int} {n : Nat} (h : RI rows0 rows piv n) (hp : piv.length = n) {i j : Nat} (hi : i < rows.length) (hj : j < n) : mat rows i j = if i = j then 1 else 0 := by
  have := h.one i j hi (by omega)
  rwa [gap piv n h.inc h.lt hp j hj] at this
theorem rank_le (rows : List (List Rat)) (n : Nat) : rank rows n ≤ n := by
  have hR := redS_RI rows n
  unfold rank
  generalize (redS rows n).2.1 = p at *
  have lo : ∀ j, j < p.length → j ≤ pvt p j := by
    intro j
    induction j with
    | zero => intro _; omega
    | succ j ih => intro hj; have := ih (by omega); have := hR.inc j (j + 1) (by omega) (by omega); omega
  rcases Nat.eq_zero_or_pos p.length with h | h
  · omega
  · have := lo (p.length - 1) (by omega); have := hR.lt (p.length - 1) (by omega); omega
/-- What the elimination reckons is what every such function is, up to its value at the identity. -/
theorem ColP.eq {n : Nat} {g : MF → Rat} (hg : ColP n g) {rows : List (List Rat)} (hl : rows.length = n) : g (trA rows) = detR rows n * g idf := by
  have hR := redS_RI rows n
  have h := hg.red hl n
  have hle := rank_le rows n
  unfold detR
  rw [h]
  unfold rank at *
  generalize (redS rows n).1 = R at *
  generalize (redS rows n).2.1 = p at *
  generalize (redS rows n).2.2 = δ at *
  split
  · rename_i hlt
    have h0 : g (trA R) = 0 := by
      have := hg.mul (trA R) (n - 1) 0 (by omega)
      rw [Rat.zero_mul] at this
      rw [← this]
      refine hg.congr _ _ fun i j hi hj => ?_
      unfold trA setc
      by_cases e : j = n - 1
      · rw [if_pos e, e, hR.low (n - 1) i (by omega) hi]; grind
      · rw [if_neg e]
    rw [h0, Rat.mul_zero, Rat.zero_mul]
  · rename_i hge
    rw [hg.congr (trA R) idf fun i j hi hj => by
      unfold trA idf
      rw [hR.full (by omega) (by rw [hR.len]; omega) hi]
      by_cases e : j = i
      · rw [if_pos e, if_pos e.symm]
      · rw [if_neg e, if_neg (Ne.symm e)]]
end Go.Proofs.YtknbjfefeeojlaaGreat
/- Systems of equations and the reduced form: plain mathematics for the laws of layer 5. -/
namespace Go.Proofs.YtknbjfefeeojlaaGreat
theorem vat_set (l : List Rat) (a : Nat) (x : Rat) (j : Nat) : vat (l.set a x) j = if j = a ∧ a < l.length then x else vat l j := by
  unfold vat
  rw [List.getD_eq_getElem?_getD, List.getElem?_set]
  by_cases e : a = j
  · subst e
    rw [if_pos rfl]
    by_cases h : a < l.length
    · rw [if_pos h, if_pos ⟨rfl, h⟩]; rfl
    · rw [if_neg h, if_neg (by omega), List.getD_eq_getElem?_getD, List.getElem?_eq_none (by omega)]
  · rw [if_neg e, if_neg (fun h => e h.1.symm), List.getD_eq_getElem?_getD]
section
variable {rows0 rows : List (List Rat)} {piv : List Int} {n N : Nat}
end
end Go.Proofs.YtknbjfefeeojlaaGreat
/- What the laws of layer 5 ask of package solve's functions: the reduced form of a matrix, sizes. -/
namespace Go.Proofs.YtknbjfefeeojlaaGreat
open Go.RowKit
attribute [local irreducible] RV VH V OpF Calls
theorem szV.set {L : Nat} {xs : List Rat} (h : szV L xs) {i : Nat} {r : Rat} (hr : sz L r) : szV L (xs.set i r) := fun x hx => by
  rcases List.mem_or_eq_of_mem_set hx with h' | rfl
  · exact h x h'
  · exact hr
theorem rect.row_le {N : Nat} {rows : List (List Rat)} (h : rect N rows) (i : Nat) : (rowat rows i).length ≤ N := Proofs.YtknbjfefeeojlaaGreat.row_le (fun r hr => Nat.le_of_eq (h r hr)) i
section
variable {L : Nat} {S S1 S2 : Nat → Prop} {a1 a2 : Option Addr} {n c m d : Nat} {rss : List (List Rat)} {bs : List Rat}
theorem MA.mono {L' : Nat} {S : Nat → Prop} {W : World} (h : MA L S W a1 n c rss) (hL : L ≤ L') : MA L' S W a1 n c rss := by
  obtain ⟨qs, h1, h2⟩ := h
  exact ⟨qs, h1, h2.imp fun _ _ ⟨a, n, c, e, hr⟩ => ⟨a, n, c, e, hr.mono hL⟩⟩
end
end Go.Proofs.YtknbjfefeeojlaaGreat

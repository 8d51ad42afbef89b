/- Vectors and matrices of the program: slices whose elements take several cells. -/
import Derived.Test.YtknbjfefeeojlaaFc
namespace Go.Proofs.Ytknbjfefeeojlaa
open Go.RowKit
def All2 {α β : Type} (p : α → β → Prop) : List α → List β → Prop
  | [], [] => True
  | x :: xs, y :: ys => p x y ∧ All2 p xs ys
  | _, _ => False
section
variable {α β γ : Type} {p p' : α → β → Prop}
theorem All2.imp (h : ∀ x y, p x y → p' x y) : ∀ {xs : List α} {ys : List β}, All2 p xs ys → All2 p' xs ys
  | [], [], _ => trivial
  | _ :: _, _ :: _, ⟨h1, h2⟩ => ⟨h _ _ h1, All2.imp h h2⟩
theorem All2.len : ∀ {xs : List α} {ys : List β}, All2 p xs ys → xs.length = ys.length
  | [], [], _ => rfl
  | _ :: xs, _ :: ys, ⟨_, h2⟩ => by simp [All2.len h2]
  | [], _ :: _, h => h.elim
  | _ :: _, [], h => h.elim
theorem All2.snoc : ∀ {xs : List α} {ys : List β} {x : α} {y : β}, All2 p xs ys → p x y → All2 p (xs ++ [x]) (ys ++ [y])
  | [], [], _, _, _, h => ⟨h, trivial⟩
  | _ :: _, _ :: _, _, _, ⟨h1, h2⟩, h => ⟨h1, All2.snoc h2 h⟩
theorem All2.get : ∀ {xs : List α} {ys : List β} {k : Nat} {x : α}, All2 p xs ys → xs[k]? = some x → ∃ y, ys[k]? = some y ∧ p x y
  | _ :: _, _ :: _, 0, _, ⟨h1, _⟩, h => by simp at h; subst h; exact ⟨_, rfl, h1⟩
  | _ :: _, _ :: _, k + 1, _, ⟨_, h2⟩, h => by simp at h; simpa using All2.get h2 h
theorem All2.set : ∀ {xs : List α} {ys : List β} {k : Nat} {x : α} {y : β}, All2 p xs ys → p x y → All2 p (xs.set k x) (ys.set k y)
  | [], [], _, _, _, _, _ => trivial
  | _ :: _, _ :: _, 0, _, _, ⟨_, h2⟩, h => ⟨h, h2⟩
  | _ :: _, _ :: _, k + 1, _, _, ⟨h1, h2⟩, h => ⟨h1, All2.set h2 h⟩
theorem All2.map {q : α → γ → Prop} (f : β → γ) (h : ∀ x y, p x y → q x (f y)) : ∀ {xs : List α} {ys : List β}, All2 p xs ys → All2 q xs (ys.map f)
  | [], [], _ => trivial
  | _ :: _, _ :: _, ⟨h1, h2⟩ => ⟨h _ _ h1, All2.map f h h2⟩
theorem All2.take : ∀ {xs : List α} {ys : List β} (k : Nat), All2 p xs ys → All2 p (xs.take k) (ys.take k)
  | [], [], _, _ => by simp [All2]
  | _ :: _, _ :: _, 0, _ => by simp [All2]
  | _ :: _, _ :: _, k + 1, ⟨h1, h2⟩ => ⟨h1, All2.take k h2⟩
theorem All2.drop : ∀ {xs : List α} {ys : List β} (k : Nat), All2 p xs ys → All2 p (xs.drop k) (ys.drop k)
  | [], [], _, _ => by simp [All2]
  | _ :: _, _ :: _, 0, h => h
  | _ :: _, _ :: _, k + 1, ⟨_, h2⟩ => by simpa using All2.drop k h2
theorem All2.rep {x : α} {y : β} (h : p x y) : ∀ n, All2 p (List.replicate n x) (List.replicate n y)
  | 0 => trivial
  | n + 1 => ⟨h, All2.rep h n⟩
end
/-- A slice whose elements have s cells each: these are qs. -/
structure RS (s : Nat) (S : Nat → Prop) (W : World) (a : Option Addr) (n c : Nat) (qs : List (List Value)) : Prop where
  len : qs.length = n
  cap : n ≤ c
  max : c ≤ 9223372036854775807
  wd : ∀ q ∈ qs, q.length = s
  at_ : 0 < n → ∃ b off cs T fz, a = some ⟨b, off, none⟩ ∧ S b ∧ W.heap[b]? = some (.cells cs T fz) ∧ ∀ k q, qs[k]? = some q → ∀ j u, q[j]? = some u → cs[off + k * s + j]? = some u
section
variable {s : Nat} {S S' : Nat → Prop} {W W' : World} {a : Option Addr} {n c : Nat} {qs : List (List Value)}
theorem RS.ck (h : RS s S W a n c qs) (x : CK S W W') : RS s S W' a n c qs :=
  ⟨h.len, h.cap, h.max, h.wd, fun hn => by
    obtain ⟨b, off, cs, T, fz, e, hs, hb, hc⟩ := h.at_ hn
    exact ⟨b, off, cs, T, fz, e, hs, x.2 b cs T fz hs hb, hc⟩⟩
theorem RS.sub (h : RS s S W a n c qs) (hs : ∀ b, b < W.heap.size → S b → S' b) : RS s S' W a n c qs :=
  ⟨h.len, h.cap, h.max, h.wd, fun hn => by
    obtain ⟨b, off, cs, T, fz, e, h1, hb, hc⟩ := h.at_ hn
    exact ⟨b, off, cs, T, fz, e, hs b (Array.getElem?_eq_some_iff.1 hb).1 h1, hb, hc⟩⟩
theorem RS.nil (s : Nat) (S : Nat → Prop) (W : World) (a : Option Addr) (c : Nat) (hc : c ≤ 9223372036854775807) : RS s S W a 0 c [] := ⟨rfl, Nat.zero_le _, hc, by simp, fun h => absurd h (by omega)⟩
theorem RS.isS (h : RS s S W a n c qs) {i : Int} (hi : 0 ≤ i) (hn : i < n) : a.isSome = true := by
  obtain ⟨b, off, cs, T, fz, rfl, _⟩ := h.at_ (by omega); rfl
/-- The cells of an element. -/
theorem RS.el (h : RS s S W a n c qs) {i : Int} (hi : 0 ≤ i) (hn : i < n) : ∃ q, qs[i.toNat]? = some q ∧ q.length = s ∧ ∀ j u, q[j]? = some u → W.cell? ((adr a i s).add j) = some u := by
  obtain ⟨b, off, cs, T, fz, rfl, hs, hb, hc⟩ := h.at_ (by omega)
  have hl := h.len
  have hlt : i.toNat < qs.length := by omega
  refine ⟨qs[i.toNat], List.getElem?_eq_getElem hlt, h.wd _ (List.getElem_mem hlt), fun j u hj => ?_⟩
  simp only [adr, addO]
  simp [World.cell?, hb, hc _ _ (List.getElem?_eq_getElem hlt) j u hj]
/-- A part of it. -/
theorem RS.cut (h : RS s S W a n c qs) {l m : Nat} (h0 : l ≤ m) (hm : m ≤ n) : RS s S W (if c = l then a else a.map (·.add (l * s))) (m - l) (c - l) ((qs.take m).drop l) :=
  ⟨by have := h.len; simp; omega, by have := h.cap; omega, by have := h.max; omega, fun q hq => h.wd q (List.mem_of_mem_take (List.mem_of_mem_drop hq)), fun hn => by
    obtain ⟨b, off, cs, T, fz, rfl, hs, hb, hc⟩ := h.at_ (by omega)
    have hcap := h.cap
    refine ⟨b, off + l * s, cs, T, fz, by rw [if_neg (by omega)]; simp [addO], hs, hb, fun k q hk j u hj => ?_⟩
    rw [List.getElem?_drop, List.getElem?_take] at hk
    split at hk
    · have := hc (l + k) q hk j u hj
      rw [Nat.add_mul] at this
      rw [← this]; congr 1; omega
    · cases hk⟩
end

/-! ### Vectors -/
def GX (S : Nat → Prop) (W : World) (a : Option Addr) (n c : Nat) (ρs : List RawQ) : Prop := ∃ qs, RS 4 S W a n c qs ∧ All2 (QX S W) qs ρs
def GA (L : Nat) (S : Nat → Prop) (W : World) (a : Option Addr) (n c : Nat) (rs : List Rat) : Prop := ∃ qs, RS 4 S W a n c qs ∧ All2 (QA L S W) qs rs
def GC (S : Nat → Prop) (W : World) (a : Option Addr) (n c : Nat) (rs : List Rat) : Prop := ∃ qs, RS 4 S W a n c qs ∧ All2 (QC S W) qs rs
def szV (L : Nat) (rs : List Rat) : Prop := ∀ r ∈ rs, sz L r
/-- The element at i, or 0 beyond the end. -/
def vat (rs : List Rat) (i : Nat) : Rat := rs.getD i 0
section
variable {L L' : Nat} {S S' : Nat → Prop} {W W' : World} {a : Option Addr} {n c : Nat} {ρs : List RawQ} {rs : List Rat} {bs : List Nat}
theorem GA.ck (h : GA L S W a n c rs) (x : CK S W W') : GA L S W' a n c rs := by obtain ⟨qs, h1, h2⟩ := h; exact ⟨qs, h1.ck x, h2.imp fun _ _ h => h.ck x⟩
theorem GA.ext (h : GA L S W a n c rs) (x : Ext W W') : GA L S W' a n c rs := h.ck (x.ck S)
theorem GA.sub (h : GA L S W a n c rs) (hs : ∀ b, b < W.heap.size → S b → S' b) : GA L S' W a n c rs := by obtain ⟨qs, h1, h2⟩ := h; exact ⟨qs, h1.sub hs, h2.imp fun _ _ h => h.sub hs⟩
theorem GA.un (h : GA L (SX S bs) W a n c rs) : GA L S W a n c rs := h.sub fun _ _ h => h.1
theorem GA.top (h : GA L S W a n c rs) : GA L (fun _ => True) W a n c rs := h.sub fun _ _ _ => trivial
theorem GA.mono (h : GA L S W a n c rs) (hL : L ≤ L') : GA L' S W a n c rs := by obtain ⟨qs, h1, h2⟩ := h; exact ⟨qs, h1, h2.imp fun _ _ h => h.mono hL⟩
theorem GA.len (h : GA L S W a n c rs) : rs.length = n := by obtain ⟨qs, h1, h2⟩ := h; rw [← h2.len, h1.len]
theorem GA.max (h : GA L S W a n c rs) : n ≤ c ∧ c ≤ 9223372036854775807 := by obtain ⟨qs, h1, h2⟩ := h; exact ⟨h1.cap, h1.max⟩
theorem GC.ck (h : GC S W a n c rs) (x : CK S W W') : GC S W' a n c rs := by obtain ⟨qs, h1, h2⟩ := h; exact ⟨qs, h1.ck x, h2.imp fun _ _ h => h.ck x⟩
theorem GC.ext (h : GC S W a n c rs) (x : Ext W W') : GC S W' a n c rs := h.ck (x.ck S)
theorem GC.sub (h : GC S W a n c rs) (hs : ∀ b, b < W.heap.size → S b → S' b) : GC S' W a n c rs := by obtain ⟨qs, h1, h2⟩ := h; exact ⟨qs, h1.sub hs, h2.imp fun _ _ h => h.sub hs⟩
theorem GC.un (h : GC (SX S bs) W a n c rs) : GC S W a n c rs := h.sub fun _ _ h => h.1
theorem GC.len (h : GC S W a n c rs) : rs.length = n := by obtain ⟨qs, h1, h2⟩ := h; rw [← h2.len, h1.len]
theorem GC.max (h : GC S W a n c rs) : n ≤ c ∧ c ≤ 9223372036854775807 := by obtain ⟨qs, h1, h2⟩ := h; exact ⟨h1.cap, h1.max⟩
theorem GC.cast {rs' : List Rat} (h : GC S W a n c rs) (e : rs = rs') : GC S W a n c rs' := e ▸ h
theorem GC.va (h : GC S W a n c rs) (hs : szV L rs) : GA L S W a n c rs := by
  obtain ⟨qs, h1, h2⟩ := h
  refine ⟨qs, h1, ?_⟩
  clear h1
  induction qs generalizing rs with
  | nil => cases rs <;> simp_all [All2]
  | cons q qs ih => cases rs with
    | nil => exact h2.elim
    | cons r rs => exact ⟨QC.qa h2.1 (hs r (by simp)), ih (fun x hx => hs x (by simp [hx])) h2.2⟩
theorem GA.szv (h : GA L S W a n c rs) (hL : 1 ≤ L) : szV L rs := by
  obtain ⟨qs, h1, h2⟩ := h
  intro r hr
  obtain ⟨k, hk⟩ := List.getElem?_of_mem hr
  have hl := h2.len
  have : k < qs.length := by rw [hl]; exact (List.getElem?_eq_some_iff.1 hk).1
  obtain ⟨y, e, hy⟩ := h2.get (List.getElem?_eq_getElem this)
  rw [hk] at e; cases e
  exact hy.sz' hL
theorem GX.ck (h : GX S W a n c ρs) (x : CK S W W') : GX S W' a n c ρs := by obtain ⟨qs, h1, h2⟩ := h; exact ⟨qs, h1.ck x, h2.imp fun _ _ h => h.ck x⟩
theorem GX.ext (h : GX S W a n c ρs) (x : Ext W W') : GX S W' a n c ρs := h.ck (x.ck S)
theorem GX.sub (h : GX S W a n c ρs) (hs : ∀ b, b < W.heap.size → S b → S' b) : GX S' W a n c ρs := by obtain ⟨qs, h1, h2⟩ := h; exact ⟨qs, h1.sub hs, h2.imp fun _ _ h => h.sub hs⟩
theorem GX.len (h : GX S W a n c ρs) : ρs.length = n := by obtain ⟨qs, h1, h2⟩ := h; rw [← h2.len, h1.len]
theorem GX.va (h : GX S W a n c ρs) (hs : ∀ ρ ∈ ρs, szQ L ρ) : GA L S W a n c (ρs.map qval) := by
  obtain ⟨qs, h1, h2⟩ := h
  refine ⟨qs, h1, ?_⟩
  clear h1
  induction qs generalizing ρs with
  | nil => cases ρs <;> simp_all [All2]
  | cons q qs ih => cases ρs with
    | nil => exact h2.elim
    | cons r rs => exact ⟨⟨r, h2.1, hs r (by simp), rfl⟩, ih (fun x hx => hs x (by simp [hx])) h2.2⟩
/-- An element. -/
theorem GA.el (h : GA L S W a n c rs) {i : Int} (hi : 0 ≤ i) (hn : i < n) : ∃ n1 a1 l1 c1 n2 a2 l2 c2, QA L S W [.bool n1, .slice a1 l1 c1, .bool n2, .slice a2 l2 c2] (vat rs i.toNat) ∧
    ∀ j u, ([.bool n1, .slice a1 l1 c1, .bool n2, .slice a2 l2 c2] : List Value)[j]? = some u → W.cell? ((adr a i 4).add j) = some u := by
  obtain ⟨qs, h1, h2⟩ := h
  obtain ⟨q, h3, h4, h5⟩ := h1.el hi hn
  obtain ⟨r, h6, h7⟩ := h2.get h3
  obtain ⟨n1, a1, l1, c1, n2, a2, l2, c2, rfl⟩ := h7.form
  refine ⟨n1, a1, l1, c1, n2, a2, l2, c2, ?_, h5⟩
  have : vat rs i.toNat = r := by unfold vat; rw [List.getD_eq_getElem?_getD, h6]; rfl
  rw [this]; exact h7
end
section
variable {r : Option Nat} {P : Program} {ops : Array Oper} {R : Env → World → Prop} {l : List Oper} {E : Env} {W W' : World} {t : Tmp} {d : Option Tmp} {ty T T' e : TypeId} {pos : String} {af : Array Edge} {g : Option (Nat × Bool)} {x y : Operand} {K : Value → World → Prop} {ρ : Operand → Value} {v : Value}
theorem vldQ {L : Nat} {S : Nat → Prop} {a : Option Addr} {n c : Nat} {rs : List Rat} {i : Int} (h : GA L S W a n c rs) (hx : ev E x = .pointer (some (adr a i 4))) (hT : Ag P T 4) (h0 : 0 ≤ i) (h1 : i < n)
    (K : ∀ n1 a1 l1 c1 n2 a2 l2 c2, QA L S W [.bool n1, .slice a1 l1 c1, .bool n2, .slice a2 l2 c2] (vat rs i.toNat) → RV r P ops R l (up E t (.agg #[.bool n1, .slice a1 l1 c1, .bool n2, .slice a2 l2 c2])) W) : RV r P ops R (⟨some t, .load T x, ty, pos, af, none⟩ :: l) E W := by
  obtain ⟨n1, a1, l1, c1, n2, a2, l2, c2, hq, hc⟩ := h.el h0 h1
  exact vv (rldn (l := [.bool n1, .slice a1 l1 c1, .bool n2, .slice a2 l2 c2]) hx hT rfl hc) (K _ _ _ _ _ _ _ _ hq)
end

/-! ### A slice that the call appends to -/
structure OS (s : Nat) (B : Nat) (W : World) (e : TypeId) (v : Value) (qs : List (List Value)) : Prop where
  row : W.ownsRow B e s v qs.length qs.flatten
  wd : ∀ q ∈ qs, q.length = s
section
variable {r : Option Nat} {P : Program} {ρ : Operand → Value} {W W' : World} {d : Option Tmp} {op : Op} {ty T e : TypeId} {pos : String} {af : Array Edge} {g : Option (Nat × Bool)} {x y : Operand} {v u : Value} {K : Value → World → Prop} {s B : Nat} {qs : List (List Value)}
theorem flat_get {qs : List (List Value)} {s : Nat} (hw : ∀ q ∈ qs, q.length = s) {k : Nat} {q : List Value} (hk : qs[k]? = some q) {j : Nat} (hj : j < s) : qs.flatten[k * s + j]? = q[j]? := by
  induction qs generalizing k with
  | nil => simp at hk
  | cons p qs ih =>
    have hp := hw p (by simp)
    cases k with
    | zero => simp at hk; subst hk; rw [List.flatten_cons, Nat.zero_mul, Nat.zero_add, List.getElem?_append_left (by omega)]
    | succ k =>
      simp at hk
      rw [List.flatten_cons, List.getElem?_append_right (by rw [Nat.succ_mul]; omega), hp, ← ih (fun q hq => hw q (by simp [hq])) hk]
      congr 1; rw [Nat.succ_mul]; omega
theorem OS.form (h : OS s B W e v qs) : ∃ a c, v = .slice a qs.length c := by
  rcases h.row.2 with ⟨rfl, h0⟩ | ⟨b, cap, cur, rfl, _⟩
  · exact ⟨none, 0, by rw [h0]⟩
  · exact ⟨_, cap, rfl⟩
theorem OS.rs {S : Nat → Prop} {a : Option Addr} {n c : Nat} (h : OS s B W e (.slice a n c) qs) (hS : ∀ b, B ≤ b → b < W.heap.size → S b) : RS s S W a n c qs := by
  rcases h.row.2 with ⟨h1, h0⟩ | ⟨b, cap, cur, h1, hb, hh, hn, hm, hs, ht⟩
  · injection h1 with h1 h2 h3
    subst h1 h2 h3
    have : qs = [] := List.eq_nil_of_length_eq_zero h0
    subst this
    exact RS.nil _ _ _ _ _ (by omega)
  · injection h1 with h1 h2 h3
    subst h1 h2 h3
    refine ⟨rfl, hn, by simp only [maxLen] at hm; omega, h.wd, fun h0 => ⟨b, 0, cur, e, (0,0), rfl, hS b hb (Array.getElem?_eq_some_iff.1 hh).1, hh, fun k q hk j u hj => ?_⟩⟩
    have hq := h.wd q (List.mem_of_getElem? hk)
    have hj2 : j < s := by rw [← hq]; exact (List.getElem?_eq_some_iff.1 hj).1
    have h5 := flat_get h.wd hk hj2
    rw [← ht, hj, List.getElem?_take] at h5
    split at h5
    · simpa using h5
    · cases h5
theorem OS.nil (s B : Nat) (W : World) (e : TypeId) : OS s B W e (.slice none 0 0) [] := ⟨World.ownsRow_nil _ _ _ _, by simp⟩
theorem OS.ck {S : Nat → Prop} (h : OS s B W e v qs) (hx : CK S W W') (hS : ∀ b, v.ownBlock = some b → S b) : OS s B W' e v qs := by
  refine ⟨⟨h.row.1, ?_⟩, h.wd⟩
  rcases h.row.2 with h1 | ⟨b, cap, cur, rfl, hb, hh, rest⟩
  · exact .inl h1
  · exact .inr ⟨b, cap, cur, rfl, hb, hx.2 b cur e (0,0) (hS b rfl) hh, rest⟩
theorem OS.ext (h : OS s B W e v qs) (hx : Ext W W') : OS s B W' e v qs := h.ck (hx.ck fun _ => True) fun _ _ => trivial
theorem OS.low (h : OS s B W e v qs) : ∀ b, v.ownBlock = some b → B ≤ b ∧ b < W.heap.size := h.row.lt
theorem OS.neBox {b : Nat} {cs : List Value} (h : OS s B W e v qs) (hb : BoxAt W b cs T) (hT : T ≠ e) : v.ownBlock ≠ some b := by
  rcases h.row.2 with ⟨rfl, _⟩ | ⟨b', cap, cur, rfl, _, hh, _⟩
  · simp [Value.ownBlock]
  · intro e0
    simp only [Value.ownBlock, Option.some.injEq] at e0
    subst e0
    unfold BoxAt at hb
    rw [hb] at hh
    injection hh with hh
    injection hh with _ h2 _
    exact hT h2
theorem KB.grownS {n : Nat} (h : OS s B W e v qs) (hg : W.grownBy W' v.ownBlock) (hn : n ≤ B) (hB : n ≤ W.heap.size) : KB n W W' :=
  ⟨(Below.refl n W).grown hg hB fun b e => Nat.le_trans hn (h.low b e).1, fun k o hk ho => by
    refine (hg.block k (Array.getElem?_eq_some_iff.1 hk).1 ?_).trans hk
    intro e0
    rcases h.row.2 with ⟨rfl, _⟩ | ⟨b', cap, cur, rfl, _, hh, _⟩
    · cases e0
    · simp only [Value.ownBlock, Option.some.injEq] at e0
      subst e0; rw [hh] at hk; cases hk; simp [Obj.isCells] at ho⟩
/-- append(v, q): the one element stands in a block of its own. -/
theorem xappS {t1 : TypeId} {b c1 bytes : Nat} {z : Value} {q : List Value} (hS : Sl P t1 e) (hi : ∃ i, P.info? e = some i ∧ i.size = s ∧ i.bytes = bytes ∧ i.zero = some z) (hzs : Nat.beq z.cells.size s = true) (hs0 : Nat.blt 0 s = true) (hO : OS s B W e v qs) (hx : ρ x = v) (hy : ρ y = .slice (some ⟨b, 0, none⟩) 1 c1) (hb : BoxAt W b q e) (hq : Nat.beq q.length s = true) (ho : (q.all Value.oneCell') = true)
    (hlen : (qs.length + 1) * bytes ≤ 140737488355328) (hbp : 0 < bytes) (hB : B ≤ W.heap.size)
    (hk2 : ∀ v' W', OS s B W' e v' (qs ++ [q]) → W.grownBy W' v.ownBlock → (v'.ownBlock = v.ownBlock ∨ v'.ownBlock = some W.heap.size) → K v' W') :
    OpF r P ρ ⟨d, .call ⟨.builtin .append, #[x, y], #[t1, t1]⟩, ty, pos, af, g⟩ W K := by
  obtain ⟨i, h1, h2, h3, h4⟩ := hi
  have hq' : q.length = s := Nat.eq_of_beq_eq_true hq
  have hle : qs.length + 1 ≤ 140737488355328 := Nat.le_trans (Nat.le_mul_of_pos_right _ hbp) hlen
  obtain ⟨v', W', hr, h5, h6, h7, h8⟩ := run_append_own_at (P := P) W B t1 ty e i z s bytes hS h1 h4 h2 h3 (Nat.eq_of_beq_eq_true hzs) (by have := Nat.le_of_ble_eq_true hs0; omega) v qs.length _ hO.row ⟨b, 0, none⟩ 1 c1 q (by omega)
    (by intro j u hj; rw [addO, Nat.zero_add]; exact hb.cell j hj) (by simpa using ho) (by simp only [maxLen]; omega) hlen hB
  unfold OpF execOp
  simp only [resolve, invoke, builtin, Sem.run_bind, Sem.run_pure, Result.andThen_ok, List.map_toArray, List.map_cons, List.map_nil, hx, hy, hr]
  refine hk2 v' W' ⟨by simpa using h5, ?_⟩ h6 h8
  intro p hp
  rcases List.mem_append.1 hp with hp | hp
  · exact hO.wd p hp
  · simp at hp; subst hp; exact hq'
end

/-! ### Elements by their cells -/
def form4 (q : List Value) : Prop := ∃ n1 a1 l1 c1 n2 a2 l2 c2, q = [.bool n1, .slice a1 l1 c1, .bool n2, .slice a2 l2 c2]
def zq : List Value := [.bool false, .slice none 0 0, .bool false, .slice none 0 0]
theorem form4_zq : form4 zq := ⟨_, _, _, _, _, _, _, _, rfl⟩
def qat (qs : List (List Value)) (i : Nat) : List Value := qs.getD i zq
theorem qat_form {qs : List (List Value)} (h : ∀ q ∈ qs, form4 q) (i : Nat) : form4 (qat qs i) := by
  unfold qat
  rw [List.getD_eq_getElem?_getD]
  cases hq : qs[i]? with
  | none => exact form4_zq
  | some q => exact h q (List.mem_of_getElem? hq)
theorem All2.form {L : Nat} {S : Nat → Prop} {W : World} : ∀ {qs : List (List Value)} {rs : List Rat}, All2 (QA L S W) qs rs → ∀ q ∈ qs, form4 q
  | _ :: _, _ :: _, ⟨h1, h2⟩, q, hq => by
    rcases List.mem_cons.1 hq with rfl | hq
    · exact h1.form
    · exact All2.form h2 q hq
theorem QA.zero {L : Nat} (S : Nat → Prop) (W : World) : QA L S W zq 0 := ⟨⟨false, [], false, []⟩, ⟨_, _, _, _, _, _, rfl, RN.nil _ _ _ _ _ (by omega), RN.nil _ _ _ _ _ (by omega)⟩, ⟨Nat.zero_le _, Nat.zero_le _⟩, by simp [qval, zval, vl, qv]⟩
theorem All2.qat {L : Nat} {S : Nat → Prop} {W : World} {qs : List (List Value)} {rs : List Rat} (h : All2 (QA L S W) qs rs) (i : Nat) : QA L S W (qat qs i) (vat rs i) := by
  unfold Go.Proofs.Ytknbjfefeeojlaa.qat vat
  rw [List.getD_eq_getElem?_getD, List.getD_eq_getElem?_getD]
  cases hq : qs[i]? with
  | none =>
    have : rs[i]? = none := by rw [List.getElem?_eq_none_iff, ← h.len]; exact List.getElem?_eq_none_iff.1 hq
    rw [this]; exact QA.zero S W
  | some q =>
    obtain ⟨r, e, hr⟩ := h.get hq
    rw [e]; exact hr
section
variable {r : Option Nat} {P : Program} {ops : Array Oper} {R : Env → World → Prop} {l : List Oper} {E : Env} {W : World} {t : Tmp} {ty T : TypeId} {pos : String} {af : Array Edge} {x : Operand}
theorem RS.el4 {S : Nat → Prop} {a : Option Addr} {n c : Nat} {qs : List (List Value)} (h : RS 4 S W a n c qs) (hf : ∀ q ∈ qs, form4 q) {i : Int} (hi : 0 ≤ i) (hn : i < n) : ∃ n1 a1 l1 c1 n2 a2 l2 c2, qat qs i.toNat = [.bool n1, .slice a1 l1 c1, .bool n2, .slice a2 l2 c2] ∧
    ∀ j u, ([.bool n1, .slice a1 l1 c1, .bool n2, .slice a2 l2 c2] : List Value)[j]? = some u → W.cell? ((adr a i 4).add j) = some u := by
  obtain ⟨q, h3, h4, h5⟩ := h.el hi hn
  obtain ⟨n1, a1, l1, c1, n2, a2, l2, c2, rfl⟩ := hf q (List.mem_of_getElem? h3)
  refine ⟨n1, a1, l1, c1, n2, a2, l2, c2, ?_, h5⟩
  unfold qat; rw [List.getD_eq_getElem?_getD, h3]; rfl
theorem vldR {S : Nat → Prop} {a : Option Addr} {n c : Nat} {qs : List (List Value)} {i : Int} (h : RS 4 S W a n c qs) (hf : ∀ q ∈ qs, form4 q) (hx : ev E x = .pointer (some (adr a i 4))) (hT : Ag P T 4) (h0 : 0 ≤ i) (h1 : i < n)
    (K : ∀ n1 a1 l1 c1 n2 a2 l2 c2, qat qs i.toNat = [.bool n1, .slice a1 l1 c1, .bool n2, .slice a2 l2 c2] → RV r P ops R l (up E t (.agg #[.bool n1, .slice a1 l1 c1, .bool n2, .slice a2 l2 c2])) W) : RV r P ops R (⟨some t, .load T x, ty, pos, af, none⟩ :: l) E W := by
  obtain ⟨n1, a1, l1, c1, n2, a2, l2, c2, hq, hc⟩ := h.el4 hf h0 h1
  exact vv (rldn (l := [.bool n1, .slice a1 l1 c1, .bool n2, .slice a2 l2 c2]) hx hT rfl hc) (K _ _ _ _ _ _ _ _ hq)
end
theorem RS.kd {s : Nat} {D : Nat → Prop} {W W' : World} {a : Option Addr} {n c : Nat} {qs : List (List Value)} (h : RS s D W a n c qs) (x : KD D W W') : RS s D W' a n c qs := h.ck x.ck
theorem RS.ext {s : Nat} {S : Nat → Prop} {W W' : World} {a : Option Addr} {n c : Nat} {qs : List (List Value)} (h : RS s S W a n c qs) (x : Ext W W') : RS s S W' a n c qs := h.ck (x.ck S)
/-- An array, built out of its elements. -/
theorem rba {P : Program} {ρ : Operand → Value} {W : World} {d : Option Tmp} {ty T e : TypeId} {pos : String} {af : Array Edge} {g : Option (Nat × Bool)} {n s : Nat} {cs zs : List Value} {parts : Array (Nat × Operand)} {ps : List (Nat × Value)} (hT : P.underlying T = some (.array n e)) (hs : Sz P e s) (hz : Zc P T zs) (hp' : (parts.toList.map fun p => (p.1, ρ p.2)) = ps) (hf : Instr.fill (fun i => some (i * s, s)) zs.toArray ps = some cs.toArray) :
    (execOp ρ ⟨d, .build T parts, ty, pos, af, g⟩).run P W = .ok (.value (.agg cs.toArray)) W := by
  obtain ⟨z, h3, h4⟩ := hz
  have hp : (parts.map fun (i, x) => (i, ρ x)).toList = ps := by rw [← hp']; simp
  unfold execOp
  simp only [Instr.build, Sem.run_bind, zero_zr h3, Result.andThen_ok, run_underlying hT, sizeOf_sz hs, h4, hp]
  simp only [hf, Sem.run_pure, Result.andThen_ok]
theorem fill24 (z0 z1 z2 z3 z4 z5 z6 z7 u0 u1 u2 u3 v0 v1 v2 v3 : Value) : Instr.fill (fun i => some (i * 4, 4)) [z0, z1, z2, z3, z4, z5, z6, z7].toArray [(0, .agg #[u0, u1, u2, u3]), (1, .agg #[v0, v1, v2, v3])] = some [u0, u1, u2, u3, v0, v1, v2, v3].toArray := by
  simp [Instr.fill, Value.cells]
end Go.Proofs.Ytknbjfefeeojlaa

/- Rows of matrices by their one cell; integer matrices; elements kept by a world step. -/
import Derived.Test.YtknbjfefeeojlaaMe
namespace Go.Proofs.Ytknbjfefeeojlaa
open Go.RowKit
theorem cell_ext {W W' : World} {ad : Addr} {v : Value} (x : Ext W W') (h : W.cell? ad = some v) : W'.cell? ad = some v := by
  unfold World.cell? at h ⊢
  cases hh : W.heap[ad.block]? with
  | none => rw [hh] at h; simp at h
  | some o => rw [(x.block _ (Array.getElem?_eq_some_iff.1 hh).1).trans hh]; rw [hh] at h; exact h
/-- Cells that stand there. -/
def CE (W : World) (ad : Addr) (l : List Value) : Prop := ∀ j u, l[j]? = some u → W.cell? (ad.add j) = some u
def C1 (W : World) (ad : Addr) (v : Value) : Prop := W.cell? ad = some v
theorem CE.ext {W W' : World} {ad : Addr} {l : List Value} (h : CE W ad l) (x : Ext W W') : CE W' ad l := fun j u hj => cell_ext x (h j u hj)
theorem C1.ext {W W' : World} {ad : Addr} {v : Value} (h : C1 W ad v) (x : Ext W W') : C1 W' ad v := cell_ext x h
theorem take_getD {α : Type} (d : α) (l : List α) (k : Nat) (h : k < l.length) : l.take (k + 1) = l.take k ++ [l.getD k d] := by
  rw [List.take_succ_eq_append_getElem h]; simp [h]
theorem take_rowG {ρt α : Type} (f : List ρt → α) (rss : List (List ρt)) (k : Nat) (h : k < rss.length) : (rss.take (k + 1)).map f = (rss.take k).map f ++ [f (rowat rss k)] := by
  rw [List.take_succ_eq_append_getElem h, List.map_append]; simp [rowat, h]
theorem row_leG {ρt : Type} {rss : List (List ρt)} {N : Nat} (h : ∀ r ∈ rss, r.length ≤ N) (i : Nat) : (rowat rss i).length ≤ N := by
  unfold rowat; rw [List.getD_eq_getElem?_getD]
  cases hq : rss[i]? with
  | none => simp
  | some r => exact h r (List.mem_of_getElem? hq)
def form1 (q : List Value) : Prop := ∃ a n c, q = [.slice a n c]
def rvat (qs : List (List Value)) (i : Nat) : Value := match qs[i]? with
  | some (v :: _) => v
  | _ => .slice none 0 0
theorem rvat_ge {qs : List (List Value)} {i : Nat} (h : qs.length ≤ i) : rvat qs i = .slice none 0 0 := by unfold rvat; rw [List.getElem?_eq_none h]
theorem rvat_form {qs : List (List Value)} (h : ∀ q ∈ qs, form1 q) (i : Nat) : ∃ a n c, rvat qs i = .slice a n c := by
  unfold rvat
  cases hq : qs[i]? with
  | none => exact ⟨_, _, _, rfl⟩
  | some q => obtain ⟨a, n, c, rfl⟩ := h q (List.mem_of_getElem? hq); exact ⟨a, n, c, rfl⟩
theorem RowOf.form {ρ : Type} {G : (Nat → Prop) → World → Option Addr → Nat → Nat → ρ → Prop} {S : Nat → Prop} {W : World} : ∀ {qs : List (List Value)} {rss : List ρ}, All2 (RowOf G S W) qs rss → ∀ q ∈ qs, form1 q
  | _ :: _, _ :: _, ⟨h1, h2⟩, q, hq => by
    rcases List.mem_cons.1 hq with rfl | hq
    · obtain ⟨a, n, c, e, _⟩ := h1; exact ⟨a, n, c, e⟩
    · exact RowOf.form h2 q hq
theorem All2.rv {ρ : Type} {G : (Nat → Prop) → World → Option Addr → Nat → Nat → List ρ → Prop} {S : Nat → Prop} {W : World} {qs : List (List Value)} {rss : List (List ρ)} (h : All2 (RowOf G S W) qs rss) (hn : G S W none 0 0 []) {i : Nat} {a : Option Addr} {n c : Nat} (e : rvat qs i = .slice a n c) : G S W a n c (rowat rss i) := by
  unfold rvat at e
  unfold rowat
  rw [List.getD_eq_getElem?_getD]
  cases hq : qs[i]? with
  | none =>
    rw [hq] at e
    simp only [Value.slice.injEq] at e
    obtain ⟨rfl, rfl, rfl⟩ := e
    have : rss[i]? = none := by rw [List.getElem?_eq_none_iff, ← h.len]; exact List.getElem?_eq_none_iff.1 hq
    rw [this]; exact hn
  | some q =>
    obtain ⟨r, e2, a', n', c', rfl, hg⟩ := h.get hq
    rw [hq] at e
    simp only [Value.slice.injEq] at e
    obtain ⟨rfl, rfl, rfl⟩ := e
    rw [e2]; exact hg
section
variable {r : Option Nat} {P : Program} {ops : Array Oper} {R : Env → World → Prop} {l : List Oper} {E : Env} {W : World} {t : Tmp} {ty T : TypeId} {pos : String} {af : Array Edge} {x : Operand}
theorem RS.el1 {S : Nat → Prop} {a : Option Addr} {n c : Nat} {qs : List (List Value)} (h : RS 1 S W a n c qs) (hf : ∀ q ∈ qs, form1 q) {i : Int} (hi : 0 ≤ i) (hn : i < n) : ∃ a' n' c', rvat qs i.toNat = .slice a' n' c' ∧ W.cell? (adr a i 1) = some (.slice a' n' c') := by
  obtain ⟨q, h3, h4, h5⟩ := h.el hi hn
  obtain ⟨a', n', c', rfl⟩ := hf q (List.mem_of_getElem? h3)
  refine ⟨a', n', c', ?_, ?_⟩
  · unfold rvat; rw [h3]
  · have := h5 0 _ rfl
    rwa [add0] at this
theorem vldR1 {S : Nat → Prop} {a : Option Addr} {n c : Nat} {qs : List (List Value)} {i : Int} (h : RS 1 S W a n c qs) (hf : ∀ q ∈ qs, form1 q) (hx : ev E x = .pointer (some (adr a i 1))) (hT : Sc P T) (h0 : 0 ≤ i) (h1 : i < n)
    (K : ∀ a' n' c', rvat qs i.toNat = .slice a' n' c' → RV r P ops R l (up E t (.slice a' n' c')) W) : RV r P ops R (⟨some t, .load T x, ty, pos, af, none⟩ :: l) E W := by
  obtain ⟨a', n', c', hq, hc⟩ := h.el1 hf h0 h1
  exact vv (rld1 hx hT hc) (K _ _ _ hq)
theorem GX.isS {S : Nat → Prop} {a : Option Addr} {n c : Nat} {ρs : List RawQ} (h : GX S W a n c ρs) {i : Int} (hi : 0 ≤ i) (hn : i < n) : a.isSome = true := by obtain ⟨qs, h1, h2⟩ := h; exact h1.isS hi hn
theorem GX.max {S : Nat → Prop} {a : Option Addr} {n c : Nat} {ρs : List RawQ} (h : GX S W a n c ρs) : n ≤ c ∧ c ≤ 9223372036854775807 := by obtain ⟨qs, h1, h2⟩ := h; exact ⟨h1.cap, h1.max⟩
def rz : RawQ := ⟨false, [], false, []⟩
def xat (ρs : List RawQ) (i : Nat) : RawQ := ρs.getD i rz
theorem GX.el {S : Nat → Prop} {a : Option Addr} {n c : Nat} {ρs : List RawQ} (h : GX S W a n c ρs) {i : Int} (hi : 0 ≤ i) (hn : i < n) : ∃ n1 a1 l1 c1 n2 a2 l2 c2, QX S W [.bool n1, .slice a1 l1 c1, .bool n2, .slice a2 l2 c2] (xat ρs i.toNat) ∧
    ∀ j u, ([.bool n1, .slice a1 l1 c1, .bool n2, .slice a2 l2 c2] : List Value)[j]? = some u → W.cell? ((adr a i 4).add j) = some u := by
  obtain ⟨qs, h1, h2⟩ := h
  obtain ⟨q, h3, h4, h5⟩ := h1.el hi hn
  obtain ⟨r, h6, h7⟩ := h2.get h3
  obtain ⟨n1, a1, l1, c1, n2, a2, l2, c2, rfl⟩ := h7.form
  refine ⟨n1, a1, l1, c1, n2, a2, l2, c2, ?_, h5⟩
  have : xat ρs i.toNat = r := by unfold xat; rw [List.getD_eq_getElem?_getD, h6]; rfl
  rw [this]; exact h7
theorem vldX {S : Nat → Prop} {a : Option Addr} {n c : Nat} {ρs : List RawQ} {i : Int} (h : GX S W a n c ρs) (hx : ev E x = .pointer (some (adr a i 4))) (hT : Ag P T 4) (h0 : 0 ≤ i) (h1 : i < n)
    (K : ∀ n1 a1 l1 c1 n2 a2 l2 c2, QX S W [.bool n1, .slice a1 l1 c1, .bool n2, .slice a2 l2 c2] (xat ρs i.toNat) → RV r P ops R l (up E t (.agg #[.bool n1, .slice a1 l1 c1, .bool n2, .slice a2 l2 c2])) W) : RV r P ops R (⟨some t, .load T x, ty, pos, af, none⟩ :: l) E W := by
  obtain ⟨n1, a1, l1, c1, n2, a2, l2, c2, hq, hc⟩ := h.el h0 h1
  exact vv (rldn (l := [.bool n1, .slice a1 l1 c1, .bool n2, .slice a2 l2 c2]) hx hT rfl hc) (K _ _ _ _ _ _ _ _ hq)
end
/-! ### Integer matrices -/
theorem RN.ck' {k : IntKind} {S : Nat → Prop} {W W' : World} {a : Option Addr} {n c : Nat} {xs : List Int} (h : RN k S W a n c xs) (x : CK S W W') : RN k S W' a n c xs := h.ck x
theorem okRowI (k : IntKind) : ElOK (RowOf (RN k)) := ⟨fun ⟨a, n, c, e, h⟩ k => ⟨a, n, c, e, h.ck k⟩, fun ⟨a, n, c, e, h⟩ k => ⟨a, n, c, e, h.sub k⟩⟩
abbrev MI (S : Nat → Prop) (W : World) (a : Option Addr) (n c : Nat) (zss : List (List Int)) : Prop := MG (RN .i64) S W a n c zss
theorem MI.ext {S : Nat → Prop} {W W' : World} {a : Option Addr} {n c : Nat} {zss : List (List Int)} (h : MI S W a n c zss) (x : Ext W W') : MI S W' a n c zss := MG.ck (okRowI .i64) h (x.ck _)
theorem MI.ck {S : Nat → Prop} {W W' : World} {a : Option Addr} {n c : Nat} {zss : List (List Int)} (h : MI S W a n c zss) (x : CK S W W') : MI S W' a n c zss := MG.ck (okRowI .i64) h x
/-- A literal of rows. -/
theorem RS.lit {s : Nat} {S : Nat → Prop} {W : World} {b : Nat} {e : TypeId} {cs : List Value} (qs : List (List Value)) (h : BoxAt W b cs e) (hc : cs = qs.flatten) (hw : ∀ q ∈ qs, q.length = s) (hS : S b) {n : Nat} (hl : qs.length = n) (hm : n ≤ 9223372036854775807) : RS s S W (some ⟨b, 0, none⟩) n n qs :=
  AQ.rs ⟨hc ▸ h, hw, hl, hm⟩ hS
theorem szMI {L : Nat} {S : Nat → Prop} {W : World} {a : Option Addr} {n c : Nat} {rss : List (List Rat)} (h : MA L S W a n c rss) (hL : 1 ≤ L) (i k : Int) : sz L (matI rss i k) := by
  unfold matI
  split
  · exact szV_at (GA.rows h hL _) hL _
  · exact sz_zero.mono hL
theorem szCat {L1 L2 L : Nat} {S1 S2 : Nat → Prop} {W W' : World} {a b : Option Addr} {n c m d : Nat} {rss mss : List (List Rat)} (hx : MA L1 S1 W a n c rss) (hy : MA L2 S2 W' b m d mss) (h1 : 1 ≤ L1) (h2 : 1 ≤ L2) (hL : max L1 L2 ≤ L) (N : Nat) (i k : Int) : sz L (catI rss mss N i k) := by
  unfold catI
  split
  · exact (szMI hx h1 _ _).mono (by omega)
  · exact (szMI hy h2 _ _).mono (by omega)
/-- Rows that are equal, with zeros behind the end. -/
theorem eqv_all {xs ys : List Rat} {M : Nat} (h1 : xs.length ≤ M) (h2 : ys.length ≤ M) : eqv xs ys M ↔ ∀ j, vat xs j = vat ys j := by
  refine ⟨fun h j => ?_, fun h j _ => h j⟩
  rcases Nat.lt_or_ge j M with hj | hj
  · exact h j hj
  · unfold vat; rw [List.getD_eq_getElem?_getD, List.getD_eq_getElem?_getD, List.getElem?_eq_none (by omega), List.getElem?_eq_none (by omega)]
def eqm (rss mss : List (List Rat)) : Prop := ∀ i j, mat rss i j = mat mss i j
theorem eqm_of {rss mss : List (List Rat)} {M : Nat} (h1 : rss.length ≤ M) (h2 : mss.length ≤ M) (h : ∀ i, i < M → ∀ j, mat rss i j = mat mss i j) : eqm rss mss := fun i j => by
  rcases Nat.lt_or_ge i M with hi | hi
  · exact h i hi j
  · rw [mat_ge1 (by omega), mat_ge1 (by omega)]
def identm (N : Nat) : List (List Rat) := (List.range N).map fun i : Nat => unitv N (i : Int)
theorem identm_succ (N k : Nat) : (List.range (k + 1)).map (fun i : Nat => unitv N (i : Int)) = (List.range k).map (fun i : Nat => unitv N (i : Int)) ++ [unitv N (k : Int)] := by simp [List.range_succ]
end Go.Proofs.Ytknbjfefeeojlaa

/- Matrices of the program: slices of rows. -/
import Derived.Test.YtknbjfefeeojlaaVh
namespace Go.Proofs.Ytknbjfefeeojlaa
open Go.RowKit
def MG {ρ : Type} (G : (Nat → Prop) → World → Option Addr → Nat → Nat → ρ → Prop) (S : Nat → Prop) (W : World) (a : Option Addr) (n c : Nat) (rss : List ρ) : Prop := ∃ qs, RS 1 S W a n c qs ∧ All2 (RowOf G S W) qs rss
section
variable {ρt : Type} {G : (Nat → Prop) → World → Option Addr → Nat → Nat → List ρt → Prop} {S S' : Nat → Prop} {W W' : World} {a : Option Addr} {n c : Nat} {rss : List (List ρt)}
theorem MG.ck (ok : ElOK (RowOf G)) (h : MG G S W a n c rss) (x : CK S W W') : MG G S W' a n c rss := by
  obtain ⟨qs, h1, h2⟩ := h; exact ⟨qs, h1.ck x, h2.imp fun _ _ h => ok.ck h x⟩
theorem MG.sub (ok : ElOK (RowOf G)) (h : MG G S W a n c rss) (hs : ∀ b, b < W.heap.size → S b → S' b) : MG G S' W a n c rss := by
  obtain ⟨qs, h1, h2⟩ := h; exact ⟨qs, h1.sub hs, h2.imp fun _ _ h => ok.sub h hs⟩
theorem MG.len (h : MG G S W a n c rss) : rss.length = n := by obtain ⟨qs, h1, h2⟩ := h; rw [← h2.len, h1.len]
theorem MG.max (h : MG G S W a n c rss) : n ≤ c ∧ c ≤ 9223372036854775807 := by obtain ⟨qs, h1, h2⟩ := h; exact ⟨h1.cap, h1.max⟩
theorem MG.isS (h : MG G S W a n c rss) {i : Int} (hi : 0 ≤ i) (hn : i < n) : a.isSome = true := by obtain ⟨qs, h1, h2⟩ := h; exact h1.isS hi hn
def rowat (rss : List (List ρt)) (i : Nat) : List ρt := rss.getD i []
theorem MG.el (h : MG G S W a n c rss) {i : Int} (hi : 0 ≤ i) (hn : i < n) : ∃ a' n' c', W.cell? (adr a i 1) = some (.slice a' n' c') ∧ G S W a' n' c' (rowat rss i.toNat) := by
  obtain ⟨qs, h1, h2⟩ := h
  obtain ⟨q, h3, h4, h5⟩ := h1.el hi hn
  obtain ⟨r, h6, a', n', c', rfl, h7⟩ := h2.get h3
  have e : rowat rss i.toNat = r := by unfold rowat; rw [List.getD_eq_getElem?_getD, h6]; rfl
  refine ⟨a', n', c', ?_, e ▸ h7⟩
  have := h5 0 _ rfl
  rwa [add0] at this
end
theorem GA.isS {L : Nat} {S : Nat → Prop} {W : World} {a : Option Addr} {n c : Nat} {rs : List Rat} (h : GA L S W a n c rs) {i : Int} (hi : 0 ≤ i) (hn : i < n) : a.isSome = true := by obtain ⟨qs, h1, h2⟩ := h; exact h1.isS hi hn
abbrev MA (L : Nat) (S : Nat → Prop) (W : World) (a : Option Addr) (n c : Nat) (rss : List (List Rat)) : Prop := MG (GA L) S W a n c rss
abbrev MC (S : Nat → Prop) (W : World) (a : Option Addr) (n c : Nat) (rss : List (List Rat)) : Prop := MG GC S W a n c rss
abbrev MX (S : Nat → Prop) (W : World) (a : Option Addr) (n c : Nat) (rss : List (List RawQ)) : Prop := MG GX S W a n c rss
section
variable {L : Nat} {S : Nat → Prop} {W W' : World} {a : Option Addr} {n c : Nat} {rss : List (List Rat)} {xss : List (List RawQ)}
theorem MA.ext (h : MA L S W a n c rss) (x : Ext W W') : MA L S W' a n c rss := MG.ck (okRowA L) h (x.ck _)
theorem MC.ext (h : MC S W a n c rss) (x : Ext W W') : MC S W' a n c rss := MG.ck okRowC h (x.ck _)
theorem MX.ext (h : MX S W a n c xss) (x : Ext W W') : MX S W' a n c xss := MG.ck okRowX h (x.ck _)
theorem MA.ck (h : MA L S W a n c rss) (x : CK S W W') : MA L S W' a n c rss := MG.ck (okRowA L) h x
theorem MC.ck (h : MC S W a n c rss) (x : CK S W W') : MC S W' a n c rss := MG.ck okRowC h x
theorem MX.ck (h : MX S W a n c xss) (x : CK S W W') : MX S W' a n c xss := MG.ck okRowX h x
end
def colsN (rss : List (List Rat)) : Nat := rss.foldl (fun m r => max m r.length) 0
theorem colsN_succ (rss : List (List Rat)) (k : Nat) (h : k < rss.length) : colsN (rss.take (k + 1)) = max (colsN (rss.take k)) (rowat rss k).length := by
  unfold colsN rowat
  rw [List.take_succ_eq_append_getElem h, List.foldl_append]
  simp [h]
def mat (rss : List (List Rat)) (i k : Nat) : Rat := vat (rowat rss i) k
section
variable {r : Option Nat} {P : Program} {ops : Array Oper} {R : Env → World → Prop} {l : List Oper} {E : Env} {W : World} {t : Tmp} {ty T : TypeId} {pos : String} {af : Array Edge} {x : Operand} {ρt : Type} {G : (Nat → Prop) → World → Option Addr → Nat → Nat → List ρt → Prop} {S : Nat → Prop} {a : Option Addr} {n c : Nat} {rss : List (List ρt)} {i : Int}
theorem vldRow (h : MG G S W a n c rss) (hx : ev E x = .pointer (some (adr a i 1))) (hT : Sc P T) (h0 : 0 ≤ i) (h1 : i < n)
    (K : ∀ a' n' c', G S W a' n' c' (rowat rss i.toNat) → RV r P ops R l (up E t (.slice a' n' c')) W) : RV r P ops R (⟨some t, .load T x, ty, pos, af, none⟩ :: l) E W := by
  obtain ⟨a', n', c', hc, hg⟩ := h.el h0 h1
  exact vv (rld1 hx hT hc) (K _ _ _ hg)
end
end Go.Proofs.Ytknbjfefeeojlaa

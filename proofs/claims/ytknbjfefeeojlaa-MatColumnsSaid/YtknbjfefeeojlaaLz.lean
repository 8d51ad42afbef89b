/- Parts of slices; sizes of products; the equalities that hold. -/
import Derived.Test.YtknbjfefeeojlaaLb
import Derived.Test.YtknbjfefeeojlaaL4
import Derived.Test.YtknbjfefeeojlaaMg
namespace Go.Proofs.Ytknbjfefeeojlaa
open Go.RowKit
attribute [local irreducible] RV VH V OpF Calls
theorem GA.cut {L : Nat} {S : Nat → Prop} {W : World} {a : Option Addr} {n c l m : Nat} {rs : List Rat} (h : GA L S W a n c rs) (h0 : l ≤ m) (hm : m ≤ n) : GA L S W (if c = l then a else a.map (·.add (l * 4))) (m - l) (c - l) ((rs.take m).drop l) := by
  obtain ⟨qs, h1, h2⟩ := h; exact ⟨_, h1.cut h0 hm, (h2.take m).drop l⟩
theorem GC.cut {S : Nat → Prop} {W : World} {a : Option Addr} {n c l m : Nat} {rs : List Rat} (h : GC S W a n c rs) (h0 : l ≤ m) (hm : m ≤ n) : GC S W (if c = l then a else a.map (·.add (l * 4))) (m - l) (c - l) ((rs.take m).drop l) := by
  obtain ⟨qs, h1, h2⟩ := h; exact ⟨_, h1.cut h0 hm, (h2.take m).drop l⟩
section
variable {P : Program} {ρ : Operand → Value} {W : World} {d : Option Tmp} {ty T e : TypeId} {pos : String} {af : Array Edge} {g : Option (Nat × Bool)} {x y u : Operand}
/-- x[l:m], of elements of any size. -/
theorem rsl2 {k' k'' : IntKind} {a : Option Addr} {n c s m l : Nat} {z zl : Int} (hS : Sl P T e) (hs : Sz P e s) (hx : ρ x = .slice a n c) (hu : ρ u = .int k'' zl) (hy : ρ y = .int k' z) (hl : zl = (l : Int)) (hz : z = (m : Int)) (h0 : l ≤ m) (hm : m ≤ c) :
    (execOp ρ ⟨d, .slice T x (some u) (some y) none, ty, pos, af, g⟩).run P W = .ok (.value (.slice (if c = l then a else a.map (·.add (l * s))) (m - l) (c - l))) W := by
  subst hl hz
  refine rslg hS hs hx (l := l) (h := m) ?_ rfl rfl rfl
  simp only [Option.map_some, hy, hu]; exact sb_lh h0 hm
/-- x[:m] -/
theorem rsl1 {k' : IntKind} {a : Option Addr} {n c s m : Nat} {z : Int} (hS : Sl P T e) (hs : Sz P e s) (hx : ρ x = .slice a n c) (hy : ρ y = .int k' z) (hz : z = (m : Int)) (hm : m ≤ c) :
    (execOp ρ ⟨d, .slice T x none (some y) none, ty, pos, af, g⟩).run P W = .ok (.value (.slice a m c)) W := by
  subst hz
  refine rslg hS hs hx (l := 0) (h := m) ?_ ?_ rfl rfl
  · simp only [Option.map_none, Option.map_some, hy]; exact sb_h hm
  · rw [Nat.zero_mul]
    split
    · rfl
    · cases a <;> simp [add0]
/-- x[l:] -/
theorem rsl0 {k' : IntKind} {a : Option Addr} {n c s l : Nat} {zl : Int} (hS : Sl P T e) (hs : Sz P e s) (hx : ρ x = .slice a n c) (hu : ρ u = .int k' zl) (hl : zl = (l : Int)) (hm : l ≤ n) :
    (execOp ρ ⟨d, .slice T x (some u) none none, ty, pos, af, g⟩).run P W = .ok (.value (.slice (if c = l then a else a.map (·.add (l * s))) (n - l) (c - l))) W := by
  subst hl
  refine rslg hS hs hx (l := l) (h := n) ?_ rfl rfl rfl
  simp only [Option.map_some, Option.map_none, hu]; exact sb_l hm
end
theorem GO.old {ρt : Type} {El : (Nat → Prop) → World → List Value → ρt → Prop} {S : Nat → Prop} {s B : Nat} {W : World} {e : TypeId} {v : Value} {rs : List ρt} (h : GO s El S B W e v rs) : ∀ b, b < B → v.ownBlock ≠ some b := fun b hb e => by
  obtain ⟨qs, h1, _⟩ := h
  have := (h1.low b e).1; omega
theorem MX.ma {L : Nat} {S : Nat → Prop} {W : World} {a : Option Addr} {n c : Nat} {ρss : List (List RawQ)} (h : MX S W a n c ρss) (hs : ∀ r ∈ ρss, ∀ ρ ∈ r, szQ L ρ) : MA L S W a n c (ρss.map (·.map qval)) := by
  obtain ⟨qs, h1, h2⟩ := h
  refine ⟨qs, h1, ?_⟩
  clear h1
  induction qs generalizing ρss with
  | nil => cases ρss <;> simp_all [All2]
  | cons q qs ih => cases ρss with
    | nil => exact h2.elim
    | cons r rs => obtain ⟨a, n, c, e, h3⟩ := h2.1; exact ⟨⟨a, n, c, e, h3.va (hs r (by simp))⟩, ih (fun x hx => hs x (by simp [hx])) h2.2⟩
theorem colsN_raw (ρss : List (List RawQ)) : colsN (ρss.map (·.map qval)) = colsG ρss := colsG_map qval ρss
theorem drop_take_one (l : List Rat) {k : Nat} (h : k < l.length) : (l.take (k + 1)).drop k = [vat l k] := by
  rw [List.take_succ_eq_append_getElem h, List.drop_append_of_le_length (by simp; omega)]
  simp [vat_lt h]
theorem len_mulm (a b : List (List Rat)) : (mulm a b).length = a.length := by simp [mulm]
theorem len_mulv (a : List (List Rat)) (x : List Rat) : (mulv a x).length = a.length := by simp [mulv]
theorem mulm_sz {a b L : Nat} {rss mss : List (List Rat)} (h1 : ∀ r ∈ rss, szV a r) (h2 : ∀ i, szV b (rowat mss i)) (ha : 1 ≤ a) (hb : 1 ≤ b) (hL : (a + b + 1) * mss.length + 1 ≤ L) : ∀ r ∈ mulm rss mss, szV L r := by
  intro r hr
  obtain ⟨y, hy, rfl⟩ := List.mem_map.1 hr
  exact fun q hq => (vmk_sz (h1 y hy) h2 ha hb mss.length q hq).mono hL
theorem mulv_sz {a b L R : Nat} {rss : List (List Rat)} {xs : List Rat} (h1 : ∀ r ∈ rss, szV a r) (h2 : szV b xs) (ha : 1 ≤ a) (hb : 1 ≤ b) (hr : ∀ r ∈ rss, r.length ≤ R) (hx : xs.length ≤ R) (hL : (a + b + 1) * R + 1 ≤ L) : szV L (mulv rss xs) := by
  intro r hr'
  obtain ⟨y, hy, rfl⟩ := List.mem_map.1 hr'
  have := hr y hy
  exact (sz_dotk (h1 y hy) h2 ha hb _).mono (Nat.le_trans (Nat.succ_le_succ (Nat.mul_le_mul_left _ (by omega))) hL)
theorem gridm_sz {L : Nat} {f : Int → Int → Rat} {R C : Nat} (h : ∀ i k : Nat, sz L (f i k)) : ∀ r ∈ gridm f R C, szV L r := by
  intro r hr q hq
  obtain ⟨i, _, rfl⟩ := List.mem_map.1 hr
  obtain ⟨k, _, rfl⟩ := List.mem_map.1 hq
  exact h i k
theorem gridm_row (f : Int → Int → Rat) (R C : Nat) : ∀ r ∈ gridm f R C, r.length ≤ C := by
  intro r hr
  obtain ⟨i, _, rfl⟩ := List.mem_map.1 hr
  simp
theorem len_gridm (f : Int → Int → Rat) (R C : Nat) : (gridm f R C).length = R := by simp [gridm]
theorem row_gridm (f : Int → Int → Rat) {R C i : Nat} (h : i < R) : (rowat (gridm f R C) i).length = C := by
  unfold rowat gridm; rw [List.getD_eq_getElem?_getD, List.getElem?_map, List.getElem?_range h]; simp
theorem szOne : sz 1 1 := by constructor <;> decide
theorem unitv_sz (N : Nat) (k : Int) : szV 1 (unitv N k) := by
  intro r hr
  unfold unitv at hr
  split at hr
  · rcases List.mem_or_eq_of_mem_set hr with h | h
    · rw [(List.mem_replicate.1 h).2]; exact sz_zero
    · rw [h]; exact szOne
  · rw [(List.mem_replicate.1 hr).2]; exact sz_zero
theorem MA.rowsz {L : Nat} {S : Nat → Prop} {W : World} {a : Option Addr} {n c : Nat} {rss : List (List Rat)} (h : MA L S W a n c rss) (hL : 1 ≤ L) : ∀ r ∈ rss, szV L r := fun r hr => by
  obtain ⟨i, hi⟩ := List.getElem?_of_mem hr
  have := GA.rows h hL i
  unfold rowat at this
  rwa [List.getD_eq_getElem?_getD, hi] at this
theorem wmin {N R : Nat} (hN : N ≤ 1000) : IntKind.i64.wrap ((N : Int) * min (R : Int) 1) = ((N * min R 1 : Nat) : Int) := by
  have h : N * min R 1 ≤ N * 1 := Nat.mul_le_mul_left _ (Nat.min_le_right R 1)
  have e : (N : Int) * min (R : Int) 1 = ((N * min R 1 : Nat) : Int) := by rw [Int.natCast_mul]; congr 1; omega
  rw [e, wi (by omega)]
section
variable {L1 L2 : Nat} {S1 S2 : Nat → Prop} {w : World} {a1 a2 : Option Addr} {n c m d : Nat} {xs ys : List Rat} {rss mss : List (List Rat)}
theorem vEq_true (w : World) (hx : GA L1 S1 w a1 n c xs) (hy : GA L2 S2 w a2 m d ys) (hL : L1 + L2 < LY) (hl1 : 1 ≤ L1) (hl2 : 1 ≤ L2) (hn : n ≤ LV) (hm : m ≤ LV) (e : ∀ j, vat xs j = vat ys j) : Calls Try.prog 17 #[.slice a1 n c, .slice a2 m d] w fun e w' => e = .returned (.bool true) ∧ Ext w w' := by
  refine (vEqual_ok _ _ _ _ _ _ _ _ _ _ _ _ w hx hy hL hl1 hl2 hn hm).mono ?_
  rintro _ _ ⟨q, h1, h2, h3⟩
  exact ⟨by rw [h1, h3.2 fun j _ => e j], h2⟩
theorem mEq_true (w : World) (hx : MA L1 S1 w a1 n c rss) (hy : MA L2 S2 w a2 m d mss) (hL : L1 + L2 < LY) (hl1 : 1 ≤ L1) (hl2 : 1 ≤ L2) (hr1 : ∀ r ∈ rss, r.length ≤ LV) (hr2 : ∀ r ∈ mss, r.length ≤ LV) (e : eqm rss mss) : Calls Try.prog 23 #[.slice a1 n c, .slice a2 m d] w fun e w' => e = .returned (.bool true) ∧ Ext w w' := by
  refine (mEqual_ok _ _ _ _ _ _ _ _ _ _ _ _ w hx hy hL hl1 hl2 hr1 hr2).mono ?_
  rintro _ _ ⟨q, h1, h2, h3⟩
  exact ⟨by rw [h1, h3.2 e], h2⟩
theorem fEq_true (w : World) {q1 q2 : List Value} {r s : Rat} (h1 : QA L1 S1 w q1 r) (h2 : QA L2 S2 w q2 s) (hL : L1 + L2 < LY) (hl1 : 1 ≤ L1) (hl2 : 1 ≤ L2) (e : r = s) : Calls Try.prog 20 #[.agg q1.toArray, .agg q2.toArray] w fun e w' => e = .returned (.bool true) ∧ Ext w w' := by
  refine (fEqual_ok _ _ _ _ _ _ _ _ _ h1 h2 hL hl1 hl2).mono ?_
  rintro _ _ ⟨h1, h2⟩
  exact ⟨by rw [h1, decide_eq_true e], h2⟩
end
end Go.Proofs.Ytknbjfefeeojlaa

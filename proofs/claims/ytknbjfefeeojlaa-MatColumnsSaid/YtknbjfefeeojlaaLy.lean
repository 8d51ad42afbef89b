/- Parts of elements; sizes of raw vectors and matrices. -/
import Derived.Test.YtknbjfefeeojlaaLa
namespace Go.Proofs.Ytknbjfefeeojlaa
open Go.RowKit
attribute [local irreducible] RV VH V OpF Calls
theorem add_add (ad : Addr) (m j : Nat) : (ad.add m).add j = ad.add (m + j) := by
  unfold Addr.add
  by_cases hm : m = 0
  · subst hm; simp
  · by_cases hj : j = 0
    · subst hj; simp
    · simp [hm, hj]; omega
theorem CE.part {W : World} {ad : Addr} {l l' : List Value} (h : CE W ad l) (m : Nat) (e : (l.drop m).take l'.length = l') : CE W (ad.add m) l' := fun j u hj => by
  rw [add_add]
  refine h _ _ ?_
  rw [← e, List.getElem?_take] at hj
  split at hj
  · rwa [List.getElem?_drop] at hj
  · cases hj
section
variable {P : Program} {ρ : Operand → Value} {W : World} {d : Option Tmp} {ty T : TypeId} {pos : String} {af : Array Edge} {g : Option (Nat × Bool)} {x : Operand} {ad : Addr}
theorem rfaG {f off : Nat} (hx : ρ x = .pointer (some ad)) (hF : Fd P T f off) : (execOp ρ ⟨d, .fieldAddr T x f, ty, pos, af, g⟩).run P W = .ok (.value (.pointer (some (ad.add off)))) W := by
  obtain ⟨fs, fd, i, h1, h2, rfl, h4, h5⟩ := hF
  unfold execOp
  simp only [Instr.fieldAt, hx, Sem.run_bind, run_underlying h1, Result.andThen_ok, h2, Instr.sureAddr, Sem.run_pure, fieldPlace]
  have hs : (sizeOf fd.type).run P W = .ok i.size W := sizeOf_sz ⟨i, h4, rfl⟩
  simp [hs, h5]
end
theorem QX.two {S : Nat → Prop} {W : World} {n1 n2 : Bool} {a1 a2 : Option Addr} {l1 c1 l2 c2 : Nat} {ρ : RawQ} (h : QX S W [.bool n1, .slice a1 l1 c1, .bool n2, .slice a2 l2 c2] ρ) : n1 = ρ.n1 ∧ RN .u32 S W a1 l1 c1 ρ.xs ∧ n2 = ρ.n2 ∧ RN .u32 S W a2 l2 c2 ρ.ys := by
  obtain ⟨_, _, _, _, _, _, e, h1, h2⟩ := h
  simp only [List.cons.injEq, Value.bool.injEq, Value.slice.injEq, and_true] at e
  obtain ⟨rfl, ⟨rfl, rfl, rfl⟩, rfl, rfl, rfl, rfl⟩ := e
  exact ⟨rfl, h1, rfl, h2⟩
def form2 (q : List Value) : Prop := ∃ x a n c, q = [.bool x, .slice a n c]
def colsG {α : Type} (rss : List (List α)) : Nat := rss.foldl (fun m r => max m r.length) 0
theorem colsG_succ {α : Type} (rss : List (List α)) (k : Nat) (h : k < rss.length) : colsG (rss.take (k + 1)) = max (colsG (rss.take k)) (rowat rss k).length := by
  unfold colsG rowat
  rw [List.take_succ_eq_append_getElem h, List.foldl_append]
  simp [h]
theorem colsG_map {α β : Type} (f : α → β) (rss : List (List α)) : colsG (rss.map (·.map f)) = colsG rss := by
  unfold colsG; rw [List.foldl_map]; simp
theorem colsG_ge {α : Type} {rss : List (List α)} : ∀ r ∈ rss, r.length ≤ colsG rss := by
  have key : ∀ (l : List (List α)) (m : Nat), m ≤ l.foldl (fun m r => max m r.length) m ∧ ∀ r ∈ l, r.length ≤ l.foldl (fun m r => max m r.length) m := by
    intro l
    induction l with
    | nil => intro m; simp
    | cons x l ih =>
      intro m
      have := ih (max m x.length)
      simp only [List.foldl_cons, List.mem_cons]
      refine ⟨by omega, ?_⟩
      rintro r (rfl | hr)
      · omega
      · exact this.2 r hr
  exact (key rss 0).2
/-- Matrices among which no element is long. -/
abbrev MXX (S : Nat → Prop) (W : World) (a : Option Addr) (n c : Nat) (ms : List (List (List RawQ))) : Prop := MG MX S W a n c ms
theorem okRowMX : ElOK (RowOf MX) := ⟨fun ⟨a, n, c, e, h⟩ k => ⟨a, n, c, e, MG.ck okRowX h k⟩, fun ⟨a, n, c, e, h⟩ k => ⟨a, n, c, e, MG.sub okRowX h k⟩⟩
theorem MXX.ext {S : Nat → Prop} {W W' : World} {a : Option Addr} {n c : Nat} {ms : List (List (List RawQ))} (h : MXX S W a n c ms) (x : Ext W W') : MXX S W' a n c ms := MG.ck okRowMX h (x.ck _)
def smallV (r : List RawQ) : Prop := ∀ ρ ∈ r, szQ 6 ρ
def smallM (m : List (List RawQ)) : Prop := m.length ≤ 8 ∧ colsG m ≤ 8 ∧ ∀ r ∈ m, r.length ≤ 20 ∧ smallV r
theorem forall_lt {α : Type} (d : α) {p : α → Prop} {l : List α} {n : Nat} (hn : l.length ≤ n) (h : ∀ i, i < n → p (l.getD i d)) : ∀ x ∈ l, p x := fun x hx => by
  obtain ⟨i, hi⟩ := List.getElem?_of_mem hx
  have := h i (by have := (List.getElem?_eq_some_iff.1 hi).1; omega)
  rwa [List.getD_eq_getElem?_getD, hi] at this
section
variable {r : Option Nat} {P : Program} {ops : Array Oper} {R : Env → World → Prop} {E : Env} {W : World} {t : Tmp} {t1 t2 ty : TypeId} {pos : String} {af : Array Edge} {S : World → Prop} {fuel : Nat} {listed : Array Bool} {x y : Operand} {k : IntKind} {m n : Int}
theorem tkGt {g : Option (Nat × Bool)} (i : Nat) (hi : ops[i]? = some ⟨some t, .binOp .gtr t1 x y t2, ty, pos, af, g⟩) (hf : (Region.noSelect ops && Region.free .any ops listed i && (Region.ready .any ops listed).contains i) = true) (hS : S W) (hx : ev E x = .int k m) (hy : ev E y = .int k n)
    (hp : ∀ q, (∀ W, S W → (execOp (ev E) ⟨some t, .binOp .gtr t1 x y t2, ty, pos, af, g⟩).run P W = .ok (.value (.bool q)) W) → PureIf P ops S ⟨some t, .binOp .gtr t1 x y t2, ty, pos, af, g⟩ (.bool q) E)
    (kt : n < m → VH r P ops S R fuel (listed.setIfInBounds i true) (up E t (.bool true)) W) (kf : m ≤ n → VH r P ops S R fuel (listed.setIfInBounds i true) (up E t (.bool false)) W) : VH r P ops S R (fuel + 1) listed E W := by
  by_cases h : n < m
  · exact tk i hi hf hS (hp true fun W _ => rcmp (cGt (decide_eq_true h)) rfl hx hy) (kt h)
  · exact tk i hi hf hS (hp false fun W _ => rcmp (cGt (decide_eq_false h)) rfl hx hy) (kf (by omega))
theorem tkLt {g : Option (Nat × Bool)} (i : Nat) (hi : ops[i]? = some ⟨some t, .binOp .lss t1 x y t2, ty, pos, af, g⟩) (hf : (Region.noSelect ops && Region.free .any ops listed i && (Region.ready .any ops listed).contains i) = true) (hS : S W) (hx : ev E x = .int k m) (hy : ev E y = .int k n)
    (hp : ∀ q, (∀ W, S W → (execOp (ev E) ⟨some t, .binOp .lss t1 x y t2, ty, pos, af, g⟩).run P W = .ok (.value (.bool q)) W) → PureIf P ops S ⟨some t, .binOp .lss t1 x y t2, ty, pos, af, g⟩ (.bool q) E)
    (kt : m < n → VH r P ops S R fuel (listed.setIfInBounds i true) (up E t (.bool true)) W) (kf : n ≤ m → VH r P ops S R fuel (listed.setIfInBounds i true) (up E t (.bool false)) W) : VH r P ops S R (fuel + 1) listed E W := by
  by_cases h : m < n
  · exact tk i hi hf hS (hp true fun W _ => rcmp (cLt (decide_eq_true h)) rfl hx hy) (kt h)
  · exact tk i hi hf hS (hp false fun W _ => rcmp (cLt (decide_eq_false h)) rfl hx hy) (kf (by omega))
theorem tkGe {g : Option (Nat × Bool)} (i : Nat) (hi : ops[i]? = some ⟨some t, .binOp .geq t1 x y t2, ty, pos, af, g⟩) (hf : (Region.noSelect ops && Region.free .any ops listed i && (Region.ready .any ops listed).contains i) = true) (hS : S W) (hx : ev E x = .int k m) (hy : ev E y = .int k n)
    (hp : ∀ q, (∀ W, S W → (execOp (ev E) ⟨some t, .binOp .geq t1 x y t2, ty, pos, af, g⟩).run P W = .ok (.value (.bool q)) W) → PureIf P ops S ⟨some t, .binOp .geq t1 x y t2, ty, pos, af, g⟩ (.bool q) E)
    (kt : n ≤ m → VH r P ops S R fuel (listed.setIfInBounds i true) (up E t (.bool true)) W) (kf : m < n → VH r P ops S R fuel (listed.setIfInBounds i true) (up E t (.bool false)) W) : VH r P ops S R (fuel + 1) listed E W := by
  by_cases h : n ≤ m
  · exact tk i hi hf hS (hp true fun W _ => rcmp (cGe (decide_eq_true h)) rfl hx hy) (kt h)
  · exact tk i hi hf hS (hp false fun W _ => rcmp (cGe (decide_eq_false h)) rfl hx hy) (kf (by omega))
theorem tkLe {g : Option (Nat × Bool)} (i : Nat) (hi : ops[i]? = some ⟨some t, .binOp .leq t1 x y t2, ty, pos, af, g⟩) (hf : (Region.noSelect ops && Region.free .any ops listed i && (Region.ready .any ops listed).contains i) = true) (hS : S W) (hx : ev E x = .int k m) (hy : ev E y = .int k n)
    (hp : ∀ q, (∀ W, S W → (execOp (ev E) ⟨some t, .binOp .leq t1 x y t2, ty, pos, af, g⟩).run P W = .ok (.value (.bool q)) W) → PureIf P ops S ⟨some t, .binOp .leq t1 x y t2, ty, pos, af, g⟩ (.bool q) E)
    (kt : m ≤ n → VH r P ops S R fuel (listed.setIfInBounds i true) (up E t (.bool true)) W) (kf : n < m → VH r P ops S R fuel (listed.setIfInBounds i true) (up E t (.bool false)) W) : VH r P ops S R (fuel + 1) listed E W := by
  by_cases h : m ≤ n
  · exact tk i hi hf hS (hp true fun W _ => rcmp (cLe (decide_eq_true h)) rfl hx hy) (kt h)
  · exact tk i hi hf hS (hp false fun W _ => rcmp (cLe (decide_eq_false h)) rfl hx hy) (kf (by omega))
theorem tkEq {g : Option (Nat × Bool)} (i : Nat) (hi : ops[i]? = some ⟨some t, .binOp .eql t1 x y t2, ty, pos, af, g⟩) (hf : (Region.noSelect ops && Region.free .any ops listed i && (Region.ready .any ops listed).contains i) = true) (hS : S W) (hx : ev E x = .int k m) (hy : ev E y = .int k n)
    (hp : ∀ q, (∀ W, S W → (execOp (ev E) ⟨some t, .binOp .eql t1 x y t2, ty, pos, af, g⟩).run P W = .ok (.value (.bool q)) W) → PureIf P ops S ⟨some t, .binOp .eql t1 x y t2, ty, pos, af, g⟩ (.bool q) E)
    (kt : m = n → VH r P ops S R fuel (listed.setIfInBounds i true) (up E t (.bool true)) W) (kf : m ≠ n → VH r P ops S R fuel (listed.setIfInBounds i true) (up E t (.bool false)) W) : VH r P ops S R (fuel + 1) listed E W := by
  by_cases h : m = n
  · exact tk i hi hf hS (hp true fun W _ => rcmp (cEq (decide_eq_true h)) rfl hx hy) (kt h)
  · exact tk i hi hf hS (hp false fun W _ => rcmp (cEq (decide_eq_false h)) rfl hx hy) (kf (by omega))
theorem tkNe {g : Option (Nat × Bool)} (i : Nat) (hi : ops[i]? = some ⟨some t, .binOp .neq t1 x y t2, ty, pos, af, g⟩) (hf : (Region.noSelect ops && Region.free .any ops listed i && (Region.ready .any ops listed).contains i) = true) (hS : S W) (hx : ev E x = .int k m) (hy : ev E y = .int k n)
    (hp : ∀ q, (∀ W, S W → (execOp (ev E) ⟨some t, .binOp .neq t1 x y t2, ty, pos, af, g⟩).run P W = .ok (.value (.bool q)) W) → PureIf P ops S ⟨some t, .binOp .neq t1 x y t2, ty, pos, af, g⟩ (.bool q) E)
    (kt : m ≠ n → VH r P ops S R fuel (listed.setIfInBounds i true) (up E t (.bool true)) W) (kf : m = n → VH r P ops S R fuel (listed.setIfInBounds i true) (up E t (.bool false)) W) : VH r P ops S R (fuel + 1) listed E W := by
  by_cases h : m ≠ n
  · exact tk i hi hf hS (hp true fun W _ => rcmp (cNe (decide_eq_true h)) rfl hx hy) (kt h)
  · exact tk i hi hf hS (hp false fun W _ => rcmp (cNe (decide_eq_false h)) rfl hx hy) (kf (by omega))
end
end Go.Proofs.Ytknbjfefeeojlaa

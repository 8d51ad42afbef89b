/- A slice that a loop appends to, with what its elements read as. -/
import Derived.Test.YtknbjfefeeojlaaVd
namespace Go.Proofs.Ytknbjfefeeojlaa
open Go.RowKit
def SO (S : Nat → Prop) (v : Value) : Nat → Prop := fun b => S b ∧ v.ownBlock ≠ some b
structure ElOK {ρ : Type} (El : (Nat → Prop) → World → List Value → ρ → Prop) : Prop where
  ck : ∀ {S : Nat → Prop} {W W' : World} {q : List Value} {r : ρ}, El S W q r → CK S W W' → El S W' q r
  sub : ∀ {S S' : Nat → Prop} {W : World} {q : List Value} {r : ρ}, El S W q r → (∀ b, b < W.heap.size → S b → S' b) → El S' W q r
theorem okQC : ElOK QC := ⟨fun h k => h.ck k, fun h k => h.sub k⟩
theorem okQX : ElOK QX := ⟨fun h k => h.ck k, fun h k => h.sub k⟩
/-- A row of a matrix. -/
def RowOf {ρ : Type} (G : (Nat → Prop) → World → Option Addr → Nat → Nat → ρ → Prop) (S : Nat → Prop) (W : World) (q : List Value) (r : ρ) : Prop := ∃ a n c, q = [.slice a n c] ∧ G S W a n c r
theorem okRowC : ElOK (RowOf GC) := ⟨fun ⟨a, n, c, e, h⟩ k => ⟨a, n, c, e, h.ck k⟩, fun ⟨a, n, c, e, h⟩ k => ⟨a, n, c, e, h.sub k⟩⟩
theorem okRowX : ElOK (RowOf GX) := ⟨fun ⟨a, n, c, e, h⟩ k => ⟨a, n, c, e, h.ck k⟩, fun ⟨a, n, c, e, h⟩ k => ⟨a, n, c, e, h.sub k⟩⟩
theorem okRowA (L : Nat) : ElOK (RowOf (GA L)) := ⟨fun ⟨a, n, c, e, h⟩ k => ⟨a, n, c, e, h.ck k⟩, fun ⟨a, n, c, e, h⟩ k => ⟨a, n, c, e, h.sub k⟩⟩
def GO {ρ : Type} (s : Nat) (El : (Nat → Prop) → World → List Value → ρ → Prop) (S : Nat → Prop) (B : Nat) (W : World) (e : TypeId) (v : Value) (rs : List ρ) : Prop := ∃ qs, OS s B W e v qs ∧ All2 (El (SO S v) W) qs rs
section
variable {ρt : Type} {El : (Nat → Prop) → World → List Value → ρt → Prop} {S : Nat → Prop} {s B : Nat} {W W' : World} {e : TypeId} {v : Value} {rs : List ρt}
theorem GO.nil (W : World) (e : TypeId) : GO s El S B W e (.slice none 0 0) [] := ⟨[], OS.nil _ _ _ _, trivial⟩
theorem GO.ext (ok : ElOK El) (h : GO s El S B W e v rs) (x : Ext W W') : GO s El S B W' e v rs := by
  obtain ⟨qs, h1, h2⟩ := h; exact ⟨qs, h1.ext x, h2.imp fun _ _ h => ok.ck h (x.ck _)⟩
theorem GO.up (h : GO s El S B W e v rs) {w : World} (hu : Up S w) (hw : w.heap.size ≤ W.heap.size) : Up (SO S v) W := fun b hb => by
  obtain ⟨qs, h1, h2⟩ := h
  exact ⟨hu b (by omega), fun e => by have := (h1.low b e).2; omega⟩
theorem GO.form (h : GO s El S B W e v rs) : ∃ a c, v = .slice a rs.length c := by
  obtain ⟨qs, h1, h2⟩ := h
  obtain ⟨a, c, e⟩ := h1.form
  exact ⟨a, c, by rw [e, h2.len]⟩
theorem GO.fin (ok : ElOK El) {a : Option Addr} {n c : Nat} (h : GO s El S B W e (.slice a n c) rs) (hS : ∀ b, B ≤ b → b < W.heap.size → S b) : ∃ qs, RS s S W a n c qs ∧ All2 (El S W) qs rs := by
  obtain ⟨qs, h1, h2⟩ := h
  exact ⟨qs, h1.rs hS, h2.imp fun _ _ h => ok.sub h fun _ _ h => h.1⟩
end
section
variable {r : Option Nat} {P : Program} {ρ : Operand → Value} {W W' : World} {d : Option Tmp} {ty T e : TypeId} {pos : String} {af : Array Edge} {g : Option (Nat × Bool)} {x y : Operand} {v : Value} {K : Value → World → Prop} {s B : Nat} {ρt : Type} {El : (Nat → Prop) → World → List Value → ρt → Prop} {S : Nat → Prop} {rs : List ρt} {rr : ρt}
theorem xappG {t1 : TypeId} {b c1 bytes : Nat} {z : Value} {q : List Value} (ok : ElOK El) (hS : Sl P t1 e) (hi : ∃ i, P.info? e = some i ∧ i.size = s ∧ i.bytes = bytes ∧ i.zero = some z) (hzs : Nat.beq z.cells.size s = true) (hs0 : Nat.blt 0 s = true) (hO : GO s El S B W e v rs) (hx : ρ x = v) (hy : ρ y = .slice (some ⟨b, 0, none⟩) 1 c1) (hb : BoxAt W b q e) (hq : Nat.beq q.length s = true) (ho : (q.all Value.oneCell') = true) (hel : El (SO S v) W q rr)
    (hlen : (rs.length + 1) * bytes ≤ 140737488355328) (hbp : 0 < bytes) (hB : B ≤ W.heap.size)
    (hk2 : ∀ v' W', GO s El S B W' e v' (rs ++ [rr]) → KB B W W' → K v' W') :
    OpF r P ρ ⟨d, .call ⟨.builtin .append, #[x, y], #[t1, t1]⟩, ty, pos, af, g⟩ W K := by
  obtain ⟨qs, h1, h2⟩ := hO
  have hl := h2.len
  refine xappS hS hi hzs hs0 h1 hx hy hb hq ho (by rw [hl]; exact hlen) hbp hB ?_
  intro v' W' hO' hg hown
  refine hk2 v' W' ⟨_, hO', ?_⟩ (KB.grownS h1 hg (Nat.le_refl _) hB)
  have := h2.snoc hel
  refine this.imp fun q r hq => ?_
  have g1 := ok.sub (S' := fun b => SO S v b ∧ v'.ownBlock ≠ some b) hq (fun b hb hs => ⟨hs, fun e => by
      rcases hown with h | h
      · rw [h] at e; exact hs.2 e
      · rw [h] at e; injection e with e; omega⟩)
  exact ok.sub (ok.ck g1 (grown_ck hg fun b e hs => hs.1.2 e)) fun b _ hs => ⟨hs.1.1, hs.2⟩
end
theorem flat_len {s : Nat} : ∀ {qs : List (List Value)}, (∀ q ∈ qs, q.length = s) → qs.flatten.length = qs.length * s
  | [], _ => by simp
  | p :: qs, hw => by rw [List.flatten_cons, List.length_append, flat_len (fun q hq => hw q (by simp [hq])), hw p (by simp), List.length_cons, Nat.succ_mul]; omega
theorem flat_set {s : Nat} : ∀ {qs : List (List Value)} (hw : ∀ q ∈ qs, q.length = s) {i : Nat} (hi : i < qs.length) {q : List Value} (hq : q.length = s), (qs.set i q).flatten = qs.flatten.take (i * s) ++ q ++ qs.flatten.drop (i * s + s)
  | p :: qs, hw, 0, _, q, hq => by
    have hp := hw p (by simp)
    simp only [List.set_cons_zero, List.flatten_cons, Nat.zero_mul, List.take_zero, List.nil_append, Nat.zero_add]
    rw [← hp, List.drop_left]
  | p :: qs, hw, i + 1, hi, q, hq => by
    have hp := hw p (by simp)
    have ih := flat_set (s := s) (qs := qs) (fun q hq => hw q (List.mem_cons_of_mem _ hq)) (i := i) (by simpa using hi) hq
    have e1 : (i + 1) * s = p.length + i * s := by rw [hp, Nat.succ_mul, Nat.add_comm]
    have e2 : (i + 1) * s + s = p.length + (i * s + s) := by rw [e1, Nat.add_assoc]
    simp only [List.set_cons_succ, List.flatten_cons]
    rw [ih, e2, e1, List.take_length_add_append, List.drop_length_add_append]
    simp only [List.append_assoc]
/-! ### An array of such elements that was made at once -/
structure AQ (s : Nat) (W : World) (b : Nat) (e : TypeId) (n : Nat) (qs : List (List Value)) : Prop where
  box : BoxAt W b qs.flatten e
  wd : ∀ q ∈ qs, q.length = s
  len : qs.length = n
  max : n ≤ 9223372036854775807
section
variable {r : Option Nat} {P : Program} {ρ : Operand → Value} {W W' : World} {d : Option Tmp} {ty T e : TypeId} {pos : String} {af : Array Edge} {g : Option (Nat × Bool)} {x y : Operand} {v : Value} {K : Value → World → Prop} {s b n : Nat} {qs : List (List Value)}
theorem AQ.ext (h : AQ s W b e n qs) (x : Ext W W') : AQ s W' b e n qs := ⟨h.box.ext x, h.wd, h.len, h.max⟩
theorem AQ.ck {S : Nat → Prop} (h : AQ s W b e n qs) (x : CK S W W') (hb : S b) : AQ s W' b e n qs := ⟨h.box.ck x hb, h.wd, h.len, h.max⟩
theorem AQ.wr {b' : Nat} (h : AQ s W b e n qs) (x : Wr b' W W') (hb : b ≠ b') : AQ s W' b e n qs := ⟨h.box.wr x hb, h.wd, h.len, h.max⟩
theorem AQ.bl {B : Nat} (h : AQ s W b e n qs) (x : Below B W W') (hb : b < B) : AQ s W' b e n qs := ⟨h.box.bl x hb, h.wd, h.len, h.max⟩
theorem AQ.tn {B : Nat} (h : AQ s W b e n qs) (x : Tn B W W') : AQ s W' b e n qs := ⟨h.box.tn x, h.wd, h.len, h.max⟩
theorem AQ.rs {S : Nat → Prop} (h : AQ s W b e n qs) (hS : S b) : RS s S W (some ⟨b, 0, none⟩) n n qs :=
  ⟨h.len, Nat.le_refl _, h.max, h.wd, fun hn => ⟨b, 0, _, e, (0,0), rfl, hS, h.box, fun k q hk j u hj => by
    have hq := h.wd q (List.mem_of_getElem? hk)
    have hj2 : j < s := by rw [← hq]; exact (List.getElem?_eq_some_iff.1 hj).1
    have := flat_get h.wd hk hj2
    rw [hj] at this
    simpa using this⟩⟩
/-- make([]T, n) -/
theorem xmkS {t1 : TypeId} {bytes : Nat} {z : Int} {zv : Value} {zs : List Value} (n : Nat) (hS : Sl P t1 e) (hi : ∃ i, P.info? e = some i ∧ i.size = s ∧ i.bytes = bytes ∧ i.zero = some zv) (hzs : zv.cells = zs.toArray) (hss : Nat.beq zs.length s = true) (hs0 : Nat.blt 0 s = true) (hx : ρ x = .int .i64 z) (hy : ρ y = .int .i64 z) (hz : z = (n : Int)) (hn : bytes * n ≤ 281474976710656) (h63 : n ≤ 9223372036854775807)
    (hk2 : ∀ W', Ext W W' → AQ s W' W.heap.size e n (List.replicate n zs) → W'.heap.size = W.heap.size + 1 → K (.slice (some ⟨W.heap.size, 0, none⟩) n n) W') :
    OpF r P ρ ⟨d, .makeSlice t1 x y, ty, pos, af, g⟩ W K := by
  subst hz
  obtain ⟨i, h1, h2, h3, h4⟩ := hi
  have hs1 : zs.length = s := Nat.eq_of_beq_eq_true hss
  have hs2 : 0 < s := by have := Nat.le_of_ble_eq_true hs0; omega
  have hr := run_make (P := P) W t1 e i zv hS h1 h4 .i64 .i64 n n (by omega) (Int.le_refl _) (by rw [h3, ← Int.natCast_mul]; omega) (by omega)
  unfold OpF execOp
  simp only [hx, hy, Sem.run_bind, hr, Result.andThen_ok, Sem.run_pure, Int.toNat_natCast]
  refine hk2 _ ((Ext.refl _).alloc _) ⟨?_, by intro q hq; rw [(List.mem_replicate.1 hq).2]; exact hs1, by simp, h63⟩ (by simp)
  unfold BoxAt
  rw [heap_alloc_new]
  congr 2
  have hsz : zv.cells.size = s := by rw [hzs]; simpa using hs1
  have := rep_cells zv.cells n (by omega)
  rw [hsz] at this
  rw [h2]
  unfold madeCells
  rw [hsz, this, hzs]
/-- a[i] = q -/
theorem xstq {i : Int} {q : List Value} (h : AQ s W b e n qs) (hx : ρ x = .pointer (some (adr (some ⟨b, 0, none⟩) i s))) (hy : ρ y = v) (hv : v.cells = q.toArray) (hT : Sz P T q.length) (hq : Nat.beq q.length s = true) (ho : (q.all Value.oneCell') = true) (h0 : 0 ≤ i) (h1 : i < n)
    (hk2 : ∀ W', Wr b W W' → AQ s W' b e n (qs.set i.toNat q) → K undef W') : OpF r P ρ ⟨d, .store T x y, ty, pos, af, g⟩ W K := by
  have hl := h.len
  have hw := h.wd
  have hm := h.max
  have hqs : q.length = s := Nat.eq_of_beq_eq_true hq
  have hfl := flat_len hw
  have hlt : i.toNat < qs.length := by omega
  have hle : i.toNat * s + s ≤ qs.length * s := by rw [← Nat.succ_mul]; exact Nat.mul_le_mul_right _ hlt
  refine xst (o := i.toNat * s) (vs := q) (cs' := (qs.set i.toNat q).flatten) ?_ hy hT hv ho h.box (by rw [hfl, hqs]; exact hle) ?_ ?_
  · rw [hx]; simp [adr, addO]
  · rw [flat_set hw hlt hqs, hqs]
  · intro W' y' hb
    exact hk2 W' y' ⟨hb, fun p hp => by
      rcases List.mem_or_eq_of_mem_set hp with h | h
      · exact hw p h
      · subst h; exact hqs, by rw [List.length_set]; exact hl, hm⟩
end
end Go.Proofs.Ytknbjfefeeojlaa

/- Package mat: Equal. -/
import Derived.Test.YtknbjfefeeojlaaGreatMga8
namespace Go.Proofs.YtknbjfefeeojlaaGreat
open Go.RowKit
attribute [local irreducible] RV VH V OpF Calls
structure EJ (w : World) (b4 b1 b2 : Nat) (v1 v2 : Value) (s : Bool) (X : World) : Prop where
  ext : Ext w X
  x4 : BoxAt X b4 [.bool s] 4
  x1 : BoxAt X b1 [v1] 22
  x2 : BoxAt X b2 [v2] 22
theorem EJ.tn {w X Y : World} {B b4 b1 b2 : Nat} {v1 v2 : Value} {s : Bool} (h : EJ w b4 b1 b2 v1 v2 s X) (t : Tn B X Y) (hB : w.heap.size ≤ B) : EJ w b4 b1 b2 v1 v2 s Y := ⟨t.ext h.ext hB, h.x4.tn t, h.x1.tn t, h.x2.tn t⟩
theorem EJ.xt {w X Y : World} {b4 b1 b2 : Nat} {v1 v2 : Value} {s : Bool} (h : EJ w b4 b1 b2 v1 v2 s X) (x : Ext X Y) : EJ w b4 b1 b2 v1 v2 s Y := ⟨h.ext.trans x, h.x4.ext x, h.x1.ext x, h.x2.ext x⟩

set_option maxHeartbeats 400000 in
theorem mEqual_ok (a1 a2 : Option Addr) (n c m d : Nat) (L1 L2 : Nat) (rss mss : List (List Rat)) (S1 S2 : Nat → Prop) (w : World) (hx : MA L1 S1 w a1 n c rss) (hy : MA L2 S2 w a2 m d mss) (hL : L1 + L2 < LY) (hl1 : 1 ≤ L1) (hl2 : 1 ≤ L2) (hr1 : ∀ r ∈ rss, r.length ≤ LV) (hr2 : ∀ r ∈ mss, r.length ≤ LV) :
    Calls Tryz.prog 40 #[.slice a1 n c, .slice a2 m d] w (fun e w' => ∃ q, e = .returned (.bool q) ∧ Ext w w' ∧ (q = true ↔ eqm rss mss)) := by
  have z0 := Ext.refl w; have hLX : LX = 17592186044416 := rfl; have hLY : LY = 8796093022208 := rfl
  have hLV : LV = 1099511627776 := rfl
  have l1 := hx.len; have l2 := hy.len
  obtain ⟨qs1, rx, ax⟩ := hx; obtain ⟨qs2, ry, ay⟩ := hy
  have f1 := RowOf.form ax; have f2 := RowOf.form ay
  refine enter (args := [.slice a1 n c, .slice a2 m d]) Tryz.func40 rfl rfl (Nat.le_of_ble_eq_true rfl) ?_
  refine V.seq (V.reg rfl ?_)
  refine vo ?_
  refine xal zc4 ?_
  intro W1 x2 b3 nn4
  have s5 := x2.sz
  have z6 := x2
  refine vnil ?_
  refine V.seq ?_
  refine V.seq (V.reg rfl ?_)
  refine mvs rfl ?_
  refine mvs rfl ?_
  refine vo ?_
  refine xcall e108 (mboth_ok _ _ _ _ _ _ _) rfl rfl ?_
  rintro _ W7 ⟨b1, b2, eb1, eb2, rfl, x8, hb1, hb2⟩
  have s9 := x8.sz
  have z10 := z6.trans x8
  replace b3 := b3.ext x8
  have lb1 := hb1.lt; have lb2 := hb2.lt
  refine ⟨_, rfl, ?_⟩
  refine vnil ?_
  refine V.block ?_
  have lb4 := b3.lt
  refine V.rf (gf := 162) rfl e162 (mboth_iter hb1 hb2 ((rx.sub (S' := fun q => q < w.heap.size ∨ q = b1 ∨ q = b2) (fun b hb _ => .inl hb)).ext z10) ((ry.sub (S' := fun q => q < w.heap.size ∨ q = b1 ∨ q = b2) (fun b hb _ => .inl hb)).ext z10) f1 f2 (.inr (.inl rfl)) (.inr (.inr rfl))) (Ext.refl _) (by rintro k (h | rfl | rfl) <;> omega) rfl (fun i X => EJ w (w.heap.size) b1 b2 (.slice a1 n c) (.slice a2 m d) false X ∧ ∀ t, t < i → ∀ j, mat rss t j = mat mss t j) (fun cd i X => cd = .ret ∧ EJ w (w.heap.size) b1 b2 (.slice a1 n c) (.slice a2 m d) false X ∧ ¬ ∀ j, mat rss i j = mat mss i j) (fun i X Y ⟨hA, h⟩ t => ⟨hA.tn t (by omega), h⟩) (fun cd i X Y ⟨h0, hA, h⟩ t => ⟨h0, hA.tn t (by omega), h⟩) (⟨⟨z10, b3, hb1, hb2⟩, fun j hj => absurd hj (Nat.not_lt_zero _)⟩) ?_ ?_ ?_
  · intro l11 i12 X13 hi14 hM15 hk16 hs17
    obtain ⟨d1, e1, g1, p1⟩ := rvat_form f1 i12; obtain ⟨d2, e2, g2, p2⟩ := rvat_form f2 i12
    show V _ _ _ _ _ _ (up (up _ _ (rvat qs1 i12)) _ (rvat qs2 i12)) _
    rw [p1, p2]
    have zX := Ext.refl X13
    refine V.seq (V.reg rfl ?_)
    refine ass rfl ?_
    refine vnil ?_
    refine V.reg rfl ?_
    refine ass rfl ?_
    refine vnil ?_
    obtain ⟨hA, hQ⟩ := hi14
    replace hA := hA.xt zX
    have lA4 := hA.x4.lt; have sX := zX.sz
    refine ⟨rfl, Kf.ext zX, ?_⟩
    intro Z18 t19
    replace hA := hA.tn t19 (by omega); have st8 := t19.size; have x4 := hA.x4
    have zZ := Ext.refl Z18
    have hgx := (ax.rv (GA.nil L1 _ _) p1).ext hA.ext; have hgy := (ay.rv (GA.nil L2 _ _) p2).ext hA.ext
    have hlx : (rowat rss i12).length ≤ LV := row_le hr1 _; have hly : (rowat mss i12).length ≤ LV := row_le hr2 _; have hlx2 := hgx.len; have hly2 := hgy.len
    refine V.block ?_
    refine V.seq (V.reg rfl ?_)
    refine mvs rfl ?_
    refine mvs rfl ?_
    refine vo ?_
    refine xcall e21 (vEqual_ok _ _ _ _ _ _ _ _ _ _ _ _ _ hgx hgy (by omega) (by omega) (by omega) (by omega) (by omega)) rfl rfl ?_
    rintro _ Wb1 ⟨bb1, rfl, xb1, hb1⟩
    refine ⟨_, rfl, ?_⟩
    cases bb1
    · skip
      have s20 := xb1.sz
      have z21 := xb1
      replace x4 := x4.ext xb1
      refine vv (rnot (q := true) rfl rfl) ?_
      refine vnil ?_
      refine V.condT rfl ?_
      refine V.seq (V.reg rfl ?_)
      refine vo ?_
      refine st1 (v := .bool false) (cs' := [_]) x4 rfl rfl sz4 rfl rfl rfl rfl ?_
      intro W22 y23 x4
      have s24 := y23.size
      refine vnil ?_
      refine V.ret ?_
      exact ⟨(Kf.ext xb1).trans (Kf.wr y23 (hA.xt xb1).x4 (by rintro (h | h | h) <;> omega)), rfl, ⟨(hA.xt xb1).ext.below (y23.below (by omega)), x4, (hA.xt xb1).x1.wr y23 (by omega), (hA.xt xb1).x2.wr y23 (by omega)⟩, fun hh => (by have := hb1.2 ((eqv_all (by omega) (by omega)).2 hh); cases this)⟩
    · skip
      have s25 := xb1.sz
      have z26 := xb1
      replace x4 := x4.ext xb1
      refine vv (rnot (q := false) rfl rfl) ?_
      refine vnil ?_
      refine V.condF rfl ?_
      refine V.skip ?_
      exact ⟨Kf.ext xb1, hA.xt xb1, fun t ht j => by rcases Nat.lt_succ_iff_lt_or_eq.1 ht with h | rfl; exact hQ t h j; exact (eqv_all (by omega) (by omega)).1 (hb1.1 rfl) j⟩
  · intro D27 X28 hD29 hI30 hdf31 hs32
    obtain ⟨hA, hQ⟩ := hI30
    have x4 := hA.x4
    refine V.seq (V.reg rfl ?_)
    refine vo ?_
    refine st1 (v := .bool true) (cs' := [_]) x4 rfl rfl sz4 rfl rfl rfl rfl ?_
    intro W33 y34 x4
    have z35 := hA.ext.below (y34.below (by omega))
    have hd36 := y34.obj hdf31 (by omega)
    have s37 := y34.size
    refine vnil ?_
    refine V.ret ?_
    refine ⟨D27, rfl, hd36, ?_⟩
    have tp := Tn.putObj (B := w.heap.size) (.deferred none) hd36 (by omega) rfl
    have x4 := x4.tn tp
    have z38 := tp.ext z35 (Nat.le_refl _)
    refine ⟨[.bool true], ⟨⟨_, rfl, lv1 sc4 x4 rfl⟩, trivial⟩, ?_⟩
    exact ⟨_, rfl, z38, ⟨fun _ => eqm_of (M := max n m) (by omega) (by omega) hQ, fun _ => rfl⟩⟩
  · rintro D' cd i X hD' hi ⟨rfl, hA, hne⟩ hdf hs
    have x4 := hA.x4
    refine V.ret ?_
    refine ⟨D', rfl, hdf, ?_⟩
    have tp := Tn.putObj (B := w.heap.size) (.deferred none) hdf (by omega) rfl
    have x4 := x4.tn tp
    have z39 := tp.ext hA.ext (Nat.le_refl _)
    refine ⟨[.bool false], ⟨⟨_, rfl, lv1 sc4 x4 rfl⟩, trivial⟩, ?_⟩
    exact ⟨_, rfl, z39, ⟨fun h => (by cases h), fun h => absurd (fun j => h i j) hne⟩⟩
end Go.Proofs.YtknbjfefeeojlaaGreat
/- Parts of slices; sizes of products; the equalities that hold. -/
namespace Go.Proofs.YtknbjfefeeojlaaGreat
open Go.RowKit
attribute [local irreducible] RV VH V OpF Calls
theorem GA.cut {L : Nat} {S : Nat → Prop} {W : World} {a : Option Addr} {n c l m : Nat} {rs : List Rat} (h : GA L S W a n c rs) (h0 : l ≤ m) (hm : m ≤ n) : GA L S W (if c = l then a else a.map (·.add (l * 4))) (m - l) (c - l) ((rs.take m).drop l) := by
  obtain ⟨qs, h1, h2⟩ := h; exact ⟨_, h1.cut h0 hm, (h2.take m).drop l⟩
theorem GC.cut {S : Nat → Prop} {W : World} {a : Option Addr} {n c l m : Nat} {rs : List Rat} (h : GC S W a n c rs) (h0 : l ≤ m) (hm : m ≤ n) : GC S W (if c = l then a else a.map (·.add (l * 4))) (m - l) (c - l) ((rs.take m).drop l) := by
  obtain ⟨qs, h1, h2⟩ := h; exact ⟨_, h1.cut h0 hm, (h2.take m).drop l⟩
section
variable {P : Program} {ρ : Operand → Value} {W : World} {d : Option Tmp} {ty T e : TypeId} {pos : String} {af : Array Edge} {g : Option (Nat × Bool)} {x y u : Operand}
/-- x[l:m], of elements of any size. -/
theorem rsl2 {k' k'' : IntKind} {a : Option Addr} {n c s m l : Nat} {z zl : Int} (hS : Sl P T e) (hs : Sz P e s) (hx : ρ x = .slice a n c) (hu : ρ u = .int k'' zl) (hy : ρ y = .int k' z) (hl : zl = (l : Int)) (hz : z = (m : Int)) (h0 : l ≤ m) (hm : m ≤ c) :
    (execOp ρ ⟨d, .slice T x (some u) (some y) none, ty, pos, af, g⟩).run P W = .ok (.value (.slice (if c = l then a else a.map (·.add (l * s))) (m - l) (c - l))) W := by
  subst hl hz
  refine rslg hS hs hx (l := l) (h := m) ?_ rfl rfl rfl
  simp only [Option.map_some, hy, hu]; exact sb_lh h0 hm
/-- x[:m] -/
theorem rsl1 {k' : IntKind} {a : Option Addr} {n c s m : Nat} {z : Int} (hS : Sl P T e) (hs : Sz P e s) (hx : ρ x = .slice a n c) (hy : ρ y = .int k' z) (hz : z = (m : Int)) (hm : m ≤ c) :
    (execOp ρ ⟨d, .slice T x none (some y) none, ty, pos, af, g⟩).run P W = .ok (.value (.slice a m c)) W := by
  subst hz
  refine rslg hS hs hx (l := 0) (h := m) ?_ ?_ rfl rfl
  · simp only [Option.map_none, Option.map_some, hy]; exact sb_h hm
  · rw [Nat.zero_mul]
    split
    · rfl
    · cases a <;> simp [add0]
/-- x[l:] -/
theorem rsl0 {k' : IntKind} {a : Option Addr} {n c s l : Nat} {zl : Int} (hS : Sl P T e) (hs : Sz P e s) (hx : ρ x = .slice a n c) (hu : ρ u = .int k' zl) (hl : zl = (l : Int)) (hm : l ≤ n) :
    (execOp ρ ⟨d, .slice T x (some u) none none, ty, pos, af, g⟩).run P W = .ok (.value (.slice (if c = l then a else a.map (·.add (l * s))) (n - l) (c - l))) W := by
  subst hl
  refine rslg hS hs hx (l := l) (h := n) ?_ rfl rfl rfl
  simp only [Option.map_some, Option.map_none, hu]; exact sb_l hm
end
theorem GO.old {ρt : Type} {El : (Nat → Prop) → World → List Value → ρt → Prop} {S : Nat → Prop} {s B : Nat} {W : World} {e : TypeId} {v : Value} {rs : List ρt} (h : GO s El S B W e v rs) : ∀ b, b < B → v.ownBlock ≠ some b := fun b hb e => by
  obtain ⟨qs, h1, _⟩ := h
  have := (h1.low b e).1; omega
theorem MX.ma {L : Nat} {S : Nat → Prop} {W : World} {a : Option Addr} {n c : Nat} {ρss : List (List RawQ)} (h : MX S W a n c ρss) (hs : ∀ r ∈ ρss, ∀ ρ ∈ r, szQ L ρ) : MA L S W a n c (ρss.map (·.map qval)) := by
  obtain ⟨qs, h1, h2⟩ := h
  refine ⟨qs, h1, ?_⟩
  clear h1
  induction qs generalizing ρss with
  | nil => cases ρss <;> simp_all [All2]
  | cons q qs ih => cases ρss with
    | nil => exact h2.elim
    | cons r rs => obtain ⟨a, n, c, e, h3⟩ := h2.1; exact ⟨⟨a, n, c, e, h3.va (hs r (by simp))⟩, ih (fun x hx => hs x (by simp [hx])) h2.2⟩
theorem colsN_raw (ρss : List (List RawQ)) : colsN (ρss.map (·.map qval)) = colsG ρss := colsG_map qval ρss
theorem drop_take_one (l : List Rat) {k : Nat} (h : k < l.length) : (l.take (k + 1)).drop k = [vat l k] := by
  rw [List.take_succ_eq_append_getElem h, List.drop_append_of_le_length (by simp; omega)]
  simp [vat_lt h]
theorem len_mulm (a b : List (List Rat)) : (mulm a b).length = a.length := by simp [mulm]
theorem len_mulv (a : List (List Rat)) (x : List Rat) : (mulv a x).length = a.length := by simp [mulv]
theorem mulm_sz {a b L : Nat} {rss mss : List (List Rat)} (h1 : ∀ r ∈ rss, szV a r) (h2 : ∀ i, szV b (rowat mss i)) (ha : 1 ≤ a) (hb : 1 ≤ b) (hL : (a + b + 1) * mss.length + 1 ≤ L) : ∀ r ∈ mulm rss mss, szV L r := by
  intro r hr
  obtain ⟨y, hy, rfl⟩ := List.mem_map.1 hr
  exact fun q hq => (vmk_sz (h1 y hy) h2 ha hb mss.length q hq).mono hL
theorem mulv_sz {a b L R : Nat} {rss : List (List Rat)} {xs : List Rat} (h1 : ∀ r ∈ rss, szV a r) (h2 : szV b xs) (ha : 1 ≤ a) (hb : 1 ≤ b) (hr : ∀ r ∈ rss, r.length ≤ R) (hx : xs.length ≤ R) (hL : (a + b + 1) * R + 1 ≤ L) : szV L (mulv rss xs) := by
  intro r hr'
  obtain ⟨y, hy, rfl⟩ := List.mem_map.1 hr'
  have := hr y hy
  exact (sz_dotk (h1 y hy) h2 ha hb _).mono (Nat.le_trans (Nat.succ_le_succ (Nat.mul_le_mul_left _ (by omega))) hL)
theorem gridm_sz {L : Nat} {f : Int → Int → Rat} {R C : Nat} (h : ∀ i k : Nat, sz L (f i k)) : ∀ r ∈ gridm f R C, szV L r := by
  intro r hr q hq
  obtain ⟨i, _, rfl⟩ := List.mem_map.1 hr
  obtain ⟨k, _, rfl⟩ := List.mem_map.1 hq
  exact h i k
theorem gridm_row (f : Int → Int → Rat) (R C : Nat) : ∀ r ∈ gridm f R C, r.length ≤ C := by
  intro r hr
  obtain ⟨i, _, rfl⟩ := List.mem_map.1 hr
  simp
theorem len_gridm (f : Int → Int → Rat) (R C : Nat) : (gridm f R C).length = R := by simp [gridm]
theorem row_gridm (f : Int → Int → Rat) {R C i : Nat} (h : i < R) : (rowat (gridm f R C) i).length = C := by
  unfold rowat gridm; rw [List.getD_eq_getElem?_getD, List.getElem?_map, List.getElem?_range h]; simp
theorem szOne : sz 1 1 := by constructor <;> decide
theorem unitv_sz (N : Nat) (k : Int) : szV 1 (unitv N k) := by
  intro r hr
  unfold unitv at hr
  split at hr
  · rcases List.mem_or_eq_of_mem_set hr with h | h
    · rw [(List.mem_replicate.1 h).2]; exact sz_zero
    · rw [h]; exact szOne
  · rw [(List.mem_replicate.1 hr).2]; exact sz_zero
theorem MA.rowsz {L : Nat} {S : Nat → Prop} {W : World} {a : Option Addr} {n c : Nat} {rss : List (List Rat)} (h : MA L S W a n c rss) (hL : 1 ≤ L) : ∀ r ∈ rss, szV L r := fun r hr => by
  obtain ⟨i, hi⟩ := List.getElem?_of_mem hr
  have := GA.rows h hL i
  unfold rowat at this
  rwa [List.getD_eq_getElem?_getD, hi] at this
theorem wmin {N R : Nat} (hN : N ≤ 1000) : IntKind.i64.wrap ((N : Int) * min (R : Int) 1) = ((N * min R 1 : Nat) : Int) := by
  have h : N * min R 1 ≤ N * 1 := Nat.mul_le_mul_left _ (Nat.min_le_right R 1)
  have e : (N : Int) * min (R : Int) 1 = ((N * min R 1 : Nat) : Int) := by rw [Int.natCast_mul]; congr 1; omega
  rw [e, wi (by omega)]
section
variable {L1 L2 : Nat} {S1 S2 : Nat → Prop} {w : World} {a1 a2 : Option Addr} {n c m d : Nat} {xs ys : List Rat} {rss mss : List (List Rat)}
theorem vEq_true (w : World) (hx : GA L1 S1 w a1 n c xs) (hy : GA L2 S2 w a2 m d ys) (hL : L1 + L2 < LY) (hl1 : 1 ≤ L1) (hl2 : 1 ≤ L2) (hn : n ≤ LV) (hm : m ≤ LV) (e : ∀ j, vat xs j = vat ys j) : Calls Tryz.prog 21 #[.slice a1 n c, .slice a2 m d] w fun e w' => e = .returned (.bool true) ∧ Ext w w' := by
  refine (vEqual_ok _ _ _ _ _ _ _ _ _ _ _ _ w hx hy hL hl1 hl2 hn hm).mono ?_
  rintro _ _ ⟨q, h1, h2, h3⟩
  exact ⟨by rw [h1, h3.2 fun j _ => e j], h2⟩
theorem mEq_true (w : World) (hx : MA L1 S1 w a1 n c rss) (hy : MA L2 S2 w a2 m d mss) (hL : L1 + L2 < LY) (hl1 : 1 ≤ L1) (hl2 : 1 ≤ L2) (hr1 : ∀ r ∈ rss, r.length ≤ LV) (hr2 : ∀ r ∈ mss, r.length ≤ LV) (e : eqm rss mss) : Calls Tryz.prog 40 #[.slice a1 n c, .slice a2 m d] w fun e w' => e = .returned (.bool true) ∧ Ext w w' := by
  refine (mEqual_ok _ _ _ _ _ _ _ _ _ _ _ _ w hx hy hL hl1 hl2 hr1 hr2).mono ?_
  rintro _ _ ⟨q, h1, h2, h3⟩
  exact ⟨by rw [h1, h3.2 e], h2⟩
theorem fEq_true (w : World) {q1 q2 : List Value} {r s : Rat} (h1 : QA L1 S1 w q1 r) (h2 : QA L2 S2 w q2 s) (hL : L1 + L2 < LY) (hl1 : 1 ≤ L1) (hl2 : 1 ≤ L2) (e : r = s) : Calls Tryz.prog 67 #[.agg q1.toArray, .agg q2.toArray] w fun e w' => e = .returned (.bool true) ∧ Ext w w' := by
  refine (fEqual_ok _ _ _ _ _ _ _ _ _ h1 h2 hL hl1 hl2).mono ?_
  rintro _ _ ⟨h1, h2⟩
  exact ⟨by rw [h1, decide_eq_true e], h2⟩
end
end Go.Proofs.YtknbjfefeeojlaaGreat
/- Package pylonlaw04: MatMatches. -/
namespace Go.Proofs.YtknbjfefeeojlaaGreat
open Go.RowKit
attribute [local irreducible] RV VH V OpF Calls
theorem qIs_true {S1 S2 : Nat → Prop} {q1 q2 : List Value} {r s : Rat} (w : World) (h1 : QC S1 w q1 r) (h2 : QC S2 w q2 s) (e : r = s) : Calls Tryz.prog 37 #[.agg q1.toArray, .agg q2.toArray] w fun e w' => e = .returned (.bool true) ∧ Ext w w' := by
  refine (qIs_ok _ _ _ _ _ _ w h1 h2).mono ?_
  rintro _ _ ⟨q, h1, h2, h3⟩
  exact ⟨by rw [h1, h3.2 (by rw [e])], h2⟩
theorem mIs_raw {S1 S2 : Nat → Prop} {a1 a2 : Option Addr} {n c m d : Nat} {ρs σs : List (List RawQ)} (w : World) (hx : MX S1 w a1 n c ρs) (hy : MX S2 w a2 m d σs) (e : ρs = σs) : Calls Tryz.prog 42 #[.slice a1 n c, .slice a2 m d] w fun e w' => e = .returned (.bool true) ∧ Ext w w' := by
  refine (mIs_ok _ _ _ _ _ _ _ _ _ _ w hx hy).mono ?_
  rintro _ _ ⟨q, h1, h2, h3⟩
  exact ⟨by rw [h1, h3.2 e], h2⟩

set_option maxHeartbeats 400000 in
theorem matMatches_ok (a1 a2 : Option Addr) (n c m d : Nat) (i k y z : Int) (A B : List (List RawQ)) (w : World) (hx : MX TT w a1 n c A) (hy : MX TT w a2 m d B) :
    Calls Tryz.prog 4 #[.slice a1 n c, .slice a2 m d, .int .i64 i, .int .i64 k, .int .i64 y, .int .i64 z] w (fun e w' => e = .returned (.bool true) ∧ Ext w w') := by
  have z0 := Ext.refl w; have hLX : LX = 17592186044416 := rfl; have hLY : LY = 8796093022208 := rfl
  have hLV : LV = 1099511627776 := rfl
  obtain ⟨R, hR⟩ : ∃ R : Nat, min (max y 0) 1024 = (R : Int) := ⟨(min (max y 0) 1024).toNat, by omega⟩
  obtain ⟨C, hC⟩ : ∃ C : Nat, min (max z 0) 1024 = (C : Int) := ⟨(min (max z 0) 1024).toNat, by omega⟩
  refine enter (args := [.slice a1 n c, .slice a2 m d, .int .i64 i, .int .i64 k, .int .i64 y, .int .i64 z]) Tryz.func4 rfl rfl (Nat.le_of_ble_eq_true rfl) ?_
  refine V.seq (V.reg rfl ?_)
  refine asb rfl ?_
  refine vnil ?_
  refine V.seq ?_
  refine V.seq (V.reg rfl ?_)
  refine mvs rfl ?_
  refine mvs rfl ?_
  refine vo ?_
  refine xbs (ps := [(0, .slice _ _ _), (1, .slice _ _ _)]) (cs := [.slice _ _ _, .slice _ _ _]) sl115 zr22 sz22 rfl rfl rfl rfl rfl rfl ?_
  intro W1 x2 b3 nn4
  have s5 := x2.sz
  have z6 := x2
  refine vo ?_
  have hm7 : MXX TT W1 (some ⟨w.heap.size, 0, none⟩) 2 2 [_, _] := ⟨[[.slice _ _ _], [.slice _ _ _]], RS.lit (s := 1) (S := TT) (n := 2) _ b3 rfl (by simp) trivial rfl (by omega), ⟨_, _, _, rfl, (hx.ext z6)⟩, ⟨_, _, _, rfl, (hy.ext z6)⟩, trivial⟩
  refine xcall e32 (long4_ok _ _ _ _ _ _ hm7) rfl rfl ?_
  rintro _ Wb1 ⟨bb1, rfl, xb1, hb1⟩
  refine ⟨_, rfl, ?_⟩
  cases bb1
  · skip
    have s8 := xb1.sz
    have z9 := z6.trans xb1
    replace b3 := b3.ext xb1
    refine mvb rfl ?_
    refine vg rfl ?_
    refine mvi rfl ?_
    refine vg rfl ?_
    refine vgt rfl rfl ?_ ?_
    · intro c10
      refine vv (rpk (v := .bool true) rfl rfl) ?_
      refine mvb rfl ?_
      refine vgn (b := true) rfl rfl ?_
      refine vgn (b := true) rfl rfl ?_
      refine vv (rpk (v := .bool true) rfl rfl) ?_
      refine vnil ?_
      refine V.condT rfl ?_
      refine V.seq (V.reg rfl ?_)
      refine vo ?_
      refine xcall e33 (law4_ok _) rfl rfl ?_
      rintro _ W11 ⟨rfl, x12⟩
      have s13 := x12.sz
      have z14 := z9.trans x12
      replace b3 := b3.ext x12
      refine ⟨_, rfl, ?_⟩
      refine asb rfl ?_
      refine vnil ?_
      refine V.ret ?_
      refine ⟨[.bool true], ⟨rfl, trivial⟩, ?_⟩
      exact ⟨rfl, z14⟩
    · intro c10
      refine vv (rpk (v := .bool false) rfl rfl) ?_
      refine mvb rfl ?_
      refine vg rfl ?_
      refine mvi rfl ?_
      refine vg rfl ?_
      refine vgt rfl rfl ?_ ?_
      · intro c15
        refine vv (rpk (v := .bool true) rfl rfl) ?_
        refine vnil ?_
        refine V.condT rfl ?_
        refine V.seq (V.reg rfl ?_)
        refine vo ?_
        refine xcall e33 (law4_ok _) rfl rfl ?_
        rintro _ W16 ⟨rfl, x17⟩
        have s18 := x17.sz
        have z19 := z9.trans x17
        replace b3 := b3.ext x17
        refine ⟨_, rfl, ?_⟩
        refine asb rfl ?_
        refine vnil ?_
        refine V.ret ?_
        refine ⟨[.bool true], ⟨rfl, trivial⟩, ?_⟩
        exact ⟨rfl, z19⟩
      · intro c15
        refine vv (rpk (v := .bool false) rfl rfl) ?_
        refine vnil ?_
        refine V.condF rfl ?_
        refine V.skip ?_
        refine V.seq (V.reg rfl ?_)
        have hA := (hb1 rfl) A (by simp); have hB := (hb1 rfl) B (by simp)
        obtain ⟨rss, hrss⟩ : ∃ rss, rss = A.map (·.map qval) := ⟨_, rfl⟩
        obtain ⟨mss, hmss⟩ : ∃ mss, mss = B.map (·.map qval) := ⟨_, rfl⟩
        have hma : MA 6 TT _ a1 n c rss := hrss ▸ ((hx.ext z9)).ma (fun r hr => (hA.2.2 r hr).2)
        have hmb : MA 6 TT _ a2 m d mss := hmss ▸ ((hy.ext z9)).ma (fun r hr => (hB.2.2 r hr).2)
        have hcg : colsG A = colsN rss := by rw [hrss, colsN_raw]
        have hcA : colsN rss ≤ 8 := by rw [← hcg]; exact hA.2.1
        have hlA := hma.len; have hlB := hmb.len; have hlA2 := ((hx.ext z9)).len
        have hn8 : n ≤ 8 := by have := hA.1; omega
        have hrA2 : ∀ r ∈ rss, r.length ≤ LV := fun r hr => by have := cols_ge r hr; omega
        have hrB2 : ∀ r ∈ mss, r.length ≤ LV := fun r hr => by have := cols_ge r hr; have hcB : colsN mss ≤ 8 := (by rw [hmss, colsN_raw]; exact hB.2.1); omega
        have z20 := Ext.refl Wb1
        refine mvs rfl ?_
        refine vo ?_
        refine xcall e34 (own4_ok _ _ _ _ TT _ _ (hx.ext z9) (fun r hr ρ hρ => ⟨by have := ((hA.2.2 r hr).2 ρ hρ).1; omega, by have := ((hA.2.2 r hr).2 ρ hρ).2; omega⟩) (by omega) (fun r hr => by have := (hA.2.2 r hr).1; omega) (TT.up _)) rfl rfl ?_
        rintro _ W21 ⟨_, no, _, rfl, x22, hmx⟩
        have s23 := x22.sz
        have z24 := z9.trans x22
        have z25 := x22
        replace b3 := b3.ext x22
        have hmo : MA 6 TT _ _ _ _ rss := hrss ▸ hmx.ma (fun r hr => (hA.2.2 r hr).2)
        obtain rfl : no = n := by have := hmx.len; omega
        refine ⟨_, rfl, ?_⟩
        refine ass rfl ?_
        refine vnil ?_
        refine V.seq ?_
        refine V.seq (V.reg rfl ?_)
        refine mvs rfl ?_
        refine vo ?_
        refine xcall e35 (mCols_ok _ _ _ _ _ _ _ hmo) rfl rfl ?_
        rintro _ W26 ⟨rfl, x27⟩
        have s28 := x27.sz
        have z29 := z24.trans x27
        have z30 := z25.trans x27
        replace b3 := b3.ext x27
        refine ⟨_, rfl, ?_⟩
        refine mvs rfl ?_
        refine vo ?_
        refine xcall e36 (rCols_ok _ _ _ _ _ _ (hx.ext z29)) rfl rfl ?_
        rintro _ _ ⟨rfl, rfl⟩
        rw [hcg]
        refine ⟨_, rfl, ?_⟩
        refine vne rfl rfl ?_ ?_
        · intro c32
          omega
        · intro c32
          refine mvb rfl ?_
          refine vg rfl ?_
          refine mvs rfl ?_
          refine vg rfl ?_
          refine mvi rfl ?_
          refine vg rfl ?_
          refine mvi rfl ?_
          refine vg rfl ?_
          refine vo ?_
          refine xcall e38 (mAt_ok _ _ _ _ _ _ _ TT _ _ (hmo.ext x27) (by omega) (by omega) (TT.up _)) rfl rfl ?_
          rintro _ W34 ⟨_, rfl, x35, hq33⟩
          have s36 := x35.sz
          have z37 := z29.trans x35
          have z38 := z30.trans x35
          replace b3 := b3.ext x35
          obtain ⟨_, _, _, _, _, _, _, _, rfl⟩ := hq33.form
          refine ⟨_, rfl, ?_⟩
          refine vg rfl ?_
          refine mvs rfl ?_
          refine vg rfl ?_
          refine mvi rfl ?_
          refine vg rfl ?_
          refine mvi rfl ?_
          refine vg rfl ?_
          refine vo ?_
          refine xcall e39 (rAt4_ok _ _ _ _ _ _ _ TT _ _ (hma.ext z38) (by omega) (by omega) (TT.up _)) rfl rfl ?_
          rintro _ W40 ⟨_, rfl, x41, hq39⟩
          have s42 := x41.sz
          have z43 := z37.trans x41
          have z44 := z38.trans x41
          replace b3 := b3.ext x41
          obtain ⟨_, _, _, _, _, _, _, _, rfl⟩ := hq39.form
          refine ⟨_, rfl, ?_⟩
          refine vg rfl ?_
          refine vo ?_
          refine xcall e37 (qIs_true _ (q1 := [_, _, _, _]) (q2 := [_, _, _, _]) (hq33.ext x41) hq39 rfl) rfl rfl ?_
          rintro _ W45 ⟨rfl, x46⟩
          have s47 := x46.sz
          have z48 := z43.trans x46
          have z49 := z44.trans x46
          replace b3 := b3.ext x46
          refine ⟨_, rfl, ?_⟩
          refine vg rfl ?_
          refine vv (rnot (q := false) rfl rfl) ?_
          refine vv (rpk (v := .bool false) rfl rfl) ?_
          refine mvb rfl ?_
          refine vg rfl ?_
          refine mvs rfl ?_
          refine vg rfl ?_
          refine mvs rfl ?_
          refine vg rfl ?_
          refine vo ?_
          refine xcall e40 (mEqual_ok _ _ _ _ _ _ 6 6 _ _ _ _ _ (hmo.ext (((x27.trans x35).trans x41).trans x46)) (hmb.ext z49) (by omega) (by omega) (by omega) hrA2 hrB2) rfl rfl ?_
          rintro _ Wb4 ⟨bb4, rfl, xb4, hb4⟩
          refine ⟨_, rfl, ?_⟩
          cases bb4
          · skip
            have s50 := xb4.sz
            have z51 := z48.trans xb4
            have z52 := z49.trans xb4
            replace b3 := b3.ext xb4
            refine vg rfl ?_
            refine mvs rfl ?_
            refine vg rfl ?_
            refine mvs rfl ?_
            refine vg rfl ?_
            refine vo ?_
            refine xcall e41 (rSame4_ok _ _ _ _ _ _ 6 6 _ _ _ _ _ (hma.ext z52) (hmb.ext z52) (by omega) (by omega) (by omega)) rfl rfl ?_
            rintro _ W53 ⟨q2, rfl, x54, hq2⟩
            have s55 := x54.sz
            have z56 := z51.trans x54
            have z57 := z52.trans x54
            replace b3 := b3.ext x54
            obtain rfl : q2 = false := by
              cases q2
              · rfl
              · exact absurd (hb4.2 (hq2.1 rfl)) (by simp)
            refine ⟨_, rfl, ?_⟩
            refine vg rfl ?_
            refine vv (rbne Tryz.underlying4 rfl rfl rfl) ?_
            refine vv (rpk (v := .bool false) rfl rfl) ?_
            refine mvb rfl ?_
            refine vg rfl ?_
            refine mvs rfl ?_
            refine vg rfl ?_
            refine mvi rfl ?_
            refine vg rfl ?_
            refine mvi rfl ?_
            refine vg rfl ?_
            refine vo ?_
            refine xcall e43 (mResize_ok _ _ _ _ _ R C 6 _ TT _ _ (hmo.ext (((((x27.trans x35).trans x41).trans x46).trans xb4).trans x54)) hR hC (by omega) (by omega) (fun i k => szMI (hmo.ext (((((x27.trans x35).trans x41).trans x46).trans xb4).trans x54)) (by omega) _ _) (TT.up _)) rfl rfl ?_
            rintro _ W58 ⟨_, _, _, rfl, x59, hv1⟩
            have s60 := x59.sz
            have z61 := z56.trans x59
            have z62 := z57.trans x59
            replace b3 := b3.ext x59
            refine ⟨_, rfl, ?_⟩
            refine vg rfl ?_
            refine mvs rfl ?_
            refine vg rfl ?_
            refine mvi rfl ?_
            refine vg rfl ?_
            refine mvi rfl ?_
            refine vg rfl ?_
            refine vo ?_
            refine xcall e44 (rFit_ok _ _ _ _ _ R C 6 _ TT _ _ (hma.ext z62) hR hC (by omega) (by omega) (TT.up _)) rfl rfl ?_
            rintro _ W63 ⟨_, _, _, rfl, x64, hv2⟩
            have s65 := x64.sz
            have z66 := z61.trans x64
            have z67 := z62.trans x64
            replace b3 := b3.ext x64
            refine ⟨_, rfl, ?_⟩
            refine vg rfl ?_
            refine vo ?_
            refine xcall e42 (mIs_true _ (hv1.ext x64) hv2 rfl) rfl rfl ?_
            rintro _ W68 ⟨rfl, x69⟩
            have s70 := x69.sz
            have z71 := z66.trans x69
            have z72 := z67.trans x69
            replace b3 := b3.ext x69
            refine ⟨_, rfl, ?_⟩
            refine vg rfl ?_
            refine vv (rnot (q := false) rfl rfl) ?_
            refine vv (rpk (v := .bool false) rfl rfl) ?_
            refine vnil ?_
            refine V.condF rfl ?_
            refine V.skip ?_
            refine V.seq (V.reg rfl ?_)
            refine mvs rfl ?_
            refine vo ?_
            refine xcall e45 (mTr_ok _ _ _ 6 _ TT _ _ (hmo.ext ((((((((x27.trans x35).trans x41).trans x46).trans xb4).trans x54).trans x59).trans x64).trans x69)) (by omega) (by omega) (by omega) (by omega) (TT.up _)) rfl rfl ?_
            rintro _ W73 ⟨_, _, _, rfl, x74, hv3⟩
            have s75 := x74.sz
            have z76 := z71.trans x74
            have z77 := z72.trans x74
            replace b3 := b3.ext x74
            refine ⟨_, rfl, ?_⟩
            refine mvs rfl ?_
            refine vo ?_
            refine xcall e46 (rTurn_ok _ _ _ 6 _ _ TT _ _ (hx.ext z76) (hma.ext z77) hcg (by omega) (by omega) (by omega) (by omega) (TT.up _)) rfl rfl ?_
            rintro _ W78 ⟨_, _, _, rfl, x79, hv4⟩
            have s80 := x79.sz
            have z81 := z76.trans x79
            have z82 := z77.trans x79
            replace b3 := b3.ext x79
            refine ⟨_, rfl, ?_⟩
            refine vo ?_
            refine xcall e42 (mIs_true _ (hv3.ext x79) hv4 rfl) rfl rfl ?_
            rintro _ W83 ⟨rfl, x84⟩
            have s85 := x84.sz
            have z86 := z81.trans x84
            have z87 := z82.trans x84
            replace b3 := b3.ext x84
            refine ⟨_, rfl, ?_⟩
            refine mvb rfl ?_
            refine vg rfl ?_
            refine mvi rfl ?_
            refine vg rfl ?_
            refine vo ?_
            refine xcall e47 (mIdent_ok _ R TT _ hR (TT.up _)) rfl rfl ?_
            rintro _ W88 ⟨_, _, _, rfl, x89, hv5⟩
            have s90 := x89.sz
            have z91 := z86.trans x89
            have z92 := z87.trans x89
            replace b3 := b3.ext x89
            refine ⟨_, rfl, ?_⟩
            refine vg rfl ?_
            refine mvi rfl ?_
            refine vg rfl ?_
            refine vo ?_
            refine xcall e48 (rUnit4_ok _ R TT _ hR (TT.up _)) rfl rfl ?_
            rintro _ W93 ⟨_, _, _, rfl, x94, hv6⟩
            have s95 := x94.sz
            have z96 := z91.trans x94
            have z97 := z92.trans x94
            replace b3 := b3.ext x94
            refine ⟨_, rfl, ?_⟩
            refine vg rfl ?_
            refine vo ?_
            refine xcall e42 (mIs_true _ (hv5.ext x94) hv6 rfl) rfl rfl ?_
            rintro _ W98 ⟨rfl, x99⟩
            have s100 := x99.sz
            have z101 := z96.trans x99
            have z102 := z97.trans x99
            replace b3 := b3.ext x99
            refine ⟨_, rfl, ?_⟩
            refine vv (rpk (v := .bool true) rfl rfl) ?_
            refine mvb rfl ?_
            refine vg rfl ?_
            refine mvs rfl ?_
            refine vg rfl ?_
            refine mvs rfl ?_
            refine vg rfl ?_
            refine vo ?_
            refine xcall e42 (mIs_raw _ (hmx.ext ((((((((((((((x27.trans x35).trans x41).trans x46).trans xb4).trans x54).trans x59).trans x64).trans x69).trans x74).trans x79).trans x84).trans x89).trans x94).trans x99)) (hx.ext z101) rfl) rfl rfl ?_
            rintro _ W103 ⟨rfl, x104⟩
            have s105 := x104.sz
            have z106 := z101.trans x104
            have z107 := z102.trans x104
            replace b3 := b3.ext x104
            refine ⟨_, rfl, ?_⟩
            refine vv (rpk (v := .bool true) rfl rfl) ?_
            refine mvb rfl ?_
            refine vg rfl ?_
            refine vo ?_
            refine xcall e33 (law4_ok _) rfl rfl ?_
            rintro _ W108 ⟨rfl, x109⟩
            have s110 := x109.sz
            have z111 := z106.trans x109
            have z112 := z107.trans x109
            replace b3 := b3.ext x109
            refine ⟨_, rfl, ?_⟩
            refine vv (rpk (v := .bool true) rfl rfl) ?_
            refine asb rfl ?_
            refine vnil ?_
            refine V.ret ?_
            refine ⟨[.bool true], ⟨rfl, trivial⟩, ?_⟩
            exact ⟨rfl, z111⟩
          · skip
            have s113 := xb4.sz
            have z114 := z48.trans xb4
            have z115 := z49.trans xb4
            replace b3 := b3.ext xb4
            refine vg rfl ?_
            refine mvs rfl ?_
            refine vg rfl ?_
            refine mvs rfl ?_
            refine vg rfl ?_
            refine vo ?_
            refine xcall e41 (rSame4_ok _ _ _ _ _ _ 6 6 _ _ _ _ _ (hma.ext z115) (hmb.ext z115) (by omega) (by omega) (by omega)) rfl rfl ?_
            rintro _ W116 ⟨q2, rfl, x117, hq2⟩
            have s118 := x117.sz
            have z119 := z114.trans x117
            have z120 := z115.trans x117
            replace b3 := b3.ext x117
            obtain rfl : q2 = true := hq2.2 (hb4.1 rfl)
            refine ⟨_, rfl, ?_⟩
            refine vg rfl ?_
            refine vv (rbne Tryz.underlying4 rfl rfl rfl) ?_
            refine vv (rpk (v := .bool false) rfl rfl) ?_
            refine mvb rfl ?_
            refine vg rfl ?_
            refine mvs rfl ?_
            refine vg rfl ?_
            refine mvi rfl ?_
            refine vg rfl ?_
            refine mvi rfl ?_
            refine vg rfl ?_
            refine vo ?_
            refine xcall e43 (mResize_ok _ _ _ _ _ R C 6 _ TT _ _ (hmo.ext (((((x27.trans x35).trans x41).trans x46).trans xb4).trans x117)) hR hC (by omega) (by omega) (fun i k => szMI (hmo.ext (((((x27.trans x35).trans x41).trans x46).trans xb4).trans x117)) (by omega) _ _) (TT.up _)) rfl rfl ?_
            rintro _ W121 ⟨_, _, _, rfl, x122, hv1⟩
            have s123 := x122.sz
            have z124 := z119.trans x122
            have z125 := z120.trans x122
            replace b3 := b3.ext x122
            refine ⟨_, rfl, ?_⟩
            refine vg rfl ?_
            refine mvs rfl ?_
            refine vg rfl ?_
            refine mvi rfl ?_
            refine vg rfl ?_
            refine mvi rfl ?_
            refine vg rfl ?_
            refine vo ?_
            refine xcall e44 (rFit_ok _ _ _ _ _ R C 6 _ TT _ _ (hma.ext z125) hR hC (by omega) (by omega) (TT.up _)) rfl rfl ?_
            rintro _ W126 ⟨_, _, _, rfl, x127, hv2⟩
            have s128 := x127.sz
            have z129 := z124.trans x127
            have z130 := z125.trans x127
            replace b3 := b3.ext x127
            refine ⟨_, rfl, ?_⟩
            refine vg rfl ?_
            refine vo ?_
            refine xcall e42 (mIs_true _ (hv1.ext x127) hv2 rfl) rfl rfl ?_
            rintro _ W131 ⟨rfl, x132⟩
            have s133 := x132.sz
            have z134 := z129.trans x132
            have z135 := z130.trans x132
            replace b3 := b3.ext x132
            refine ⟨_, rfl, ?_⟩
            refine vg rfl ?_
            refine vv (rnot (q := false) rfl rfl) ?_
            refine vv (rpk (v := .bool false) rfl rfl) ?_
            refine vnil ?_
            refine V.condF rfl ?_
            refine V.skip ?_
            refine V.seq (V.reg rfl ?_)
            refine mvs rfl ?_
            refine vo ?_
            refine xcall e45 (mTr_ok _ _ _ 6 _ TT _ _ (hmo.ext ((((((((x27.trans x35).trans x41).trans x46).trans xb4).trans x117).trans x122).trans x127).trans x132)) (by omega) (by omega) (by omega) (by omega) (TT.up _)) rfl rfl ?_
            rintro _ W136 ⟨_, _, _, rfl, x137, hv3⟩
            have s138 := x137.sz
            have z139 := z134.trans x137
            have z140 := z135.trans x137
            replace b3 := b3.ext x137
            refine ⟨_, rfl, ?_⟩
            refine mvs rfl ?_
            refine vo ?_
            refine xcall e46 (rTurn_ok _ _ _ 6 _ _ TT _ _ (hx.ext z139) (hma.ext z140) hcg (by omega) (by omega) (by omega) (by omega) (TT.up _)) rfl rfl ?_
            rintro _ W141 ⟨_, _, _, rfl, x142, hv4⟩
            have s143 := x142.sz
            have z144 := z139.trans x142
            have z145 := z140.trans x142
            replace b3 := b3.ext x142
            refine ⟨_, rfl, ?_⟩
            refine vo ?_
            refine xcall e42 (mIs_true _ (hv3.ext x142) hv4 rfl) rfl rfl ?_
            rintro _ W146 ⟨rfl, x147⟩
            have s148 := x147.sz
            have z149 := z144.trans x147
            have z150 := z145.trans x147
            replace b3 := b3.ext x147
            refine ⟨_, rfl, ?_⟩
            refine mvb rfl ?_
            refine vg rfl ?_
            refine mvi rfl ?_
            refine vg rfl ?_
            refine vo ?_
            refine xcall e47 (mIdent_ok _ R TT _ hR (TT.up _)) rfl rfl ?_
            rintro _ W151 ⟨_, _, _, rfl, x152, hv5⟩
            have s153 := x152.sz
            have z154 := z149.trans x152
            have z155 := z150.trans x152
            replace b3 := b3.ext x152
            refine ⟨_, rfl, ?_⟩
            refine vg rfl ?_
            refine mvi rfl ?_
            refine vg rfl ?_
            refine vo ?_
            refine xcall e48 (rUnit4_ok _ R TT _ hR (TT.up _)) rfl rfl ?_
            rintro _ W156 ⟨_, _, _, rfl, x157, hv6⟩
            have s158 := x157.sz
            have z159 := z154.trans x157
            have z160 := z155.trans x157
            replace b3 := b3.ext x157
            refine ⟨_, rfl, ?_⟩
            refine vg rfl ?_
            refine vo ?_
            refine xcall e42 (mIs_true _ (hv5.ext x157) hv6 rfl) rfl rfl ?_
            rintro _ W161 ⟨rfl, x162⟩
            have s163 := x162.sz
            have z164 := z159.trans x162
            have z165 := z160.trans x162
            replace b3 := b3.ext x162
            refine ⟨_, rfl, ?_⟩
            refine vv (rpk (v := .bool true) rfl rfl) ?_
            refine mvb rfl ?_
            refine vg rfl ?_
            refine mvs rfl ?_
            refine vg rfl ?_
            refine mvs rfl ?_
            refine vg rfl ?_
            refine vo ?_
            refine xcall e42 (mIs_raw _ (hmx.ext ((((((((((((((x27.trans x35).trans x41).trans x46).trans xb4).trans x117).trans x122).trans x127).trans x132).trans x137).trans x142).trans x147).trans x152).trans x157).trans x162)) (hx.ext z164) rfl) rfl rfl ?_
            rintro _ W166 ⟨rfl, x167⟩
            have s168 := x167.sz
            have z169 := z164.trans x167
            have z170 := z165.trans x167
            replace b3 := b3.ext x167
            refine ⟨_, rfl, ?_⟩
            refine vv (rpk (v := .bool true) rfl rfl) ?_
            refine mvb rfl ?_
            refine vg rfl ?_
            refine vo ?_
            refine xcall e33 (law4_ok _) rfl rfl ?_
            rintro _ W171 ⟨rfl, x172⟩
            have s173 := x172.sz
            have z174 := z169.trans x172
            have z175 := z170.trans x172
            replace b3 := b3.ext x172
            refine ⟨_, rfl, ?_⟩
            refine vv (rpk (v := .bool true) rfl rfl) ?_
            refine asb rfl ?_
            refine vnil ?_
            refine V.ret ?_
            refine ⟨[.bool true], ⟨rfl, trivial⟩, ?_⟩
            exact ⟨rfl, z174⟩
  · skip
    have s176 := xb1.sz
    have z177 := z6.trans xb1
    replace b3 := b3.ext xb1
    refine mvb rfl ?_
    refine vgn (b := true) rfl rfl ?_
    refine vgn (b := true) rfl rfl ?_
    refine vv (rpk (v := .bool true) rfl rfl) ?_
    refine mvb rfl ?_
    refine vgn (b := true) rfl rfl ?_
    refine vgn (b := true) rfl rfl ?_
    refine vv (rpk (v := .bool true) rfl rfl) ?_
    refine vnil ?_
    refine V.condT rfl ?_
    refine V.seq (V.reg rfl ?_)
    refine vo ?_
    refine xcall e33 (law4_ok _) rfl rfl ?_
    rintro _ W178 ⟨rfl, x179⟩
    have s180 := x179.sz
    have z181 := z177.trans x179
    replace b3 := b3.ext x179
    refine ⟨_, rfl, ?_⟩
    refine asb rfl ?_
    refine vnil ?_
    refine V.ret ?_
    refine ⟨[.bool true], ⟨rfl, trivial⟩, ?_⟩
    exact ⟨rfl, z181⟩
end Go.Proofs.YtknbjfefeeojlaaGreat

/- Package mat: Equal. -/
import Derived.Test.YtknbjfefeeojlaaMf
namespace Go.Proofs.Ytknbjfefeeojlaa
open Go.RowKit
attribute [local irreducible] RV VH V OpF Calls
structure EJ (w : World) (b4 b1 b2 : Nat) (v1 v2 : Value) (s : Bool) (X : World) : Prop where
  ext : Ext w X
  x4 : BoxAt X b4 [.bool s] 4
  x1 : BoxAt X b1 [v1] 25
  x2 : BoxAt X b2 [v2] 25
theorem EJ.tn {w X Y : World} {B b4 b1 b2 : Nat} {v1 v2 : Value} {s : Bool} (h : EJ w b4 b1 b2 v1 v2 s X) (t : Tn B X Y) (hB : w.heap.size ≤ B) : EJ w b4 b1 b2 v1 v2 s Y := ⟨t.ext h.ext hB, h.x4.tn t, h.x1.tn t, h.x2.tn t⟩
theorem EJ.xt {w X Y : World} {b4 b1 b2 : Nat} {v1 v2 : Value} {s : Bool} (h : EJ w b4 b1 b2 v1 v2 s X) (x : Ext X Y) : EJ w b4 b1 b2 v1 v2 s Y := ⟨h.ext.trans x, h.x4.ext x, h.x1.ext x, h.x2.ext x⟩

set_option maxHeartbeats 400000 in
theorem mEqual_ok (a1 a2 : Option Addr) (n c m d : Nat) (L1 L2 : Nat) (rss mss : List (List Rat)) (S1 S2 : Nat → Prop) (w : World) (hx : MA L1 S1 w a1 n c rss) (hy : MA L2 S2 w a2 m d mss) (hL : L1 + L2 < LY) (hl1 : 1 ≤ L1) (hl2 : 1 ≤ L2) (hr1 : ∀ r ∈ rss, r.length ≤ LV) (hr2 : ∀ r ∈ mss, r.length ≤ LV) :
    Calls Try.prog 23 #[.slice a1 n c, .slice a2 m d] w (fun e w' => ∃ q, e = .returned (.bool q) ∧ Ext w w' ∧ (q = true ↔ eqm rss mss)) := by
  have z0 := Ext.refl w; have hLX : LX = 17592186044416 := rfl; have hLY : LY = 8796093022208 := rfl
  have hLV : LV = 1099511627776 := rfl
  have l1 := hx.len; have l2 := hy.len
  obtain ⟨qs1, rx, ax⟩ := hx; obtain ⟨qs2, ry, ay⟩ := hy
  have f1 := RowOf.form ax; have f2 := RowOf.form ay
  refine enter (args := [.slice a1 n c, .slice a2 m d]) Try.func23 rfl rfl (Nat.le_of_ble_eq_true rfl) ?_
  refine V.seq (V.reg rfl ?_)
  refine vo ?_
  refine xal zc4 ?_
  intro W1 x2 b3 nn4
  have s5 := x2.sz
  have z6 := x2
  refine vnil ?_
  refine V.seq ?_
  refine V.seq (V.reg rfl ?_)
  refine mvs rfl ?_
  refine mvs rfl ?_
  refine vo ?_
  refine xcall e41 (mboth_ok _ _ _ _ _ _ _) rfl rfl ?_
  rintro _ W7 ⟨b1, b2, eb1, eb2, rfl, x8, hb1, hb2⟩
  have s9 := x8.sz
  have z10 := z6.trans x8
  replace b3 := b3.ext x8
  have lb1 := hb1.lt; have lb2 := hb2.lt
  refine ⟨_, rfl, ?_⟩
  refine vnil ?_
  refine V.block ?_
  have lb4 := b3.lt
  refine V.rf (gf := 66) rfl e66 (mboth_iter hb1 hb2 ((rx.sub (S' := fun q => q < w.heap.size ∨ q = b1 ∨ q = b2) (fun b hb _ => .inl hb)).ext z10) ((ry.sub (S' := fun q => q < w.heap.size ∨ q = b1 ∨ q = b2) (fun b hb _ => .inl hb)).ext z10) f1 f2 (.inr (.inl rfl)) (.inr (.inr rfl))) (Ext.refl _) (by rintro k (h | rfl | rfl) <;> omega) rfl (fun i X => EJ w (w.heap.size) b1 b2 (.slice a1 n c) (.slice a2 m d) false X ∧ ∀ t, t < i → ∀ j, mat rss t j = mat mss t j) (fun cd i X => cd = .ret ∧ EJ w (w.heap.size) b1 b2 (.slice a1 n c) (.slice a2 m d) false X ∧ ¬ ∀ j, mat rss i j = mat mss i j) (fun i X Y ⟨hA, h⟩ t => ⟨hA.tn t (by omega), h⟩) (fun cd i X Y ⟨h0, hA, h⟩ t => ⟨h0, hA.tn t (by omega), h⟩) (⟨⟨z10, b3, hb1, hb2⟩, fun j hj => absurd hj (Nat.not_lt_zero _)⟩) ?_ ?_ ?_
  · intro l11 i12 X13 hi14 hM15 hk16 hs17
    obtain ⟨d1, e1, g1, p1⟩ := rvat_form f1 i12; obtain ⟨d2, e2, g2, p2⟩ := rvat_form f2 i12
    show V _ _ _ _ _ _ (up (up _ _ (rvat qs1 i12)) _ (rvat qs2 i12)) _
    rw [p1, p2]
    have zX := Ext.refl X13
    refine V.seq (V.reg rfl ?_)
    refine ass rfl ?_
    refine vnil ?_
    refine V.reg rfl ?_
    refine ass rfl ?_
    refine vnil ?_
    obtain ⟨hA, hQ⟩ := hi14
    replace hA := hA.xt zX
    have lA4 := hA.x4.lt; have sX := zX.sz
    refine ⟨rfl, Kf.ext zX, ?_⟩
    intro Z18 t19
    replace hA := hA.tn t19 (by omega); have st8 := t19.size; have x4 := hA.x4
    have zZ := Ext.refl Z18
    have hgx := (ax.rv (GA.nil L1 _ _) p1).ext hA.ext; have hgy := (ay.rv (GA.nil L2 _ _) p2).ext hA.ext
    have hlx : (rowat rss i12).length ≤ LV := row_le hr1 _; have hly : (rowat mss i12).length ≤ LV := row_le hr2 _; have hlx2 := hgx.len; have hly2 := hgy.len
    refine V.block ?_
    refine V.seq (V.reg rfl ?_)
    refine mvs rfl ?_
    refine mvs rfl ?_
    refine vo ?_
    refine xcall e17 (vEqual_ok _ _ _ _ _ _ _ _ _ _ _ _ _ hgx hgy (by omega) (by omega) (by omega) (by omega) (by omega)) rfl rfl ?_
    rintro _ Wb1 ⟨bb1, rfl, xb1, hb1⟩
    refine ⟨_, rfl, ?_⟩
    cases bb1
    · skip
      have s20 := xb1.sz
      have z21 := xb1
      replace x4 := x4.ext xb1
      refine vv (rnot (q := true) rfl rfl) ?_
      refine vnil ?_
      refine V.condT rfl ?_
      refine V.seq (V.reg rfl ?_)
      refine vo ?_
      refine st1 (v := .bool false) (cs' := [_]) x4 rfl rfl sz4 rfl rfl rfl rfl ?_
      intro W22 y23 x4
      have s24 := y23.size
      refine vnil ?_
      refine V.ret ?_
      exact ⟨(Kf.ext xb1).trans (Kf.wr y23 (hA.xt xb1).x4 (by rintro (h | h | h) <;> omega)), rfl, ⟨(hA.xt xb1).ext.below (y23.below (by omega)), x4, (hA.xt xb1).x1.wr y23 (by omega), (hA.xt xb1).x2.wr y23 (by omega)⟩, fun hh => (by have := hb1.2 ((eqv_all (by omega) (by omega)).2 hh); cases this)⟩
    · skip
      have s25 := xb1.sz
      have z26 := xb1
      replace x4 := x4.ext xb1
      refine vv (rnot (q := false) rfl rfl) ?_
      refine vnil ?_
      refine V.condF rfl ?_
      refine V.skip ?_
      exact ⟨Kf.ext xb1, hA.xt xb1, fun t ht j => by rcases Nat.lt_succ_iff_lt_or_eq.1 ht with h | rfl; exact hQ t h j; exact (eqv_all (by omega) (by omega)).1 (hb1.1 rfl) j⟩
  · intro D27 X28 hD29 hI30 hdf31 hs32
    obtain ⟨hA, hQ⟩ := hI30
    have x4 := hA.x4
    refine V.seq (V.reg rfl ?_)
    refine vo ?_
    refine st1 (v := .bool true) (cs' := [_]) x4 rfl rfl sz4 rfl rfl rfl rfl ?_
    intro W33 y34 x4
    have z35 := hA.ext.below (y34.below (by omega))
    have hd36 := y34.obj hdf31 (by omega)
    have s37 := y34.size
    refine vnil ?_
    refine V.ret ?_
    refine ⟨D27, rfl, hd36, ?_⟩
    have tp := Tn.putObj (B := w.heap.size) (.deferred none) hd36 (by omega) rfl
    have x4 := x4.tn tp
    have z38 := tp.ext z35 (Nat.le_refl _)
    refine ⟨[.bool true], ⟨⟨_, rfl, lv1 sc4 x4 rfl⟩, trivial⟩, ?_⟩
    exact ⟨_, rfl, z38, ⟨fun _ => eqm_of (M := max n m) (by omega) (by omega) hQ, fun _ => rfl⟩⟩
  · rintro D' cd i X hD' hi ⟨rfl, hA, hne⟩ hdf hs
    have x4 := hA.x4
    refine V.ret ?_
    refine ⟨D', rfl, hdf, ?_⟩
    have tp := Tn.putObj (B := w.heap.size) (.deferred none) hdf (by omega) rfl
    have x4 := x4.tn tp
    have z39 := tp.ext hA.ext (Nat.le_refl _)
    refine ⟨[.bool false], ⟨⟨_, rfl, lv1 sc4 x4 rfl⟩, trivial⟩, ?_⟩
    exact ⟨_, rfl, z39, ⟨fun h => (by cases h), fun h => absurd (fun j => h i j) hne⟩⟩
end Go.Proofs.Ytknbjfefeeojlaa

/- Package vec: Compare, Equal. -/
import Derived.Test.YtknbjfefeeojlaaVc
namespace Go.Proofs.Ytknbjfefeeojlaa
open Go.RowKit
attribute [local irreducible] RV VH V OpF Calls
/-- The comparison up to M elements. -/
def LexP (xs ys : List Rat) (M : Nat) (s : Int) : Prop := (∃ i, i < M ∧ s = cq (vat xs i) (vat ys i) ∧ s ≠ 0 ∧ ∀ j, j < i → vat xs j = vat ys j) ∨ (s = 0 ∧ ∀ j, j < M → vat xs j = vat ys j)
structure CJ (w : World) (b4 b1 b2 : Nat) (v1 v2 : Value) (s : Int) (X : World) : Prop where
  ext : Ext w X
  x4 : BoxAt X b4 [.int .i64 s] 3
  x1 : BoxAt X b1 [v1] 30
  x2 : BoxAt X b2 [v2] 30
theorem CJ.tn {w X Y : World} {B b4 b1 b2 : Nat} {v1 v2 : Value} {s : Int} (h : CJ w b4 b1 b2 v1 v2 s X) (t : Tn B X Y) (hB : w.heap.size ≤ B) : CJ w b4 b1 b2 v1 v2 s Y := ⟨t.ext h.ext hB, h.x4.tn t, h.x1.tn t, h.x2.tn t⟩
theorem CJ.xt {w X Y : World} {b4 b1 b2 : Nat} {v1 v2 : Value} {s : Int} (h : CJ w b4 b1 b2 v1 v2 s X) (x : Ext X Y) : CJ w b4 b1 b2 v1 v2 s Y := ⟨h.ext.trans x, h.x4.ext x, h.x1.ext x, h.x2.ext x⟩

set_option maxHeartbeats 400000 in
theorem vCompare_ok (a1 a2 : Option Addr) (n c m d : Nat) (L1 L2 : Nat) (xs ys : List Rat) (S1 S2 : Nat → Prop) (w : World) (hx : GA L1 S1 w a1 n c xs) (hy : GA L2 S2 w a2 m d ys) (hL : L1 + L2 < LY) (hl1 : 1 ≤ L1) (hl2 : 1 ≤ L2) (hn : n ≤ LV) (hm : m ≤ LV) :
    Calls Try.prog 36 #[.slice a1 n c, .slice a2 m d] w (fun e w' => ∃ s, e = .returned (.int .i64 s) ∧ Ext w w' ∧ LexP xs ys (max n m) s) := by
  have z0 := Ext.refl w; have hLX : LX = 17592186044416 := rfl; have hLY : LY = 8796093022208 := rfl
  have hLV : LV = 1099511627776 := rfl
  have l1 := hx.len; have l2 := hy.len
  obtain ⟨qs1, rx, ax⟩ := hx; obtain ⟨qs2, ry, ay⟩ := hy
  have f1 := ax.form; have f2 := ay.form
  refine enter (args := [.slice a1 n c, .slice a2 m d]) Try.func36 rfl rfl (Nat.le_of_ble_eq_true rfl) ?_
  refine V.seq (V.reg rfl ?_)
  refine vo ?_
  refine xal zc3 ?_
  intro W1 x2 b3 nn4
  have s5 := x2.sz
  have z6 := x2
  refine vnil ?_
  refine V.seq ?_
  refine V.seq (V.reg rfl ?_)
  refine mvs rfl ?_
  refine mvs rfl ?_
  refine vo ?_
  refine xcall e59 (both_ok _ _ _ _ _ _ _) rfl rfl ?_
  rintro _ W7 ⟨b1, b2, eb1, eb2, rfl, x8, hb1, hb2⟩
  have s9 := x8.sz
  have z10 := z6.trans x8
  replace b3 := b3.ext x8
  have lb1 := hb1.lt; have lb2 := hb2.lt
  refine ⟨_, rfl, ?_⟩
  refine vnil ?_
  refine V.block ?_
  have lb4 := b3.lt
  refine V.rf (gf := 88) rfl e88 (both_iter hb1 hb2 ((rx.sub (S' := fun q => q < w.heap.size ∨ q = b1 ∨ q = b2) (fun b hb _ => .inl hb)).ext z10) ((ry.sub (S' := fun q => q < w.heap.size ∨ q = b1 ∨ q = b2) (fun b hb _ => .inl hb)).ext z10) f1 f2 (.inr (.inl rfl)) (.inr (.inr rfl))) (Ext.refl _) (by rintro k (h | rfl | rfl) <;> omega) rfl (fun i X => CJ w (w.heap.size) b1 b2 (.slice a1 n c) (.slice a2 m d) 0 X ∧ ∀ j, j < i → vat xs j = vat ys j) (fun cd i X => cd = .ret ∧ CJ w (w.heap.size) b1 b2 (.slice a1 n c) (.slice a2 m d) (cq (vat xs i) (vat ys i)) X ∧ cq (vat xs i) (vat ys i) ≠ 0 ∧ ∀ j, j < i → vat xs j = vat ys j) (fun i X Y ⟨hA, h⟩ t => ⟨hA.tn t (by omega), h⟩) (fun cd i X Y ⟨h0, hA, h⟩ t => ⟨h0, hA.tn t (by omega), h⟩) (⟨⟨z10, b3, hb1, hb2⟩, fun j hj => absurd hj (Nat.not_lt_zero _)⟩) ?_ ?_ ?_
  · intro l11 i12 X13 hi14 hM15 hk16 hs17
    obtain ⟨m1, d1, e1, g1, m2, d2, e2, g2, p1⟩ := qat_form f1 i12; obtain ⟨m3, d3, e3, g3, m4, d4, e4, g4, p2⟩ := qat_form f2 i12
    have ev2 : (Value.agg (qat qs1 i12 ++ qat qs2 i12).toArray) = .agg #[.bool m1, .slice d1 e1 g1, .bool m2, .slice d2 e2 g2, .bool m3, .slice d3 e3 g3, .bool m4, .slice d4 e4 g4] := by rw [p1, p2]; rfl
    show V _ _ _ _ _ _ (up (up _ _ _) _ (Value.agg (qat qs1 i12 ++ qat qs2 i12).toArray)) _
    rw [ev2]
    have zX := Ext.refl X13
    refine V.reg rfl ?_
    refine vo ?_
    refine xal zc85 ?_
    intro W18 x19 b20 nn21
    have s22 := x19.sz
    have z23 := x19
    refine vo ?_
    refine sta (cs' := [_, _, _, _, _, _, _, _]) b20 rfl rfl sz85 rfl rfl rfl ?_
    intro W24 y25 b20
    have z26 := z23.below (y25.below (by omega))
    have s27 := y25.size
    refine vnil ?_
    obtain ⟨hA, hQ⟩ := hi14
    replace hA := hA.xt z26
    have l8 := b20.lt; have lA4 := hA.x4.lt; have sX := z26.sz
    refine ⟨rfl, Kf.ext z26, ?_⟩
    intro Z28 t29
    replace hA := hA.tn t29 (by omega); have x8 := b20.tn t29; have st8 := t29.size; have x4 := hA.x4
    have zZ := Ext.refl Z28
    have hqx := ((ax.qat i12).sub (S' := fun _ => True) (fun _ _ _ => trivial)).ext hA.ext; have hqy := ((ay.qat i12).sub (S' := fun _ => True) (fun _ _ _ => trivial)).ext hA.ext; rw [p1] at hqx; rw [p2] at hqy
    refine V.block ?_
    refine V.seq (V.reg rfl ?_)
    refine vv (rixa (i := 0) Try.underlying85 sz43 rfl rfl (by decide)) ?_
    refine vv (rldb4 rfl ag43 x8 rfl rfl rfl rfl ) ?_
    refine vv (rixa (i := 1) Try.underlying85 sz43 rfl rfl (by decide)) ?_
    refine vv (rldb4 rfl ag43 x8 rfl rfl rfl rfl ) ?_
    refine vo ?_
    refine xcall e38 (fCmp_ok _ _ _ _ _ _ _ _ _ hqx hqy (by omega) (by omega) (by omega)) rfl rfl ?_
    rintro _ W30 ⟨rfl, x31⟩
    have s32 := x31.sz
    have z33 := x31
    replace x4 := x4.ext x31
    replace x8 := x8.ext x31
    refine ⟨_, rfl, ?_⟩
    refine asi rfl ?_
    refine vnil ?_
    refine V.seq (V.reg rfl ?_)
    refine mvi rfl ?_
    refine vne rfl rfl ?_ ?_
    · intro c1
      refine vnil ?_
      refine V.condT rfl ?_
      refine V.seq (V.reg rfl ?_)
      refine mvi rfl ?_
      refine vo ?_
      refine st1 (v := .int _ _) (cs' := [_]) x4 rfl rfl sz3 rfl rfl rfl rfl ?_
      intro W34 y35 x4
      replace x8 := x8.wr y35 (by omega)
      have s36 := y35.size
      refine vnil ?_
      refine V.ret ?_
      exact ⟨(Kf.ext x31).trans (Kf.wr y35 (hA.xt x31).x4 (by rintro (h | h | h) <;> omega)), rfl, ⟨(hA.xt x31).ext.below (y35.below (by omega)), x4, (hA.xt x31).x1.wr y35 (by omega), (hA.xt x31).x2.wr y35 (by omega)⟩, c1, hQ⟩
    · intro c1
      refine vnil ?_
      refine V.condF rfl ?_
      refine V.skip ?_
      exact ⟨Kf.ext x31, hA.xt x31, fun j hj => by rcases Nat.lt_succ_iff_lt_or_eq.1 hj with h | rfl; exact hQ j h; exact cq_eq.1 c1⟩
  · intro D37 X38 hD39 hI40 hdf41 hs42
    obtain ⟨hA, hQ⟩ := hI40
    have x4 := hA.x4
    refine V.seq (V.reg rfl ?_)
    refine vo ?_
    refine st1 (v := .int _ _) (cs' := [_]) x4 rfl rfl sz3 rfl rfl rfl rfl ?_
    intro W43 y44 x4
    have z45 := hA.ext.below (y44.below (by omega))
    have hd46 := y44.obj hdf41 (by omega)
    have s47 := y44.size
    refine vnil ?_
    refine V.ret ?_
    refine ⟨D37, rfl, hd46, ?_⟩
    have tp := Tn.putObj (B := w.heap.size) (.deferred none) hd46 (by omega) rfl
    have x4 := x4.tn tp
    have z48 := tp.ext z45 (Nat.le_refl _)
    refine ⟨[.int _ _], ⟨⟨_, rfl, lv1 sc3 x4 rfl⟩, trivial⟩, ?_⟩
    exact ⟨_, rfl, z48, .inr ⟨rfl, hQ⟩⟩
  · rintro D' cd i X hD' hi ⟨rfl, hA, hne, hQ⟩ hdf hs
    have x4 := hA.x4
    refine V.ret ?_
    refine ⟨D', rfl, hdf, ?_⟩
    have tp := Tn.putObj (B := w.heap.size) (.deferred none) hdf (by omega) rfl
    have x4 := x4.tn tp
    have z49 := tp.ext hA.ext (Nat.le_refl _)
    refine ⟨[.int _ _], ⟨⟨_, rfl, lv1 sc3 x4 rfl⟩, trivial⟩, ?_⟩
    exact ⟨_, rfl, z49, .inl ⟨i, hi, rfl, hne, hQ⟩⟩

def eqv (xs ys : List Rat) (M : Nat) : Prop := ∀ j, j < M → vat xs j = vat ys j
theorem LexP.zero {xs ys : List Rat} {M : Nat} {s : Int} (h : LexP xs ys M s) : s = 0 ↔ eqv xs ys M := by
  rcases h with ⟨i, hi, rfl, hne, hj⟩ | ⟨rfl, h⟩
  · exact ⟨fun h => absurd h hne, fun h => cq_eq.2 (h i hi)⟩
  · exact ⟨fun _ => h, fun _ => rfl⟩

set_option maxHeartbeats 400000 in
theorem vEqual_ok (a1 a2 : Option Addr) (n c m d : Nat) (L1 L2 : Nat) (xs ys : List Rat) (S1 S2 : Nat → Prop) (w : World) (hx : GA L1 S1 w a1 n c xs) (hy : GA L2 S2 w a2 m d ys) (hL : L1 + L2 < LY) (hl1 : 1 ≤ L1) (hl2 : 1 ≤ L2) (hn : n ≤ LV) (hm : m ≤ LV) :
    Calls Try.prog 17 #[.slice a1 n c, .slice a2 m d] w (fun e w' => ∃ b, e = .returned (.bool b) ∧ Ext w w' ∧ (b = true ↔ eqv xs ys (max n m))) := by
  have z0 := Ext.refl w; have hLX : LX = 17592186044416 := rfl; have hLY : LY = 8796093022208 := rfl
  have hLV : LV = 1099511627776 := rfl
  have l1 := hx.len; have l2 := hy.len
  refine enter (args := [.slice a1 n c, .slice a2 m d]) Try.func17 rfl rfl (Nat.le_of_ble_eq_true rfl) ?_
  refine V.seq (V.reg rfl ?_)
  refine asb rfl ?_
  refine vnil ?_
  refine V.seq (V.reg rfl ?_)
  refine mvs rfl ?_
  refine mvs rfl ?_
  refine vo ?_
  refine xcall e36 (vCompare_ok _ _ _ _ _ _ _ _ _ _ _ _ _ hx hy (by omega) (by omega) (by omega) (by omega) (by omega)) rfl rfl ?_
  rintro _ W3 ⟨s1, rfl, x4, hl2⟩
  have s5 := x4.sz
  have z6 := x4
  refine ⟨_, rfl, ?_⟩
  refine veq rfl rfl ?_ ?_
  · intro c7
    refine asb rfl ?_
    refine vnil ?_
    refine V.ret ?_
    refine ⟨[.bool true], ⟨rfl, trivial⟩, ?_⟩
    refine ⟨_, rfl, z6, ?_⟩
    have hh := hl2.zero
    first | exact ⟨fun _ => hh.1 (by assumption), fun _ => rfl⟩ | exact ⟨fun h => (by cases h), fun h => absurd (hh.2 h) (by assumption)⟩
  · intro c7
    refine asb rfl ?_
    refine vnil ?_
    refine V.ret ?_
    refine ⟨[.bool false], ⟨rfl, trivial⟩, ?_⟩
    refine ⟨_, rfl, z6, ?_⟩
    have hh := hl2.zero
    first | exact ⟨fun _ => hh.1 (by assumption), fun _ => rfl⟩ | exact ⟨fun h => (by cases h), fun h => absurd (hh.2 h) (by assumption)⟩
end Go.Proofs.Ytknbjfefeeojlaa

/- Package vec: with. -/
import Derived.Test.YtknbjfefeeojlaaVa
namespace Go.Proofs.Ytknbjfefeeojlaa
open Go.RowKit
attribute [local irreducible] RV VH V OpF Calls
abbrev LV : Nat := 1099511627776
def SW (S : Nat → Prop) (b6 : Nat) (v : Value) : Nat → Prop := fun b => S b ∧ b ≠ b6 ∧ v.ownBlock ≠ some b
theorem grown_kd {D : Nat → Prop} {W W' : World} {row : Option Nat} (h : W.grownBy W' row) (hr : ∀ b, row = some b → ¬ D b) (hos : Below 0 W W') : KD D W W' :=
  ⟨hos.os, hos.tape, hos.output, h.size, fun k hk hl => h.block k hl (fun e => hr k e.symm hk)⟩
structure WJ (w : World) (T5 : TypeId) (b5 b6 b1 b2 : Nat) (fv v1 v2 v : Value) (qs : List (List Value)) (X : World) : Prop where
  ext : Ext w X
  x5 : BoxAt X b5 [fv] T5
  x6 : BoxAt X b6 [v] 30
  x1 : BoxAt X b1 [v1] 30
  x2 : BoxAt X b2 [v2] 30
  os : OS 4 w.heap.size X 43 v qs
section
variable {w X Y : World} {T5 : TypeId} {B b5 b6 b1 b2 : Nat} {fv v1 v2 v v' : Value} {qs : List (List Value)} {rs : List Rat} {S : Nat → Prop}
theorem WJ.tn (h : WJ w T5 b5 b6 b1 b2 fv v1 v2 v qs X) (t : Tn B X Y) (hB : w.heap.size ≤ B) : WJ w T5 b5 b6 b1 b2 fv v1 v2 v qs Y :=
  ⟨t.ext h.ext hB, h.x5.tn t, h.x6.tn t, h.x1.tn t, h.x2.tn t, h.os.ck (t.ck fun _ => True) fun _ _ => trivial⟩
theorem WJ.xt (h : WJ w T5 b5 b6 b1 b2 fv v1 v2 v qs X) (x : Ext X Y) : WJ w T5 b5 b6 b1 b2 fv v1 v2 v qs Y :=
  ⟨h.ext.trans x, h.x5.ext x, h.x6.ext x, h.x1.ext x, h.x2.ext x, h.os.ext x⟩
theorem SW.up (hu : Up S w) (h : WJ w T5 b5 b6 b1 b2 fv v1 v2 v qs X) : Up (SW S b6 v) X := fun b hb =>
  ⟨hu b (Nat.le_trans h.ext.sz hb), fun e => by have := h.x6.lt; omega, fun e => by have := (h.os.low b e).2; omega⟩
theorem app_all (h : All2 (QC (SW S b6 v) X) qs rs) (hg : X.grownBy Y v.ownBlock) (ho : v'.ownBlock = v.ownBlock ∨ v'.ownBlock = some X.heap.size) : All2 (QC (SW S b6 v') Y) qs rs :=
  h.imp fun q r hq => by
    have h1 := hq.sub (S' := fun b => SW S b6 v b ∧ v'.ownBlock ≠ some b) (fun b hb hs => ⟨hs, fun e => by
      rcases ho with h | h
      · rw [h] at e; exact hs.2.2 e
      · rw [h] at e; injection e with e; omega⟩)
    exact (h1.ck (grown_ck hg fun b e hs => hs.1.2.2 e)).sub fun b _ hs => ⟨hs.1.1, hs.1.2.1, hs.2⟩
/-- One element more. -/
theorem WJ.app {Z : World} {q : List Value} (h : WJ w T5 b5 b6 b1 b2 fv v1 v2 v qs X) (hT : T5 ≠ 43) (hO : OS 4 w.heap.size Y 43 v' (qs ++ [q])) (hg : X.grownBy Y v.ownBlock) (ho : v'.ownBlock = v.ownBlock ∨ v'.ownBlock = some X.heap.size)
    (y : Wr b6 Y Z) (hb : BoxAt Z b6 [v'] 30) (hl : w.heap.size ≤ b6) (n5 : b5 ≠ b6) (n1 : b1 ≠ b6) (n2 : b2 ≠ b6) :
    WJ w T5 b5 b6 b1 b2 fv v1 v2 v' (qs ++ [q]) Z ∧ KB w.heap.size X Z ∧ KD (fun k => k < w.heap.size ∨ k = b1 ∨ k = b2) X Z := by
  have k1 : KB w.heap.size X Y := KB.grownS h.os hg (Nat.le_refl _) h.ext.sz
  have ne : ∀ {b : Nat} {cs : List Value} {T : TypeId}, BoxAt X b cs T → T ≠ 43 → BoxAt Y b cs T := fun hb hT => hb.ck (S := fun q => v.ownBlock ≠ some q) (grown_ck hg fun b e h => h e) (h.os.neBox hb hT)
  have k2 : KB w.heap.size Y Z := KB.wr y (ne h.x6 (by decide)) hl
  have o6 : v'.ownBlock ≠ some b6 := by
    rcases ho with h' | h' <;> rw [h']
    · exact h.os.neBox h.x6 (by decide)
    · intro e; injection e with e; have := h.x6.lt; omega
  refine ⟨⟨h.ext.below (k1.trans k2).below, (ne h.x5 hT).wr y n5, hb, (ne h.x1 (by decide)).wr y n1, (ne h.x2 (by decide)).wr y n2, hO.ck (y.ck (S := fun q => q ≠ b6) (fun h => h rfl)) (fun b e e2 => o6 (e2 ▸ e))⟩, k1.trans k2, ?_⟩
  refine (grown_kd hg (fun b e hd => ?_) (k1.below.mono (Nat.zero_le _))).trans (y.kd (fun hd => ?_))
  · rcases hd with hd | rfl | rfl
    · have := (h.os.low b e).1; omega
    · exact h.os.neBox h.x1 (by decide) e
    · exact h.os.neBox h.x2 (by decide) e
  · rcases hd with hd | hd | hd
    · omega
    · exact n1 hd.symm
    · exact n2 hd.symm
end


abbrev HF (fF : Nat) (cap : List Value) (gf : Rat → Rat → Rat) (L1 L2 : Nat) (w : World) : Prop :=
  ∀ (W : World) (q1 q2 : List Value) (r1 r2 : Rat) (S' : Nat → Prop), Ext w W → Up S' W → QA L1 (fun _ => True) W q1 r1 → QA L2 (fun _ => True) W q2 r2 → Calls Try.prog fF (([.agg q1.toArray, .agg q2.toArray] : List Value) ++ cap).toArray W (PQ S' (gf r1 r2) W)
def zipf (gf : Rat → Rat → Rat) (xs ys : List Rat) (k : Nat) : List Rat := (List.range k).map fun i => gf (vat xs i) (vat ys i)
theorem zipf_succ (gf : Rat → Rat → Rat) (xs ys : List Rat) (k : Nat) : zipf gf xs ys (k + 1) = zipf gf xs ys k ++ [gf (vat xs k) (vat ys k)] := by simp [zipf, List.range_succ]
theorem zipf_len (gf : Rat → Rat → Rat) (xs ys : List Rat) (k : Nat) : (zipf gf xs ys k).length = k := by simp [zipf]

set_option maxHeartbeats 400000 in
theorem with_ok (a1 a2 : Option Addr) (n c m d : Nat) (fF : Nat) (cap : List Value) (gf : Rat → Rat → Rat) (L1 L2 : Nat) (xs ys : List Rat) (S S1 S2 : Nat → Prop) (w : World) (hx : GA L1 S1 w a1 n c xs) (hy : GA L2 S2 w a2 m d ys) (he : Ent Try.prog fF) (hf : HF fF cap gf L1 L2 w) (hn : n ≤ LV) (hm : m ≤ LV) (hu : Up S w) :
    Calls Try.prog 84 #[.slice a1 n c, .slice a2 m d, .func (.func fF) #[] cap.toArray] w (fun e w' => ∃ a k cc, e = .returned (.slice a k cc) ∧ Ext w w' ∧ GC S w' a k cc (zipf gf xs ys (max n m))) := by
  have z0 := Ext.refl w; have hLX : LX = 17592186044416 := rfl; have hLY : LY = 8796093022208 := rfl
  have hLV : LV = 1099511627776 := rfl
  have l1 := hx.len; have l2 := hy.len
  obtain ⟨qs1, rx, ax⟩ := hx; obtain ⟨qs2, ry, ay⟩ := hy
  have f1 := ax.form; have f2 := ay.form
  refine enter (args := [.slice a1 n c, .slice a2 m d, .func (.func fF) #[] cap.toArray]) Try.func84 rfl rfl (Nat.le_of_ble_eq_true rfl) ?_
  refine V.seq (V.reg rfl ?_)
  refine vo ?_
  refine bxf rfl ?_
  intro W1 x2 b3 nn4
  have s5 := x2.sz
  have z6 := x2
  refine vo ?_
  refine xal zc30 ?_
  intro W7 x8 b9 nn10
  have s11 := x8.sz
  have z12 := z6.trans x8
  replace b3 := b3.ext x8
  refine vnil ?_
  refine V.seq ?_
  refine V.seq (V.reg rfl ?_)
  refine mvs rfl ?_
  refine mvs rfl ?_
  refine vo ?_
  refine xcall e59 (both_ok _ _ _ _ _ _ _) rfl rfl ?_
  rintro _ W13 ⟨b1, b2, eb1, eb2, rfl, x14, hb1, hb2⟩
  have s15 := x14.sz
  have z16 := z12.trans x14
  replace b3 := b3.ext x14
  replace b9 := b9.ext x14
  have lb1 := hb1.lt; have lb2 := hb2.lt
  refine ⟨_, rfl, ?_⟩
  refine vnil ?_
  refine V.block ?_
  have lb5 := b3.lt; have lb6 := b9.lt
  refine V.rf (gf := 88) rfl e88 (both_iter hb1 hb2 ((rx.sub (S' := fun q => q < w.heap.size ∨ q = b1 ∨ q = b2) (fun b hb _ => .inl hb)).ext z16) ((ry.sub (S' := fun q => q < w.heap.size ∨ q = b1 ∨ q = b2) (fun b hb _ => .inl hb)).ext z16) f1 f2 (.inr (.inl rfl)) (.inr (.inr rfl))) (Ext.refl _) (by rintro k (h | rfl | rfl) <;> omega) rfl (fun i X => ∃ v qs, WJ w 86 (w.heap.size) (W1.heap.size) b1 b2 (.func (.func fF) #[] cap.toArray) (.slice a1 n c) (.slice a2 m d) v qs X ∧ All2 (QC (SW S (W1.heap.size) v) X) qs (zipf gf xs ys i)) (fun _ _ _ => False) (fun i X Y ⟨v, qs, hA, h⟩ t => ⟨v, qs, hA.tn t (by omega), h.imp fun _ _ h => h.ck (t.ck _)⟩) (fun _ _ _ _ h _ => h) (⟨_, [], ⟨z16, b3, b9, hb1, hb2, OS.nil _ _ _ _⟩, trivial⟩) ?_ ?_ ?_
  · intro l17 i18 X19 hi20 hM21 hk22 hs23
    obtain ⟨m1, d1, e1, g1, m2, d2, e2, g2, p1⟩ := qat_form f1 i18; obtain ⟨m3, d3, e3, g3, m4, d4, e4, g4, p2⟩ := qat_form f2 i18
    have ev2 : (Value.agg (qat qs1 i18 ++ qat qs2 i18).toArray) = .agg #[.bool m1, .slice d1 e1 g1, .bool m2, .slice d2 e2 g2, .bool m3, .slice d3 e3 g3, .bool m4, .slice d4 e4 g4] := by rw [p1, p2]; rfl
    show V _ _ _ _ _ _ (up (up _ _ _) _ (Value.agg (qat qs1 i18 ++ qat qs2 i18).toArray)) _
    rw [ev2]
    have zX := Ext.refl X19
    refine V.reg rfl ?_
    refine vo ?_
    refine xal zc85 ?_
    intro W24 x25 b26 nn27
    have s28 := x25.sz
    have z29 := x25
    refine vo ?_
    refine sta (cs' := [_, _, _, _, _, _, _, _]) b26 rfl rfl sz85 rfl rfl rfl ?_
    intro W30 y31 b26
    have z32 := z29.below (y31.below (by omega))
    have s33 := y31.size
    refine vnil ?_
    obtain ⟨v, qs, hA, hQ⟩ := hi20
    replace hA := hA.xt z32; replace hQ := hQ.imp fun _ _ h => h.ext z32
    have l8 := b26.lt; have lA5 := hA.x5.lt; have lA6 := hA.x6.lt; have sX := z32.sz
    refine ⟨rfl, Kf.ext z32, ?_⟩
    intro Z34 t35
    replace hA := hA.tn t35 (by omega); replace hQ := hQ.imp fun _ _ h => h.ck (t35.ck _); have x8 := b26.tn t35; have st8 := t35.size
    obtain ⟨a0, c0, rfl⟩ := hA.os.form
    have x5 := hA.x5; have x6 := hA.x6; have lq := hQ.len; rw [zipf_len] at lq
    have zZ := Ext.refl Z34
    have hqx := ((ax.qat i18).sub (S' := fun _ => True) (fun _ _ _ => trivial)).ext hA.ext; have hqy := ((ay.qat i18).sub (S' := fun _ => True) (fun _ _ _ => trivial)).ext hA.ext; rw [p1] at hqx; rw [p2] at hqy
    refine V.block ?_
    refine V.regS (fun W => KD (fun q => q = (w.heap.size) ∨ q = (W1.heap.size) ∨ q = (X19.heap.size)) W) mixed rfl ?_
    intro W36 x37
    have s38 := x37.sz
    have z39 := x37
    replace x5 := x5.ext x37
    replace x6 := x6.ext x37
    replace x8 := x8.ext x37
    have q40 := Ext.refl W36
    have q41 := KD.refl (fun q => q = (w.heap.size) ∨ q = (W1.heap.size) ∨ q = (X19.heap.size)) W36
    have r42 := x5
    have r43 := x6
    have r44 := x8
    refine tk 0 rfl (by kernel_rfl) q41 (pv (fun _ y45 => rldb (v := .slice _ _ _) rfl sc30 (r43.kd y45 (.inr (.inl rfl))) rfl)) ?_
    refine tk 1 rfl (by kernel_rfl) q41 (pv (fun _ y46 => rldb (v := .func _ _ _) rfl sc86 (r42.kd y46 (.inl rfl)) rfl)) ?_
    refine tk 2 rfl (by kernel_rfl) q41 (pv (fun _ y47 => rixa (i := 0) Try.underlying85 sz43 rfl rfl (by decide))) ?_
    refine tk 3 rfl (by kernel_rfl) q41 (pv (fun _ y48 => rldb4 rfl ag43 (r44.kd y48 (.inr (.inr rfl))) rfl rfl rfl rfl )) ?_
    refine tk 4 rfl (by kernel_rfl) q41 (pv (fun _ y49 => rixa (i := 1) Try.underlying85 sz43 rfl rfl (by decide))) ?_
    refine tk 5 rfl (by kernel_rfl) q41 (pv (fun _ y50 => rldb4 rfl ag43 (r44.kd y50 (.inr (.inr rfl))) rfl rfl rfl rfl )) ?_
    refine ef 6 (by kernel_rfl) rfl ?_
    refine xcall he (hf _ _ _ _ _ (SW S (W1.heap.size) (.slice a0 qs.length c0)) (hA.ext.trans x37) (SW.up hu (hA.xt x37)) (hqx.ext z39) (hqy.ext z39)) rfl rfl ?_
    rintro _ W7 ⟨_, rfl, x7, hq7⟩
    obtain ⟨k1, k2, k3, k4, k5, k6, k7, k8, rfl⟩ := hq7.form
    refine ⟨_, rfl, ?_⟩
    have s51 := x7.sz
    have z52 := z39.trans x7
    replace x5 := x5.ext x7
    replace x6 := x6.ext x7
    replace x8 := x8.ext x7
    have q53 := q41.trans x7.kd
    refine ⟨fun _ => q53, ?_⟩
    refine ef 7 (by kernel_rfl) rfl ?_
    refine xbs (ps := [(0, .agg #[_, _, _, _])]) (cs := [.bool _, .slice _ _ _, .bool _, .slice _ _ _]) sl30 zr43 sz43 rfl rfl rfl rfl rfl rfl ?_
    intro W54 x55 b56 nn57
    have s58 := x55.sz
    have z59 := z52.trans x55
    replace x5 := x5.ext x55
    replace x6 := x6.ext x55
    replace x8 := x8.ext x55
    have q60 := q53.trans x55.kd
    refine ⟨fun _ => q60, ?_⟩
    refine ef 8 (by kernel_rfl) rfl ?_
    have hA8 := hA.xt ((x37.trans x7).trans x55); have hQ8 := hQ.imp fun _ _ h => h.ext ((x37.trans x7).trans x55)
    refine xappS sl30 in43 rfl rfl hA8.os rfl rfl b56 rfl rfl (by omega) (by decide) (by omega) ?_
    intro v2 W8 hO2 hg ho
    have r8x := x8
    have k8 : KB w.heap.size _ W8 := KB.grownS hA8.os hg (Nat.le_refl _) (by omega)
    refine ⟨fun _ => (q60.trans (grown_kd hg (fun b e hh => by rcases hh with rfl | rfl | rfl <;> first | exact hA8.os.neBox hA8.x5 (by decide) e | exact hA8.os.neBox hA8.x6 (by decide) e | exact hA8.os.neBox r8x (by decide) e) (k8.below.mono (Nat.zero_le _)))), ?_⟩
    refine ef 9 (by kernel_rfl) rfl ?_
    obtain ⟨a9, c9, rfl⟩ := hO2.form
    refine st1 (v := .slice _ _ _) (cs' := [_]) (hA8.x6.ck (S := fun q => (Value.slice a0 qs.length c0).ownBlock ≠ some q) (grown_ck hg fun b e h => h e) (hA8.os.neBox hA8.x6 (by decide))) rfl rfl sz30 rfl rfl rfl rfl ?_
    intro W9 y9 x6'
    have hWA := hA8.app (by decide) hO2 hg ho y9 x6' (by omega) (by omega) (by omega) (by omega)
    refine lastT (by kernel_rfl) ?_
    refine dn (by kernel_rfl) ?_
    exact ⟨(Kf.ext ((x37.trans x7).trans x55)).trans ⟨hWA.2.1.keeps _, hWA.2.2⟩, _, _, hWA.1, by rw [zipf_succ]; exact ((app_all (hQ8.snoc (hq7.ext x55)) hg ho).imp fun _ _ h => h.ck (y9.ck (fun h => h.2.1 rfl)))⟩
  · intro D61 X62 hD63 hI64 hdf65 hs66
    obtain ⟨v, qs, hA, hQ⟩ := hI64
    obtain ⟨a0, c0, rfl⟩ := hA.os.form
    have x6 := hA.x6
    refine V.seq (V.reg rfl ?_)
    refine vv (rldb (v := .slice _ _ _) rfl sc30 x6 rfl) ?_
    refine vo ?_
    refine st1 (v := .slice _ _ _) (cs' := [_]) x6 rfl rfl sz30 rfl rfl rfl rfl ?_
    intro W67 y68 x6
    have z69 := hA.ext.below (y68.below (by omega))
    have hd70 := y68.obj hdf65 (by omega)
    have s71 := y68.size
    refine vnil ?_
    refine V.ret ?_
    refine ⟨D61, rfl, hd70, ?_⟩
    have tp := Tn.putObj (B := w.heap.size) (.deferred none) hd70 (by omega) rfl
    have x6 := x6.tn tp
    have z72 := tp.ext z69 (Nat.le_refl _)
    refine ⟨[.slice _ _ _], ⟨⟨_, rfl, lv1 sc30 x6 rfl⟩, trivial⟩, ?_⟩
    refine ⟨_, _, _, rfl, z72, ?_⟩
    have hQ3 := (hQ.imp fun _ _ h => ((h.ck (y68.ck (S := SW S (W1.heap.size) (.slice a0 qs.length c0)) (fun h => h.2.1 rfl))).ck (tp.ck _)).sub (fun b _ h => h.1) : All2 (QC S _) qs _)
    have hO3 := (hA.os.ck (y68.ck (S := fun q => q ≠ (W1.heap.size)) (fun h => h rfl)) (fun b e e2 => hA.os.neBox hA.x6 (by decide) (e2 ▸ e))).ck (tp.ck fun _ => True) (fun _ _ => trivial)
    exact ⟨qs, hO3.rs (fun b hb _ => hu b hb), hQ3⟩
  · intro _ _ _ _ _ _ h; exact h.elim
end Go.Proofs.Ytknbjfefeeojlaa

/- Package vec: Dot. -/
import Derived.Test.YtknbjfefeeojlaaVg
namespace Go.Proofs.Ytknbjfefeeojlaa
open Go.RowKit
attribute [local irreducible] RV VH V OpF Calls
def dotk (xs ys : List Rat) : Nat → Rat
  | 0 => 0
  | k + 1 => dotk xs ys k + vat xs k * vat ys k
theorem sz_dotk {a b : Nat} {xs ys : List Rat} (hx : szV a xs) (hy : szV b ys) (ha : 1 ≤ a) (hb : 1 ≤ b) : ∀ k, sz ((a + b + 1) * k + 1) (dotk xs ys k)
  | 0 => sz_zero
  | k + 1 => by
    have h1 := sz_dotk hx hy ha hb k
    have h2 := sz_mul (szV_at hx ha k) (szV_at hy hb k)
    have h3 := sz_add h1 h2
    have e : (a + b + 1) * k + 1 + (a + b) + 1 = (a + b + 1) * (k + 1) + 1 := by rw [Nat.mul_add]; omega
    rw [e] at h3; exact h3
structure DJ (w : World) (S : Nat → Prop) (b4 b5 ba b1 b2 : Nat) (fv v1 v2 : Value) (q : List Value) (s : Rat) (X : World) : Prop where
  ext : Ext w X
  x4 : BoxAt X b4 q 43
  xa : BoxAt X ba q 43
  x5 : BoxAt X b5 [fv] 62
  x1 : BoxAt X b1 [v1] 30
  x2 : BoxAt X b2 [v2] 30
  qc : QC (fun x => S x ∧ x ≠ b4 ∧ x ≠ ba) X q s
section
variable {w X Y Z : World} {B b4 b5 ba b1 b2 : Nat} {fv v1 v2 : Value} {q q' : List Value} {s s' : Rat} {S : Nat → Prop}
theorem DJ.tn (h : DJ w S b4 b5 ba b1 b2 fv v1 v2 q s X) (t : Tn B X Y) (hB : w.heap.size ≤ B) : DJ w S b4 b5 ba b1 b2 fv v1 v2 q s Y :=
  ⟨t.ext h.ext hB, h.x4.tn t, h.xa.tn t, h.x5.tn t, h.x1.tn t, h.x2.tn t, h.qc.ck (t.ck _)⟩
theorem DJ.xt (h : DJ w S b4 b5 ba b1 b2 fv v1 v2 q s X) (x : Ext X Y) : DJ w S b4 b5 ba b1 b2 fv v1 v2 q s Y :=
  ⟨h.ext.trans x, h.x4.ext x, h.xa.ext x, h.x5.ext x, h.x1.ext x, h.x2.ext x, h.qc.ext x⟩
theorem DJ.go (h : DJ w S b4 b5 ba b1 b2 fv v1 v2 q s X) (kd : KD (fun k => k ≠ ba) X Y) (hq : QC (fun x => SX S [b4] x ∧ x ≠ ba) Y q' s') (ha : BoxAt Y ba q' 43) (y : Wr b4 Y Z) (hb : BoxAt Z b4 q' 43)
    (n0 : w.heap.size ≤ ba ∧ w.heap.size ≤ b4) (n1 : b4 ≠ ba) (n5 : b5 ≠ ba ∧ b5 ≠ b4) (m1 : b1 ≠ ba ∧ b1 ≠ b4) (m2 : b2 ≠ ba ∧ b2 ≠ b4) : DJ w S b4 b5 ba b1 b2 fv v1 v2 q' s' Z ∧ KD (fun k => k < w.heap.size ∨ k = b1 ∨ k = b2) X Z := by
  have hs := h.ext.sz
  refine ⟨⟨(h.ext.below (kd.below (fun k hk => by omega) hs)).below (y.below n0.2), hb, ha.wr y (Ne.symm n1), (h.x5.kd kd n5.1).wr y n5.2, (h.x1.kd kd m1.1).wr y m1.2, (h.x2.kd kd m2.1).wr y m2.2, ?_⟩, ?_⟩
  · exact (hq.ck (y.ck (fun hh => by simp [SX] at hh))).sub fun b _ hb => ⟨hb.1.1, by have := hb.1.2; simpa using this, hb.2⟩
  · exact (kd.mono (by rintro k (h | rfl | rfl) <;> omega)).trans (y.kd (by rintro (h | h | h) <;> omega))
end

set_option maxHeartbeats 400000 in
theorem vDot_ok (a1 a2 : Option Addr) (n c m d : Nat) (L1 L2 : Nat) (xs ys : List Rat) (S S1 S2 : Nat → Prop) (w : World) (hx : GA L1 S1 w a1 n c xs) (hy : GA L2 S2 w a2 m d ys) (LD : Nat) (hLD : (L1 + L2 + 1) * (max n m) + 1 ≤ LD) (hL : LD + L1 + L2 < LY) (hl1 : 1 ≤ L1) (hl2 : 1 ≤ L2) (hn : n ≤ LV) (hm : m ≤ LV) (hu : Up S w) :
    Calls Try.prog 35 #[.slice a1 n c, .slice a2 m d] w (PQ S (dotk xs ys (max n m)) w) := by
  have z0 := Ext.refl w; have hLX : LX = 17592186044416 := rfl; have hLY : LY = 8796093022208 := rfl
  have hLV : LV = 1099511627776 := rfl
  have l1 := hx.len; have l2 := hy.len
  have hsx := hx.szv hl1; have hsy := hy.szv hl2
  obtain ⟨qs1, rx, ax⟩ := hx; obtain ⟨qs2, ry, ay⟩ := hy
  have f1 := ax.form; have f2 := ay.form
  have hu2 : ∀ W : World, w.heap.size + 1 ≤ W.heap.size → Up (fun _ => True) W := fun _ _ _ _ => trivial
  refine enter (args := [.slice a1 n c, .slice a2 m d]) Try.func35 rfl rfl (Nat.le_of_ble_eq_true rfl) ?_
  refine V.seq (V.reg rfl ?_)
  refine vo ?_
  refine xal zc43 ?_
  intro W1 x2 b3 nn4
  have s5 := x2.sz
  have z6 := x2
  refine vnil ?_
  refine V.seq (V.reg rfl ?_)
  refine vo ?_
  refine xcall e58 (adder_ok _) rfl rfl ?_
  rintro _ W7 ⟨ba, eba, rfl, x8, hba⟩
  have s9 := x8.sz
  have z10 := z6.trans x8
  replace b3 := b3.ext x8
  have lba := hba.lt
  refine ⟨_, rfl, ?_⟩
  have z11 := Ext.refl W7
  refine vo ?_
  refine xal zc62 ?_
  intro W12 x13 b14 nn15
  have s16 := x13.sz
  have z17 := z10.trans x13
  have z18 := x13
  replace b3 := b3.ext x13
  refine vo ?_
  refine st1 (v := .func _ _ _) (cs' := [_]) b14 rfl rfl sz62 rfl rfl rfl rfl ?_
  intro W19 y20 b14
  have z21 := z17.below (y20.below (by omega))
  have z22 := z18.below (y20.below (by omega))
  replace b3 := b3.wr y20 (by omega)
  have s23 := y20.size
  refine vnil ?_
  refine V.seq ?_
  refine V.seq (V.reg rfl ?_)
  refine mvs rfl ?_
  refine mvs rfl ?_
  refine vo ?_
  refine xcall e59 (both_ok _ _ _ _ _ _ _) rfl rfl ?_
  rintro _ W24 ⟨b1, b2, eb1, eb2, rfl, x25, hb1, hb2⟩
  have s26 := x25.sz
  have z27 := z21.trans x25
  have z28 := z22.trans x25
  replace b3 := b3.ext x25
  replace b14 := b14.ext x25
  have lb1 := hb1.lt; have lb2 := hb2.lt
  refine ⟨_, rfl, ?_⟩
  refine vnil ?_
  refine V.block ?_
  have lb4 := b3.lt; have lb5 := b14.lt
  refine V.rf (gf := 88) rfl e88 (both_iter hb1 hb2 ((rx.sub (S' := fun q => q < w.heap.size ∨ q = b1 ∨ q = b2) (fun b hb _ => .inl hb)).ext z27) ((ry.sub (S' := fun q => q < w.heap.size ∨ q = b1 ∨ q = b2) (fun b hb _ => .inl hb)).ext z27) f1 f2 (.inr (.inl rfl)) (.inr (.inr rfl))) (Ext.refl _) (by rintro k (h | rfl | rfl) <;> omega) rfl (fun i X => ∃ q, DJ w S (w.heap.size) (W7.heap.size) ba b1 b2 (.func (.func 87) #[] #[.pointer (some ⟨ba, 0, none⟩)]) (.slice a1 n c) (.slice a2 m d) q (dotk xs ys i) X) (fun _ _ _ => False) (fun i X Y ⟨q, hA⟩ t => ⟨q, hA.tn t (by omega)⟩) (fun _ _ _ _ h _ => h) (⟨_, z27, b3, (hba.ext z28), b14, hb1, hb2, QC.zero _ _⟩) ?_ ?_ ?_
  · intro l29 i30 X31 hi32 hM33 hk34 hs35
    obtain ⟨m1, d1, e1, g1, m2, d2, e2, g2, p1⟩ := qat_form f1 i30; obtain ⟨m3, d3, e3, g3, m4, d4, e4, g4, p2⟩ := qat_form f2 i30
    have ev2 : (Value.agg (qat qs1 i30 ++ qat qs2 i30).toArray) = .agg #[.bool m1, .slice d1 e1 g1, .bool m2, .slice d2 e2 g2, .bool m3, .slice d3 e3 g3, .bool m4, .slice d4 e4 g4] := by rw [p1, p2]; rfl
    show V _ _ _ _ _ _ (up (up _ _ _) _ (Value.agg (qat qs1 i30 ++ qat qs2 i30).toArray)) _
    rw [ev2]
    have zX := Ext.refl X31
    refine V.reg rfl ?_
    refine vo ?_
    refine xal zc85 ?_
    intro W36 x37 b38 nn39
    have s40 := x37.sz
    have z41 := x37
    refine vo ?_
    refine sta (cs' := [_, _, _, _, _, _, _, _]) b38 rfl rfl sz85 rfl rfl rfl ?_
    intro W42 y43 b38
    have z44 := z41.below (y43.below (by omega))
    have s45 := y43.size
    refine vnil ?_
    obtain ⟨q0, hA⟩ := hi32
    replace hA := hA.xt z44
    have l8 := b38.lt; have sX := z44.sz
    refine ⟨rfl, Kf.ext z44, ?_⟩
    intro Z46 t47
    replace hA := hA.tn t47 (by omega); have x8 := b38.tn t47; have st8 := t47.size; have x5 := hA.x5
    have sq := (hA.qc.qa (sz_dotk hsx hsy hl1 hl2 i30)).mono (L' := LD) (Nat.le_trans (Nat.succ_le_succ (Nat.mul_le_mul_left _ (Nat.le_of_lt hM33))) hLD)
    obtain ⟨u1, u2, u3, u4, u5, u6, u7, u8, rfl⟩ := sq.form
    have x4 := hA.x4
    have zZ := Ext.refl Z46
    have hqx := ((ax.qat i30).sub (S' := fun _ => True) (fun _ _ _ => trivial)).ext hA.ext; have hqy := ((ay.qat i30).sub (S' := fun _ => True) (fun _ _ _ => trivial)).ext hA.ext; rw [p1] at hqx; rw [p2] at hqy
    refine V.block ?_
    refine V.regS (fun W => KD (fun q => q = (W7.heap.size) ∨ q = (X31.heap.size)) W) mixed rfl ?_
    intro W48 x49
    have s50 := x49.sz
    have z51 := x49
    replace x4 := x4.ext x49
    replace x5 := x5.ext x49
    replace x8 := x8.ext x49
    have q52 := Ext.refl W48
    have q53 := KD.refl (fun q => q = (W7.heap.size) ∨ q = (X31.heap.size)) W48
    have r54 := x4
    have r55 := x5
    have r56 := x8
    refine tk 0 rfl (by kernel_rfl) q53 (pv (fun _ y57 => rldb (v := .func _ _ _) rfl sc62 (r55.kd y57 (.inl rfl)) rfl)) ?_
    refine tk 1 rfl (by kernel_rfl) q53 (pv (fun _ y58 => rixa (i := 0) Try.underlying85 sz43 rfl rfl (by decide))) ?_
    refine tk 2 rfl (by kernel_rfl) q53 (pv (fun _ y59 => rldb4 rfl ag43 (r56.kd y59 (.inr rfl)) rfl rfl rfl rfl )) ?_
    refine tk 3 rfl (by kernel_rfl) q53 (pv (fun _ y60 => rixa (i := 1) Try.underlying85 sz43 rfl rfl (by decide))) ?_
    refine tk 4 rfl (by kernel_rfl) q53 (pv (fun _ y61 => rldb4 rfl ag43 (r56.kd y61 (.inr rfl)) rfl rfl rfl rfl )) ?_
    refine ef 5 (by kernel_rfl) rfl ?_
    refine xcall e60 (fMul_ok _ _ _ _ _ _ _ _ _ _ (hqx.ext z51) (hqy.ext z51) (by omega) (by omega) (by omega) (fun _ _ => trivial : Up (fun _ => True) _)) rfl rfl ?_
    rintro _ W63 ⟨_, rfl, x64, hq62⟩
    have s65 := x64.sz
    have z66 := z51.trans x64
    replace x4 := x4.ext x64
    replace x5 := x5.ext x64
    replace x8 := x8.ext x64
    have q67 := q53.trans x64.kd
    obtain ⟨_, _, _, _, _, _, _, _, rfl⟩ := hq62.form
    refine ⟨_, rfl, ?_⟩
    refine ⟨fun _ => q67, ?_⟩
    refine ef 6 (by kernel_rfl) rfl ?_
    have hm := (hq62).qa (sz_mul (hqx.sz' hl1) (hqy.sz' hl2))
    have hA8 := hA.xt (x49.trans x64)
    refine xcall e87 (add1_ok _ _ _ _ _ _ (SX S [w.heap.size]) _ _ _ _ hA8.xa hm (sq.ext z66) (by omega) (by omega) (by omega) (SX.up (hu.mono (by have := hA8.ext.sz; omega)) (by have := hA8.x4.lt; simp; omega))) rfl rfl ?_
    rintro _ W8 ⟨q9, rfl, hkd, hrec, ha9, hq9⟩
    obtain ⟨v1, v2, v3, v4, v5, v6, v7, v8, rfl⟩ := hq9.form
    refine ⟨_, rfl, ?_⟩
    refine ⟨fun _ => (q67.trans (hkd.mono (by rintro k (rfl | rfl) <;> omega))), ?_⟩
    refine ef 7 (by kernel_rfl) rfl ?_
    have x4b := hA8.x4.kd hkd (by omega)
    refine sta (cs' := [_, _, _, _]) x4b rfl rfl sz43 rfl rfl rfl ?_
    intro W9 y9 x4c
    have hDG := hA8.go hkd hq9 ha9 y9 x4c ⟨by omega, by omega⟩ (by omega) ⟨by omega, by omega⟩ ⟨by omega, by omega⟩ ⟨by omega, by omega⟩
    refine lastT (by kernel_rfl) ?_
    refine dn (by kernel_rfl) ?_
    exact ⟨Kf.trans (Kf.ext (x49.trans x64)) (Kf.trans ⟨⟨hkd.size, fun k o _ hk ho => hrec k o hk ho⟩, hkd.mono (by rintro k (h | rfl | rfl) <;> omega)⟩ (Kf.wr y9 x4b (by rintro (h | h | h) <;> omega))), _, hDG.1⟩
  · intro D68 X69 hD70 hI71 hdf72 hs73
    obtain ⟨q0, hA⟩ := hI71
    obtain ⟨u1, u2, u3, u4, u5, u6, u7, u8, rfl⟩ := hA.qc.form
    have x4 := hA.x4; have hqc := hA.qc
    refine V.seq (V.reg rfl ?_)
    refine vv (rldb4 rfl ag43 x4 rfl rfl rfl rfl ) ?_
    refine vo ?_
    refine sta (cs' := [_, _, _, _]) x4 rfl rfl sz43 rfl rfl rfl ?_
    intro W74 y75 x4
    have z76 := hA.ext.below (y75.below (by omega))
    have hd77 := y75.obj hdf72 (by omega)
    have s78 := y75.size
    refine vnil ?_
    refine V.ret ?_
    refine ⟨D68, rfl, hd77, ?_⟩
    have tp := Tn.putObj (B := w.heap.size) (.deferred none) hd77 (by omega) rfl
    have x4 := x4.tn tp
    have z79 := tp.ext z76 (Nat.le_refl _)
    refine ⟨[_], ⟨⟨_, rfl, lvb ag43 x4 rfl⟩, trivial⟩, ?_⟩
    exact ⟨_, rfl, z79, (((hqc.ck (y75.ck (fun hh => hh.2.1 rfl))).ck (tp.ck _)).sub (fun b _ h => h.1))⟩
  · intro _ _ _ _ _ _ h; exact h.elim
end Go.Proofs.Ytknbjfefeeojlaa

/- Packages pylonref02, pylonref03, pylonref05: Div, Combine, Scale, by; matrices and vectors of the call's own. -/
import Derived.Test.YtknbjfefeeojlaaGreatMgqlk8
namespace Go.Proofs.YtknbjfefeeojlaaGreat
open Go.RowKit
attribute [local irreducible] RV VH V OpF Calls

set_option maxHeartbeats 400000 in
theorem rDivQ_ok (q1 q2 : List Value) (r1 r2 : Rat) (L1 L2 : Nat) (S S1 S2 : Nat → Prop) (w : World) (h1 : QA L1 S1 w q1 r1) (h2 : QA L2 S2 w q2 r2) (hL : L1 + L2 ≤ LX / 128) (hl1 : 1 ≤ L1) (hl2 : 1 ≤ L2) (hu : Up S w) (hnz : r2 ≠ 0) :
    Calls Tryz.prog 175 #[.agg q1.toArray, .agg q2.toArray] w (fun e w' => ∃ q, e = .returned (.tuple #[.agg q.toArray, .int .i64 0]) ∧ Ext w w' ∧ QC S w' q (r1 / r2)) := by
 have z0 := Ext.refl w; have hLX : LX = 17592186044416 := rfl; have hLY : LY = 8796093022208 := rfl
 obtain ⟨n1, a1, l1, c1, n2, a2, l2, c2, rfl⟩ := h1.form; obtain ⟨n3, a3, l3, c3, n4, a4, l4, c4, rfl⟩ := h2.form
 obtain ⟨px1, py1, hx1, hy1, er1⟩ := h1.two
 obtain ⟨px2, py2, hx2, hy2, er2⟩ := h2.two
 have hu2 : ∀ W : World, w.heap.size + 3 ≤ W.heap.size → Up (SX S [w.heap.size + 2]) W := fun W hW => SX.up (hu.mono (by omega)) (by simp <;> omega)
 refine enter (args := [.agg #[.bool n1, .slice a1 l1 c1, .bool n2, .slice a2 l2 c2], .agg #[.bool n3, .slice a3 l3 c3, .bool n4, .slice a4 l4 c4]]) Tryz.func175 rfl rfl (Nat.le_of_ble_eq_true rfl) ?_
 refine V.seq (V.reg rfl ?_)
 refine vo ?_
 refine bxa rfl ?_
 intro W1 x2 b3 nn4
 have s5 := x2.sz
 have z6 := x2
 refine vo ?_
 refine bxa rfl ?_
 intro W7 x8 b9 nn10
 have s11 := x8.sz
 have z12 := z6.trans x8
 replace b3 := b3.ext x8
 refine vo ?_
 refine xal zc48 ?_
 intro W13 x14 b15 nn16
 have s17 := x14.sz
 have z18 := z12.trans x14
 replace b3 := b3.ext x14
 replace b9 := b9.ext x14
 refine asi rfl ?_
 refine vnil ?_
 refine V.seq ?_
 refine V.seq (V.reg rfl ?_)
 refine vv (rldb4 rfl ag48 b9 rfl rfl rfl rfl ) ?_
 refine vo ?_
 refine xcall e132 (rSignQ_ok _ _ _ _ _ (h2.ext z18) (by omega) (by omega)) rfl rfl ?_
 rintro _ W19 ⟨rfl, x20⟩
 have s21 := x20.sz
 have z22 := z18.trans x20
 replace b3 := b3.ext x20
 replace b9 := b9.ext x20
 replace b15 := b15.ext x20
 refine ⟨_, rfl, ?_⟩
 refine veq rfl rfl ?_ ?_
 ·intro c12
  exact absurd (cq_eq.1 c12) hnz
 ·intro c12
  refine vnil ?_
  refine V.condF rfl ?_
  refine V.skip ?_
  refine V.seq (V.regB [8] mixed rfl ?_)
  intro W23 x24
  have s25 := x24.sz
  have z26 := z22.trans x24
  replace b3 := b3.ext x24
  replace b9 := b9.ext x24
  replace b15 := b15.ext x24
  have q27 := Ext.refl W23
  have r28 := b3
  have r29 := b9
  have r30 := b15
  refine tkB 0 rfl (by kernel_rfl) q27 (pv (fun _ y31 => rldb4 rfl ag48 (r28.ext y31) rfl rfl rfl rfl )) ?_
  refine tkB 1 rfl (by kernel_rfl) q27 (pv (fun _ y32 => rldb4 rfl ag48 (r29.ext y32) rfl rfl rfl rfl )) ?_
  refine tkB 3 rfl (by kernel_rfl) q27 (pv (fun _ y33 => rldb4 rfl ag48 (r29.ext y33) rfl rfl rfl rfl )) ?_
  refine efB 2 (by kernel_rfl) rfl ?_
  refine xcall e161 (rDen_ok [_, _, _, _] _ _ _ _ _ _ (PA.mk' (hx2.ext z26) (hy2.ext z26)) (by omega) (TT.up _)) rfl rfl ?_
  rintro _ W34 ⟨_, _, _, _, rfl, x35, hz12c⟩
  have s36 := x35.sz
  have z37 := z26.trans x35
  replace b15 := b15.ext x35
  have q38 := q27.trans x35
  have hz12 := ZC.zaH (L := L2) hz12c (dn_abs (by omega) hy2.lt)
  refine ⟨_, rfl, ?_⟩
  refine ⟨fun _ => q38, ?_⟩
  refine efB 4 (by kernel_rfl) rfl ?_
  refine xcall e160 (rNum_ok [_, _, _, _] _ _ _ _ _ _ (PA.mk' (hx2.ext z37) (hy2.ext z37)) (by omega) (TT.up _)) rfl rfl ?_
  rintro _ W39 ⟨_, _, _, _, rfl, x40, hz14c⟩
  have s41 := x40.sz
  have z42 := z37.trans x40
  replace b15 := b15.ext x40
  have q43 := q38.trans x40
  have hz14 := ZC.zaH (L := L2) hz14c (nm_lt hx2.lt)
  refine ⟨_, rfl, ?_⟩
  refine ⟨fun _ => q43, ?_⟩
  refine tkP 5 rfl (by kernel_rfl) (by kernel_rfl) (fun _ => q43) (pv (fun _ _ => rbd (ps := [(0, .agg #[_, _]), (1, .agg #[_, _])]) (cs := [.bool _, .slice _ _ _, .bool _, .slice _ _ _]) pl48 rfl rfl)) ?_
  refine efB 6 (by kernel_rfl) rfl ?_
  refine xcall e106 (rLeastQ_ok [_, _, _, _] _ _ _ _ _ (QA.mk2 (hz12.ext x40) hz14) (by omega) (by omega) (TT.up _)) rfl rfl ?_
  rintro _ W46 ⟨_, rfl, x47, hq45⟩
  have s48 := x47.sz
  have z49 := z42.trans x47
  replace b15 := b15.ext x47
  have q50 := q43.trans x47
  replace hq45 := hq45.cast (r' := 1 / r2) (qv_inv er2.symm hnz)
  obtain ⟨_, _, _, _, _, _, _, _, rfl⟩ := hq45.form
  refine ⟨_, rfl, ?_⟩
  refine ⟨fun _ => q50, ?_⟩
  refine efB 7 (by kernel_rfl) rfl ?_
  refine xcall e133 (rMulQ_ok [_, _, _, _] [_, _, _, _] _ _ _ _ _ _ _ _ (h1.ext z49) ((hq45).qa (sz_inv (h2.sz' hl2) hl2)) (by omega) (by omega) (by omega) (hu2 _ (by omega))) rfl rfl ?_
  rintro _ W52 ⟨_, rfl, x53, hq51⟩
  have s54 := x53.sz
  have z55 := z49.trans x53
  replace b15 := b15.ext x53
  have q56 := q50.trans x53
  obtain ⟨_, _, _, _, _, _, _, _, rfl⟩ := hq51.form
  refine ⟨_, rfl, ?_⟩
  refine ⟨fun _ => q56, ?_⟩
  refine efB 8 (by kernel_rfl) rfl ?_
  refine sta (cs' := [_, _, _, _]) b15 rfl rfl sz48 rfl rfl rfl ?_
  intro W57 y58 b15
  have z59 := z55.below (y58.below (by omega))
  have s60 := y58.size
  refine notW (by kernel_rfl) ?_
  refine tkP 9 rfl (by kernel_rfl) (by kernel_rfl) (notWf (by kernel_rfl)) (pv (fun _ _ => ras (v := .int _ _) rfl)) ?_
  refine dnB (by kernel_rfl) ?_
  refine V.ret ?_
  refine ⟨[_, .int _ _], ⟨⟨_, rfl, lvb ag48 b15 rfl⟩, rfl, trivial⟩, ?_⟩
  exact ⟨_, rfl, z59, (((hq51.ck (y58.ck (by intro hh; first | (simp [SX] at hh <;> omega) | omega)))).un).cast (mul_inv1 r1 r2)⟩
set_option maxHeartbeats 400000 in
theorem rby_ok (q1 q2 : List Value) (r1 r2 : Rat) (L1 L2 : Nat) (S S1 S2 : Nat → Prop) (w : World) (h1 : QA L1 S1 w q1 r1) (h2 : QA L2 S2 w q2 r2) (hL : L1 + L2 ≤ LX / 128) (hl1 : 1 ≤ L1) (hl2 : 1 ≤ L2) (hu : Up S w) (hnz : r2 ≠ 0) :
    Calls Tryz.prog 136 #[.agg q1.toArray, .agg q2.toArray] w (PQ S (r1 / r2) w) := by
 have z0 := Ext.refl w; have hLX : LX = 17592186044416 := rfl; have hLY : LY = 8796093022208 := rfl
 obtain ⟨n1, a1, l1, c1, n2, a2, l2, c2, rfl⟩ := h1.form; obtain ⟨n3, a3, l3, c3, n4, a4, l4, c4, rfl⟩ := h2.form
 have hu2 : ∀ W : World, w.heap.size + 3 ≤ W.heap.size → Up (SX S [w.heap.size, w.heap.size + 1, w.heap.size + 2]) W := fun W hW => SX.up (hu.mono (by omega)) (by simp <;> omega)
 refine enter (args := [.agg #[.bool n1, .slice a1 l1 c1, .bool n2, .slice a2 l2 c2], .agg #[.bool n3, .slice a3 l3 c3, .bool n4, .slice a4 l4 c4]]) Tryz.func136 rfl rfl (Nat.le_of_ble_eq_true rfl) ?_
 refine V.seq (V.reg rfl ?_)
 refine vo ?_
 refine bxa rfl ?_
 intro W1 x2 b3 nn4
 have s5 := x2.sz
 have z6 := x2
 refine vo ?_
 refine bxa rfl ?_
 intro W7 x8 b9 nn10
 have s11 := x8.sz
 have z12 := z6.trans x8
 replace b3 := b3.ext x8
 refine vo ?_
 refine xal zc48 ?_
 intro W13 x14 b15 nn16
 have s17 := x14.sz
 have z18 := z12.trans x14
 replace b3 := b3.ext x14
 replace b9 := b9.ext x14
 refine vnil ?_
 refine V.seq (V.reg rfl ?_)
 refine vv (rldb4 rfl ag48 b3 rfl rfl rfl rfl ) ?_
 refine vv (rldb4 rfl ag48 b9 rfl rfl rfl rfl ) ?_
 refine vo ?_
 refine xcall e175 (rDivQ_ok [_, _, _, _] [_, _, _, _] _ _ _ _ _ _ _ _ (h1.ext z18) (h2.ext z18) (by omega) (by omega) (by omega) (hu2 _ (by omega)) hnz) rfl rfl ?_
 rintro _ W19 ⟨_, rfl, x20, hd⟩
 have s21 := x20.sz
 have z22 := z18.trans x20
 replace b15 := b15.ext x20
 obtain ⟨_, _, _, _, _, _, _, _, rfl⟩ := hd.form
 refine ⟨_, rfl, ?_⟩
 refine mvt rfl ?_
 refine vv (rext (v := .agg #[_, _, _, _]) rfl rfl) ?_
 refine vv (rext (v := .int _ _) rfl rfl) ?_
 refine vo ?_
 refine xal zc48 ?_
 intro W23 x24 b25 nn26
 have s27 := x24.sz
 have z28 := z22.trans x24
 replace b15 := b15.ext x24
 refine vo ?_
 refine sta (cs' := [_, _, _, _]) b25 rfl rfl sz48 rfl rfl rfl ?_
 intro W29 y30 b25
 have z31 := z28.below (y30.below (by omega))
 replace b15 := b15.wr y30 (by omega)
 have s32 := y30.size
 refine asi rfl ?_
 refine vnil ?_
 refine V.seq (V.reg rfl ?_)
 refine vv (rldb4 rfl ag48 b25 rfl rfl rfl rfl ) ?_
 refine vo ?_
 refine sta (cs' := [_, _, _, _]) b15 rfl rfl sz48 rfl rfl rfl ?_
 intro W33 y34 b15
 have z35 := z31.below (y34.below (by omega))
 have s36 := y34.size
 refine vnil ?_
 refine V.ret ?_
 refine ⟨[_], ⟨⟨_, rfl, lvb ag48 b15 rfl⟩, trivial⟩, ?_⟩
 exact ⟨_, rfl, z35, (((hd.sub (S' := SX _ [W19.heap.size]) (SX.old (by simp <;> omega))).ck (((x24.ck _).trans (y30.ck (by intro hh; first | (simp [SX] at hh <;> omega) | omega))).trans (y34.ck (by intro hh; first | (simp [SX] at hh <;> omega) | omega))))).un.un⟩
set_option maxHeartbeats 400000 in
theorem rComb_ok (q : List Value) (r : Rat) (L3 : Nat) (S3 : Nat → Prop) (a1 a2 : Option Addr) (n c m d : Nat) (L1 L2 : Nat) (xs ys : List Rat) (S S1 S2 : Nat → Prop) (w : World) (hx : GA L1 S1 w a1 n c xs) (hy : GA L2 S2 w a2 m d ys) (h3 : QA L3 S3 w q r) (hL : L1 + L2 + L3 ≤ LX / 128) (hl3 : 1 ≤ L3) (hl1 : 1 ≤ L1) (hl2 : 1 ≤ L2) (hn : n ≤ LV) (hm : m ≤ LV) (hu : Up S w) :
    Calls Tryz.prog 137 #[.agg q.toArray, .slice a1 n c, .slice a2 m d] w (fun e w' => ∃ ra rk rc, e = .returned (.slice ra rk rc) ∧ Ext w w' ∧ GC S w' ra rk rc (axR r xs ys)) := by
 have z0 := Ext.refl w; have hLX : LX = 17592186044416 := rfl; have hLY : LY = 8796093022208 := rfl
 have hLV : LV = 1099511627776 := rfl
 obtain ⟨n5, a5, l5, c5, n6, a6, l6, c6, rfl⟩ := h3.form
 have l1 := hx.len; have l2 := hy.len; have l3 := hx.max; have l4 := hy.max
 refine enter (args := [.agg #[.bool n5, .slice a5 l5 c5, .bool n6, .slice a6 l6 c6], .slice a1 n c, .slice a2 m d]) Tryz.func137 rfl rfl (Nat.le_of_ble_eq_true rfl) ?_
 refine V.seq (V.reg rfl ?_)
 refine vo ?_
 refine bxa rfl ?_
 intro W1 x2 b3 nn4
 have s5 := x2.sz
 have z6 := x2
 refine ass rfl ?_
 refine vnil ?_
 refine V.seq (V.reg rfl ?_)
 refine ass rfl ?_
 refine vnil ?_
 refine V.seq ?_
 refine V.seq (V.reg rfl ?_)
 refine asi rfl ?_
 refine vnil ?_
 refine V.block ?_
 refine V.loopK (ι := Nat × Value) [(1, .slice _ _ _), (2, .slice _ _ _), (3, .pointer (some ⟨_, _, none⟩))] (fun ⟨k, v⟩ => [(8, .int .i64 (k : Int)), (7, v)]) (fun ⟨k, v⟩ W => Ext W1 W ∧ k ≤ (max n m) ∧ GO 4 QC S W1.heap.size W 48 v (zipf (fun a b => r * a + b) xs ys k)) (fun ⟨k, v⟩ => max n m - k) ((0, _)) ⟨rfl, rfl, rfl, trivial⟩ ⟨rfl, rfl, trivial⟩ ⟨Ext.refl _, Nat.zero_le _, GO.nil _ _⟩ ?_
 intro i9 E10 W8 h11
 obtain ⟨k, v⟩ := i9
 simp only at h11
 show V _ _ _ _ _ _ (ups (ups _ _) [(8, .int .i64 (k : Int)), (7, v)]) _
 obtain ⟨x12, hk, hO⟩ := h11
 have s13 := x12.sz
 have z14 := z6.trans x12
 have z15 := x12
 replace b3 := b3.ext x12
 refine V.seq ?_
 refine V.seq (V.reg rfl ?_)
 refine mvi rfl ?_
 refine mvs rfl ?_
 refine vv (rlen sl23 rfl) ?_
 refine vlt rfl rfl ?_ ?_
 ·intro c16
  refine mvb rfl ?_
  refine vgn (b := true) rfl rfl ?_
  refine vgn (b := true) rfl rfl ?_
  refine vgn (b := true) rfl rfl ?_
  refine vgn (b := true) rfl rfl ?_
  refine vv (rpk (v := .bool true) rfl rfl) ?_
  refine vnil ?_
  refine V.condT rfl ?_
  refine V.skip ?_
  refine V.seq ?_
  refine V.block ?_
  refine V.regS (fun W => KD (fun q => q < w.heap.size + 1) W) mixed rfl ?_
  intro W17 x18
  have s19 := x18.sz
  have z20 := z14.trans x18
  have z21 := z15.trans x18
  replace b3 := b3.ext x18
  replace hO := hO.ext okQC x18
  have q23 := KD.refl (fun q => q < w.heap.size + 1) W17
  have r24 := b3
  refine tk 0 rfl (by kernel_rfl) q23 (pv (fun _ y25 => rmv (v := v) rfl)) ?_
  refine tk 1 rfl (by kernel_rfl) q23 (pv (fun _ y26 => rldb4 rfl ag48 (r24.kd y26 (Nat.lt_succ_self _)) rfl rfl rfl rfl )) ?_
  refine tk 2 rfl (by kernel_rfl) q23 (pv (fun _ y27 => rmv (v := .slice _ _ _) rfl)) ?_
  refine tk 3 rfl (by kernel_rfl) q23 (pv (fun _ y28 => rmv (v := .int _ _) rfl)) ?_
  refine tk 6 rfl (by kernel_rfl) q23 (pv (fun _ y29 => rmv (v := .slice _ _ _) rfl)) ?_
  refine tk 7 rfl (by kernel_rfl) q23 (pv (fun _ y30 => rmv (v := .int _ _) rfl)) ?_
  refine ef 4 (by kernel_rfl) rfl ?_
  refine xcall e107 (rAt3_ok _ _ _ _ _ _ _ _ (hx.ext z20)) rfl rfl ?_
  rintro _ W32 ⟨_, rfl, x33, hq31⟩
  have s34 := x33.sz
  have z35 := z20.trans x33
  have z36 := z21.trans x33
  replace hO := hO.ext okQC x33
  have q37 := q23.trans x33.kd
  obtain ⟨_, _, _, _, _, _, _, _, rfl⟩ := hq31.form
  refine ⟨_, rfl, ?_⟩
  refine ⟨fun _ => q37, ?_⟩
  refine ef 5 (by kernel_rfl) rfl ?_
  refine xcall e133 (rMulQ_ok _ _ _ _ _ _ _ _ _ _ (h3.ext z35) hq31 (by omega) (by omega) (by omega) (GO.up hO hu (by omega))) rfl rfl ?_
  rintro _ W39 ⟨_, rfl, x40, hq38⟩
  have s41 := x40.sz
  have z42 := z35.trans x40
  have z43 := z36.trans x40
  replace hO := hO.ext okQC x40
  have q44 := q37.trans x40.kd
  obtain ⟨_, _, _, _, _, _, _, _, rfl⟩ := hq38.form
  refine ⟨_, rfl, ?_⟩
  refine ⟨fun _ => q44, ?_⟩
  refine ef 8 (by kernel_rfl) rfl ?_
  refine xcall e107 (rAt3_ok _ _ _ _ _ _ _ _ (hy.ext z42)) rfl rfl ?_
  rintro _ W46 ⟨_, rfl, x47, hq45⟩
  have s48 := x47.sz
  have z50 := z43.trans x47
  replace hO := hO.ext okQC x47
  have q51 := q44.trans x47.kd
  obtain ⟨_, _, _, _, _, _, _, _, rfl⟩ := hq45.form
  refine ⟨_, rfl, ?_⟩
  refine ⟨fun _ => q51, ?_⟩
  refine ef 9 (by kernel_rfl) rfl ?_
  refine xcall e134 (rAddQ_ok [_, _, _, _] [_, _, _, _] _ _ _ _ _ _ _ _ (((hq38.ext x47)).qa (sz_mul (h3.sz' hl3) (((hq31.ext (x40.trans x47))).sz' hl1))) hq45 (by omega) (by omega) (by omega) (GO.up hO hu (by omega))) rfl rfl ?_
  rintro _ W53 ⟨_, rfl, x54, hq52⟩
  have s55 := x54.sz
  have z57 := z50.trans x54
  replace hO := hO.ext okQC x54
  have q58 := q51.trans x54.kd
  obtain ⟨_, _, _, _, _, _, _, _, rfl⟩ := hq52.form
  refine ⟨_, rfl, ?_⟩
  refine ⟨fun _ => q58, ?_⟩
  refine ef 10 (by kernel_rfl) rfl ?_
  refine xbs (zs := [.bool false, .slice _ _ _, .bool false, .slice _ _ _]) (ps := [(0, .agg #[_, _, _, _])]) (cs := [.bool _, .slice _ _ _, .bool _, .slice _ _ _]) sl23 zr48 sz48 rfl rfl rfl rfl rfl rfl ?_
  intro W59 x60 b61 nn62
  have s63 := x60.sz
  have z65 := z57.trans x60
  replace hO := hO.ext okQC x60
  have q66 := q58.trans x60.kd
  refine ⟨fun _ => q66, ?_⟩
  refine ef 11 (by kernel_rfl) rfl ?_
  refine xappG okQC sl23 in48 rfl rfl hO rfl rfl b61 rfl rfl ((QC.cast (r' := r * vat xs k + vat ys k) (hq52.ext x60) (by rw [vatI_nat, vatI_nat]))) (by rw [zipf_len]; omega) (by decide) (by omega) ?_
  intro v67 W68 hO69 hg70
  have y71 := hg70.below; have s72 := y71.size
  have q73 := q66.trans (Below.kd y71 (fun k hk _ => Nat.lt_of_lt_of_le hk (by omega)))
  have z75 := z65.below (y71.mono (by omega))
  refine ⟨fun _ => q73, ?_⟩
  refine tk 12 rfl (by kernel_rfl) q73 (pv (fun _ y76 => ras (v := v67) rfl)) ?_
  refine dn (by kernel_rfl) ?_
  refine V.reg rfl ?_
  refine mvi rfl ?_
  refine vv (rbin (bAdd (wi (by omega))) rfl rfl) ?_
  refine asi rfl ?_
  refine vnil ?_
  refine ⟨rfl, (k + 1, _), ⟨rfl, rfl, rfl, trivial⟩, ⟨rfl, rfl, trivial⟩, ⟨z75, by omega, by rw [zipf_succ]; exact hO69⟩, ?_⟩
  show max n m - (k + 1) < max n m - k
  omega
 ·intro c16
  refine mvb rfl ?_
  refine vg rfl ?_
  refine mvi rfl ?_
  refine vg rfl ?_
  refine mvs rfl ?_
  refine vg rfl ?_
  refine vv (rlen sl23 rfl) ?_
  refine vg rfl ?_
  refine vlt rfl rfl ?_ ?_
  ·intro c77
   refine vv (rpk (v := .bool true) rfl rfl) ?_
   refine vnil ?_
   refine V.condT rfl ?_
   refine V.skip ?_
   refine V.seq ?_
   refine V.block ?_
   refine V.regS (fun W => KD (fun q => q < w.heap.size + 1) W) mixed rfl ?_
   intro W78 x79
   have s80 := x79.sz
   have z81 := z14.trans x79
   have z82 := z15.trans x79
   replace b3 := b3.ext x79
   replace hO := hO.ext okQC x79
   have q84 := KD.refl (fun q => q < w.heap.size + 1) W78
   have r85 := b3
   refine tk 0 rfl (by kernel_rfl) q84 (pv (fun _ y86 => rmv (v := v) rfl)) ?_
   refine tk 1 rfl (by kernel_rfl) q84 (pv (fun _ y87 => rldb4 rfl ag48 (r85.kd y87 (Nat.lt_succ_self _)) rfl rfl rfl rfl )) ?_
   refine tk 2 rfl (by kernel_rfl) q84 (pv (fun _ y88 => rmv (v := .slice _ _ _) rfl)) ?_
   refine tk 3 rfl (by kernel_rfl) q84 (pv (fun _ y89 => rmv (v := .int _ _) rfl)) ?_
   refine tk 6 rfl (by kernel_rfl) q84 (pv (fun _ y90 => rmv (v := .slice _ _ _) rfl)) ?_
   refine tk 7 rfl (by kernel_rfl) q84 (pv (fun _ y91 => rmv (v := .int _ _) rfl)) ?_
   refine ef 4 (by kernel_rfl) rfl ?_
   refine xcall e107 (rAt3_ok _ _ _ _ _ _ _ _ (hx.ext z81)) rfl rfl ?_
   rintro _ W93 ⟨_, rfl, x94, hq92⟩
   have s95 := x94.sz
   have z96 := z81.trans x94
   have z97 := z82.trans x94
   replace hO := hO.ext okQC x94
   have q98 := q84.trans x94.kd
   obtain ⟨_, _, _, _, _, _, _, _, rfl⟩ := hq92.form
   refine ⟨_, rfl, ?_⟩
   refine ⟨fun _ => q98, ?_⟩
   refine ef 5 (by kernel_rfl) rfl ?_
   refine xcall e133 (rMulQ_ok _ _ _ _ _ _ _ _ _ _ (h3.ext z96) hq92 (by omega) (by omega) (by omega) (GO.up hO hu (by omega))) rfl rfl ?_
   rintro _ W100 ⟨_, rfl, x101, hq99⟩
   have s102 := x101.sz
   have z103 := z96.trans x101
   have z104 := z97.trans x101
   replace hO := hO.ext okQC x101
   have q105 := q98.trans x101.kd
   obtain ⟨_, _, _, _, _, _, _, _, rfl⟩ := hq99.form
   refine ⟨_, rfl, ?_⟩
   refine ⟨fun _ => q105, ?_⟩
   refine ef 8 (by kernel_rfl) rfl ?_
   refine xcall e107 (rAt3_ok _ _ _ _ _ _ _ _ (hy.ext z103)) rfl rfl ?_
   rintro _ W107 ⟨_, rfl, x108, hq106⟩
   have s109 := x108.sz
   have z111 := z104.trans x108
   replace hO := hO.ext okQC x108
   have q112 := q105.trans x108.kd
   obtain ⟨_, _, _, _, _, _, _, _, rfl⟩ := hq106.form
   refine ⟨_, rfl, ?_⟩
   refine ⟨fun _ => q112, ?_⟩
   refine ef 9 (by kernel_rfl) rfl ?_
   refine xcall e134 (rAddQ_ok [_, _, _, _] [_, _, _, _] _ _ _ _ _ _ _ _ (((hq99.ext x108)).qa (sz_mul (h3.sz' hl3) (((hq92.ext (x101.trans x108))).sz' hl1))) hq106 (by omega) (by omega) (by omega) (GO.up hO hu (by omega))) rfl rfl ?_
   rintro _ W114 ⟨_, rfl, x115, hq113⟩
   have s116 := x115.sz
   have z118 := z111.trans x115
   replace hO := hO.ext okQC x115
   have q119 := q112.trans x115.kd
   obtain ⟨_, _, _, _, _, _, _, _, rfl⟩ := hq113.form
   refine ⟨_, rfl, ?_⟩
   refine ⟨fun _ => q119, ?_⟩
   refine ef 10 (by kernel_rfl) rfl ?_
   refine xbs (zs := [.bool false, .slice _ _ _, .bool false, .slice _ _ _]) (ps := [(0, .agg #[_, _, _, _])]) (cs := [.bool _, .slice _ _ _, .bool _, .slice _ _ _]) sl23 zr48 sz48 rfl rfl rfl rfl rfl rfl ?_
   intro W120 x121 b122 nn123
   have s124 := x121.sz
   have z126 := z118.trans x121
   replace hO := hO.ext okQC x121
   have q127 := q119.trans x121.kd
   refine ⟨fun _ => q127, ?_⟩
   refine ef 11 (by kernel_rfl) rfl ?_
   refine xappG okQC sl23 in48 rfl rfl hO rfl rfl b122 rfl rfl ((QC.cast (r' := r * vat xs k + vat ys k) (hq113.ext x121) (by rw [vatI_nat, vatI_nat]))) (by rw [zipf_len]; omega) (by decide) (by omega) ?_
   intro v128 W129 hO130 hg131
   have y132 := hg131.below; have s133 := y132.size
   have q134 := q127.trans (Below.kd y132 (fun k hk _ => Nat.lt_of_lt_of_le hk (by omega)))
   have z136 := z126.below (y132.mono (by omega))
   refine ⟨fun _ => q134, ?_⟩
   refine tk 12 rfl (by kernel_rfl) q134 (pv (fun _ y137 => ras (v := v128) rfl)) ?_
   refine dn (by kernel_rfl) ?_
   refine V.reg rfl ?_
   refine mvi rfl ?_
   refine vv (rbin (bAdd (wi (by omega))) rfl rfl) ?_
   refine asi rfl ?_
   refine vnil ?_
   refine ⟨rfl, (k + 1, _), ⟨rfl, rfl, rfl, trivial⟩, ⟨rfl, rfl, trivial⟩, ⟨z136, by omega, by rw [zipf_succ]; exact hO130⟩, ?_⟩
   show max n m - (k + 1) < max n m - k
   omega
  ·intro c77
   refine vv (rpk (v := .bool false) rfl rfl) ?_
   refine vnil ?_
   refine V.condF rfl ?_
   refine V.exit ?_
   refine V.seq (V.reg rfl ?_)
   refine vv (rmv (v := v) rfl) ?_
   refine vv (ras (v := v) rfl) ?_
   refine vnil ?_
   refine V.ret ?_
   refine ⟨[v], ⟨rfl, trivial⟩, ?_⟩
   obtain ⟨a', c', rfl⟩ := hO.form
   have hf := hO.fin okQC (fun b hb _ => hu b (by omega))
   have ek : k = max n m := (by omega)
   subst ek
   refine ⟨_, _, _, rfl, z14, ?_⟩
   have h9 : GC S _ _ _ _ (zipf (fun a b => r * a + b) xs ys (max n m)) := hf
   rw [zipf_len] at h9 ⊢; rw [axR, l1, l2]; exact h9
set_option maxHeartbeats 400000 in
theorem rScale_ok (q : List Value) (r : Rat) (L3 : Nat) (S3 : Nat → Prop) (a1 : Option Addr) (n c : Nat) (L1 : Nat) (xs : List Rat) (S S1 : Nat → Prop) (w : World) (hx : GA L1 S1 w a1 n c xs) (h3 : QA L3 S3 w q r) (hL : L1 + L3 + 1 ≤ LX / 128) (hl3 : 1 ≤ L3) (hl1 : 1 ≤ L1) (hn : n ≤ LV) (hu : Up S w) :
    Calls Tryz.prog 135 #[.agg q.toArray, .slice a1 n c] w (fun e w' => ∃ ra rk rc, e = .returned (.slice ra rk rc) ∧ Ext w w' ∧ GC S w' ra rk rc (sclR r xs)) := by
 have z0 := Ext.refl w; have hLX : LX = 17592186044416 := rfl; have hLY : LY = 8796093022208 := rfl
 have hLV : LV = 1099511627776 := rfl
 obtain ⟨n5, a5, l5, c5, n6, a6, l6, c6, rfl⟩ := h3.form
 refine enter (args := [.agg #[.bool n5, .slice a5 l5 c5, .bool n6, .slice a6 l6 c6], .slice a1 n c]) Tryz.func135 rfl rfl (Nat.le_of_ble_eq_true rfl) ?_
 refine V.seq (V.reg rfl ?_)
 refine vo ?_
 refine bxa rfl ?_
 intro W1 x2 b3 nn4
 have s5 := x2.sz
 have z6 := x2
 refine ass rfl ?_
 refine vnil ?_
 refine V.seq (V.reg rfl ?_)
 refine vv (rldb4 rfl ag48 b3 rfl rfl rfl rfl ) ?_
 refine mvs rfl ?_
 refine vo ?_
 refine xcall e137 (rComb_ok [_, _, _, _] r L3 S3 _ _ _ _ _ _ L1 1 xs [] S _ TT _ (hx.ext z6) (GA.nil _ _ _) (h3.ext z6) (by omega) (by omega) (by omega) (by omega) (by omega) (by omega) (hu.mono (by omega))) rfl rfl ?_
 rintro _ W7 ⟨_, _, _, rfl, x8, hv⟩
 have s9 := x8.sz
 have z10 := z6.trans x8
 refine ⟨_, rfl, ?_⟩
 refine ass rfl ?_
 refine vnil ?_
 refine V.ret ?_
 refine ⟨[.slice _ _ _], ⟨rfl, trivial⟩, ?_⟩
 exact ⟨_, _, _, rfl, z10, hv⟩
set_option maxHeartbeats 400000 in
theorem rmade_own (R C : Nat) (kind : Int) (n5 : Bool) (a5 : Option Addr) (l5 c5 : Nat) (n6 : Bool) (a6 : Option Addr) (l6 c6 : Nat) (a1 a2 : Option Addr) (n c m d : Nat) (f : Int → Int → Rat) (S : Nat → Prop) (w : World) (hf : HP kind [.bool n5, .slice a5 l5 c5, .bool n6, .slice a6 l6 c6] a1 a2 n c m d f R C w) (hR : R ≤ LV) (hC : C ≤ LV) (hu : Up S w) :
    Calls Tryz.prog 114 #[.int .i64 (R : Int), .int .i64 (C : Int), .int .u8 kind, .agg #[.bool n5, .slice a5 l5 c5, .bool n6, .slice a6 l6 c6], .slice a1 n c, .slice a2 m d] w (fun e w' => ∃ v, e = .returned v ∧ Ext w w' ∧ GO 1 (RowOf GC) S w.heap.size w' 23 v (gridm f R C)) := by
 have z0 := Ext.refl w; have hLX : LX = 17592186044416 := rfl; have hLY : LY = 8796093022208 := rfl
 have hLV : LV = 1099511627776 := rfl
 refine enter (args := [.int .i64 (R : Int), .int .i64 (C : Int), .int .u8 kind, .agg #[.bool n5, .slice a5 l5 c5, .bool n6, .slice a6 l6 c6], .slice a1 n c, .slice a2 m d]) Tryz.func114 rfl rfl (Nat.le_of_ble_eq_true rfl) ?_
 refine V.seq (V.reg rfl ?_)
 refine vo ?_
 refine bxa rfl ?_
 intro W1 x2 b3 nn4
 have s5 := x2.sz
 have z6 := x2
 refine ass rfl ?_
 refine vnil ?_
 refine V.seq (V.reg rfl ?_)
 refine ass rfl ?_
 refine vnil ?_
 refine V.seq ?_
 refine V.seq (V.reg rfl ?_)
 refine asi rfl ?_
 refine vnil ?_
 refine V.block ?_
 refine V.loopK (ι := Nat × Value) [(0, .int _ _), (1, .int _ _), (2, .int _ _), (4, .slice _ _ _), (5, .slice _ _ _), (9, .pointer (some ⟨_, _, none⟩))] (fun ⟨i, v⟩ => [(14, .int .i64 (i : Int)), (13, v)]) (fun ⟨i, v⟩ W => Ext W1 W ∧ i ≤ R ∧ GO 1 (RowOf GC) S W1.heap.size W 23 v (gridm f i C)) (fun ⟨i, v⟩ => R - i) ((0, _)) ⟨rfl, rfl, rfl, rfl, rfl, rfl, trivial⟩ ⟨rfl, rfl, trivial⟩ ⟨Ext.refl _, Nat.zero_le _, GO.nil _ _⟩ ?_
 intro i9 E10 W8 h11
 obtain ⟨i, v⟩ := i9
 simp only at h11
 show V _ _ _ _ _ _ (ups (ups _ _) [(14, .int .i64 (i : Int)), (13, v)]) _
 obtain ⟨x12, hi, hO⟩ := h11
 have s13 := x12.sz
 have z14 := z6.trans x12
 have z15 := x12
 replace b3 := b3.ext x12
 refine V.seq ?_
 refine V.seq (V.reg rfl ?_)
 refine mvi rfl ?_
 refine mvi rfl ?_
 refine vlt rfl rfl ?_ ?_
 ·intro c16
  refine vnil ?_
  refine V.condT rfl ?_
  refine V.skip ?_
  refine V.seq ?_
  refine V.block ?_
  refine V.seq (V.reg rfl ?_)
  refine ass rfl ?_
  refine vnil ?_
  refine V.seq ?_
  refine V.seq (V.reg rfl ?_)
  refine asi rfl ?_
  refine vnil ?_
  refine V.block ?_
  have hOm := hO
  refine V.loopK (ι := Nat × Value) [(0, .int _ _), (1, .int _ _), (2, .int _ _), (4, .slice _ _ _), (5, .slice _ _ _), (9, .pointer (some ⟨_, _, none⟩)), (13, v), (14, .int _ _)] (fun ⟨j, v2⟩ => [(16, .int .i64 (j : Int)), (15, v2)]) (fun ⟨j, v2⟩ W => Ext W8 W ∧ j ≤ C ∧ GO 4 QC (fun b => W8.heap.size ≤ b) W8.heap.size W 48 v2 ((List.range j).map (fun t : Nat => f (i : Int) (t : Int)))) (fun ⟨j, v2⟩ => C - j) ((0, _)) ⟨rfl, rfl, rfl, rfl, rfl, rfl, rfl, rfl, trivial⟩ ⟨rfl, rfl, trivial⟩ ⟨Ext.refl _, Nat.zero_le _, GO.nil _ _⟩ ?_
  intro i19 E20 W18 h21
  obtain ⟨j, v2⟩ := i19
  simp only at h21
  show V _ _ _ _ _ _ (ups (ups _ _) [(16, .int .i64 (j : Int)), (15, v2)]) _
  obtain ⟨x22, hj, hO2⟩ := h21
  have s23 := x22.sz
  have z24 := z14.trans x22
  have z25 := z15.trans x22
  have z26 := x22
  replace b3 := b3.ext x22
  refine V.seq ?_
  refine V.seq (V.reg rfl ?_)
  refine mvi rfl ?_
  refine mvi rfl ?_
  refine vlt rfl rfl ?_ ?_
  ·intro c27
   refine vnil ?_
   refine V.condT rfl ?_
   refine V.skip ?_
   refine V.seq ?_
   refine V.block ?_
   refine V.reg rfl ?_
   refine vv (rmv (v := v2) rfl) ?_
   refine mvi rfl ?_
   refine vv (rldb4 rfl ag48 b3 rfl rfl rfl rfl ) ?_
   refine mvs rfl ?_
   refine mvs rfl ?_
   refine mvi rfl ?_
   refine mvi rfl ?_
   refine vo ?_
   refine xcall e164 (hf _ i j (SO (fun b => W8.heap.size ≤ b) v2) z24 (GO.up hO2 (w := W8) (fun b hb => hb) (by omega)) (by omega) (by omega)) rfl rfl ?_
   rintro _ W29 ⟨_, rfl, x30, hq28⟩
   have s31 := x30.sz
   have z34 := z26.trans x30
   replace hO2 := hO2.ext okQC x30
   obtain ⟨_, _, _, _, _, _, _, _, rfl⟩ := hq28.form
   refine ⟨_, rfl, ?_⟩
   refine vo ?_
   refine xbs (zs := [.bool false, .slice _ _ _, .bool false, .slice _ _ _]) (ps := [(0, .agg #[_, _, _, _])]) (cs := [.bool _, .slice _ _ _, .bool _, .slice _ _ _]) sl23 zr48 sz48 rfl rfl rfl rfl rfl rfl ?_
   intro W35 x36 b37 nn38
   have s39 := x36.sz
   have z42 := z34.trans x36
   replace hO2 := hO2.ext okQC x36
   refine vo ?_
   refine xappG okQC sl23 in48 rfl rfl hO2 rfl rfl b37 rfl rfl ((hq28.ext x36)) (by simp; omega) (by decide) (by omega) ?_
   intro v43 W44 hO45 hg46
   have y47 := hg46.below; have s48 := y47.size
   have z51 := z42.below (y47.mono (by omega))
   refine vv (ras (v := v43) rfl) ?_
   refine vnil ?_
   refine V.reg rfl ?_
   refine mvi rfl ?_
   refine vv (rbin (bAdd (wi (by omega))) rfl rfl) ?_
   refine asi rfl ?_
   refine vnil ?_
   refine ⟨rfl, (j + 1, _), ⟨rfl, rfl, rfl, rfl, rfl, rfl, rfl, rfl, trivial⟩, ⟨rfl, rfl, trivial⟩, ⟨z51, by omega, by rw [row_succ]; exact hO45⟩, ?_⟩
   show C - (j + 1) < C - j
   omega
  ·intro c27
   have hO := hOm.ext okRowC z26
   obtain ⟨a2', c2', rfl⟩ := hO2.form
   have hrow : GC (fun b => W8.heap.size ≤ b) _ _ _ _ _ := hO2.fin okQC (fun b hb _ => hb)
   refine vnil ?_
   refine V.condF rfl ?_
   refine V.exit ?_
   refine V.reg rfl ?_
   refine vv (rmv (v := v) rfl) ?_
   refine mvs rfl ?_
   refine vo ?_
   refine xbs (ps := [(0, .slice _ _ _)]) (cs := [.slice _ _ _]) sl22 zr23 sz23 rfl rfl rfl rfl rfl rfl ?_
   intro W53 x54 b55 nn56
   have s57 := x54.sz
   have z59 := z25.trans x54
   have z61 := x54
   replace hO := hO.ext okRowC x54
   refine vo ?_
   refine xappG okRowC sl22 in23 rfl rfl hO rfl rfl b55 rfl rfl ((⟨_, _, _, rfl, ((hrow.ext z61)).sub (fun b hb hs => ⟨hu b (by omega), hOm.lt b hs⟩)⟩ : RowOf GC _ _ _ _)) (by simp [gridm]; omega) (by decide) (by omega) ?_
   intro v62 W63 hO64 hg65
   have y66 := hg65.below; have s67 := y66.size
   have z69 := z59.below (y66.mono (by omega))
   refine vv (ras (v := v62) rfl) ?_
   refine vnil ?_
   refine V.reg rfl ?_
   refine mvi rfl ?_
   refine vv (rbin (bAdd (wi (by omega))) rfl rfl) ?_
   refine asi rfl ?_
   refine vnil ?_
   refine ⟨rfl, (i + 1, _), ⟨rfl, rfl, rfl, rfl, rfl, rfl, trivial⟩, ⟨rfl, rfl, trivial⟩, ⟨z69, by omega, by have eC : j = C := (by omega); subst eC; rw [gridm_succ]; exact hO64⟩, ?_⟩
   show R - (i + 1) < R - i
   omega
 ·intro c16
  refine vnil ?_
  refine V.condF rfl ?_
  refine V.exit ?_
  refine V.seq (V.reg rfl ?_)
  refine vv (rmv (v := v) rfl) ?_
  refine vv (ras (v := v) rfl) ?_
  refine vnil ?_
  refine V.ret ?_
  refine ⟨[v], ⟨rfl, trivial⟩, ?_⟩
  obtain rfl : i = R := by omega
  exact ⟨_, rfl, z14, hO.lower (by omega)⟩
set_option maxHeartbeats 400000 in
theorem rFit_own (a1 : Option Addr) (n c : Nat) (y z : Int) (R C : Nat) (L1 : Nat) (rss : List (List Rat)) (S S1 : Nat → Prop) (w : World) (hx : MA L1 S1 w a1 n c rss) (hR : min (max y 0) 1024 = (R : Int)) (hC : min (max z 0) 1024 = (C : Int)) (hL : L1 + 1 ≤ LX / 128) (hl1 : 1 ≤ L1) (hu : Up S w) :
    Calls Tryz.prog 44 #[.slice a1 n c, .int .i64 y, .int .i64 z] w (fun e w' => ∃ v, e = .returned v ∧ Ext w w' ∧ GO 1 (RowOf GC) S w.heap.size w' 23 v (gridm (matI rss) R C)) := by
 have z0 := Ext.refl w; have hLX : LX = 17592186044416 := rfl; have hLY : LY = 8796093022208 := rfl
 have hLV : LV = 1099511627776 := rfl
 refine enter (args := [.slice a1 n c, .int .i64 y, .int .i64 z]) Tryz.func44 rfl rfl (Nat.le_of_ble_eq_true rfl) ?_
 refine V.seq (V.reg rfl ?_)
 refine ass rfl ?_
 refine vnil ?_
 refine V.seq (V.reg rfl ?_)
 refine mvi rfl ?_
 refine vo ?_
 refine xcall e115 (rcut_ok _ R _ hR) rfl rfl ?_
 rintro _ _ ⟨rfl, rfl⟩
 refine ⟨_, rfl, ?_⟩
 refine mvi rfl ?_
 refine vo ?_
 refine xcall e115 (rcut_ok _ C _ hC) rfl rfl ?_
 rintro _ _ ⟨rfl, rfl⟩
 refine ⟨_, rfl, ?_⟩
 refine vo ?_
 refine xcall e116 (rInt_ok 1 TT _ (by omega) (TT.up _)) rfl rfl ?_
 rintro _ W3 ⟨_, rfl, x4, hq1⟩
 have s5 := x4.sz
 have z6 := x4
 obtain ⟨_, _, _, _, _, _, _, _, rfl⟩ := hq1.form
 refine ⟨_, rfl, ?_⟩
 refine mvs rfl ?_
 refine vo ?_
 refine xcall e114 (rmade_own R C 0 _ _ _ _ _ _ _ _ _ _ _ _ _ _ (fun i k => ((1 : Int) : Rat) * matI rss i k) S _ (fun W i k S' x u _ _ => rPlace0_ok [_, _, _, _] _ _ _ _ _ _ _ i k 1 L1 rss S' S1 TT W ((hq1).qa (szOne' ) |>.ext x) (((hx.ext z6)).ext x) (by omega) (by omega) hl1 u) (by omega) (by omega) (hu.mono (by omega))) rfl rfl ?_
 rintro _ W7 ⟨vg, rfl, x8, hv⟩
 have s9 := x8.sz
 have z10 := z6.trans x8
 refine ⟨_, rfl, ?_⟩
 refine vv (ras (v := vg) rfl) ?_
 refine vnil ?_
 refine V.ret ?_
 refine ⟨[vg], ⟨rfl, trivial⟩, ?_⟩
 have e9 : gridm (fun i k => ((1 : Int) : Rat) * matI rss i k) R C = gridm (matI rss) R C := by congr 1; funext i k; simp
 rw [e9] at hv
 exact ⟨_, rfl, z10, hv.lower (by omega)⟩
set_option maxHeartbeats 400000 in
theorem rUnit3_own (z c : Int) (N : Nat) (S : Nat → Prop) (w : World) (hN : min (max z 0) 65536 = (N : Int)) (hu : Up S w) :
    Calls Tryz.prog 119 #[.int .i64 z, .int .i64 c] w (fun e w' => ∃ v, e = .returned v ∧ Ext w w' ∧ GO 4 QC S w.heap.size w' 48 v (unitv N c)) := by
 have z0 := Ext.refl w; have hLX : LX = 17592186044416 := rfl; have hLY : LY = 8796093022208 := rfl
 have hNN : N ≤ 65536 := by omega
 refine enter (args := [.int .i64 z, .int .i64 c]) Tryz.func119 rfl rfl (Nat.le_of_ble_eq_true rfl) ?_
 refine V.seq (V.reg rfl ?_)
 refine ass rfl ?_
 refine vnil ?_
 refine V.seq (V.reg rfl ?_)
 refine ass rfl ?_
 refine vnil ?_
 refine V.seq ?_
 refine V.seq (V.reg rfl ?_)
 refine asi rfl ?_
 refine vnil ?_
 refine V.block ?_
 refine V.loopK (ι := Nat × Value) [(0, .int _ _), (1, .int _ _)] (fun ⟨k, v⟩ => [(6, .int .i64 (k : Int)), (5, v)]) (fun ⟨k, v⟩ W => Ext w W ∧ k ≤ N ∧ GO 4 QC S w.heap.size W 48 v ((List.range k).map (fun j : Nat => if (j : Int) = c then (1 : Rat) else 0))) (fun ⟨k, v⟩ => N - k) ((0, _)) ⟨rfl, rfl, trivial⟩ ⟨rfl, rfl, trivial⟩ ⟨Ext.refl _, Nat.zero_le _, GO.nil _ _⟩ ?_
 intro i2 E3 W1 h4
 obtain ⟨k, v⟩ := i2
 simp only at h4
 show V _ _ _ _ _ _ (ups (ups _ _) [(6, .int .i64 (k : Int)), (5, v)]) _
 obtain ⟨x5, hk, hO⟩ := h4
 have s6 := x5.sz
 have z7 := x5
 have hOr := hO
 refine V.seq ?_
 refine V.seq (V.reg rfl ?_)
 refine mvi rfl ?_
 refine mvi rfl ?_
 refine vlt rfl rfl ?_ ?_
 ·intro c9
  refine mvb rfl ?_
  refine vg rfl ?_
  refine mvi rfl ?_
  refine vg rfl ?_
  refine vlt rfl rfl ?_ ?_
  ·intro c10
   refine vv (rpk (v := .bool true) rfl rfl) ?_
   refine vnil ?_
   refine V.condT rfl ?_
   refine V.skip ?_
   refine V.seq ?_
   refine V.block ?_
   refine V.seq (V.reg rfl ?_)
   refine vv (rbd (ps := []) (cs := [.bool false, .slice _ _ _, .bool false, .slice _ _ _]) pl48 rfl rfl) ?_
   refine vo ?_
   refine xal zc48 ?_
   intro W11 x12 b13 nn14
   have s15 := x12.sz
   have z16 := z7.trans x12
   have z17 := x12
   refine vo ?_
   refine sta (cs' := [_, _, _, _]) b13 rfl rfl sz48 rfl rfl rfl ?_
   intro W18 y19 b13
   have z20 := z16.below (y19.below (by omega))
   have z21 := z17.below (y19.below (by omega))
   have s22 := y19.size
   refine vnil ?_
   refine V.seq ?_
   refine V.seq (V.reg rfl ?_)
   refine mvi rfl ?_
   refine mvi rfl ?_
   refine veq rfl rfl ?_ ?_
   ·intro cq
    refine vnil ?_
    refine V.condT rfl ?_
    refine V.reg rfl ?_
    refine vo ?_
    refine xcall e116 (rInt_ok _ _ _ (by omega) (SX.up (S := SO S v) (bs := [W1.heap.size]) (GO.up (hOr.ext okQC z21) hu (by omega)) (by have := b13.lt; simp; omega))) rfl rfl ?_
    rintro _ W24 ⟨_, rfl, x25, hq23⟩
    have s26 := x25.sz
    have z27 := z20.trans x25
    have z28 := z21.trans x25
    replace b13 := b13.ext x25
    obtain ⟨_, _, _, _, _, _, _, _, rfl⟩ := hq23.form
    refine ⟨_, rfl, ?_⟩
    refine vo ?_
    refine sta (cs' := [_, _, _, _]) b13 rfl rfl sz48 rfl rfl rfl ?_
    intro W29 y30 b13
    have z31 := z27.below (y30.below (by omega))
    have z32 := z28.below (y30.below (by omega))
    have s33 := y30.size
    refine vnil ?_
    refine V.reg rfl ?_
    have hO := hOr.ext okQC z32
    refine vv (rmv (v := v) rfl) ?_
    refine vv (rldb4 rfl ag48 b13 rfl rfl rfl rfl ) ?_
    refine vo ?_
    refine xbs (zs := [.bool false, .slice _ _ _, .bool false, .slice _ _ _]) (ps := [(0, .agg #[_, _, _, _])]) (cs := [.bool _, .slice _ _ _, .bool _, .slice _ _ _]) sl23 zr48 sz48 rfl rfl rfl rfl rfl rfl ?_
    intro W34 x35 b36 nn37
    have s38 := x35.sz
    have z39 := z31.trans x35
    replace hO := hO.ext okQC x35
    refine vo ?_
    refine xappG okQC sl23 in48 rfl rfl hO rfl rfl b36 rfl rfl (((hq23.ck ((y30.ck (by intro hh; first | (simp [SX] at hh <;> omega) | omega)).trans (x35.ck _)))).un.cast (r' := if (k : Int) = c then (1 : Rat) else 0) (by rw [if_pos cq]; rfl)) (by simp; omega) (by decide) (by omega) ?_
    intro v41 W42 hO43 hg44
    have y45 := hg44.below; have s46 := y45.size
    have z47 := z39.below (y45.mono (by omega))
    refine vv (ras (v := v41) rfl) ?_
    refine vnil ?_
    refine V.reg rfl ?_
    refine mvi rfl ?_
    refine vv (rbin (bAdd (wi (by omega))) rfl rfl) ?_
    refine asi rfl ?_
    refine vnil ?_
    refine ⟨rfl, (k + 1, _), ⟨rfl, rfl, trivial⟩, ⟨rfl, rfl, trivial⟩, ⟨z47, by omega, by rw [unit_succ]; exact hO43⟩, ?_⟩
    show N - (k + 1) < N - k
    omega
   ·intro cq
    refine vnil ?_
    refine V.condF rfl ?_
    refine V.skip ?_
    refine V.reg rfl ?_
    have hO := hOr.ext okQC z21
    refine vv (rmv (v := v) rfl) ?_
    refine vv (rldb4 rfl ag48 b13 rfl rfl rfl rfl ) ?_
    refine vo ?_
    refine xbs (zs := [.bool false, .slice _ _ _, .bool false, .slice _ _ _]) (ps := [(0, .agg #[_, _, _, _])]) (cs := [.bool false, .slice _ _ _, .bool false, .slice _ _ _]) sl23 zr48 sz48 rfl rfl rfl rfl rfl rfl ?_
    intro W48 x49 b50 nn51
    have s52 := x49.sz
    have z53 := z20.trans x49
    replace hO := hO.ext okQC x49
    refine vo ?_
    refine xappG okQC sl23 in48 rfl rfl hO rfl rfl b50 rfl rfl ((QC.zero (SO S v) _).cast (r' := if (k : Int) = c then (1 : Rat) else 0) (by rw [if_neg cq])) (by simp; omega) (by decide) (by omega) ?_
    intro v55 W56 hO57 hg58
    have y59 := hg58.below; have s60 := y59.size
    have z61 := z53.below (y59.mono (by omega))
    refine vv (ras (v := v55) rfl) ?_
    refine vnil ?_
    refine V.reg rfl ?_
    refine mvi rfl ?_
    refine vv (rbin (bAdd (wi (by omega))) rfl rfl) ?_
    refine asi rfl ?_
    refine vnil ?_
    refine ⟨rfl, (k + 1, _), ⟨rfl, rfl, trivial⟩, ⟨rfl, rfl, trivial⟩, ⟨z61, by omega, by rw [unit_succ]; exact hO57⟩, ?_⟩
    show N - (k + 1) < N - k
    omega
  ·intro c10
   refine vv (rpk (v := .bool false) rfl rfl) ?_
   refine vnil ?_
   refine V.condF rfl ?_
   refine V.exit ?_
   refine V.seq (V.reg rfl ?_)
   refine vv (rmv (v := v) rfl) ?_
   refine vv (ras (v := v) rfl) ?_
   refine vnil ?_
   refine V.ret ?_
   refine ⟨[v], ⟨rfl, trivial⟩, ?_⟩
   have ek : k = N := (by omega)
   subst ek
   exact ⟨_, rfl, z7, (unitv_eq _ _).symm ▸ (hO.lower (by omega))⟩
 ·intro c9
  refine mvb rfl ?_
  refine vgn (b := false) rfl rfl ?_
  refine vgn (b := false) rfl rfl ?_
  refine vv (rpk (v := .bool false) rfl rfl) ?_
  refine vnil ?_
  refine V.condF rfl ?_
  refine V.exit ?_
  refine V.seq (V.reg rfl ?_)
  refine vv (rmv (v := v) rfl) ?_
  refine vv (ras (v := v) rfl) ?_
  refine vnil ?_
  refine V.ret ?_
  refine ⟨[v], ⟨rfl, trivial⟩, ?_⟩
  have ek : k = N := (by omega)
  subst ek
  exact ⟨_, rfl, z7, (unitv_eq _ _).symm ▸ (hO.lower (by omega))⟩
end Go.Proofs.YtknbjfefeeojlaaGreat
/- Package pylonref05: in, Reduce. -/
namespace Go.Proofs.YtknbjfefeeojlaaGreat
open Go.RowKit
attribute [local irreducible] RV VH V OpF Calls

set_option maxHeartbeats 400000 in
theorem rIn_ok (a1 : Option Addr) (n c : Nat) (xs : List Int) (z : Int) (S1 : Nat → Prop) (w : World) (hx : RN .i64 S1 w a1 n c xs) :
    Calls Tryz.prog 129 #[.slice a1 n c, .int .i64 z] w (fun e w' => ∃ q, e = .returned (.bool q) ∧ w = w' ∧ (q = true ↔ z ∈ xs)) := by
 have z0 := Ext.refl w; have hLX : LX = 17592186044416 := rfl; have hLY : LY = 8796093022208 := rfl
 have l1 := hx.len; have l2 := hx.cap; have l3 := hx.max
 refine enter (args := [.slice a1 n c, .int .i64 z]) Tryz.func129 rfl rfl (Nat.le_of_ble_eq_true rfl) ?_
 refine V.seq (V.reg rfl ?_)
 refine asb rfl ?_
 refine vnil ?_
 refine V.seq ?_
 refine V.seq (V.reg rfl ?_)
 refine asi rfl ?_
 refine vnil ?_
 refine V.block ?_
 refine V.loopK (ι := Nat) [(0, .slice _ _ _), (1, .int _ _)] (fun k => [(5, .int .i64 (k : Int))]) (fun k W => w = W ∧ k ≤ n ∧ ∀ j : Nat, j < k → wd xs j ≠ z) (fun k => n - k) (0) ⟨rfl, rfl, trivial⟩ ⟨rfl, trivial⟩ ⟨rfl, Nat.zero_le _, fun j hj => absurd hj (Nat.not_lt_zero _)⟩ ?_
 intro k E2 W1 h3
 obtain ⟨rfl, hk, hz⟩ := h3
 refine V.seq ?_
 refine V.seq (V.reg rfl ?_)
 refine mvi rfl ?_
 refine mvs rfl ?_
 refine vv (rlen sl73 rfl) ?_
 refine vlt rfl rfl ?_ ?_
 ·intro c4
  refine vnil ?_
  refine V.condT rfl ?_
  refine V.skip ?_
  refine V.seq ?_
  refine V.block ?_
  refine V.seq (V.reg rfl ?_)
  refine mvs rfl ?_
  refine mvi rfl ?_
  refine vv (rixn hx sl73 sz3 rfl rfl (by omega) (by omega)) ?_
  refine vldN hx rfl sc3 (by omega) (by omega) ?_
  intro q5 hq5 hk6
  simp only [kb] at hk6
  refine mvi rfl ?_
  refine veq rfl rfl ?_ ?_
  ·intro cz
   refine vnil ?_
   refine V.condT rfl ?_
   refine V.seq (V.reg rfl ?_)
   refine asb rfl ?_
   refine vnil ?_
   refine V.ret ?_
   refine ⟨[.bool true], ⟨rfl, trivial⟩, ?_⟩
   exact ⟨_, rfl, rfl, ⟨fun _ => wd_mem.1 ⟨k, by omega, by omega⟩, fun _ => rfl⟩⟩
  ·intro cz
   refine vnil ?_
   refine V.condF rfl ?_
   refine V.skip ?_
   refine V.reg rfl ?_
   refine mvi rfl ?_
   refine vv (rbin (bAdd (wi (by omega))) rfl rfl) ?_
   refine asi rfl ?_
   refine vnil ?_
   refine ⟨rfl, k + 1, ⟨rfl, rfl, trivial⟩, ⟨rfl, trivial⟩, ⟨rfl, by omega, fun j hj => (by rcases Nat.lt_succ_iff_lt_or_eq.1 hj with h | rfl; exact hz j h; omega)⟩, ?_⟩
   show n - (k + 1) < n - k
   omega
 ·intro c4
  refine vnil ?_
  refine V.condF rfl ?_
  refine V.exit ?_
  refine V.seq (V.reg rfl ?_)
  refine asb rfl ?_
  refine vnil ?_
  refine V.ret ?_
  refine ⟨[.bool false], ⟨rfl, trivial⟩, ?_⟩
  exact ⟨_, rfl, rfl, ⟨fun h => (by cases h), fun h => by obtain ⟨j, hj, e⟩ := wd_mem.2 h; exact absurd e (hz j (by omega))⟩⟩
set_option maxHeartbeats 4000000 in
theorem rReduce_ok (a1 : Option Addr) (n c L : Nat) (ρs : List (List RawQ)) (rss : List (List Rat)) (S S1 : Nat → Prop) (w : World) (hm : MX S1 w a1 n c ρs) (hx : MA L S1 w a1 n c rss) (hcg : colsG ρs = colsN rss) (hl1 : 1 ≤ L) (hn : n ≤ 1024) (hc : colsN rss ≤ 1024) (hL5 : 15 * (L * 5 ^ colsN rss) + 2 ≤ LX / 128) (hu : Up S w) :
    Calls Tryz.prog 61 #[.slice a1 n c] w (fun e w' => ∃ ar cr ap cp, e = .returned (.tuple #[.slice ar (redS (gridm (matI rss) n (colsN rss)) (colsN rss)).2.1.length cr, .slice ap (redS (gridm (matI rss) n (colsN rss)) (colsN rss)).2.1.length cp]) ∧ Ext w w' ∧ MC S w' ar (redS (gridm (matI rss) n (colsN rss)) (colsN rss)).2.1.length cr ((redS (gridm (matI rss) n (colsN rss)) (colsN rss)).1.take (redS (gridm (matI rss) n (colsN rss)) (colsN rss)).2.1.length) ∧ RN .i64 S w' ap (redS (gridm (matI rss) n (colsN rss)) (colsN rss)).2.1.length cp (redS (gridm (matI rss) n (colsN rss)) (colsN rss)).2.1) := by
 have z0 := Ext.refl w; have hLX : LX = 17592186044416 := rfl; have hLY : LY = 8796093022208 := rfl
 have hLV : LV = 1099511627776 := rfl
 have h51 : L * 1 ≤ L * 5 ^ colsN rss := Nat.mul_le_mul_left _ (Nat.pow_pos (by omega))
 refine enter (args := [.slice a1 n c]) Tryz.func61 rfl rfl (Nat.le_of_ble_eq_true rfl) ?_
 refine V.seq (V.reg rfl ?_)
 refine ass rfl ?_
 refine ass rfl ?_
 refine vnil ?_
 refine V.seq (V.reg rfl ?_)
 refine mvs rfl ?_
 refine vo ?_
 refine xcall e36 (rCols_ok _ _ _ _ _ _ hm) rfl rfl ?_
 rintro _ _ ⟨rfl, rfl⟩
 rw [hcg]
 refine ⟨_, rfl, ?_⟩
 refine asi rfl ?_
 refine vnil ?_
 refine V.seq (V.reg rfl ?_)
 refine mvs rfl ?_
 refine mvs rfl ?_
 refine vv (rlen sl22 rfl) ?_
 refine mvi rfl ?_
 refine vo ?_
 refine xcall e44 (rFit_own _ _ _ _ _ n (colsN rss) L rss (fun b => w.heap.size ≤ b) S1 _ hx (by omega) (by omega) (by omega) hl1 (fun b hb => hb)) rfl rfl ?_
 rintro _ W2 ⟨vg, rfl, x3, hv⟩
 have s4 := x3.sz
 have z5 := x3
 obtain ⟨rows, hrows⟩ : ∃ r, r = gridm (matI rss) n (colsN rss) := ⟨_, rfl⟩
 rw [← hrows] at hv
 have hrect : rect (colsN rss) rows := by rw [hrows]; exact gridm_rect _ _ _
 have hszr : szR L rows := by rw [hrows]; exact gridm_sz (fun i k => szMI (hx.ext z5) hl1 _ _)
 have hrl : rows.length = n := by rw [hrows, len_gridm]
 obtain ⟨av, cv, ev⟩ := hv.form
 rw [hrl] at ev; subst ev
 have hR0 : RW w.heap.size (.slice av n cv) (.slice none 0 0) rows [] _ := ⟨hv.res okRowC (fun b hb hs => ⟨hs, by simp [Value.ownBlock]⟩), OI.nil _ _ _ _⟩
 have hBw := Nat.le_refl w.heap.size
 refine ⟨_, rfl, ?_⟩
 refine vv (ras (v := .slice av n cv) rfl) ?_
 refine vnil ?_
 refine V.seq (V.reg rfl ?_)
 refine ass rfl ?_
 refine vnil ?_
 refine V.seq (V.reg rfl ?_)
 refine asi rfl ?_
 refine vnil ?_
 refine V.seq ?_
 refine V.seq (V.reg rfl ?_)
 refine asi rfl ?_
 refine vnil ?_
 refine V.block ?_
 refine V.loopK (ι := Nat × Nat × Value) [(4, .int _ _), (5, .slice av n cv)] (fun ⟨k, d, pvv⟩ => [(8, .int .i64 (k : Int)), (7, .int .i64 (d : Int)), (6, pvv)]) (fun ⟨k, d, pvv⟩ W => k ≤ colsN rss ∧ RW w.heap.size (.slice av n cv) pvv (redS rows k).1 (redS rows k).2.1 W ∧ d = (redS rows k).2.1.length ∧ Ext w W) (fun ⟨k, d, pvv⟩ => colsN rss - k) ((0, 0, _)) ⟨rfl, rfl, trivial⟩ ⟨rfl, rfl, rfl, trivial⟩ ⟨Nat.zero_le _, hR0, rfl, z5⟩ ?_
 intro i7 E8 W6 h9
 obtain ⟨k, d, pvv⟩ := i7
 simp only at h9
 show V _ _ _ _ _ _ (ups (ups _ _) [(8, .int .i64 (k : Int)), (7, .int .i64 (d : Int)), (6, pvv)]) _
 obtain ⟨hk, hRW, hd, hzw⟩ := h9
 obtain ⟨R, piv, δ, hs⟩ : ∃ R piv δ, redS rows k = (R, piv, δ) := ⟨_, _, _, rfl⟩
 have hall := redS_all hrect hszr hl1 k
 rw [hs] at hRW hd hall
 simp only at hRW hd hall
 obtain ⟨hRl, hpl, hRr, hRz⟩ := hall
 have hRn : R.length = n := by omega
 have h5k : L * 5 ^ k ≤ L * 5 ^ colsN rss := Nat.mul_le_mul_left _ (Nat.pow_le_pow_right (by omega) (by omega))
 have h5p : 1 ≤ L * 5 ^ k := Nat.mul_pos hl1 (Nat.pow_pos (by omega))
 subst hd
 have hMA := (hRW.mc rfl).ma hRz; have hMc := hMA.max
 have zk10 := Ext.refl W6; have sz11 := hzw.sz
 refine V.seq ?_
 refine V.seq (V.reg rfl ?_)
 refine mvi rfl ?_
 refine mvi rfl ?_
 refine vlt rfl rfl ?_ ?_
 ·intro c12
  refine vnil ?_
  refine V.condT rfl ?_
  refine V.skip ?_
  refine V.seq ?_
  refine V.block ?_
  refine V.seq (V.reg rfl ?_)
  refine mvi rfl ?_
  refine asi rfl ?_
  refine vnil ?_
  refine V.seq ?_
  refine V.block ?_
  refine V.loopK (ι := Nat) [(4, .int _ _), (5, .slice av n cv), (6, pvv), (7, .int _ _), (8, .int _ _)] (fun p => [(9, .int .i64 (p : Int))]) (fun p W => Ext W6 W ∧ piv.length ≤ p ∧ p ≤ n ∧ ∀ j, piv.length ≤ j → j < p → mat R j k = 0) (fun p => n - p) (piv.length) ⟨rfl, rfl, rfl, rfl, rfl, trivial⟩ ⟨rfl, trivial⟩ ⟨Ext.refl _, Nat.le_refl _, by omega, fun j h1 h2 => by omega⟩ ?_
  intro p E14 W13 h15
  obtain ⟨x16, hp1, hp2, hpz⟩ := h15
  have s17 := x16.sz
  have z18 := hzw.trans x16
  have z19 := x16
  refine V.seq ?_
  refine V.seq (V.reg rfl ?_)
  refine mvi rfl ?_
  refine vv (rmv (v := .slice av n cv) rfl) ?_
  refine vv (rlen sl22 rfl) ?_
  refine vlt rfl rfl ?_ ?_
  ·intro c20
   have hrw := hRr.row (i := ((p : Nat) : Int).toNat) (by omega)
   refine mvb rfl ?_
   refine vg rfl ?_
   refine vv (rmv (v := .slice av n cv) rfl) ?_
   refine vg rfl ?_
   refine mvi rfl ?_
   refine vg rfl ?_
   refine vv (rix sl22 sz23 rfl rfl (by omega) (by omega) ((hMA.ext z19).isS (i := 0) (by omega) (by omega))) ?_
   refine vg rfl ?_
   refine vldRow (hMA.ext z19) rfl sc23 (by omega) (by omega) ?_
   intro a21 n22 c23 hg24
   have hg24l := hg24.len; have hg24m := hg24.max
   refine vg rfl ?_
   refine mvi rfl ?_
   refine vg rfl ?_
   refine vv (rix sl23 sz48 rfl rfl (by omega) (by omega) (hg24.isS (i := 0) (by omega) (by omega))) ?_
   refine vg rfl ?_
   refine vldQ hg24 rfl ag48 (by omega) (by omega) ?_
   intro n25 a26 l27 c28 n29 a30 l31 c32 hq33
   refine vg rfl ?_
   refine vo ?_
   refine xcall e132 (rSignQ_ok _ _ _ _ _ hq33 (by omega) (by omega)) rfl rfl ?_
   rintro _ W34 ⟨rfl, x35⟩
   have s36 := x35.sz
   have z37 := z18.trans x35
   have z38 := z19.trans x35
   refine ⟨_, rfl, ?_⟩
   refine vg rfl ?_
   refine veq rfl rfl ?_ ?_
   ·intro c9
    refine vv (rpk (v := .bool true) rfl rfl) ?_
    refine vnil ?_
    refine V.condT rfl ?_
    refine V.skip ?_
    refine V.block ?_
    refine V.reg rfl ?_
    refine mvi rfl ?_
    refine vv (rbin (bAdd (wi (by omega))) rfl rfl) ?_
    refine asi rfl ?_
    refine vnil ?_
    refine ⟨rfl, p + 1, ⟨rfl, rfl, rfl, rfl, rfl, trivial⟩, ⟨rfl, trivial⟩, ⟨z38, by omega, by omega, fun j h1 h2 => (by rcases Nat.lt_succ_iff_lt_or_eq.1 h2 with h | rfl; exact hpz j h1 h; exact cq_eq.1 c9)⟩, ?_⟩
    show n - (p + 1) < n - p
    omega
   ·intro c9
    refine vv (rpk (v := .bool false) rfl rfl) ?_
    refine vnil ?_
    refine V.condF rfl ?_
    refine V.exit ?_
    refine V.seq ?_
    refine V.seq (V.reg rfl ?_)
    refine mvi rfl ?_
    refine vv (rmv (v := .slice av n cv) rfl) ?_
    refine vv (rlen sl22 rfl) ?_
    refine veq rfl rfl ?_ ?_
    ·intro c39
     omega
    ·intro c39
     have hP : IsP R k piv.length p := ⟨hp1, by omega, hpz, fun _ h => c9 (cq_eq.2 h)⟩
     have hid : p < R.length := by omega
     have hdd : piv.length < R.length := by omega
     obtain ⟨ra0, rk0, rc0, hc0, hg0⟩ := ((hRW.ext z38)).g.row rfl (i := (p : Int)) (by omega) (by omega)
     have ce0 : C1 W34 _ _ := hc0; have hga0 := hg0.va (hRz.row _); have hgl0 := hg0.len
     obtain ⟨ra1, rk1, rc1, hc1, hg1⟩ := ((hRW.ext z38)).g.row rfl (i := (piv.length : Int)) (by omega) (by omega)
     have ce1 : C1 W34 _ _ := hc1; have hga1 := hg1.va (hRz.row _); have hgl1 := hg1.len
     refine vnil ?_
     refine V.condF rfl ?_
     refine V.skip ?_
     refine V.seq (V.regB [13, 15] mixed rfl ?_)
     intro W40 x41
     have s42 := x41.sz
     have z43 := z37.trans x41
     have z44 := z38.trans x41
     have q45 := Ext.refl W40
     refine tkP 0 rfl (by kernel_rfl) (by kernel_rfl) (fun _ => q45) (pv (fun _ _ => rmv (v := .slice av n cv) rfl)) ?_
     refine tkP 1 rfl (by kernel_rfl) (by kernel_rfl) (fun _ => q45) (pv (fun _ _ => rmv (v := .int _ _) rfl)) ?_
     refine tkP 2 rfl (by kernel_rfl) (by kernel_rfl) (fun _ => q45) (pv (fun _ _ => rmv (v := .slice av n cv) rfl)) ?_
     refine tkP 3 rfl (by kernel_rfl) (by kernel_rfl) (fun _ => q45) (pv (fun _ _ => rmv (v := .int _ _) rfl)) ?_
     refine tkP 4 rfl (by kernel_rfl) (by kernel_rfl) (fun _ => q45) (pv (fun _ _ => rmv (v := .slice av n cv) rfl)) ?_
     refine tkP 5 rfl (by kernel_rfl) (by kernel_rfl) (fun _ => q45) (pv (fun _ _ => rmv (v := .int _ _) rfl)) ?_
     refine tkP 6 rfl (by kernel_rfl) (by kernel_rfl) (fun _ => q45) (pv (fun _ _ => rix sl22 sz23 rfl rfl (by omega) (by omega) ((hMA.ext z44).isS (i := 0) (by omega) (by omega)))) ?_
     refine tkB 7 rfl (by kernel_rfl) q45 (pv (fun _ y53 => rld1 (v := .slice _ _ _) rfl sc23 ((ce0.ext x41).ext y53))) ?_
     refine tkP 8 rfl (by kernel_rfl) (by kernel_rfl) (fun _ => q45) (pv (fun _ _ => rmv (v := .slice av n cv) rfl)) ?_
     refine tkP 9 rfl (by kernel_rfl) (by kernel_rfl) (fun _ => q45) (pv (fun _ _ => rmv (v := .int _ _) rfl)) ?_
     refine tkP 10 rfl (by kernel_rfl) (by kernel_rfl) (fun _ => q45) (pv (fun _ _ => rix sl22 sz23 rfl rfl (by omega) (by omega) ((hMA.ext z44).isS (i := 0) (by omega) (by omega)))) ?_
     refine tkB 11 rfl (by kernel_rfl) q45 (pv (fun _ y57 => rld1 (v := .slice _ _ _) rfl sc23 ((ce1.ext x41).ext y57))) ?_
     refine tkP 12 rfl (by kernel_rfl) (by kernel_rfl) (fun _ => q45) (pv (fun _ _ => rix sl22 sz23 rfl rfl (by omega) (by omega) ((hMA.ext z44).isS (i := 0) (by omega) (by omega)))) ?_
     refine efB 13 (by kernel_rfl) rfl ?_
     refine xstR (hRW.ext z44) rfl rfl rfl sz23 (by omega) (by omega) (hg0.ext x41) ?_
     intro Ws1 hR1 bl1 ob1
     have zw1 := (z43).below (bl1.mono (by omega)); have szb1 := bl1.size
     have hg1k := ((hg1.ext x41)).own bl1.size ob1
     have zk59 := Ext.refl Ws1; have sz60 := zw1.sz
     refine notW (by kernel_rfl) ?_
     refine tkP 14 rfl (by kernel_rfl) (by kernel_rfl) (notWf (by kernel_rfl)) (pv (fun _ _ => rix sl22 sz23 rfl rfl (by omega) (by omega) ((hMA.ext z44).isS (i := 0) (by omega) (by omega)))) ?_
     refine efB 15 (by kernel_rfl) rfl ?_
     refine xstR hR1 rfl rfl rfl sz23 (by omega) (by omega) hg1k ?_
     intro Ws2 hR2' bl2 ob2
     have zw2 := (zw1).below (bl2.mono (by omega)); have szb2 := bl2.size
     have zk62 := Ext.refl Ws2; have sz63 := zw2.sz
     obtain ⟨R1, eR1⟩ : ∃ r, r = swapR R p piv.length := ⟨_, rfl⟩
     have hR2 : RW w.heap.size (.slice av n cv) pvv R1 piv Ws2 := by rw [eR1, ← swapR_comm]; exact hR2'
     have hl1r : R1.length = n := by rw [eR1, swapR_len]; exact hRn
     have hr1 : rect (colsN rss) R1 := by rw [eR1]; exact hRr.swap hid hdd
     have hsz1 : szR (L * 5 ^ k) R1 := by rw [eR1]; exact hRz.swap _ _
     have hnz : mat R1 piv.length k ≠ 0 := by rw [eR1, mat_swap hid hdd]; exact hP.2.2.2 hid
     have hrow1 := hr1.row (i := ((piv.length : Nat) : Int).toNat) (by omega)
     have hM1 := (hR2.mc rfl).ma hsz1
     obtain ⟨ra2, rk2, rc2, hc2, hg2⟩ := (hR2).g.row rfl (i := (piv.length : Int)) (by omega) (by omega)
     have ce2 : C1 Ws2 _ _ := hc2; have hga2 := hg2.va (hsz1.row _); have hgl2 := hg2.len
     obtain ⟨en2, ea2, el2, ec2, em2, eb2, ek2, ed2, hq2, hcq2⟩ := hga2.el (i := (k : Int)) (by omega) (by omega)
     have cq2 : CE Ws2 _ _ := hcq2
     refine notW (by kernel_rfl) ?_
     refine dnB (by kernel_rfl) ?_
     refine V.seq (V.regD mixed rfl ?_)
     intro W64 x65
     have s66 := x65.sz
     have z67 := zw2.trans x65
     have z68 := x65
     have q69 := Ext.refl W64
     refine tk 0 rfl (by kernel_rfl) q69 (pv (fun _ y70 => rmv (v := .slice av n cv) rfl)) ?_
     refine tk 1 rfl (by kernel_rfl) q69 (pv (fun _ y71 => rmv (v := .int _ _) rfl)) ?_
     refine tk 3 rfl (by kernel_rfl) q69 (pv (fun _ y72 => rmv (v := .slice av n cv) rfl)) ?_
     refine tk 4 rfl (by kernel_rfl) q69 (pv (fun _ y73 => rmv (v := .int _ _) rfl)) ?_
     refine tk 5 rfl (by kernel_rfl) q69 (pv (fun _ y74 => rix sl22 sz23 rfl rfl (by omega) (by omega) (((hM1.ext z68).ext y74).isS (i := 0) (by omega) (by omega)))) ?_
     refine tk 6 rfl (by kernel_rfl) q69 (pv (fun _ y75 => rld1 (v := .slice _ _ _) rfl sc23 ((ce2.ext z68).ext y75))) ?_
     refine tk 7 rfl (by kernel_rfl) q69 (pv (fun _ y76 => rmv (v := .int _ _) rfl)) ?_
     refine tk 8 rfl (by kernel_rfl) q69 (pv (fun _ y77 => rix sl23 sz48 rfl rfl (by omega) (by omega) (((hga2.ext z68).ext y77).isS (i := 0) (by omega) (by omega)))) ?_
     refine tk 9 rfl (by kernel_rfl) q69 (pv (fun _ y78 => rldn (l := [.bool _, .slice _ _ _, .bool _, .slice _ _ _]) rfl ag48 rfl ((cq2.ext z68).ext y78))) ?_
     refine tk 11 rfl (by kernel_rfl) q69 (pv (fun _ y79 => rmv (v := .slice av n cv) rfl)) ?_
     refine tk 12 rfl (by kernel_rfl) q69 (pv (fun _ y80 => rmv (v := .int _ _) rfl)) ?_
     refine tk 13 rfl (by kernel_rfl) q69 (pv (fun _ y81 => rix sl22 sz23 rfl rfl (by omega) (by omega) (((hM1.ext z68).ext y81).isS (i := 0) (by omega) (by omega)))) ?_
     refine tk 14 rfl (by kernel_rfl) q69 (pv (fun _ y82 => rld1 (v := .slice _ _ _) rfl sc23 ((ce2.ext z68).ext y82))) ?_
     refine ef 2 (by kernel_rfl) rfl ?_
     refine xcall e116 (rInt_ok 1 TT _ (by omega) (TT.up _)) rfl rfl ?_
     rintro _ W84 ⟨_, rfl, x85, hq83⟩
     have s86 := x85.sz
     have z87 := z67.trans x85
     have z88 := z68.trans x85
     have q89 := q69.trans x85
     obtain ⟨_, _, _, _, _, _, _, _, rfl⟩ := hq83.form
     refine ⟨_, rfl, ?_⟩
     refine ⟨fun _ => q89, ?_⟩
     refine ef 10 (by kernel_rfl) rfl ?_
     refine xcall e136 (rby_ok [_, _, _, _] [_, _, _, _] _ _ _ _ _ _ _ _ ((hq83).qa szOne') (hq2.ext z88) (by omega) (by omega) (by omega) (TT.up _) hnz) rfl rfl ?_
     rintro _ W91 ⟨_, rfl, x92, hq90⟩
     have s93 := x92.sz
     have z94 := z87.trans x92
     have z95 := z88.trans x92
     have q96 := q89.trans x92
     obtain ⟨_, _, _, _, _, _, _, _, rfl⟩ := hq90.form
     refine ⟨_, rfl, ?_⟩
     refine ⟨fun _ => q96, ?_⟩
     refine ef 15 (by kernel_rfl) rfl ?_
     refine xcall e135 (rScale_ok [_, _, _, _] _ (L * 5 ^ k) TT _ _ _ (L * 5 ^ k) _ (SO (PR w.heap.size pvv) (.slice av n cv)) _ _ (hga2.ext z95) ((hq90).qa (sz_inv (hsz1.at h5p _ _) h5p)) (by omega) (by omega) (by omega) (by omega) (((hR2.ext z95)).up (by omega))) rfl rfl ?_
     rintro _ W97 ⟨_, _, _, rfl, x98, hsc⟩
     have s99 := x98.sz
     have z100 := z94.trans x98
     have z101 := z95.trans x98
     have q102 := q96.trans x98
     have hsc2 : GC _ _ _ _ _ (sclR (1 / mat R1 piv.length k) (rowat R1 piv.length)) := hsc
     refine ⟨_, rfl, ?_⟩
     refine ⟨fun _ => q102, ?_⟩
     refine tk 16 rfl (by kernel_rfl) q102 (pv (fun _ y103 => rix sl22 sz23 rfl rfl (by omega) (by omega) (((hM1.ext z68).ext y103).isS (i := 0) (by omega) (by omega)))) ?_
     refine ef 17 (by kernel_rfl) rfl ?_
     refine xstR (hR2.ext z101) rfl rfl rfl sz23 (by omega) (by omega) hsc2 ?_
     intro Ws3 hR3' bl3 ob3
     have zw3 := (z100).below (bl3.mono (by omega)); have szb3 := bl3.size
     have zk104 := Ext.refl Ws3; have sz105 := zw3.sz
     obtain ⟨R2, eR2⟩ : ∃ r, r = divR R1 piv.length k := ⟨_, rfl⟩
     have hR3 : RW w.heap.size (.slice av n cv) pvv R2 piv Ws3 := by rw [eR2]; exact hR3'
     have hl2r : R2.length = n := by rw [eR2, divR_len, hl1r]
     have hr2 : rect (colsN rss) R2 := by rw [eR2]; exact hr1.div (by omega)
     have hrE : ∀ i, rect (colsN rss) (elimS R2 piv.length k i) := fun i => hr2.elim (by omega)
     have hszE : ∀ i, szR (5 * (L * 5 ^ k)) (elimS R2 piv.length k i) := fun i => by rw [eR2]; exact elimS_sz hsz1 h5p (by omega) k i
     refine lastT (by kernel_rfl) ?_
     refine dn (by kernel_rfl) ?_
     refine V.seq ?_
     refine V.seq (V.reg rfl ?_)
     refine asi rfl ?_
     refine vnil ?_
     refine V.block ?_
     refine V.loopK (ι := Nat) [(4, .int _ _), (5, .slice av n cv), (6, pvv), (7, .int _ _), (8, .int _ _)] (fun i => [(10, .int .i64 (i : Int))]) (fun i W => i ≤ n ∧ RW w.heap.size (.slice av n cv) pvv (elimS R2 piv.length k i) piv W ∧ Ext w W) (fun i => n - i) (0) ⟨rfl, rfl, rfl, rfl, rfl, trivial⟩ ⟨rfl, trivial⟩ ⟨Nat.zero_le _, (by rw [elimS_zero]; exact hR3), zw3⟩ ?_
     intro i E107 W106 h108
     obtain ⟨hi, hRE, hzw2⟩ := h108
     have hME := (hRE.mc rfl).ma (hszE i)
     have hlE := elimS_len R2 piv.length k i
     have zk109 := Ext.refl W106; have sz110 := hzw2.sz
     refine V.seq ?_
     refine V.seq (V.reg rfl ?_)
     refine mvi rfl ?_
     refine vv (rmv (v := .slice av n cv) rfl) ?_
     refine vv (rlen sl22 rfl) ?_
     refine vlt rfl rfl ?_ ?_
     ·intro c111
      refine vnil ?_
      refine V.condT rfl ?_
      refine V.skip ?_
      refine V.seq ?_
      refine V.block ?_
      refine V.seq (V.reg rfl ?_)
      refine mvi rfl ?_
      refine mvi rfl ?_
      refine vne rfl rfl ?_ ?_
      ·intro c112
       have hrowE := (hrE i).row (i := ((i : Nat) : Int).toNat) (by omega)
       have hrowD := (hrE i).row (i := ((piv.length : Nat) : Int).toNat) (by omega)
       have hrwE : rowat (elimS R2 piv.length k i) i = rowat R2 i := by rw [elimS_row (by omega), if_neg (by omega)]
       have hrwD : rowat (elimS R2 piv.length k i) piv.length = rowat R2 piv.length := by rw [elimS_row (by omega)]; split <;> simp [elimT]
       obtain ⟨ra4, rk4, rc4, hc4, hg4⟩ := (hRE).g.row rfl (i := (i : Int)) (by omega) (by omega)
       have ce4 : C1 W106 _ _ := hc4; have hga4 := hg4.va ((hszE i).row _); have hgl4 := hg4.len
       obtain ⟨ra5, rk5, rc5, hc5, hg5⟩ := (hRE).g.row rfl (i := (piv.length : Int)) (by omega) (by omega)
       have ce5 : C1 W106 _ _ := hc5; have hga5 := hg5.va ((hszE i).row _); have hgl5 := hg5.len
       obtain ⟨en4, ea4, el4, ec4, em4, eb4, ek4, ed4, hq4, hcq4⟩ := hga4.el (i := (k : Int)) (by omega) (by omega)
       have cq4 : CE W106 _ _ := hcq4
       refine vnil ?_
       refine V.condT rfl ?_
       refine V.regD mixed rfl ?_
       intro W113 x114
       have s115 := x114.sz
       have z116 := hzw2.trans x114
       have z117 := x114
       have q118 := Ext.refl W113
       refine tk 0 rfl (by kernel_rfl) q118 (pv (fun _ y119 => rmv (v := .slice av n cv) rfl)) ?_
       refine tk 1 rfl (by kernel_rfl) q118 (pv (fun _ y120 => rmv (v := .int _ _) rfl)) ?_
       refine tk 2 rfl (by kernel_rfl) q118 (pv (fun _ y121 => rmv (v := .slice av n cv) rfl)) ?_
       refine tk 3 rfl (by kernel_rfl) q118 (pv (fun _ y122 => rmv (v := .int _ _) rfl)) ?_
       refine tk 4 rfl (by kernel_rfl) q118 (pv (fun _ y123 => rix sl22 sz23 rfl rfl (by omega) (by omega) (((hME.ext z117).ext y123).isS (i := 0) (by omega) (by omega)))) ?_
       refine tk 5 rfl (by kernel_rfl) q118 (pv (fun _ y124 => rld1 (v := .slice _ _ _) rfl sc23 ((ce4.ext z117).ext y124))) ?_
       refine tk 6 rfl (by kernel_rfl) q118 (pv (fun _ y125 => rmv (v := .int _ _) rfl)) ?_
       refine tk 7 rfl (by kernel_rfl) q118 (pv (fun _ y126 => rix sl23 sz48 rfl rfl (by omega) (by omega) (((hga4.ext z117).ext y126).isS (i := 0) (by omega) (by omega)))) ?_
       refine tk 8 rfl (by kernel_rfl) q118 (pv (fun _ y127 => rldn (l := [.bool _, .slice _ _ _, .bool _, .slice _ _ _]) rfl ag48 rfl ((cq4.ext z117).ext y127))) ?_
       refine tk 10 rfl (by kernel_rfl) q118 (pv (fun _ y128 => rmv (v := .slice av n cv) rfl)) ?_
       refine tk 11 rfl (by kernel_rfl) q118 (pv (fun _ y129 => rmv (v := .int _ _) rfl)) ?_
       refine tk 12 rfl (by kernel_rfl) q118 (pv (fun _ y130 => rix sl22 sz23 rfl rfl (by omega) (by omega) (((hME.ext z117).ext y130).isS (i := 0) (by omega) (by omega)))) ?_
       refine tk 13 rfl (by kernel_rfl) q118 (pv (fun _ y131 => rld1 (v := .slice _ _ _) rfl sc23 ((ce5.ext z117).ext y131))) ?_
       refine tk 14 rfl (by kernel_rfl) q118 (pv (fun _ y132 => rmv (v := .slice av n cv) rfl)) ?_
       refine tk 15 rfl (by kernel_rfl) q118 (pv (fun _ y133 => rmv (v := .int _ _) rfl)) ?_
       refine tk 16 rfl (by kernel_rfl) q118 (pv (fun _ y134 => rix sl22 sz23 rfl rfl (by omega) (by omega) (((hME.ext z117).ext y134).isS (i := 0) (by omega) (by omega)))) ?_
       refine tk 17 rfl (by kernel_rfl) q118 (pv (fun _ y135 => rld1 (v := .slice _ _ _) rfl sc23 ((ce4.ext z117).ext y135))) ?_
       refine ef 9 (by kernel_rfl) rfl ?_
       refine xcall e122 (rNegQ_ok [_, _, _, _] _ _ _ _ _ (hq4.ext z117) (by omega) (by omega) (TT.up _)) rfl rfl ?_
       rintro _ W137 ⟨_, rfl, x138, hq136⟩
       have s139 := x138.sz
       have z140 := z116.trans x138
       have z141 := z117.trans x138
       have q142 := q118.trans x138
       obtain ⟨_, _, _, _, _, _, _, _, rfl⟩ := hq136.form
       refine ⟨_, rfl, ?_⟩
       refine ⟨fun _ => q142, ?_⟩
       refine ef 18 (by kernel_rfl) rfl ?_
       refine xcall e137 (rComb_ok [_, _, _, _] _ (5 * (L * 5 ^ k)) TT _ _ _ _ _ _ (5 * (L * 5 ^ k)) (5 * (L * 5 ^ k)) _ _ (SO (PR w.heap.size pvv) (.slice av n cv)) _ _ _ (hga5.ext z141) (hga4.ext z141) ((hq136).qa (sz_neg ((hszE i).at (by omega) _ _))) (by omega) (by omega) (by omega) (by omega) (by omega) (by omega) (((hRE.ext z141)).up (by omega))) rfl rfl ?_
       rintro _ W143 ⟨_, _, _, rfl, x144, hax⟩
       have s145 := x144.sz
       have z146 := z140.trans x144
       have z147 := z141.trans x144
       have q148 := q142.trans x144
       have hax2 : GC _ _ _ _ _ (elimT R2 piv.length k i) := hax.cast (by rw [elimT_ax hr2 (by omega) (by omega) (by omega), ← hrwE, ← hrwD, mat, ← hrwE]; rfl)
       refine ⟨_, rfl, ?_⟩
       refine ⟨fun _ => q148, ?_⟩
       refine tk 19 rfl (by kernel_rfl) q148 (pv (fun _ y149 => rix sl22 sz23 rfl rfl (by omega) (by omega) (((hME.ext z117).ext y149).isS (i := 0) (by omega) (by omega)))) ?_
       refine ef 20 (by kernel_rfl) rfl ?_
       refine xstR (hRE.ext z147) rfl rfl rfl sz23 (by omega) (by omega) hax2 ?_
       intro Ws5 hR5 bl5 ob5
       have zw5 := (z146).below (bl5.mono (by omega)); have szb5 := bl5.size
       have zk150 := Ext.refl Ws5; have sz151 := zw5.sz
       refine lastT (by kernel_rfl) ?_
       refine dn (by kernel_rfl) ?_
       refine V.reg rfl ?_
       refine mvi rfl ?_
       refine vv (rbin (bAdd (wi (by omega))) rfl rfl) ?_
       refine asi rfl ?_
       refine vnil ?_
       refine ⟨rfl, i + 1, ⟨rfl, rfl, rfl, rfl, rfl, trivial⟩, ⟨rfl, trivial⟩, ⟨by omega, (by rw [elimS_succ (by omega)]; exact hR5), zw5⟩, ?_⟩
       show n - (i + 1) < n - i
       omega
      ·intro c112
       refine vnil ?_
       refine V.condF rfl ?_
       refine V.skip ?_
       refine V.reg rfl ?_
       refine mvi rfl ?_
       refine vv (rbin (bAdd (wi (by omega))) rfl rfl) ?_
       refine asi rfl ?_
       refine vnil ?_
       refine ⟨rfl, i + 1, ⟨rfl, rfl, rfl, rfl, rfl, trivial⟩, ⟨rfl, trivial⟩, ⟨by omega, (by rw [elimS_keep (by omega) (.inl (by omega))]; exact hRE), hzw2⟩, ?_⟩
       show n - (i + 1) < n - i
       omega
     ·intro c111
      refine vnil ?_
      refine V.condF rfl ?_
      refine V.exit ?_
      refine V.seq (V.reg rfl ?_)
      refine vv (rmv (v := pvv) rfl) ?_
      refine mvi rfl ?_
      refine vo ?_
      refine xbs (ps := [(0, .int _ _)]) (cs := [.int _ _]) sl73 zr3 sz3 rfl rfl rfl rfl rfl rfl ?_
      intro W152 x153 b154 nn155
      have s156 := x153.sz
      have z157 := hzw2.trans x153
      have z158 := x153
      refine vo ?_
      have hRa := (hRE.ext z158)
      refine xapp sl73 in3 hRa.p rfl rfl b154 (by simp only [kb]; omega) (by omega) (by decide) (by omega) ?_
      intro va Wa hO hg ho
      have hRp := hRa.push hO hg ho; have bla := grown_below hg (B := w.heap.size) (by omega) (fun b e => (hRa.p.low b e).1)
      have zwa := (z157).below (bla.mono (by omega)); have szba := bla.size
      have zk159 := Ext.refl Wa; have sz160 := zwa.sz
      refine vv (ras (v := va) rfl) ?_
      refine vnil ?_
      refine V.reg rfl ?_
      refine mvi rfl ?_
      refine vv (rbin (bAdd (wi (by omega))) rfl rfl) ?_
      refine asi rfl ?_
      refine vnil ?_
      refine V.reg rfl ?_
      refine mvi rfl ?_
      refine vv (rbin (bAdd (wi (by omega))) rfl rfl) ?_
      refine asi rfl ?_
      refine vnil ?_
      have eC : colR R piv.length k p = elimS R2 piv.length k i := by rw [show i = R.length by omega, eR2, eR1]; rfl
      refine ⟨rfl, (k + 1, piv.length + 1, _), ⟨rfl, rfl, trivial⟩, ⟨rfl, rfl, rfl, trivial⟩, ⟨by omega, (by rw [redS, hs, colS_of hP hid]; show RW _ _ _ (colR R piv.length k p) (piv ++ [(k : Int)]) _; rw [eC]; exact hRp), (by rw [redS, hs, colS_of hP hid]; simp), zwa⟩, ?_⟩
      show colsN rss - (k + 1) < colsN rss - k
      omega
  ·intro c20
   refine mvb rfl ?_
   refine vgn (b := false) rfl rfl ?_
   refine vgn (b := false) rfl rfl ?_
   refine vgn (b := false) rfl rfl ?_
   refine vgn (b := false) rfl rfl ?_
   refine vgn (b := false) rfl rfl ?_
   refine vgn (b := false) rfl rfl ?_
   refine vgn (b := false) rfl rfl ?_
   refine vgn (b := false) rfl rfl ?_
   refine vgn (b := false) rfl rfl ?_
   refine vv (rpk (v := .bool false) rfl rfl) ?_
   refine vnil ?_
   refine V.condF rfl ?_
   refine V.exit ?_
   refine V.seq ?_
   refine V.seq (V.reg rfl ?_)
   refine mvi rfl ?_
   refine vv (rmv (v := .slice av n cv) rfl) ?_
   refine vv (rlen sl22 rfl) ?_
   refine veq rfl rfl ?_ ?_
   ·intro c161
    refine vnil ?_
    refine V.condT rfl ?_
    refine V.exit ?_
    refine V.reg rfl ?_
    refine mvi rfl ?_
    refine vv (rbin (bAdd (wi (by omega))) rfl rfl) ?_
    refine asi rfl ?_
    refine vnil ?_
    have hnp : IsP R k piv.length R.length := ⟨by omega, Nat.le_refl _, fun j h1 h2 => hpz j h1 (by omega), fun h => by omega⟩
    refine ⟨rfl, (k + 1, piv.length, _), ⟨rfl, rfl, trivial⟩, ⟨rfl, rfl, rfl, trivial⟩, ⟨by omega, (by rw [redS, hs, colS_no hnp]; exact (hRW.ext z19)), (by rw [redS, hs, colS_no hnp]), z18⟩, ?_⟩
    show colsN rss - (k + 1) < colsN rss - k
    omega
   ·intro c161
    omega
 ·intro c12
  obtain ⟨ap, cp, rfl⟩ := hRW.p.form
  have ek : k = colsN rss := by omega
  rw [ek] at hs
  refine vnil ?_
  refine V.condF rfl ?_
  refine V.exit ?_
  refine V.seq (V.reg rfl ?_)
  refine vv (rmv (v := .slice av n cv) rfl) ?_
  refine mvi rfl ?_
  refine vv (rsl1 (m := piv.length) sl22 sz23 rfl rfl rfl (by omega)) ?_
  refine vv (rmv (v := .slice ap piv.length cp) rfl) ?_
  refine vv (ras (v := .slice av piv.length cv) rfl) ?_
  refine vv (ras (v := .slice ap piv.length cp) rfl) ?_
  refine vnil ?_
  refine V.ret ?_
  refine ⟨[.slice av piv.length cv, .slice ap piv.length cp], ⟨rfl, rfl, trivial⟩, ?_⟩
  rw [← hrows, hs]
  dsimp only
  obtain ⟨hm9, hp9⟩ := (hRW).fin (S := S) (fun b hb _ => hu b (by omega))
  exact ⟨av, cv, ap, cp, rfl, hzw, hm9.take (by omega), hp9⟩
end Go.Proofs.YtknbjfefeeojlaaGreat
/- Package pylonref05: Null. -/
namespace Go.Proofs.YtknbjfefeeojlaaGreat
open Go.RowKit
attribute [local irreducible] RV VH V OpF Calls
theorem MC.ofGO {S S' : Nat → Prop} {B n c : Nat} {W : World} {e : TypeId} {a : Option Addr} {rs : List Rat} (h : GO 4 QC S B W e (.slice a n c) rs) (hS : ∀ b, b < W.heap.size → S b → S' b) (hb : ∀ b, (Value.slice a n c).ownBlock = some b → S' b) : GC S' W a n c rs := h.finO okQC hS hb

set_option maxHeartbeats 2000000 in
theorem rNull_ok (a1 : Option Addr) (n c L : Nat) (ρs : List (List RawQ)) (rss : List (List Rat)) (S S1 : Nat → Prop) (w : World) (hm : MX S1 w a1 n c ρs) (hx : MA L S1 w a1 n c rss) (hcg : colsG ρs = colsN rss) (hl1 : 1 ≤ L) (hn : n ≤ 1024) (hc : colsN rss ≤ 1024) (hL5 : 15 * (L * 5 ^ colsN rss) + 2 ≤ LX / 128) (hu : Up S w) :
    Calls Tryz.prog 65 #[.slice a1 n c] w (fun e w' => ∃ ra rk rc, e = .returned (.slice ra rk rc) ∧ Ext w w' ∧ MC S w' ra rk rc (nullS rss n)) := by
 have z0 := Ext.refl w; have hLX : LX = 17592186044416 := rfl; have hLY : LY = 8796093022208 := rfl
 have hLV : LV = 1099511627776 := rfl
 have h51 : L * 1 ≤ L * 5 ^ colsN rss := Nat.mul_le_mul_left _ (Nat.pow_pos (by omega))
 refine enter (args := [.slice a1 n c]) Tryz.func65 rfl rfl (Nat.le_of_ble_eq_true rfl) ?_
 refine V.seq (V.reg rfl ?_)
 refine ass rfl ?_
 refine vnil ?_
 refine V.seq (V.reg rfl ?_)
 refine mvs rfl ?_
 refine vo ?_
 refine xcall e61 (rReduce_ok _ _ _ L _ rss TT S1 _ hm hx hcg hl1 hn hc hL5 (TT.up _)) rfl rfl ?_
 rintro _ W1 ⟨ar, cr, ap, cp, rfl, x2, hrm, hrp⟩
 have s3 := x2.sz
 have z4 := x2
 obtain ⟨rows, hrows⟩ : ∃ r, r = gridm (matI rss) n (colsN rss) := ⟨_, rfl⟩
 rw [← hrows] at hrm hrp ⊢
 have hrect : rect (colsN rss) rows := by rw [hrows]; exact gridm_rect _ _ _
 have hszr : szR L rows := by rw [hrows]; exact gridm_sz (fun i k => szMI (hx.ext z4) hl1 _ _)
 have hall := redS_all hrect hszr hl1 (colsN rss); have hpv := redS_pv rows (colsN rss)
 obtain ⟨s, hs⟩ : ∃ s, s = redS rows (colsN rss) := ⟨_, rfl⟩
 rw [← hs] at hrm hrp hall hpv ⊢
 obtain ⟨R, piv, δ⟩ := s
 simp only at hrm hrp hall hpv ⊢
 have hra := hrm.ma (L := L * 5 ^ colsN rss) (fun r hr => hall.2.2.2 r (List.mem_of_mem_take hr))
 have hpc := hrp.cap; have hpm := hrp.max; have hrl := hall.1; have hpl := hall.2.1
 have hrn : rows.length = n := by rw [hrows, len_gridm]
 have hRt : rect (colsN rss) (R.take piv.length) := fun r hr => hall.2.2.1 r (List.mem_of_mem_take hr)
 have htl : (R.take piv.length).length = piv.length := by rw [List.length_take]; omega
 refine ⟨_, rfl, ?_⟩
 refine mvt rfl ?_
 refine vv (rext (v := .slice _ _ _) rfl rfl) ?_
 refine vv (rext (v := .slice _ _ _) rfl rfl) ?_
 refine ass rfl ?_
 refine ass rfl ?_
 refine vnil ?_
 refine V.seq (V.reg rfl ?_)
 refine mvs rfl ?_
 refine vo ?_
 refine xcall e36 (rCols_ok _ _ _ _ _ _ (hm.ext z4)) rfl rfl ?_
 rintro _ _ ⟨rfl, rfl⟩
 rw [hcg]
 refine ⟨_, rfl, ?_⟩
 refine asi rfl ?_
 refine vnil ?_
 refine V.seq (V.reg rfl ?_)
 refine ass rfl ?_
 refine vnil ?_
 refine V.seq ?_
 refine V.seq (V.reg rfl ?_)
 refine asi rfl ?_
 refine vnil ?_
 refine V.block ?_
 refine V.loopK (ι := Nat × Value) [(3, .slice _ _ _), (4, .slice _ _ _), (5, .int _ _)] (fun ⟨k, v⟩ => [(7, .int .i64 (k : Int)), (6, v)]) (fun ⟨k, v⟩ W => Ext W1 W ∧ k ≤ colsN rss ∧ GO 1 (RowOf GC) S W1.heap.size W 23 v (nullL R piv (colsN rss) k)) (fun ⟨k, v⟩ => colsN rss - k) ((0, _)) ⟨rfl, rfl, rfl, trivial⟩ ⟨rfl, rfl, trivial⟩ ⟨Ext.refl _, Nat.zero_le _, GO.nil _ _⟩ ?_
 intro i8 E9 W7 h10
 obtain ⟨k, v⟩ := i8
 simp only at h10
 show V _ _ _ _ _ _ (ups (ups _ _) [(7, .int .i64 (k : Int)), (6, v)]) _
 obtain ⟨x11, hk, hO⟩ := h10
 have s12 := x11.sz
 have z13 := z4.trans x11
 have z14 := x11
 refine V.seq ?_
 refine V.seq (V.reg rfl ?_)
 refine mvi rfl ?_
 refine mvi rfl ?_
 refine vlt rfl rfl ?_ ?_
 ·intro c15
  refine vnil ?_
  refine V.condT rfl ?_
  refine V.skip ?_
  refine V.seq ?_
  refine V.block ?_
  refine V.seq ?_
  refine V.seq (V.reg rfl ?_)
  refine mvs rfl ?_
  refine mvi rfl ?_
  refine vo ?_
  refine xcall e129 (rIn_ok _ _ _ _ ((k : Int)) _ _ (hrp.ext z14)) rfl rfl ?_
  rintro _ _ ⟨bbb, rfl, rfl, hbbb⟩
  refine ⟨_, rfl, ?_⟩
  cases bbb
  ·have hmb : ¬ ((k : Int)) ∈ piv := fun h => by have := hbbb.2 h; cases this
   refine vnil ?_
   refine V.condF rfl ?_
   refine V.skip ?_
   refine V.seq (V.reg rfl ?_)
   refine mvi rfl ?_
   refine mvi rfl ?_
   refine vo ?_
   have hOX := hO
   have hBX := Nat.le_refl W7.heap.size
   refine xcall e119 (rUnit3_own (colsN rss : Int) (k : Int) (colsN rss) (fun b => W7.heap.size ≤ b) _ (by omega) (fun b hb => hb)) rfl rfl ?_
   rintro _ W17 ⟨vx, rfl, x18, hNx⟩
   have s19 := x18.sz
   have z22 := x18
   replace hO := hO.ext okRowC x18
   obtain ⟨ax, cx, ex⟩ := hNx.form; rw [unitv_len] at ex; subst ex
   have hN0 := hNx
   refine ⟨_, rfl, ?_⟩
   refine vv (ras (v := .slice ax (colsN rss) cx) rfl) ?_
   refine vnil ?_
   refine V.seq ?_
   refine V.seq (V.reg rfl ?_)
   refine asi rfl ?_
   refine vnil ?_
   refine V.block ?_
   refine V.loopK (ι := Nat) [(3, .slice _ _ _), (4, .slice _ _ _), (5, .int _ _), (6, v), (7, .int _ _), (8, .slice ax (colsN rss) cx)] (fun i => [(9, .int .i64 (i : Int))]) (fun i W => Ext W7 W ∧ i ≤ piv.length ∧ GO 4 QC (fun b => W7.heap.size ≤ b) W7.heap.size W 48 (.slice ax (colsN rss) cx) (nvec R piv (colsN rss) k i)) (fun i => piv.length - i) (0) ⟨rfl, rfl, rfl, rfl, rfl, rfl, trivial⟩ ⟨rfl, trivial⟩ ⟨z22, Nat.zero_le _, hN0⟩ ?_
   intro i E24 W23 h25
   obtain ⟨x26, hi, hNi⟩ := h25
   have s27 := x26.sz
   have z29 := z14.trans x26
   have z30 := x26
   have hNi0 := hNi
   refine V.seq ?_
   refine V.seq (V.reg rfl ?_)
   refine mvi rfl ?_
   refine mvs rfl ?_
   refine vv (rlen sl22 rfl) ?_
   refine vlt rfl rfl ?_ ?_
   ·intro c31
    have hpi := hpv i (by omega)
    have hrw := hRt.row (i := ((i : Nat) : Int).toNat) (by omega)
    obtain ⟨ra0, rk0, rc0, hc0, hg0⟩ := (hra.ext z29).el (i := (i : Int)) (by omega) (by omega)
    have ce0 : C1 W23 _ _ := hc0; have hgl0 := hg0.len
    obtain ⟨en0, ea0, el0, ec0, em0, eb0, ek0, ed0, hq0, hcq0⟩ := hg0.el (i := (k : Int)) (by omega) (by omega)
    have cq0 : CE W23 _ _ := hcq0
    have hxs : ax.isSome = true := by obtain ⟨qs9, hr9, _⟩ := GO.rd okQC hNi; exact hr9.isS (i := 0) (by omega) (by omega)
    refine vnil ?_
    refine V.condT rfl ?_
    refine V.skip ?_
    refine V.seq ?_
    refine V.block ?_
    refine V.regD mixed rfl ?_
    intro W32 x33
    have s34 := x33.sz
    have z36 := z29.trans x33
    have z37 := z30.trans x33
    have q38 := Ext.refl W32
    refine tk 0 rfl (by kernel_rfl) q38 (pv (fun _ y39 => rmv (v := .slice ax (colsN rss) cx) rfl)) ?_
    refine tk 1 rfl (by kernel_rfl) q38 (pv (fun _ y40 => rmv (v := .slice _ _ _) rfl)) ?_
    refine tk 2 rfl (by kernel_rfl) q38 (pv (fun _ y41 => rmv (v := .int _ _) rfl)) ?_
    refine tk 3 rfl (by kernel_rfl) q38 (pv (fun _ y42 => rixn ((hrp.ext z36).ext y42) sl73 sz3 rfl rfl (by omega) (by omega))) ?_
    refine tk 4 rfl (by kernel_rfl) q38 (pv (fun _ y43 => rldN ((hrp.ext z36).ext y43) rfl sc3 (by omega) (by omega))) ?_
    refine tk 5 rfl (by kernel_rfl) q38 (pv (fun _ y44 => rmv (v := .slice _ _ _) rfl)) ?_
    refine tk 6 rfl (by kernel_rfl) q38 (pv (fun _ y45 => rmv (v := .int _ _) rfl)) ?_
    refine tk 7 rfl (by kernel_rfl) q38 (pv (fun _ y46 => rix sl22 sz23 rfl rfl (by omega) (by omega) (((hra.ext z36).ext y46).isS (i := 0) (by omega) (by omega)))) ?_
    refine tk 8 rfl (by kernel_rfl) q38 (pv (fun _ y47 => rld1 (v := .slice _ _ _) rfl sc23 ((ce0.ext x33).ext y47))) ?_
    refine tk 9 rfl (by kernel_rfl) q38 (pv (fun _ y48 => rmv (v := .int _ _) rfl)) ?_
    refine tk 10 rfl (by kernel_rfl) q38 (pv (fun _ y49 => rix sl23 sz48 rfl rfl (by omega) (by omega) (((hg0.ext x33).ext y49).isS (i := 0) (by omega) (by omega)))) ?_
    refine tk 11 rfl (by kernel_rfl) q38 (pv (fun _ y50 => rldn (l := [.bool _, .slice _ _ _, .bool _, .slice _ _ _]) rfl ag48 rfl ((cq0.ext x33).ext y50))) ?_
    refine ef 12 (by kernel_rfl) rfl ?_
    refine xcall e122 (rNegQ_ok [_, _, _, _] _ (L * 5 ^ colsN rss) (SO (fun b => W7.heap.size ≤ b) (.slice ax (colsN rss) cx)) _ _ (hq0.ext x33) (by omega) (by omega) ((hNi.ext okQC x33).up (w := W7) (fun b hb => hb) (by omega))) rfl rfl ?_
    rintro _ W52 ⟨_, rfl, x53, hq51⟩
    have s54 := x53.sz
    have z57 := z37.trans x53
    have q58 := q38.trans x53
    obtain ⟨_, _, _, _, _, _, _, _, rfl⟩ := hq51.form
    refine ⟨_, rfl, ?_⟩
    refine ⟨fun _ => q58, ?_⟩
    refine tk 13 rfl (by kernel_rfl) q58 (pv (fun _ y59 => rix sl23 sz48 rfl rfl (by omega) (by omega) hxs)) ?_
    refine ef 14 (by kernel_rfl) rfl ?_
    refine xstG (q := [.bool _, .slice _ _ _, .bool _, .slice _ _ _]) okQC (hNi.ext okQC (x33.trans x53)) rfl rfl rfl rfl sz48 rfl rfl (by omega) (by omega) ((hq51).cast (r' := -(mat R i k)) (by rw [← mat_take (rows := R) (show i < piv.length by omega) k]; rfl)) ?_
    intro bx Wx hbx yx hGx
    have hlx := hGx.low _ hbx; have sqx := yx.size
    have z62 := z57.below (yx.below (by omega))
    refine lastT (by kernel_rfl) ?_
    refine dn (by kernel_rfl) ?_
    refine V.reg rfl ?_
    refine mvi rfl ?_
    refine vv (rbin (bAdd (wi (by omega))) rfl rfl) ?_
    refine asi rfl ?_
    refine vnil ?_
    refine ⟨rfl, i + 1, ⟨rfl, rfl, rfl, rfl, rfl, rfl, trivial⟩, ⟨rfl, trivial⟩, ⟨z62, by omega, hGx⟩, ?_⟩
    show piv.length - (i + 1) < piv.length - i
    omega
   ·intro c31
    have ei : i = piv.length := by omega
    subst ei
    have hO9 := hOX.ext okRowC z30
    have hN9 := hNi
    refine vnil ?_
    refine V.condF rfl ?_
    refine V.exit ?_
    refine V.reg rfl ?_
    refine vv (rmv (v := v) rfl) ?_
    refine vv (rmv (v := .slice ax (colsN rss) cx) rfl) ?_
    refine vo ?_
    refine xbs (ps := [(0, .slice ax (colsN rss) cx)]) (cs := [.slice ax (colsN rss) cx]) sl22 zr23 sz23 rfl rfl rfl rfl rfl rfl ?_
    intro W63 x64 b65 nn66
    have s67 := x64.sz
    have z69 := z29.trans x64
    replace hO9 := hO9.ext okRowC x64
    refine vo ?_
    refine xappG okRowC sl22 in23 rfl rfl hO9 rfl rfl b65 rfl rfl ((⟨_, _, _, rfl, MC.ofGO (hN9.ext okQC x64) (fun b hb hs => ⟨hu b (by omega), fun e => by have := (hOX.low _ e).2; omega⟩) (fun b e => ⟨hu b (by have := (hN9.low b e).1; omega), fun e2 => by have := (hN9.low b e).1; have := (hOX.low _ e2).2; omega⟩)⟩ : RowOf GC _ _ _ _)) (by have := nullL_len R piv (colsN rss) k; omega) (by decide) (by omega) ?_
    intro v71 W72 hO73 hg74
    have y75 := hg74.below; have s76 := y75.size
    have z78 := z69.below (y75.mono (by omega))
    refine vv (ras (v := v71) rfl) ?_
    refine vnil ?_
    refine V.reg rfl ?_
    refine mvi rfl ?_
    refine vv (rbin (bAdd (wi (by omega))) rfl rfl) ?_
    refine asi rfl ?_
    refine vnil ?_
    refine ⟨rfl, (k + 1, _), ⟨rfl, rfl, rfl, trivial⟩, ⟨rfl, rfl, trivial⟩, ⟨z78, by omega, (by rw [show nullL R piv (colsN rss) (k + 1) = nullL R piv (colsN rss) k ++ [nvec R piv (colsN rss) k piv.length] from if_neg hmb]; exact hO73)⟩, ?_⟩
    show colsN rss - (k + 1) < colsN rss - k
    omega
  ·have hmb : ((k : Int)) ∈ piv := hbbb.1 rfl
   refine vnil ?_
   refine V.condT rfl ?_
   refine V.exit ?_
   refine V.reg rfl ?_
   refine mvi rfl ?_
   refine vv (rbin (bAdd (wi (by omega))) rfl rfl) ?_
   refine asi rfl ?_
   refine vnil ?_
   refine ⟨rfl, (k + 1, _), ⟨rfl, rfl, rfl, trivial⟩, ⟨rfl, rfl, trivial⟩, ⟨z14, by omega, (by rw [show nullL R piv (colsN rss) (k + 1) = nullL R piv (colsN rss) k from if_pos hmb]; exact hO)⟩, ?_⟩
   show colsN rss - (k + 1) < colsN rss - k
   omega
 ·intro c15
  refine vnil ?_
  refine V.condF rfl ?_
  refine V.exit ?_
  refine V.seq (V.reg rfl ?_)
  refine vv (rmv (v := v) rfl) ?_
  refine vv (ras (v := v) rfl) ?_
  refine vnil ?_
  refine V.ret ?_
  refine ⟨[v], ⟨rfl, trivial⟩, ?_⟩
  obtain ⟨a', c', rfl⟩ := hO.form
  have hfin := hO.fin okRowC (fun b hb _ => hu b (by omega))
  have ek : k = colsN rss := by omega
  refine ⟨_, _, _, rfl, z13, ?_⟩
  unfold nullS; rw [← hrows, ← hs]; rw [ek] at hfin ⊢; exact hfin
end Go.Proofs.YtknbjfefeeojlaaGreat
/- Package pylonlaw05: SolveReduceMatches. -/
namespace Go.Proofs.YtknbjfefeeojlaaGreat
open Go.RowKit
attribute [local irreducible] RV VH V OpF Calls
theorem mIs_raw5 {S1 S2 : Nat → Prop} {a1 a2 : Option Addr} {n c m d : Nat} {ρs σs : List (List RawQ)} (w : World) (hx : MX S1 w a1 n c ρs) (hy : MX S2 w a2 m d σs) (e : ρs = σs) : Calls Tryz.prog 42 #[.slice a1 n c, .slice a2 m d] w fun e w' => e = .returned (.bool true) ∧ Ext w w' := by
  refine (mIs_ok _ _ _ _ _ _ _ _ _ _ w hx hy).mono ?_
  rintro _ _ ⟨q, h1, h2, h3⟩
  exact ⟨by rw [h1, h3.2 e], h2⟩
section
variable {L : Nat} {S S1 S2 : Nat → Prop} {a1 : Option Addr} {n c : Nat} {ρs : List (List RawQ)} {rss : List (List Rat)}
theorem pRReduce (w : World) (hm : MX S1 w a1 n c ρs) (hx : MA L S1 w a1 n c rss) (hcg : colsG ρs = colsN rss) (hl1 : 1 ≤ L) (hn : n ≤ 1024) (hc : colsN rss ≤ 1024) (hL5 : 15 * (L * 5 ^ colsN rss) + 2 ≤ LX / 128) (hu : Up S w) :
    Calls Tryz.prog 61 #[.slice a1 n c] w fun e w' => ∃ ar cr ap cp np, e = .returned (.tuple #[.slice ar np cr, .slice ap np cp]) ∧ Ext w w' ∧ MC S w' ar np cr (redR rss) ∧ RN .i64 S w' ap np cp (pivs rss) := by
  have hl := hx.len
  refine (rReduce_ok a1 n c L ρs rss S S1 w hm hx hcg hl1 hn hc hL5 hu).mono ?_
  subst hl
  rintro _ w' ⟨ar, cr, ap, cp, e, x, h1, h2⟩
  exact ⟨ar, cr, ap, cp, _, e, x, h1, h2⟩
theorem pRNull (w : World) (hm : MX S1 w a1 n c ρs) (hx : MA L S1 w a1 n c rss) (hcg : colsG ρs = colsN rss) (hl1 : 1 ≤ L) (hn : n ≤ 1024) (hc : colsN rss ≤ 1024) (hL5 : 15 * (L * 5 ^ colsN rss) + 2 ≤ LX / 128) (hu : Up S w) :
    Calls Tryz.prog 65 #[.slice a1 n c] w fun e w' => ∃ ar nr cr, e = .returned (.slice ar nr cr) ∧ Ext w w' ∧ MC S w' ar nr cr (nullS rss rss.length) := by
  have hl := hx.len
  subst hl
  exact rNull_ok a1 _ c L ρs rss S S1 w hm hx hcg hl1 hn hc hL5 hu
theorem pNull (w : World) (hx : MA L S1 w a1 n c rss) (hl1 : 1 ≤ L) (hn : n ≤ 1024) (hc : colsN rss ≤ 1024) (hL5 : 15 * (L * 5 ^ colsN rss) + 2 < LY) (hu : Up S w) :
    Calls Tryz.prog 64 #[.slice a1 n c] w fun e w' => ∃ ar nr cr, e = .returned (.slice ar nr cr) ∧ Ext w w' ∧ MC S w' ar nr cr (nullS rss rss.length) := by
  have hl := hx.len
  subst hl
  exact sNull_ok a1 _ c L rss S S1 w hx hl1 hn hc hL5 hu
end
theorem pow_roomX {L k : Nat} (h : k ≤ 9) (hL : L ≤ 1000) : 15 * (L * 5 ^ k) + 2 ≤ LX / 128 := by
  have h1 := Nat.mul_le_mul hL (pow5_le h)
  have h2 : LX = 17592186044416 := rfl
  have h3 : (5 : Nat) ^ 9 = 1953125 := by decide
  omega

set_option maxHeartbeats 2000000 in
theorem solveRed_ok (a1 : Option Addr) (n c : Nat) (A : List (List RawQ)) (w : World) (h0 : MX TT w a1 n c A) :
    Calls Tryz.prog 7 #[.slice a1 n c] w (fun e w' => e = .returned (.bool true) ∧ Ext w w') := by
 have z0 := Ext.refl w; have hLX : LX = 17592186044416 := rfl; have hLY : LY = 8796093022208 := rfl
 have hLV : LV = 1099511627776 := rfl
 have hx := h0
 refine enter (args := [.slice a1 n c]) Tryz.func7 rfl rfl (Nat.le_of_ble_eq_true rfl) ?_
 refine V.seq (V.reg rfl ?_)
 refine asb rfl ?_
 refine vnil ?_
 refine V.seq ?_
 refine V.seq (V.reg rfl ?_)
 refine mvs rfl ?_
 refine vo ?_
 have hm1 : MX TT w none 0 0 [] := ⟨[], RS.nil _ _ _ _ _ (by omega), trivial⟩
 refine xcall e49 (long5_ok _ _ _ _ _ _ A [] _ _ hx hm1) rfl rfl ?_
 rintro _ Wb1 ⟨bb1, rfl, xb1, hb1⟩
 refine ⟨_, rfl, ?_⟩
 cases bb1
 ·skip
  have s2 := xb1.sz
  have z3 := xb1
  refine vnil ?_
  refine V.condF rfl ?_
  refine V.skip ?_
  refine V.seq (V.reg rfl ?_)
  have hA := (hb1 rfl).1.1; have h6A := (hb1 rfl).1.2
  obtain ⟨rss, hrss⟩ : ∃ rss, rss = A.map (·.map qval) := ⟨_, rfl⟩
  have marss : MA 6 TT _ a1 n c rss := hrss ▸ ((hx.ext z3)).ma (fun r hr => (hA.2.2 r hr).2)
  have hcrss : colsN rss ≤ 8 := by rw [hrss, colsN_raw]; exact hA.2.1
  have hlrss := marss.len
  have hnrss : n ≤ 8 := by have := hA.1; rw [hrss, List.length_map] at hlrss; omega
  have hszrss : szR 6 rss := marss.rowsz (by omega)
  have hrrss : ∀ r ∈ rss, r.length ≤ 20 := fun r hr => by have := cols_ge r hr; omega
  have hc6rss : colsN rss ≤ 6 := by rw [hrss, colsN_raw]; exact h6A.2
  have hn6rss : n ≤ 6 := by have := h6A.1; have := hlrss; rw [hrss, List.length_map] at this; omega
  have hcg : colsG A = colsN rss := by rw [hrss, colsN_raw]
  refine mvs rfl ?_
  refine vo ?_
  refine xcall e34 (own4_ok _ _ _ _ TT _ _ (hx.ext z3) (fun r hr ρ hρ => ⟨by have := ((hA.2.2 r hr).2 ρ hρ).1; omega, by have := ((hA.2.2 r hr).2 ρ hρ).2; omega⟩) (by omega) (fun r hr => by have := (hA.2.2 r hr).1; omega) (TT.up _)) rfl rfl ?_
  rintro _ W5 ⟨_, no, _, rfl, x6, hmx⟩
  have s7 := x6.sz
  have z8 := z3.trans x6
  have z9 := x6
  have hmo : MA 6 TT _ _ _ _ rss := hrss ▸ hmx.ma (fun r hr => (hA.2.2 r hr).2)
  obtain rfl : no = n := by have h1 := hmx.len; have h2 := ((hx.ext z8)).len; omega
  refine ⟨_, rfl, ?_⟩
  refine ass rfl ?_
  refine vnil ?_
  refine V.seq (V.reg rfl ?_)
  refine mvs rfl ?_
  refine vo ?_
  refine xcall e60 (pReduce _ hmo (by omega) (by omega) (by omega) (pow_room (by omega) (by omega)) (TT.up _)) rfl rfl ?_
  rintro _ W10 ⟨_, _, _, _, np1, rfl, x11, hrm1, hrp1⟩
  have s12 := x11.sz
  have z13 := z8.trans x11
  have z14 := z9.trans x11
  have hpl1 := hrp1.len
  refine ⟨_, rfl, ?_⟩
  refine mvt rfl ?_
  refine vv (rext (v := .slice _ _ _) rfl rfl) ?_
  refine vv (rext (v := .slice _ _ _) rfl rfl) ?_
  refine ass rfl ?_
  refine ass rfl ?_
  refine vnil ?_
  refine V.seq (V.reg rfl ?_)
  refine mvs rfl ?_
  refine vo ?_
  refine xcall e61 (pRReduce _ (hx.ext z13) (marss.ext z14) hcg (by omega) (by omega) (by omega) (pow_roomX (by omega) (by omega)) (TT.up _)) rfl rfl ?_
  rintro _ W15 ⟨_, _, _, _, np2, rfl, x16, hrm2, hrp2⟩
  have s17 := x16.sz
  have z18 := z13.trans x16
  have z19 := z14.trans x16
  have hpl2 := hrp2.len
  refine ⟨_, rfl, ?_⟩
  refine mvt rfl ?_
  refine vv (rext (v := .slice _ _ _) rfl rfl) ?_
  refine vv (rext (v := .slice _ _ _) rfl rfl) ?_
  refine ass rfl ?_
  refine ass rfl ?_
  refine vnil ?_
  refine V.seq (V.reg rfl ?_)
  refine mvs rfl ?_
  refine mvs rfl ?_
  refine vo ?_
  refine xcall e42 (mIs_true _ (hrm1.ext x16) hrm2 rfl) rfl rfl ?_
  rintro _ W20 ⟨rfl, x21⟩
  have s22 := x21.sz
  have z23 := z18.trans x21
  have z24 := z19.trans x21
  refine ⟨_, rfl, ?_⟩
  refine mvb rfl ?_
  refine vg rfl ?_
  refine mvs rfl ?_
  refine vg rfl ?_
  refine mvs rfl ?_
  refine vg rfl ?_
  refine vo ?_
  refine xcall e62 (rInts5_true _ (hrp1.ext (x16.trans x21)) (hrp2.ext x21) rfl) rfl rfl ?_
  rintro _ W25 ⟨rfl, x26⟩
  have s27 := x26.sz
  have z28 := z23.trans x26
  have z29 := z24.trans x26
  refine ⟨_, rfl, ?_⟩
  refine vv (rpk (v := .bool true) rfl rfl) ?_
  refine mvb rfl ?_
  refine vg rfl ?_
  refine mvs rfl ?_
  refine vg rfl ?_
  refine vo ?_
  refine xcall e63 (pRank _ (hmo.ext (((x11.trans x16).trans x21).trans x26)) (by omega) (by omega) (by omega) (pow_room (by omega) (by omega))) rfl rfl ?_
  rintro _ W30 ⟨rfl, x31⟩
  have s32 := x31.sz
  have z33 := z28.trans x31
  have z34 := z29.trans x31
  refine ⟨_, rfl, ?_⟩
  refine vg rfl ?_
  refine mvs rfl ?_
  refine vg rfl ?_
  refine vv (rlen sl73 rfl) ?_
  refine vg rfl ?_
  refine veq rfl rfl ?_ ?_
  ·intro c35
   refine vv (rpk (v := .bool true) rfl rfl) ?_
   refine mvb rfl ?_
   refine vg rfl ?_
   refine mvs rfl ?_
   refine vg rfl ?_
   refine vo ?_
   refine xcall e64 (pNull _ (hmo.ext ((((x11.trans x16).trans x21).trans x26).trans x31)) (by omega) (by omega) (by omega) (pow_room (by omega) (by omega)) (TT.up _)) rfl rfl ?_
   rintro _ W36 ⟨_, _, _, rfl, x37, hn1⟩
   have s38 := x37.sz
   have z39 := z33.trans x37
   have z40 := z34.trans x37
   refine ⟨_, rfl, ?_⟩
   refine vg rfl ?_
   refine mvs rfl ?_
   refine vg rfl ?_
   refine vo ?_
   refine xcall e65 (pRNull _ (hx.ext z39) (marss.ext z40) hcg (by omega) (by omega) (by omega) (pow_roomX (by omega) (by omega)) (TT.up _)) rfl rfl ?_
   rintro _ W41 ⟨_, _, _, rfl, x42, hn2⟩
   have s43 := x42.sz
   have z44 := z39.trans x42
   refine ⟨_, rfl, ?_⟩
   refine vg rfl ?_
   refine vo ?_
   refine xcall e42 (mIs_true _ (hn1.ext x42) hn2 rfl) rfl rfl ?_
   rintro _ W46 ⟨rfl, x47⟩
   have s48 := x47.sz
   have z49 := z44.trans x47
   refine ⟨_, rfl, ?_⟩
   refine vv (rpk (v := .bool true) rfl rfl) ?_
   refine mvb rfl ?_
   refine vg rfl ?_
   refine mvs rfl ?_
   refine vg rfl ?_
   refine mvs rfl ?_
   refine vg rfl ?_
   refine vo ?_
   refine xcall e42 (mIs_raw5 _ (hmx.ext (((((((x11.trans x16).trans x21).trans x26).trans x31).trans x37).trans x42).trans x47)) (hx.ext z49) rfl) rfl rfl ?_
   rintro _ W51 ⟨rfl, x52⟩
   have s53 := x52.sz
   have z54 := z49.trans x52
   refine ⟨_, rfl, ?_⟩
   refine vv (rpk (v := .bool true) rfl rfl) ?_
   refine mvb rfl ?_
   refine vg rfl ?_
   refine vo ?_
   refine xcall e50 (law5_ok _) rfl rfl ?_
   rintro _ W56 ⟨rfl, x57⟩
   have s58 := x57.sz
   have z59 := z54.trans x57
   refine ⟨_, rfl, ?_⟩
   refine vv (rpk (v := .bool true) rfl rfl) ?_
   refine asb rfl ?_
   refine vnil ?_
   refine V.ret ?_
   refine ⟨[.bool true], ⟨rfl, trivial⟩, ?_⟩
   exact ⟨rfl, z59⟩
  ·intro c35
   have hrk9 : rank (padm rss) (colsN rss) = np2 := hpl2; omega
 ·skip
  have s61 := xb1.sz
  have z62 := xb1
  refine vnil ?_
  refine V.condT rfl ?_
  refine V.seq (V.reg rfl ?_)
  refine vo ?_
  refine xcall e50 (law5_ok _) rfl rfl ?_
  rintro _ W63 ⟨rfl, x64⟩
  have s65 := x64.sz
  have z66 := z62.trans x64
  refine ⟨_, rfl, ?_⟩
  refine asb rfl ?_
  refine vnil ?_
  refine V.ret ?_
  refine ⟨[.bool true], ⟨rfl, trivial⟩, ?_⟩
  exact ⟨rfl, z66⟩
end Go.Proofs.YtknbjfefeeojlaaGreat

/- Package solve: one column of the elimination. -/
import Derived.Test.YtknbjfefeeojlaaGreatMgqll6
namespace Go.Proofs.YtknbjfefeeojlaaGreat
open Go.RowKit
attribute [local irreducible] RV VH V OpF Calls
theorem mat_swap {rows : List (List Rat)} {i d k : Nat} (hi : i < rows.length) (hd : d < rows.length) : mat (swapR rows i d) d k = mat rows i k := by
  unfold mat swapR; rw [rowat_set (by simpa using hd), if_pos rfl]

set_option maxHeartbeats 4000000 in
theorem column_ok (B bw : Nat) (fs fd : Value) (xd : Nat → Prop) (CX : Nat → (Nat → Prop) → World → Rat → Prop) (v pv : Value) (L N k : Nat) (rows : List (List Rat)) (piv : List Int) (δ : Rat) (w : World) (hS : WS B bw fs fd xd CX v pv L rows piv δ w) (hr : rect N rows) (hsz : szR L rows) (hk : k < N) (hl1 : 1 ≤ L) (hL : 15 * L + 2 < LY) (hp : piv.length ≤ rows.length) (hn : rows.length ≤ 1024) (hN : N ≤ 1024) :
    Calls Tryz.prog 169 #[.pointer (some ⟨bw, 0, none⟩), .int .i64 (k : Int)] w (fun e w' => ∃ q pv', e = .returned (.bool q) ∧ KD (fun b => KQ bw v pv b ∧ ¬ xd b) w w' ∧ WS B bw fs fd xd CX v pv' (5 * L) (colS (rows, piv, δ) k).1 (colS (rows, piv, δ) k).2.1 (colS (rows, piv, δ) k).2.2 w' ∧ ∀ b, pv'.ownBlock = some b → pv.ownBlock = some b ∨ w.heap.size ≤ b) := by
 have z0 := Ext.refl w; have hLX : LX = 17592186044416 := rfl; have hLY : LY = 8796093022208 := rfl;have hLV : LV = 1099511627776 := rfl;obtain ⟨av, cv, rfl⟩ := hS.g.form; obtain ⟨ap, cp, rfl⟩ := hS.p.form; obtain ⟨fS, cS, rfl, heS, hcS⟩ := hS.cl.sw; obtain ⟨fD, cD, rfl, heD, hcD⟩ := hS.cl.dv;have hxw := hS.x; have lxw := hxw.lt; have hBB := hS.hB; have hM := hS.ma rfl hsz;have hk0 : KD (fun b => KQ bw (Value.slice av rows.length cv) (Value.slice ap piv.length cp) b ∧ ¬ xd b) w w := KD.refl _ _;refine enter (args := [.pointer (some ⟨bw, 0, none⟩), .int .i64 (k : Int)]) Tryz.func169 rfl rfl (Nat.le_of_ble_eq_true rfl) (V.seq (V.reg rfl ?_));refine asb rfl (vnil (V.scope (V.seq (V.reg rfl ?_))));refine mvp rfl (vv (rnc (v := .pointer (some ⟨_, _, none⟩)) rfl rfl) (vv (rfa rfl fd141_1) (vv (rldb (v := .slice ap piv.length cp) rfl sc73 hxw rfl) (vv (rlen sl73 rfl) (asi rfl (asi rfl (vnil (V.seq (V.label (V.seq (V.seq (V.reg rfl ?_))))))))))));refine mvi rfl (asi rfl (vnil (V.block (V.loopK (ι := Nat) [(0, .pointer (some ⟨_, _, none⟩)), (1, .int _ _), (4, .bool false), (5, .int _ _)] (fun i => [(7, .int .i64 (i : Int)), (6, .int .i64 (-1))]) (fun i W => Ext w W ∧ piv.length ≤ i ∧ i ≤ rows.length ∧ ∀ j, piv.length ≤ j → j < i → mat rows j k = 0) (fun i => rows.length - i) (piv.length) ⟨rfl, rfl, rfl, rfl, trivial⟩ ⟨rfl, rfl, trivial⟩ ⟨Ext.refl _, Nat.le_refl _, hp, fun j h1 h2 => by omega⟩ ?_))));intro i E2 W1 h3;obtain ⟨x4, hi1, hi2, hz⟩ := h3;have s5 := x4.sz;have z6 := x4;replace hxw := hxw.ext x4;refine V.seq (V.seq (V.reg rfl ?_));refine mvi rfl (mvp rfl (vv (rnc (v := .pointer (some ⟨_, _, none⟩)) rfl rfl) (vv (rfa rfl fd141_0) (vv (rldb (v := .slice av rows.length cv) rfl sc22 hxw rfl) (vv (rlen sl22 rfl) (vlt rfl rfl ?_ ?_))))))
 ·intro c7;have hrw := hr.row (i := ((i : Nat) : Int).toNat) (by omega);refine vnil (V.condT rfl (V.skip (V.seq (V.block (V.seq (V.reg rfl ?_))))));refine mvp rfl (vv (rnc (v := .pointer (some ⟨_, _, none⟩)) rfl rfl) (vv (rfa rfl fd141_0) (vv (rldb (v := .slice av rows.length cv) rfl sc22 hxw rfl) (mvi rfl (vv (rix sl22 sz23 rfl rfl (by omega) (by omega) ((hM.ext z6).isS (i := 0) (by omega) (by omega))) ?_)))));refine vldRow (hM.ext z6) rfl sc23 (by omega) (by omega) ?_;intro a8 n9 c10 hg11;have hg11l := hg11.len; have hg11m := hg11.max;refine mvi rfl (vv (rix sl23 sz48 rfl rfl (by omega) (by omega) (hg11.isS (i := 0) (by omega) (by omega))) ?_);refine vldQ hg11 rfl ag48 (by omega) (by omega) ?_;intro n12 a13 l14 c15 n16 a17 l18 c19 hq20;refine vo (xcall e66 (fSign_ok _ _ _ _ _ hq20 (by omega) (by omega)) rfl rfl ?_);rintro _ W21 ⟨rfl, x22⟩;have s23 := x22.sz;have z24 := z6.trans x22;replace hxw := hxw.ext x22;refine ⟨_, rfl, ?_⟩;refine vne rfl rfl ?_ ?_
  ·intro c5;refine vnil (V.condT rfl (V.seq (V.reg rfl ?_)));refine mvi rfl (asi rfl (vnil (V.exit (V.seq (V.seq (V.reg rfl ?_))))));refine mvi rfl (vlt rfl rfl ?_ ?_)
   ·intro c25;omega
   ·intro c25;refine vnil (V.condF rfl (V.skip (V.seq (V.seq (V.reg rfl ?_)))));refine mvi rfl (mvi rfl (vne rfl rfl ?_ ?_))
    ·intro c9;have hP : IsP rows k piv.length i := ⟨hi1, by omega, hz, fun _ h => c5 (cq_eq.2 h)⟩;obtain ⟨ra0, rk0, rc0, hc0, hg0⟩ := ((hS.ext z24)).row rfl (i := (piv.length : Int)) (by omega) (by omega);have ce0 : C1 W21 _ _ := hc0; have hga0 := hg0.va (hsz.row _); have hgl0 := hg0.len;obtain ⟨ra1, rk1, rc1, hc1, hg1⟩ := ((hS.ext z24)).row rfl (i := (i : Int)) (by omega) (by omega);have ce1 : C1 W21 _ _ := hc1; have hga1 := hg1.va (hsz.row _); have hgl1 := hg1.len;refine vnil (V.condT rfl (V.seq (V.regB [25, 27] mixed rfl ?_)));intro W26 x27;have s28 := x27.sz;have z29 := z24.trans x27;replace hxw := hxw.ext x27;have q30 := Ext.refl W26;have r31 := hxw;refine tkP 0 rfl (by kernel_rfl) (by kernel_rfl) (fun _ => q30) (pv (fun _ _ => rmv (v := .pointer (some ⟨_, _, none⟩)) rfl)) ?_;refine tkP 1 rfl (by kernel_rfl) (by kernel_rfl) (fun _ => q30) (pv (fun _ _ => rnc (v := .pointer (some ⟨_, _, none⟩)) rfl rfl)) ?_;refine tkP 2 rfl (by kernel_rfl) (by kernel_rfl) (fun _ => q30) (pv (fun _ _ => rfa rfl fd141_0)) ?_;refine tkB 3 rfl (by kernel_rfl) q30 (pv (fun _ y35 => rldb (v := .slice av rows.length cv) rfl sc22 (r31.ext y35) rfl)) ?_;refine tkP 4 rfl (by kernel_rfl) (by kernel_rfl) (fun _ => q30) (pv (fun _ _ => rmv (v := .int _ _) rfl)) ?_;refine tkP 5 rfl (by kernel_rfl) (by kernel_rfl) (fun _ => q30) (pv (fun _ _ => rmv (v := .pointer (some ⟨_, _, none⟩)) rfl)) ?_;refine tkP 6 rfl (by kernel_rfl) (by kernel_rfl) (fun _ => q30) (pv (fun _ _ => rnc (v := .pointer (some ⟨_, _, none⟩)) rfl rfl)) ?_;refine tkP 7 rfl (by kernel_rfl) (by kernel_rfl) (fun _ => q30) (pv (fun _ _ => rfa rfl fd141_0)) ?_;refine tkB 8 rfl (by kernel_rfl) q30 (pv (fun _ y40 => rldb (v := .slice av rows.length cv) rfl sc22 (r31.ext y40) rfl)) ?_;refine tkP 9 rfl (by kernel_rfl) (by kernel_rfl) (fun _ => q30) (pv (fun _ _ => rmv (v := .int _ _) rfl)) ?_;refine tkP 10 rfl (by kernel_rfl) (by kernel_rfl) (fun _ => q30) (pv (fun _ _ => rmv (v := .pointer (some ⟨_, _, none⟩)) rfl)) ?_;refine tkP 11 rfl (by kernel_rfl) (by kernel_rfl) (fun _ => q30) (pv (fun _ _ => rnc (v := .pointer (some ⟨_, _, none⟩)) rfl rfl)) ?_;refine tkP 12 rfl (by kernel_rfl) (by kernel_rfl) (fun _ => q30) (pv (fun _ _ => rfa rfl fd141_0)) ?_;refine tkB 13 rfl (by kernel_rfl) q30 (pv (fun _ y45 => rldb (v := .slice av rows.length cv) rfl sc22 (r31.ext y45) rfl)) ?_;refine tkP 14 rfl (by kernel_rfl) (by kernel_rfl) (fun _ => q30) (pv (fun _ _ => rmv (v := .int _ _) rfl)) ?_;refine tkP 15 rfl (by kernel_rfl) (by kernel_rfl) (fun _ => q30) (pv (fun _ _ => rix sl22 sz23 rfl rfl (by omega) (by omega) ((hM.ext z29).isS (i := 0) (by omega) (by omega)))) ?_;refine tkB 16 rfl (by kernel_rfl) q30 (pv (fun _ y48 => rld1 (v := .slice _ _ _) rfl sc23 ((ce0.ext x27).ext y48))) ?_;refine tkP 17 rfl (by kernel_rfl) (by kernel_rfl) (fun _ => q30) (pv (fun _ _ => rmv (v := .pointer (some ⟨_, _, none⟩)) rfl)) ?_;refine tkP 18 rfl (by kernel_rfl) (by kernel_rfl) (fun _ => q30) (pv (fun _ _ => rnc (v := .pointer (some ⟨_, _, none⟩)) rfl rfl)) ?_;refine tkP 19 rfl (by kernel_rfl) (by kernel_rfl) (fun _ => q30) (pv (fun _ _ => rfa rfl fd141_0)) ?_;refine tkB 20 rfl (by kernel_rfl) q30 (pv (fun _ y52 => rldb (v := .slice av rows.length cv) rfl sc22 (r31.ext y52) rfl)) ?_;refine tkP 21 rfl (by kernel_rfl) (by kernel_rfl) (fun _ => q30) (pv (fun _ _ => rmv (v := .int _ _) rfl)) ?_;refine tkP 22 rfl (by kernel_rfl) (by kernel_rfl) (fun _ => q30) (pv (fun _ _ => rix sl22 sz23 rfl rfl (by omega) (by omega) ((hM.ext z29).isS (i := 0) (by omega) (by omega)))) ?_;refine tkB 23 rfl (by kernel_rfl) q30 (pv (fun _ y55 => rld1 (v := .slice _ _ _) rfl sc23 ((ce1.ext x27).ext y55))) ?_;refine tkP 24 rfl (by kernel_rfl) (by kernel_rfl) (fun _ => q30) (pv (fun _ _ => rix sl22 sz23 rfl rfl (by omega) (by omega) ((hM.ext z29).isS (i := 0) (by omega) (by omega)))) ?_;refine efB 25 (by kernel_rfl) rfl ?_;refine xstW (hS.ext z29) rfl rfl rfl sz23 (by omega) (by omega) (hg0.ext x27) ?_;intro W1 hS1 kd1;have hk57 : KD (fun b => KQ bw (Value.slice av rows.length cv) (Value.slice ap piv.length cp) b ∧ ¬ xd b) w W1 := (hk0.trans (Ext.kd z29)).trans (kd1.mono fun _ h => h.1);have hg1k := (hg1.ext x27).ck (kd1.ck.sub fun _ h => so_kq h);have zz58 := Ext.refl W1; have sk59 := hk57.size;refine notW (by kernel_rfl) ?_;refine tkP 26 rfl (by kernel_rfl) (by kernel_rfl) (notWf (by kernel_rfl)) (pv (fun _ _ => rix sl22 sz23 rfl rfl (by omega) (by omega) ((hM.ext z29).isS (i := 0) (by omega) (by omega)))) ?_;refine efB 27 (by kernel_rfl) rfl ?_;refine xstW hS1 rfl rfl rfl sz23 (by omega) (by omega) hg1k ?_;intro W2 hS2' kd2;have hk61 : KD (fun b => KQ bw (Value.slice av rows.length cv) (Value.slice ap piv.length cp) b ∧ ¬ xd b) w W2 := (hk57.trans (Ext.kd zz58)).trans (kd2.mono fun _ h => h.1);have zz62 := Ext.refl W2; have sk63 := hk61.size;have hS2 : WS B bw (.func (.func fS) #[] cS.toArray) (.func (.func fD) #[] cD.toArray) xd CX (Value.slice av rows.length cv) (Value.slice ap piv.length cp) L (swapR rows i piv.length) piv δ W2 := hS2';have bx64 := (hS2).x;refine notW (by kernel_rfl) ?_;refine dnB (by kernel_rfl) ?_;refine V.reg rfl (mvp rfl (vv (rnc (v := .pointer (some ⟨_, _, none⟩)) rfl rfl) (vv (rfa rfl fd141_2) (vv (rldb (v := .func (.func fS) #[] cS.toArray) rfl sc1 bx64 rfl) (vo (xcall heS (hcS L _ _ _ (hS2).c (hS2).upq (by omega)) rfl rfl ?_))))));rintro _ W3 ⟨rfl, kd3, hc3⟩;refine ⟨_, rfl, ?_⟩;have hS3 := (hS2).ckB kd3 hc3;have hk65 : KD (fun b => KQ bw (Value.slice av rows.length cv) (Value.slice ap piv.length cp) b ∧ ¬ xd b) w W3 := (hk61.trans (Ext.kd zz62)).trans (kd3.mono fun _ h => h.2);have zz66 := Ext.refl W3; have sk67 := hk65.size;have bx68 := (hS3).x;refine vnil (V.seq (V.reg rfl ?_));have hid : i < rows.length := by omega
     have hdd : piv.length < rows.length := by omega
     obtain ⟨rows1, er1⟩ : ∃ r, r = swapR rows i piv.length := ⟨_, rfl⟩;obtain ⟨δ1, ed1⟩ : ∃ x, x = (if i = piv.length then δ else -δ) := ⟨_, rfl⟩;have hS5 : WS B bw (.func (.func fS) #[] cS.toArray) (.func (.func fD) #[] cD.toArray) xd CX (Value.slice av rows.length cv) (Value.slice ap piv.length cp) L rows1 piv δ1 W3 := by rw [er1, ed1, if_neg (by omega)]; exact hS3
     have hl1r : rows1.length = rows.length := by rw [er1, swapR_len]
     have hr1 : rect N rows1 := by rw [er1]; exact hr.swap hid hdd
     have hsz1 : szR L rows1 := by rw [er1]; exact hsz.swap _ _
     have hnz : mat rows1 piv.length k ≠ 0 := by rw [er1, mat_swap hid hdd]; exact hP.2.2.2 hid
     have hrow1 := hr1.row (i := ((piv.length : Nat) : Int).toNat) (by omega);have hM5 := hS5.ma rfl hsz1;obtain ⟨ra2, rk2, rc2, hc2, hg2⟩ := (hS5).row rfl (i := (piv.length : Int)) (by omega) (by omega);have ce2 : C1 W3 _ _ := hc2; have hga2 := hg2.va (hsz1.row _); have hgl2 := hg2.len;have bx69 := (hS5).x;refine mvp rfl (vv (rnc (v := .pointer (some ⟨_, _, none⟩)) rfl rfl) (vv (rfa rfl fd141_0) (vv (rldb (v := .slice av rows.length cv) rfl sc22 bx69 rfl) (mvi rfl (vv (rix sl22 sz23 rfl rfl (by omega) (by omega) (hM5.isS (i := 0) (by omega) (by omega))) ?_)))));refine vv (rld1 (v := .slice _ _ _) rfl sc23 ce2) (mvi rfl (vv (rix sl23 sz48 rfl rfl (by omega) (by omega) (hga2.isS (i := 0) (by omega) (by omega))) ?_));refine vldQ hga2 rfl ag48 (by omega) (by omega) ?_;intro n70 a71 l72 c73 n74 a75 l76 c77 hq78;refine vo (xal zc48 ?_);intro W79 x80 b81 nn82;have s83 := x80.sz;have z84 := x80;replace bx69 := bx69.ext x80;refine vo (sta (cs' := [_, _, _, _]) b81 rfl rfl sz48 rfl rfl rfl ?_);intro W85 y86 b81;have z87 := z84.below (y86.below (by omega));replace bx69 := bx69.wr y86 (by omega);have s88 := y86.size;refine vnil (V.seq (V.regB [5] mixed rfl ?_));intro W89 x90;have s91 := x90.sz;have z92 := z87.trans x90;replace bx69 := bx69.ext x90;replace b81 := b81.ext x90;have q93 := Ext.refl W89;have r94 := bx69;have r95 := b81;refine tkP 0 rfl (by kernel_rfl) (by kernel_rfl) (fun _ => q93) (pv (fun _ _ => rmv (v := .pointer (some ⟨_, _, none⟩)) rfl)) ?_;refine tkP 1 rfl (by kernel_rfl) (by kernel_rfl) (fun _ => q93) (pv (fun _ _ => rnc (v := .pointer (some ⟨_, _, none⟩)) rfl rfl)) ?_;refine tkP 2 rfl (by kernel_rfl) (by kernel_rfl) (fun _ => q93) (pv (fun _ _ => rfa rfl fd141_3)) ?_;refine tkB 3 rfl (by kernel_rfl) q93 (pv (fun _ y99 => rldb (v := .func (.func fD) #[] cD.toArray) rfl sc139 (r94.ext y99) rfl)) ?_;refine tkB 4 rfl (by kernel_rfl) q93 (pv (fun _ y100 => rldb4 rfl ag48 (r95.ext y100) rfl rfl rfl rfl )) ?_;refine efB 5 (by kernel_rfl) rfl ?_;refine xcall heD (hcD L L _ _ _ [_, _, _, _] _ ((hS5.ext z92)).c ((hS5.ext z92)).upq (((hq78.ext z92)).sub fun _ _ _ => trivial) hl1 (by omega)) rfl rfl ?_;rintro _ W6 ⟨rfl, kd6, hc6⟩;refine ⟨_, rfl, ?_⟩;have hS6 := ((hS5.ext z92)).ckB kd6 hc6;have bk102 := b81.kd kd6 (((hS5.ext z92)).nx (by omega));have hk101 : KD (fun b => KQ bw (Value.slice av rows.length cv) (Value.slice ap piv.length cp) b ∧ ¬ xd b) w W6 := (hk65.trans (Ext.kd z92)).trans (kd6.mono fun _ h => h.2);have hq78k := (hq78.ext z92).ck (kd6.ck.sub fun _ h => ((hS5.ext z92)).nx h.1.1);have zz103 := Ext.refl W6; have sk104 := hk101.size;have hM6 := hS6.ma rfl hsz1;obtain ⟨ra3, rk3, rc3, hc3, hg3⟩ := (hS6).row rfl (i := (piv.length : Int)) (by omega) (by omega);have ce3 : C1 W6 _ _ := hc3; have hga3 := hg3.va (hsz1.row _); have hgl3 := hg3.len;have bx105 := (hS6).x;refine notW (by kernel_rfl) ?_;refine dnB (by kernel_rfl) ?_;refine V.seq (V.regD mixed rfl ?_);intro W106 x107;have s108 := x107.sz;have z109 := x107;replace bk102 := bk102.ext x107;replace bx105 := bx105.ext x107;have q110 := Ext.refl W106;have r111 := bk102;have r112 := bx105;refine tk 0 rfl (by kernel_rfl) q110 (pv (fun _ y113 => rmv (v := .pointer (some ⟨_, _, none⟩)) rfl)) ?_;refine tk 1 rfl (by kernel_rfl) q110 (pv (fun _ y114 => rnc (v := .pointer (some ⟨_, _, none⟩)) rfl rfl)) ?_;refine tk 2 rfl (by kernel_rfl) q110 (pv (fun _ y115 => rfa rfl fd141_0)) ?_;refine tk 3 rfl (by kernel_rfl) q110 (pv (fun _ y116 => rldb (v := .slice av rows.length cv) rfl sc22 (r112.ext y116) rfl)) ?_;refine tk 4 rfl (by kernel_rfl) q110 (pv (fun _ y117 => rmv (v := .int _ _) rfl)) ?_;refine tk 6 rfl (by kernel_rfl) q110 (pv (fun _ y118 => rldb4 rfl ag48 (r111.ext y118) rfl rfl rfl rfl )) ?_;refine tk 8 rfl (by kernel_rfl) q110 (pv (fun _ y119 => rmv (v := .pointer (some ⟨_, _, none⟩)) rfl)) ?_;refine tk 9 rfl (by kernel_rfl) q110 (pv (fun _ y120 => rnc (v := .pointer (some ⟨_, _, none⟩)) rfl rfl)) ?_;refine tk 10 rfl (by kernel_rfl) q110 (pv (fun _ y121 => rfa rfl fd141_0)) ?_;refine tk 11 rfl (by kernel_rfl) q110 (pv (fun _ y122 => rldb (v := .slice av rows.length cv) rfl sc22 (r112.ext y122) rfl)) ?_;refine tk 12 rfl (by kernel_rfl) q110 (pv (fun _ y123 => rmv (v := .int _ _) rfl)) ?_;refine tk 13 rfl (by kernel_rfl) q110 (pv (fun _ y124 => rix sl22 sz23 rfl rfl (by omega) (by omega) (((hM6.ext z109).ext y124).isS (i := 0) (by omega) (by omega)))) ?_;refine tk 14 rfl (by kernel_rfl) q110 (pv (fun _ y125 => rld1 (v := .slice _ _ _) rfl sc23 ((ce3.ext z109).ext y125))) ?_;refine ef 5 (by kernel_rfl) rfl ?_;refine xcall e27 (fFrom_ok 1 TT _ (by omega) (TT.up _)) rfl rfl ?_;rintro _ W127 ⟨_, rfl, x128, hq126⟩;have s129 := x128.sz;have z130 := z109.trans x128;replace bk102 := bk102.ext x128;have q131 := q110.trans x128;obtain ⟨_, _, _, _, _, _, _, _, rfl⟩ := hq126.form;refine ⟨_, rfl, ?_⟩;refine ⟨fun _ => q131, ?_⟩;refine ef 7 (by kernel_rfl) rfl ?_;refine xcall e199 (by_ok [_, _, _, _] [_, _, _, _] _ _ 1 L TT _ _ _ ((hq126).qa szOne') (hq78k.ext z130) (by omega) (by omega) (by omega) (TT.up _) hnz) rfl rfl ?_;rintro _ W133 ⟨_, rfl, x134, hq132⟩;have s135 := x134.sz;have z136 := z130.trans x134;replace bk102 := bk102.ext x134;have q137 := q131.trans x134;obtain ⟨_, _, _, _, _, _, _, _, rfl⟩ := hq132.form;refine ⟨_, rfl, ?_⟩;refine ⟨fun _ => q137, ?_⟩;refine ef 15 (by kernel_rfl) rfl ?_;refine xcall e26 (vScale_ok [_, _, _, _] _ _ _ _ L L _ (SO (XS B bw (Value.slice ap piv.length cp)) (Value.slice av rows.length cv)) _ _ _ (hga3.ext z136) ((hq132).qa (sz_inv (hsz1.at hl1 _ _) hl1)) (by omega) (by omega) (by omega) (by omega) ((hS6.ext z136)).up) rfl rfl ?_;rintro _ W138 ⟨_, _, _, rfl, x139, hsc⟩;have s140 := x139.sz;have z141 := z136.trans x139;replace bk102 := bk102.ext x139;have q142 := q137.trans x139;have hsc2 : GC _ _ _ _ _ (sclR (1 / mat rows1 piv.length k) (rowat rows1 piv.length)) := hsc.cast (by unfold sclR; rw [show (rowat rows1 piv.length).length = rk3 from hgl3]; rfl);refine ⟨_, rfl, ?_⟩;refine ⟨fun _ => q142, ?_⟩;refine tk 16 rfl (by kernel_rfl) q142 (pv (fun _ y143 => rix sl22 sz23 rfl rfl (by omega) (by omega) (((hM6.ext z109).ext y143).isS (i := 0) (by omega) (by omega)))) ?_;refine ef 17 (by kernel_rfl) rfl ?_;refine xstW (hS6.ext z141) rfl rfl rfl sz23 (by omega) (by omega) hsc2 ?_;intro W7 hS7' kd7;have bk145 := bk102.kd kd7 (((hS6.ext z141)).nb bk102 (by decide) (by decide) (by omega));have hk144 : KD (fun b => KQ bw (Value.slice av rows.length cv) (Value.slice ap piv.length cp) b ∧ ¬ xd b) w W7 := (hk101.trans (Ext.kd z141)).trans (kd7.mono fun _ h => h.1);have zz146 := Ext.refl W7; have sk147 := hk144.size;obtain ⟨rows2, er2⟩ : ∃ r, r = divR rows1 piv.length k := ⟨_, rfl⟩;obtain ⟨δ2, ed2⟩ : ∃ x, x = δ1 * mat rows1 piv.length k := ⟨_, rfl⟩;have hl2r : rows2.length = rows.length := by rw [er2, divR_len, hl1r]
     have hS7 : WS B bw (.func (.func fS) #[] cS.toArray) (.func (.func fD) #[] cD.toArray) xd CX (Value.slice av rows.length cv) (Value.slice ap piv.length cp) (L + L) rows2 piv δ2 W7 := by rw [er2, ed2]; exact hS7'
     have bx148 := (hS7).x;have hrE : ∀ i, rect N (elimS rows2 piv.length k i) := fun i => by rw [er2]; exact (hr1.div (by omega)).elim (by rw [divR_len]; omega)
     have hszE : ∀ i, szR (5 * L) (elimS rows2 piv.length k i) := fun i => by rw [er2]; exact elimS_sz hsz1 hl1 (by omega) k i
     refine lastT (by kernel_rfl) ?_;refine dn (by kernel_rfl) ?_;refine V.seq (V.seq (V.reg rfl ?_));refine mvp rfl (vv (rnc (v := .pointer (some ⟨_, _, none⟩)) rfl rfl) (vv (rfa rfl fd141_0) (vv (rldb (v := .slice av rows.length cv) rfl sc22 bx148 rfl) (vv (rlen sl22 rfl) (mvi rfl (vnil (V.block (V.loopK (ι := Nat) [(0, .pointer (some ⟨_, _, none⟩)), (1, .int _ _), (4, .bool false), (5, .int _ _), (112, .int _ _)] (fun j => [(113, .int .i64 (j : Int))]) (fun j W => j ≤ rows.length ∧ WS B bw (.func (.func fS) #[] cS.toArray) (.func (.func fD) #[] cD.toArray) xd CX (Value.slice av rows.length cv) (Value.slice ap piv.length cp) (L + L) (elimS rows2 piv.length k j) piv δ2 W ∧ KD (fun b => KQ bw (Value.slice av rows.length cv) (Value.slice ap piv.length cp) b ∧ ¬ xd b) w W) (fun j => rows.length - j) (0) ⟨rfl, rfl, rfl, rfl, rfl, trivial⟩ ⟨rfl, trivial⟩ ⟨Nat.zero_le _, (by rw [elimS_zero]; exact hS7), (hk144.trans (Ext.kd zz146))⟩ ?_))))))));intro j E150 W149 h151;obtain ⟨hi8, hS8, hk8⟩ := h151;have hM8 := hS8.ma rfl (hszE j); have sk8 := hk8.size; have zz8 := Ext.refl W149;have bx152 := (hS8).x;refine V.seq (V.reg rfl ?_);refine vlt rfl rfl ?_ ?_
     ·intro c153;have hlE := elimS_len rows2 piv.length k j; have hrowE := (hrE j).row (i := ((j : Nat) : Int).toNat) (by omega);have hrwE : rowat (elimS rows2 piv.length k j) j = rowat rows2 j := by rw [elimS_row (by omega), if_neg (by omega)]
      have hrwD : rowat (elimS rows2 piv.length k j) piv.length = rowat rows2 piv.length := by rw [elimS_row (by omega)]; split <;> simp [elimT]
      have hlD := (hrE j).row (i := ((piv.length : Nat) : Int).toNat) (by omega);obtain ⟨ra4, rk4, rc4, hc4, hg4⟩ := (hS8).row rfl (i := (j : Int)) (by omega) (by omega);have ce4 : C1 W149 _ _ := hc4; have hga4 := hg4.va ((hszE j).row _); have hgl4 := hg4.len;obtain ⟨ra5, rk5, rc5, hc5, hg5⟩ := (hS8).row rfl (i := (piv.length : Int)) (by omega) (by omega);have ce5 : C1 W149 _ _ := hc5; have hga5 := hg5.va ((hszE j).row _); have hgl5 := hg5.len;refine vnil (V.seq (V.condT rfl (V.skip (V.seq (V.block (V.seq (V.reg rfl ?_)))))));refine mvi rfl (asi rfl (vnil (V.seq (V.reg rfl ?_))));refine mvp rfl (vv (rnc (v := .pointer (some ⟨_, _, none⟩)) rfl rfl) (vv (rfa rfl fd141_0) (vv (rldb (v := .slice av rows.length cv) rfl sc22 bx152 rfl) (mvi rfl (vv (rix sl22 sz23 rfl rfl (by omega) (by omega) (hM8.isS (i := 0) (by omega) (by omega))) ?_)))));refine vv (rld1 (v := .slice _ _ _) rfl sc23 ce4) (mvi rfl (vv (rix sl23 sz48 rfl rfl (by omega) (by omega) (hga4.isS (i := 0) (by omega) (by omega))) ?_));refine vldQ hga4 rfl ag48 (by omega) (by omega) ?_;intro n154 a155 l156 c157 n158 a159 l160 c161 hq162;refine vo (xal zc48 ?_);intro W163 x164 b165 nn166;have s167 := x164.sz;have z168 := x164;replace bx152 := bx152.ext x164;refine vo (sta (cs' := [_, _, _, _]) b165 rfl rfl sz48 rfl rfl rfl ?_);intro W169 y170 b165;have z171 := z168.below (y170.below (by omega));replace bx152 := bx152.wr y170 (by omega);have s172 := y170.size;refine vnil (V.seq (V.reg rfl ?_));refine mvi rfl (mvi rfl (vne rfl rfl ?_ ?_))
      ·intro c19;refine mvb rfl (vg rfl (vv (rldb4 rfl ag48 b165 rfl rfl rfl rfl ) (vg rfl (vo (xcall e66 (fSign_ok _ _ _ _ _ (hq162.ext z171) (by omega) (by omega)) rfl rfl ?_)))));rintro _ W173 ⟨rfl, x174⟩;have s175 := x174.sz;have z176 := z171.trans x174;replace bx152 := bx152.ext x174;replace b165 := b165.ext x174;refine ⟨_, rfl, ?_⟩;refine vg rfl (vne rfl rfl ?_ ?_)
       ·intro c19b;refine vv (rpk (v := .bool true) rfl rfl) (vnil (V.condT rfl (V.regD mixed rfl ?_)));intro W177 x178;have s179 := x178.sz;have z180 := z176.trans x178;replace bx152 := bx152.ext x178;replace b165 := b165.ext x178;have q181 := Ext.refl W177;have r182 := bx152;have r183 := b165;refine tk 0 rfl (by kernel_rfl) q181 (pv (fun _ y184 => rmv (v := .pointer (some ⟨_, _, none⟩)) rfl)) ?_;refine tk 1 rfl (by kernel_rfl) q181 (pv (fun _ y185 => rnc (v := .pointer (some ⟨_, _, none⟩)) rfl rfl)) ?_;refine tk 2 rfl (by kernel_rfl) q181 (pv (fun _ y186 => rfa rfl fd141_0)) ?_;refine tk 3 rfl (by kernel_rfl) q181 (pv (fun _ y187 => rldb (v := .slice av rows.length cv) rfl sc22 (r182.ext y187) rfl)) ?_;refine tk 4 rfl (by kernel_rfl) q181 (pv (fun _ y188 => rmv (v := .int _ _) rfl)) ?_;refine tk 5 rfl (by kernel_rfl) q181 (pv (fun _ y189 => rldb4 rfl ag48 (r183.ext y189) rfl rfl rfl rfl )) ?_;refine tk 7 rfl (by kernel_rfl) q181 (pv (fun _ y190 => rmv (v := .pointer (some ⟨_, _, none⟩)) rfl)) ?_;refine tk 8 rfl (by kernel_rfl) q181 (pv (fun _ y191 => rnc (v := .pointer (some ⟨_, _, none⟩)) rfl rfl)) ?_;refine tk 9 rfl (by kernel_rfl) q181 (pv (fun _ y192 => rfa rfl fd141_0)) ?_;refine tk 10 rfl (by kernel_rfl) q181 (pv (fun _ y193 => rldb (v := .slice av rows.length cv) rfl sc22 (r182.ext y193) rfl)) ?_;refine tk 11 rfl (by kernel_rfl) q181 (pv (fun _ y194 => rmv (v := .int _ _) rfl)) ?_;refine tk 12 rfl (by kernel_rfl) q181 (pv (fun _ y195 => rix sl22 sz23 rfl rfl (by omega) (by omega) (((hM8.ext z180).ext y195).isS (i := 0) (by omega) (by omega)))) ?_;refine tk 13 rfl (by kernel_rfl) q181 (pv (fun _ y196 => rld1 (v := .slice _ _ _) rfl sc23 ((ce5.ext z180).ext y196))) ?_;refine tk 14 rfl (by kernel_rfl) q181 (pv (fun _ y197 => rmv (v := .pointer (some ⟨_, _, none⟩)) rfl)) ?_;refine tk 15 rfl (by kernel_rfl) q181 (pv (fun _ y198 => rnc (v := .pointer (some ⟨_, _, none⟩)) rfl rfl)) ?_;refine tk 16 rfl (by kernel_rfl) q181 (pv (fun _ y199 => rfa rfl fd141_0)) ?_;refine tk 17 rfl (by kernel_rfl) q181 (pv (fun _ y200 => rldb (v := .slice av rows.length cv) rfl sc22 (r182.ext y200) rfl)) ?_;refine tk 18 rfl (by kernel_rfl) q181 (pv (fun _ y201 => rmv (v := .int _ _) rfl)) ?_;refine tk 19 rfl (by kernel_rfl) q181 (pv (fun _ y202 => rix sl22 sz23 rfl rfl (by omega) (by omega) (((hM8.ext z180).ext y202).isS (i := 0) (by omega) (by omega)))) ?_;refine tk 20 rfl (by kernel_rfl) q181 (pv (fun _ y203 => rld1 (v := .slice _ _ _) rfl sc23 ((ce4.ext z180).ext y203))) ?_;refine ef 6 (by kernel_rfl) rfl ?_;refine xcall e72 (fNeg_ok _ _ _ _ _ _ (hq162.ext z180) (by omega) (by omega) (TT.up _)) rfl rfl ?_;rintro _ W205 ⟨_, rfl, x206, hq204⟩;have s207 := x206.sz;have z208 := z180.trans x206;replace b165 := b165.ext x206;have q209 := q181.trans x206;obtain ⟨_, _, _, _, _, _, _, _, rfl⟩ := hq204.form;refine ⟨_, rfl, ?_⟩;refine ⟨fun _ => q209, ?_⟩;refine ef 21 (by kernel_rfl) rfl ?_;refine xcall e68 (vScl_ok [_, _, _, _] _ (5 * L) TT _ _ _ _ _ _ (5 * L) (5 * L) _ _ (SO (XS B bw (Value.slice ap piv.length cp)) (Value.slice av rows.length cv)) _ _ _ (hga5.ext z208) (hga4.ext z208) ((hq204).qa (sz_neg ((hszE j).at (by omega) _ _))) (by omega) (by omega) (by omega) (by omega) (by omega) (by omega) ((hS8.ext z208)).up) rfl rfl ?_;rintro _ W210 ⟨_, _, _, rfl, x211, hax⟩;have s212 := x211.sz;have z213 := z208.trans x211;replace b165 := b165.ext x211;have q214 := q209.trans x211;have hax2 : GC _ _ _ _ _ (elimT rows2 piv.length k j) := hax.cast (by rw [elimT, if_neg (by rintro (h | h); omega; exact c19b (cq_eq.2 (show mat (elimS rows2 piv.length k j) j k = 0 by rw [mat, hrwE]; exact h))), axR, ← hrwE, ← hrwD, mat, ← hrwE, show (rowat (elimS rows2 piv.length k j) piv.length).length = rk5 from hgl5, show (rowat (elimS rows2 piv.length k j) j).length = rk4 from hgl4]; rfl);have hgax := hax2.len;refine ⟨_, rfl, ?_⟩;refine ⟨fun _ => q214, ?_⟩;refine tk 22 rfl (by kernel_rfl) q214 (pv (fun _ y215 => rix sl22 sz23 rfl rfl (by omega) (by omega) (((hM8.ext z180).ext y215).isS (i := 0) (by omega) (by omega)))) ?_;refine ef 23 (by kernel_rfl) rfl ?_;refine xstW (hS8.ext z213) rfl rfl rfl sz23 (by omega) (by omega) hax2 ?_;intro W9 hS9 kd9;have bk217 := b165.kd kd9 (((hS8.ext z213)).nb b165 (by decide) (by decide) (by omega));have hk216 : KD (fun b => KQ bw (Value.slice av rows.length cv) (Value.slice ap piv.length cp) b ∧ ¬ xd b) w W9 := (hk8.trans (Ext.kd z213)).trans (kd9.mono fun _ h => h.1);have zz218 := Ext.refl W9; have sk219 := hk216.size;have bx220 := (hS9).x;refine lastT (by kernel_rfl) ?_;refine dn (by kernel_rfl) ?_;refine V.reg rfl (vv (rbin (bAdd (wi (by omega))) rfl rfl) ?_);refine mvi rfl (vnil ⟨rfl, j + 1, ⟨rfl, rfl, rfl, rfl, rfl, trivial⟩, ⟨rfl, trivial⟩, ⟨by omega, (by rw [elimS_succ (by omega)]; exact hS9), (hk216.trans (Ext.kd zz218))⟩, ?_⟩)
        show rows.length - (j + 1) < rows.length - j
        omega
       ·intro c19b;refine vv (rpk (v := .bool false) rfl rfl) (vnil (V.condF rfl (V.skip (V.reg rfl (vv (rbin (bAdd (wi (by omega))) rfl rfl) ?_)))));refine mvi rfl (vnil ⟨rfl, j + 1, ⟨rfl, rfl, rfl, rfl, rfl, trivial⟩, ⟨rfl, trivial⟩, ⟨by omega, (by rw [elimS_keep (by omega) (.inr (by rw [mat, ← hrwE]; exact cq_eq.1 c19b))]; exact (hS8.ext z176)), (hk8.trans (Ext.kd z176))⟩, ?_⟩)
        show rows.length - (j + 1) < rows.length - j
        omega
      ·intro c19;refine mvb rfl (vgn (b := false) rfl rfl (vgn (b := false) rfl rfl (vgn (b := false) rfl rfl (vv (rpk (v := .bool false) rfl rfl) (vnil (V.condF rfl (V.skip (V.reg rfl (vv (rbin (bAdd (wi (by omega))) rfl rfl) ?_)))))))));refine mvi rfl (vnil ⟨rfl, j + 1, ⟨rfl, rfl, rfl, rfl, rfl, trivial⟩, ⟨rfl, trivial⟩, ⟨by omega, (by rw [elimS_keep (by omega) (.inl (by omega))]; exact (hS8.ext z171)), (hk8.trans (Ext.kd z171))⟩, ?_⟩)
       show rows.length - (j + 1) < rows.length - j
       omega
     ·intro c153;refine vnil (V.seq (V.condF rfl (V.exit (V.seq (V.reg rfl ?_)))));refine mvp rfl (mvp rfl (vv (rnc (v := .pointer (some ⟨_, _, none⟩)) rfl rfl) (vv (rfa rfl fd141_1) (vv (rldb (v := .slice ap piv.length cp) rfl sc73 bx152 rfl) (mvi rfl (vo (xbs (ps := [(0, .int _ _)]) (cs := [.int _ _]) sl73 zr3 sz3 rfl rfl rfl rfl rfl rfl ?_)))))));intro W221 x222 b223 nn224;have s225 := x222.sz;have z226 := x222;refine vo ?_;have hSa := (hS8.ext z226);refine xapp sl73 in3 hSa.p rfl rfl b223 (by simp only [kb]; omega) (by omega) (by decide) (by omega) ?_;intro va Wa hO hg ho;obtain ⟨ap2, cp2, rfl⟩ := hO.form;have hxa := hSa.x.ck (S := fun q => (Value.slice ap piv.length cp).ownBlock ≠ some q) (grown_ck hg fun b e h => h e) hSa.pb;have hos := (KB.grown hSa.p hg (Nat.zero_le _) (Nat.zero_le _)).below;refine vv (rnc (v := .pointer (some ⟨_, _, none⟩)) rfl rfl) (vv (rfa rfl fd141_1) (vo (st1 (v := .slice _ _ _) (cs' := [_, _, _, _]) hxa rfl rfl sz73 rfl rfl rfl rfl ?_)));intro Wb yb hxb;obtain ⟨hSb, kdb⟩ := hSa.push hO hg ho hos yb hxb;have hkb : KD (fun b => KQ bw (Value.slice av rows.length cv) (Value.slice ap piv.length cp) b ∧ ¬ xd b) w Wb := (hk8.trans (Ext.kd z226)).trans (kdb.mono fun _ h => h.1); have sza := (z226).sz;refine vnil (V.seq (V.reg rfl ?_));refine asb rfl (vnil (V.ret ⟨[.bool true], ⟨rfl, trivial⟩, ?_⟩));refine ⟨true, .slice ap2 (piv ++ [(k : Int)]).length cp2, rfl, hkb, ?_, fun b hb => ?_⟩
      ·rw [colS_of hP hid, ← er1, ← ed1, ← ed2];have e : colR rows piv.length k i = elimS rows2 piv.length k rows.length := by rw [er2, er1]; rfl
       rw [e, show elimS rows2 piv.length k rows.length = elimS rows2 piv.length k j by rw [show j = rows.length by omega]];exact hSb.sz (by omega)
      ·rcases ho with h' | h'
       ·exact .inl (h' ▸ hb)
       ·rw [h'] at hb; injection hb with hb; exact .inr (by omega)
    ·intro c9;have hP : IsP rows k piv.length i := ⟨hi1, by omega, hz, fun _ h => c5 (cq_eq.2 h)⟩;refine vnil (V.condF rfl (V.skip (V.seq (V.reg rfl ?_))));have hid : i < rows.length := by omega
     have hdd : piv.length < rows.length := by omega
     obtain ⟨rows1, er1⟩ : ∃ r, r = swapR rows i piv.length := ⟨_, rfl⟩;obtain ⟨δ1, ed1⟩ : ∃ x, x = (if i = piv.length then δ else -δ) := ⟨_, rfl⟩;have hS5 : WS B bw (.func (.func fS) #[] cS.toArray) (.func (.func fD) #[] cD.toArray) xd CX (Value.slice av rows.length cv) (Value.slice ap piv.length cp) L rows1 piv δ1 W21 := by rw [er1, ed1, if_pos (by omega), show i = piv.length by omega, swapR_self]; exact (hS.ext z24)
     have hl1r : rows1.length = rows.length := by rw [er1, swapR_len]
     have hr1 : rect N rows1 := by rw [er1]; exact hr.swap hid hdd
     have hsz1 : szR L rows1 := by rw [er1]; exact hsz.swap _ _
     have hnz : mat rows1 piv.length k ≠ 0 := by rw [er1, mat_swap hid hdd]; exact hP.2.2.2 hid
     have hrow1 := hr1.row (i := ((piv.length : Nat) : Int).toNat) (by omega);have hM5 := hS5.ma rfl hsz1;obtain ⟨ra2, rk2, rc2, hc2, hg2⟩ := (hS5).row rfl (i := (piv.length : Int)) (by omega) (by omega);have ce2 : C1 W21 _ _ := hc2; have hga2 := hg2.va (hsz1.row _); have hgl2 := hg2.len;have bx228 := (hS5).x;refine mvp rfl (vv (rnc (v := .pointer (some ⟨_, _, none⟩)) rfl rfl) (vv (rfa rfl fd141_0) (vv (rldb (v := .slice av rows.length cv) rfl sc22 bx228 rfl) (mvi rfl (vv (rix sl22 sz23 rfl rfl (by omega) (by omega) (hM5.isS (i := 0) (by omega) (by omega))) ?_)))));refine vv (rld1 (v := .slice _ _ _) rfl sc23 ce2) (mvi rfl (vv (rix sl23 sz48 rfl rfl (by omega) (by omega) (hga2.isS (i := 0) (by omega) (by omega))) ?_));refine vldQ hga2 rfl ag48 (by omega) (by omega) ?_;intro n229 a230 l231 c232 n233 a234 l235 c236 hq237;refine vo (xal zc48 ?_);intro W238 x239 b240 nn241;have s242 := x239.sz;have z243 := z24.trans x239;have z244 := x239;replace bx228 := bx228.ext x239;refine vo (sta (cs' := [_, _, _, _]) b240 rfl rfl sz48 rfl rfl rfl ?_);intro W245 y246 b240;have z247 := z243.below (y246.below (by omega));have z248 := z244.below (y246.below (by omega));replace bx228 := bx228.wr y246 (by omega);have s249 := y246.size;refine vnil (V.seq (V.regB [5] mixed rfl ?_));intro W250 x251;have s252 := x251.sz;have z253 := z247.trans x251;have z254 := z248.trans x251;replace bx228 := bx228.ext x251;replace b240 := b240.ext x251;have q255 := Ext.refl W250;have r256 := bx228;have r257 := b240;refine tkP 0 rfl (by kernel_rfl) (by kernel_rfl) (fun _ => q255) (pv (fun _ _ => rmv (v := .pointer (some ⟨_, _, none⟩)) rfl)) ?_;refine tkP 1 rfl (by kernel_rfl) (by kernel_rfl) (fun _ => q255) (pv (fun _ _ => rnc (v := .pointer (some ⟨_, _, none⟩)) rfl rfl)) ?_;refine tkP 2 rfl (by kernel_rfl) (by kernel_rfl) (fun _ => q255) (pv (fun _ _ => rfa rfl fd141_3)) ?_;refine tkB 3 rfl (by kernel_rfl) q255 (pv (fun _ y261 => rldb (v := .func (.func fD) #[] cD.toArray) rfl sc139 (r256.ext y261) rfl)) ?_;refine tkB 4 rfl (by kernel_rfl) q255 (pv (fun _ y262 => rldb4 rfl ag48 (r257.ext y262) rfl rfl rfl rfl )) ?_;refine efB 5 (by kernel_rfl) rfl ?_;refine xcall heD (hcD L L _ _ _ [_, _, _, _] _ ((hS5.ext z254)).c ((hS5.ext z254)).upq (((hq237.ext z254)).sub fun _ _ _ => trivial) hl1 (by omega)) rfl rfl ?_;rintro _ W6 ⟨rfl, kd6, hc6⟩;refine ⟨_, rfl, ?_⟩;have hS6 := ((hS5.ext z254)).ckB kd6 hc6;have bk264 := b240.kd kd6 (((hS5.ext z254)).nx (by omega));have hk263 : KD (fun b => KQ bw (Value.slice av rows.length cv) (Value.slice ap piv.length cp) b ∧ ¬ xd b) w W6 := (hk0.trans (Ext.kd z253)).trans (kd6.mono fun _ h => h.2);have hq237k := (hq237.ext z254).ck (kd6.ck.sub fun _ h => ((hS5.ext z254)).nx h.1.1);have zz265 := Ext.refl W6; have sk266 := hk263.size;have hM6 := hS6.ma rfl hsz1;obtain ⟨ra3, rk3, rc3, hc3, hg3⟩ := (hS6).row rfl (i := (piv.length : Int)) (by omega) (by omega);have ce3 : C1 W6 _ _ := hc3; have hga3 := hg3.va (hsz1.row _); have hgl3 := hg3.len;have bx267 := (hS6).x;refine notW (by kernel_rfl) ?_;refine dnB (by kernel_rfl) ?_;refine V.seq (V.regD mixed rfl ?_);intro W268 x269;have s270 := x269.sz;have z271 := x269;replace bk264 := bk264.ext x269;replace bx267 := bx267.ext x269;have q272 := Ext.refl W268;have r273 := bk264;have r274 := bx267;refine tk 0 rfl (by kernel_rfl) q272 (pv (fun _ y275 => rmv (v := .pointer (some ⟨_, _, none⟩)) rfl)) ?_;refine tk 1 rfl (by kernel_rfl) q272 (pv (fun _ y276 => rnc (v := .pointer (some ⟨_, _, none⟩)) rfl rfl)) ?_;refine tk 2 rfl (by kernel_rfl) q272 (pv (fun _ y277 => rfa rfl fd141_0)) ?_;refine tk 3 rfl (by kernel_rfl) q272 (pv (fun _ y278 => rldb (v := .slice av rows.length cv) rfl sc22 (r274.ext y278) rfl)) ?_;refine tk 4 rfl (by kernel_rfl) q272 (pv (fun _ y279 => rmv (v := .int _ _) rfl)) ?_;refine tk 6 rfl (by kernel_rfl) q272 (pv (fun _ y280 => rldb4 rfl ag48 (r273.ext y280) rfl rfl rfl rfl )) ?_;refine tk 8 rfl (by kernel_rfl) q272 (pv (fun _ y281 => rmv (v := .pointer (some ⟨_, _, none⟩)) rfl)) ?_;refine tk 9 rfl (by kernel_rfl) q272 (pv (fun _ y282 => rnc (v := .pointer (some ⟨_, _, none⟩)) rfl rfl)) ?_;refine tk 10 rfl (by kernel_rfl) q272 (pv (fun _ y283 => rfa rfl fd141_0)) ?_;refine tk 11 rfl (by kernel_rfl) q272 (pv (fun _ y284 => rldb (v := .slice av rows.length cv) rfl sc22 (r274.ext y284) rfl)) ?_;refine tk 12 rfl (by kernel_rfl) q272 (pv (fun _ y285 => rmv (v := .int _ _) rfl)) ?_;refine tk 13 rfl (by kernel_rfl) q272 (pv (fun _ y286 => rix sl22 sz23 rfl rfl (by omega) (by omega) (((hM6.ext z271).ext y286).isS (i := 0) (by omega) (by omega)))) ?_;refine tk 14 rfl (by kernel_rfl) q272 (pv (fun _ y287 => rld1 (v := .slice _ _ _) rfl sc23 ((ce3.ext z271).ext y287))) ?_;refine ef 5 (by kernel_rfl) rfl ?_;refine xcall e27 (fFrom_ok 1 TT _ (by omega) (TT.up _)) rfl rfl ?_;rintro _ W289 ⟨_, rfl, x290, hq288⟩;have s291 := x290.sz;have z292 := z271.trans x290;replace bk264 := bk264.ext x290;have q293 := q272.trans x290;obtain ⟨_, _, _, _, _, _, _, _, rfl⟩ := hq288.form;refine ⟨_, rfl, ?_⟩;refine ⟨fun _ => q293, ?_⟩;refine ef 7 (by kernel_rfl) rfl ?_;refine xcall e199 (by_ok [_, _, _, _] [_, _, _, _] _ _ 1 L TT _ _ _ ((hq288).qa szOne') (hq237k.ext z292) (by omega) (by omega) (by omega) (TT.up _) hnz) rfl rfl ?_;rintro _ W295 ⟨_, rfl, x296, hq294⟩;have s297 := x296.sz;have z298 := z292.trans x296;replace bk264 := bk264.ext x296;have q299 := q293.trans x296;obtain ⟨_, _, _, _, _, _, _, _, rfl⟩ := hq294.form;refine ⟨_, rfl, ?_⟩;refine ⟨fun _ => q299, ?_⟩;refine ef 15 (by kernel_rfl) rfl ?_;refine xcall e26 (vScale_ok [_, _, _, _] _ _ _ _ L L _ (SO (XS B bw (Value.slice ap piv.length cp)) (Value.slice av rows.length cv)) _ _ _ (hga3.ext z298) ((hq294).qa (sz_inv (hsz1.at hl1 _ _) hl1)) (by omega) (by omega) (by omega) (by omega) ((hS6.ext z298)).up) rfl rfl ?_;rintro _ W300 ⟨_, _, _, rfl, x301, hsc⟩;have s302 := x301.sz;have z303 := z298.trans x301;replace bk264 := bk264.ext x301;have q304 := q299.trans x301;have hsc2 : GC _ _ _ _ _ (sclR (1 / mat rows1 piv.length k) (rowat rows1 piv.length)) := hsc.cast (by unfold sclR; rw [show (rowat rows1 piv.length).length = rk3 from hgl3]; rfl);refine ⟨_, rfl, ?_⟩;refine ⟨fun _ => q304, ?_⟩;refine tk 16 rfl (by kernel_rfl) q304 (pv (fun _ y305 => rix sl22 sz23 rfl rfl (by omega) (by omega) (((hM6.ext z271).ext y305).isS (i := 0) (by omega) (by omega)))) ?_;refine ef 17 (by kernel_rfl) rfl ?_;refine xstW (hS6.ext z303) rfl rfl rfl sz23 (by omega) (by omega) hsc2 ?_;intro W7 hS7' kd7;have bk307 := bk264.kd kd7 (((hS6.ext z303)).nb bk264 (by decide) (by decide) (by omega));have hk306 : KD (fun b => KQ bw (Value.slice av rows.length cv) (Value.slice ap piv.length cp) b ∧ ¬ xd b) w W7 := (hk263.trans (Ext.kd z303)).trans (kd7.mono fun _ h => h.1);have zz308 := Ext.refl W7; have sk309 := hk306.size;obtain ⟨rows2, er2⟩ : ∃ r, r = divR rows1 piv.length k := ⟨_, rfl⟩;obtain ⟨δ2, ed2⟩ : ∃ x, x = δ1 * mat rows1 piv.length k := ⟨_, rfl⟩;have hl2r : rows2.length = rows.length := by rw [er2, divR_len, hl1r]
     have hS7 : WS B bw (.func (.func fS) #[] cS.toArray) (.func (.func fD) #[] cD.toArray) xd CX (Value.slice av rows.length cv) (Value.slice ap piv.length cp) (L + L) rows2 piv δ2 W7 := by rw [er2, ed2]; exact hS7'
     have bx310 := (hS7).x;have hrE : ∀ i, rect N (elimS rows2 piv.length k i) := fun i => by rw [er2]; exact (hr1.div (by omega)).elim (by rw [divR_len]; omega)
     have hszE : ∀ i, szR (5 * L) (elimS rows2 piv.length k i) := fun i => by rw [er2]; exact elimS_sz hsz1 hl1 (by omega) k i
     refine lastT (by kernel_rfl) ?_;refine dn (by kernel_rfl) ?_;refine V.seq (V.seq (V.reg rfl ?_));refine mvp rfl (vv (rnc (v := .pointer (some ⟨_, _, none⟩)) rfl rfl) (vv (rfa rfl fd141_0) (vv (rldb (v := .slice av rows.length cv) rfl sc22 bx310 rfl) (vv (rlen sl22 rfl) (mvi rfl (vnil (V.block (V.loopK (ι := Nat) [(0, .pointer (some ⟨_, _, none⟩)), (1, .int _ _), (4, .bool false), (5, .int _ _), (112, .int _ _)] (fun j => [(113, .int .i64 (j : Int))]) (fun j W => j ≤ rows.length ∧ WS B bw (.func (.func fS) #[] cS.toArray) (.func (.func fD) #[] cD.toArray) xd CX (Value.slice av rows.length cv) (Value.slice ap piv.length cp) (L + L) (elimS rows2 piv.length k j) piv δ2 W ∧ KD (fun b => KQ bw (Value.slice av rows.length cv) (Value.slice ap piv.length cp) b ∧ ¬ xd b) w W) (fun j => rows.length - j) (0) ⟨rfl, rfl, rfl, rfl, rfl, trivial⟩ ⟨rfl, trivial⟩ ⟨Nat.zero_le _, (by rw [elimS_zero]; exact hS7), (hk306.trans (Ext.kd zz308))⟩ ?_))))))));intro j E312 W311 h313;obtain ⟨hi8, hS8, hk8⟩ := h313;have hM8 := hS8.ma rfl (hszE j); have sk8 := hk8.size; have zz8 := Ext.refl W311;have bx314 := (hS8).x;refine V.seq (V.reg rfl ?_);refine vlt rfl rfl ?_ ?_
     ·intro c315;have hlE := elimS_len rows2 piv.length k j; have hrowE := (hrE j).row (i := ((j : Nat) : Int).toNat) (by omega);have hrwE : rowat (elimS rows2 piv.length k j) j = rowat rows2 j := by rw [elimS_row (by omega), if_neg (by omega)]
      have hrwD : rowat (elimS rows2 piv.length k j) piv.length = rowat rows2 piv.length := by rw [elimS_row (by omega)]; split <;> simp [elimT]
      have hlD := (hrE j).row (i := ((piv.length : Nat) : Int).toNat) (by omega);obtain ⟨ra4, rk4, rc4, hc4, hg4⟩ := (hS8).row rfl (i := (j : Int)) (by omega) (by omega);have ce4 : C1 W311 _ _ := hc4; have hga4 := hg4.va ((hszE j).row _); have hgl4 := hg4.len;obtain ⟨ra5, rk5, rc5, hc5, hg5⟩ := (hS8).row rfl (i := (piv.length : Int)) (by omega) (by omega);have ce5 : C1 W311 _ _ := hc5; have hga5 := hg5.va ((hszE j).row _); have hgl5 := hg5.len;refine vnil (V.seq (V.condT rfl (V.skip (V.seq (V.block (V.seq (V.reg rfl ?_)))))));refine mvi rfl (asi rfl (vnil (V.seq (V.reg rfl ?_))));refine mvp rfl (vv (rnc (v := .pointer (some ⟨_, _, none⟩)) rfl rfl) (vv (rfa rfl fd141_0) (vv (rldb (v := .slice av rows.length cv) rfl sc22 bx314 rfl) (mvi rfl (vv (rix sl22 sz23 rfl rfl (by omega) (by omega) (hM8.isS (i := 0) (by omega) (by omega))) ?_)))));refine vv (rld1 (v := .slice _ _ _) rfl sc23 ce4) (mvi rfl (vv (rix sl23 sz48 rfl rfl (by omega) (by omega) (hga4.isS (i := 0) (by omega) (by omega))) ?_));refine vldQ hga4 rfl ag48 (by omega) (by omega) ?_;intro n316 a317 l318 c319 n320 a321 l322 c323 hq324;refine vo (xal zc48 ?_);intro W325 x326 b327 nn328;have s329 := x326.sz;have z330 := x326;replace bx314 := bx314.ext x326;refine vo (sta (cs' := [_, _, _, _]) b327 rfl rfl sz48 rfl rfl rfl ?_);intro W331 y332 b327;have z333 := z330.below (y332.below (by omega));replace bx314 := bx314.wr y332 (by omega);have s334 := y332.size;refine vnil (V.seq (V.reg rfl ?_));refine mvi rfl (mvi rfl (vne rfl rfl ?_ ?_))
      ·intro c19;refine mvb rfl (vg rfl (vv (rldb4 rfl ag48 b327 rfl rfl rfl rfl ) (vg rfl (vo (xcall e66 (fSign_ok _ _ _ _ _ (hq324.ext z333) (by omega) (by omega)) rfl rfl ?_)))));rintro _ W335 ⟨rfl, x336⟩;have s337 := x336.sz;have z338 := z333.trans x336;replace bx314 := bx314.ext x336;replace b327 := b327.ext x336;refine ⟨_, rfl, ?_⟩;refine vg rfl (vne rfl rfl ?_ ?_)
       ·intro c19b;refine vv (rpk (v := .bool true) rfl rfl) (vnil (V.condT rfl (V.regD mixed rfl ?_)));intro W339 x340;have s341 := x340.sz;have z342 := z338.trans x340;replace bx314 := bx314.ext x340;replace b327 := b327.ext x340;have q343 := Ext.refl W339;have r344 := bx314;have r345 := b327;refine tk 0 rfl (by kernel_rfl) q343 (pv (fun _ y346 => rmv (v := .pointer (some ⟨_, _, none⟩)) rfl)) ?_;refine tk 1 rfl (by kernel_rfl) q343 (pv (fun _ y347 => rnc (v := .pointer (some ⟨_, _, none⟩)) rfl rfl)) ?_;refine tk 2 rfl (by kernel_rfl) q343 (pv (fun _ y348 => rfa rfl fd141_0)) ?_;refine tk 3 rfl (by kernel_rfl) q343 (pv (fun _ y349 => rldb (v := .slice av rows.length cv) rfl sc22 (r344.ext y349) rfl)) ?_;refine tk 4 rfl (by kernel_rfl) q343 (pv (fun _ y350 => rmv (v := .int _ _) rfl)) ?_;refine tk 5 rfl (by kernel_rfl) q343 (pv (fun _ y351 => rldb4 rfl ag48 (r345.ext y351) rfl rfl rfl rfl )) ?_;refine tk 7 rfl (by kernel_rfl) q343 (pv (fun _ y352 => rmv (v := .pointer (some ⟨_, _, none⟩)) rfl)) ?_;refine tk 8 rfl (by kernel_rfl) q343 (pv (fun _ y353 => rnc (v := .pointer (some ⟨_, _, none⟩)) rfl rfl)) ?_;refine tk 9 rfl (by kernel_rfl) q343 (pv (fun _ y354 => rfa rfl fd141_0)) ?_;refine tk 10 rfl (by kernel_rfl) q343 (pv (fun _ y355 => rldb (v := .slice av rows.length cv) rfl sc22 (r344.ext y355) rfl)) ?_;refine tk 11 rfl (by kernel_rfl) q343 (pv (fun _ y356 => rmv (v := .int _ _) rfl)) ?_;refine tk 12 rfl (by kernel_rfl) q343 (pv (fun _ y357 => rix sl22 sz23 rfl rfl (by omega) (by omega) (((hM8.ext z342).ext y357).isS (i := 0) (by omega) (by omega)))) ?_;refine tk 13 rfl (by kernel_rfl) q343 (pv (fun _ y358 => rld1 (v := .slice _ _ _) rfl sc23 ((ce5.ext z342).ext y358))) ?_;refine tk 14 rfl (by kernel_rfl) q343 (pv (fun _ y359 => rmv (v := .pointer (some ⟨_, _, none⟩)) rfl)) ?_;refine tk 15 rfl (by kernel_rfl) q343 (pv (fun _ y360 => rnc (v := .pointer (some ⟨_, _, none⟩)) rfl rfl)) ?_;refine tk 16 rfl (by kernel_rfl) q343 (pv (fun _ y361 => rfa rfl fd141_0)) ?_;refine tk 17 rfl (by kernel_rfl) q343 (pv (fun _ y362 => rldb (v := .slice av rows.length cv) rfl sc22 (r344.ext y362) rfl)) ?_;refine tk 18 rfl (by kernel_rfl) q343 (pv (fun _ y363 => rmv (v := .int _ _) rfl)) ?_;refine tk 19 rfl (by kernel_rfl) q343 (pv (fun _ y364 => rix sl22 sz23 rfl rfl (by omega) (by omega) (((hM8.ext z342).ext y364).isS (i := 0) (by omega) (by omega)))) ?_;refine tk 20 rfl (by kernel_rfl) q343 (pv (fun _ y365 => rld1 (v := .slice _ _ _) rfl sc23 ((ce4.ext z342).ext y365))) ?_;refine ef 6 (by kernel_rfl) rfl ?_;refine xcall e72 (fNeg_ok _ _ _ _ _ _ (hq324.ext z342) (by omega) (by omega) (TT.up _)) rfl rfl ?_;rintro _ W367 ⟨_, rfl, x368, hq366⟩;have s369 := x368.sz;have z370 := z342.trans x368;replace b327 := b327.ext x368;have q371 := q343.trans x368;obtain ⟨_, _, _, _, _, _, _, _, rfl⟩ := hq366.form;refine ⟨_, rfl, ?_⟩;refine ⟨fun _ => q371, ?_⟩;refine ef 21 (by kernel_rfl) rfl ?_;refine xcall e68 (vScl_ok [_, _, _, _] _ (5 * L) TT _ _ _ _ _ _ (5 * L) (5 * L) _ _ (SO (XS B bw (Value.slice ap piv.length cp)) (Value.slice av rows.length cv)) _ _ _ (hga5.ext z370) (hga4.ext z370) ((hq366).qa (sz_neg ((hszE j).at (by omega) _ _))) (by omega) (by omega) (by omega) (by omega) (by omega) (by omega) ((hS8.ext z370)).up) rfl rfl ?_;rintro _ W372 ⟨_, _, _, rfl, x373, hax⟩;have s374 := x373.sz;have z375 := z370.trans x373;replace b327 := b327.ext x373;have q376 := q371.trans x373;have hax2 : GC _ _ _ _ _ (elimT rows2 piv.length k j) := hax.cast (by rw [elimT, if_neg (by rintro (h | h); omega; exact c19b (cq_eq.2 (show mat (elimS rows2 piv.length k j) j k = 0 by rw [mat, hrwE]; exact h))), axR, ← hrwE, ← hrwD, mat, ← hrwE, show (rowat (elimS rows2 piv.length k j) piv.length).length = rk5 from hgl5, show (rowat (elimS rows2 piv.length k j) j).length = rk4 from hgl4]; rfl);have hgax := hax2.len;refine ⟨_, rfl, ?_⟩;refine ⟨fun _ => q376, ?_⟩;refine tk 22 rfl (by kernel_rfl) q376 (pv (fun _ y377 => rix sl22 sz23 rfl rfl (by omega) (by omega) (((hM8.ext z342).ext y377).isS (i := 0) (by omega) (by omega)))) ?_;refine ef 23 (by kernel_rfl) rfl ?_;refine xstW (hS8.ext z375) rfl rfl rfl sz23 (by omega) (by omega) hax2 ?_;intro W9 hS9 kd9;have bk379 := b327.kd kd9 (((hS8.ext z375)).nb b327 (by decide) (by decide) (by omega));have hk378 : KD (fun b => KQ bw (Value.slice av rows.length cv) (Value.slice ap piv.length cp) b ∧ ¬ xd b) w W9 := (hk8.trans (Ext.kd z375)).trans (kd9.mono fun _ h => h.1);have zz380 := Ext.refl W9; have sk381 := hk378.size;have bx382 := (hS9).x;refine lastT (by kernel_rfl) ?_;refine dn (by kernel_rfl) ?_;refine V.reg rfl (vv (rbin (bAdd (wi (by omega))) rfl rfl) ?_);refine mvi rfl (vnil ⟨rfl, j + 1, ⟨rfl, rfl, rfl, rfl, rfl, trivial⟩, ⟨rfl, trivial⟩, ⟨by omega, (by rw [elimS_succ (by omega)]; exact hS9), (hk378.trans (Ext.kd zz380))⟩, ?_⟩)
        show rows.length - (j + 1) < rows.length - j
        omega
       ·intro c19b;refine vv (rpk (v := .bool false) rfl rfl) (vnil (V.condF rfl (V.skip (V.reg rfl (vv (rbin (bAdd (wi (by omega))) rfl rfl) ?_)))));refine mvi rfl (vnil ⟨rfl, j + 1, ⟨rfl, rfl, rfl, rfl, rfl, trivial⟩, ⟨rfl, trivial⟩, ⟨by omega, (by rw [elimS_keep (by omega) (.inr (by rw [mat, ← hrwE]; exact cq_eq.1 c19b))]; exact (hS8.ext z338)), (hk8.trans (Ext.kd z338))⟩, ?_⟩)
        show rows.length - (j + 1) < rows.length - j
        omega
      ·intro c19;refine mvb rfl (vgn (b := false) rfl rfl (vgn (b := false) rfl rfl (vgn (b := false) rfl rfl (vv (rpk (v := .bool false) rfl rfl) (vnil (V.condF rfl (V.skip (V.reg rfl (vv (rbin (bAdd (wi (by omega))) rfl rfl) ?_)))))))));refine mvi rfl (vnil ⟨rfl, j + 1, ⟨rfl, rfl, rfl, rfl, rfl, trivial⟩, ⟨rfl, trivial⟩, ⟨by omega, (by rw [elimS_keep (by omega) (.inl (by omega))]; exact (hS8.ext z333)), (hk8.trans (Ext.kd z333))⟩, ?_⟩)
       show rows.length - (j + 1) < rows.length - j
       omega
     ·intro c315;refine vnil (V.seq (V.condF rfl (V.exit (V.seq (V.reg rfl ?_)))));refine mvp rfl (mvp rfl (vv (rnc (v := .pointer (some ⟨_, _, none⟩)) rfl rfl) (vv (rfa rfl fd141_1) (vv (rldb (v := .slice ap piv.length cp) rfl sc73 bx314 rfl) (mvi rfl (vo (xbs (ps := [(0, .int _ _)]) (cs := [.int _ _]) sl73 zr3 sz3 rfl rfl rfl rfl rfl rfl ?_)))))));intro W383 x384 b385 nn386;have s387 := x384.sz;have z388 := x384;refine vo ?_;have hSa := (hS8.ext z388);refine xapp sl73 in3 hSa.p rfl rfl b385 (by simp only [kb]; omega) (by omega) (by decide) (by omega) ?_;intro va Wa hO hg ho;obtain ⟨ap2, cp2, rfl⟩ := hO.form;have hxa := hSa.x.ck (S := fun q => (Value.slice ap piv.length cp).ownBlock ≠ some q) (grown_ck hg fun b e h => h e) hSa.pb;have hos := (KB.grown hSa.p hg (Nat.zero_le _) (Nat.zero_le _)).below;refine vv (rnc (v := .pointer (some ⟨_, _, none⟩)) rfl rfl) (vv (rfa rfl fd141_1) (vo (st1 (v := .slice _ _ _) (cs' := [_, _, _, _]) hxa rfl rfl sz73 rfl rfl rfl rfl ?_)));intro Wb yb hxb;obtain ⟨hSb, kdb⟩ := hSa.push hO hg ho hos yb hxb;have hkb : KD (fun b => KQ bw (Value.slice av rows.length cv) (Value.slice ap piv.length cp) b ∧ ¬ xd b) w Wb := (hk8.trans (Ext.kd z388)).trans (kdb.mono fun _ h => h.1); have sza := (z388).sz;refine vnil (V.seq (V.reg rfl ?_));refine asb rfl (vnil (V.ret ⟨[.bool true], ⟨rfl, trivial⟩, ?_⟩));refine ⟨true, .slice ap2 (piv ++ [(k : Int)]).length cp2, rfl, hkb, ?_, fun b hb => ?_⟩
      ·rw [colS_of hP hid, ← er1, ← ed1, ← ed2];have e : colR rows piv.length k i = elimS rows2 piv.length k rows.length := by rw [er2, er1]; rfl
       rw [e, show elimS rows2 piv.length k rows.length = elimS rows2 piv.length k j by rw [show j = rows.length by omega]];exact hSb.sz (by omega)
      ·rcases ho with h' | h'
       ·exact .inl (h' ▸ hb)
       ·rw [h'] at hb; injection hb with hb; exact .inr (by omega)
  ·intro c5;refine vnil (V.condF rfl (V.skip (V.reg rfl (mvi rfl (vv (rbin (bAdd (wi (by omega))) rfl rfl) ?_)))));refine asi rfl (vnil ⟨rfl, i + 1, ⟨rfl, rfl, rfl, rfl, trivial⟩, ⟨rfl, rfl, trivial⟩, ⟨z24, by omega, by omega, fun j h1 h2 => (by rcases Nat.lt_succ_iff_lt_or_eq.1 h2 with h | rfl; exact hz j h1 h; exact cq_eq.1 c5)⟩, ?_⟩)
   show rows.length - (i + 1) < rows.length - i
   omega
 ·intro c7;refine vnil (V.condF rfl (V.exit (V.seq (V.seq (V.reg rfl ?_)))));refine mvi rfl (vlt rfl rfl ?_ ?_)
  ·intro c389;refine vnil (V.condT rfl (V.seq (V.reg rfl ?_)));refine asb rfl (vnil (V.ret ⟨[.bool false], ⟨rfl, trivial⟩, ?_⟩));refine ⟨false, .slice ap piv.length cp, rfl, (Ext.kd z6), ?_, fun b hb => .inl hb⟩;rw [colS_no ⟨hp, Nat.le_refl _, fun j h1 h2 => hz j h1 (by omega), fun h => by omega⟩];exact ((hS.ext z6)).sz (by omega)
  ·intro c389;omega
theorem CL.noop : CL (fun _ => False) (.func (.func 167) #[] #[]) (.func (.func 168) #[] #[]) (fun _ _ _ _ => True) where
  ck := fun _ _ _ _ => trivial
  sub := fun _ _ => trivial
  mono := fun _ _ => trivial
  sw := ⟨_, [], rfl, e167, fun L S W δ _ _ _ => (begin1_ok W).mono fun _ _ ⟨h1, h2⟩ => ⟨h1, by subst h2; exact KD.refl _ _, trivial⟩⟩
  dv := ⟨_, [], rfl, e168, fun L M S W δ q r _ _ hq _ _ => (begin2_ok q r M _ W hq).mono fun _ _ ⟨h1, h2⟩ => ⟨h1, h2.kd, trivial⟩⟩
/-- What begin lays. -/
theorem WS.begin {W w : World} {bw : Nat} {v : Value} {rows : List (List Rat)} (h : BoxAt W bw [v, .slice none 0 0, .func (.func 167) #[] #[], .func (.func 168) #[] #[]] 141) (hG : GO 1 (RowOf GC) (XS w.heap.size bw (.slice none 0 0)) w.heap.size W 23 v rows) (hb : w.heap.size ≤ bw) (L : Nat) :
    WS w.heap.size bw (.func (.func 167) #[] #[]) (.func (.func 168) #[] #[]) (fun _ => False) (fun _ _ _ _ => True) v (.slice none 0 0) L rows [] 1 W :=
  ⟨CL.noop, h, hG, OI.nil _ _ _ _, trivial, hb, fun _ h => h.elim⟩
theorem redS_S (rows : List (List Rat)) (n : Nat) : redS rows (n + 1) = colS ((redS rows n).1, (redS rows n).2.1, (redS rows n).2.2) n := rfl
theorem WS.fin {B bw L n c n' c' : Nat} {fs fd : Value} {xd : Nat → Prop} {CX : Nat → (Nat → Prop) → World → Rat → Prop} {rows : List (List Rat)} {piv : List Int} {δ : Rat} {W : World} {a a' : Option Addr} {S : Nat → Prop} (h : WS B bw fs fd xd CX (.slice a n c) (.slice a' n' c') L rows piv δ W) (hS : ∀ b, B ≤ b → b < W.heap.size → S b) : MC S W a n c rows ∧ RN .i64 S W a' n' c' piv := by
  refine ⟨?_, h.p.rn hS⟩;obtain ⟨qs, h1, h2⟩ := h.g;exact ⟨qs, h1.rs hS, h2.imp fun _ _ hq => okRowC.sub hq fun b hb hs => hS b hs.1.1 hb⟩

set_option maxHeartbeats 400000 in
theorem all5_ok (B bw : Nat) (fs fd : Value) (xd : Nat → Prop) (CX : Nat → (Nat → Prop) → World → Rat → Prop) (v : Value) (L N n : Nat) (rows : List (List Rat)) (w : World) (hK0 : WS B bw fs fd xd CX v (.slice none 0 0) L rows [] 1 w) (hr : rect N rows) (hsz : szR L rows) (hnN : n ≤ N) (hl1 : 1 ≤ L) (hL : 15 * (L * 5 ^ n) + 2 < LY) (hn : rows.length ≤ 1024) (hN : N ≤ 1024) :
    Calls Tryz.prog 125 #[.pointer (some ⟨bw, 0, none⟩), .int .i64 (n : Int)] w (fun e w' => ∃ pv', e = .returned (.pointer (some ⟨bw, 0, none⟩)) ∧ KD (fun b => b < w.heap.size ∧ b ≠ bw ∧ v.ownBlock ≠ some b ∧ ¬ xd b) w w' ∧ WS B bw fs fd xd CX v pv' (L * 5 ^ n) (redS rows n).1 (redS rows n).2.1 (redS rows n).2.2 w' ∧ ∀ b, pv'.ownBlock = some b → w.heap.size ≤ b) := by
 have z0 := Ext.refl w; have hLX : LX = 17592186044416 := rfl; have hLY : LY = 8796093022208 := rfl;have hLV : LV = 1099511627776 := rfl;refine enter (args := [.pointer (some ⟨bw, 0, none⟩), .int .i64 (n : Int)]) Tryz.func125 rfl rfl (Nat.le_of_ble_eq_true rfl) (V.seq (V.reg rfl ?_));refine asp rfl (vnil (V.seq (V.seq (V.reg rfl ?_))));refine mvi rfl (mvi rfl (vnil (V.block (V.loopK (ι := Nat) [(0, .pointer (some ⟨bw, 0, none⟩)), (4, .pointer _), (6, .int _ _)] (fun k => [(7, .int .i64 (k : Int))]) (fun k W => ∃ pv, k ≤ n ∧ KD (fun b => b < w.heap.size ∧ b ≠ bw ∧ v.ownBlock ≠ some b ∧ ¬ xd b) w W ∧ WS B bw fs fd xd CX v pv (L * 5 ^ k) (redS rows k).1 (redS rows k).2.1 (redS rows k).2.2 W ∧ ∀ b, pv.ownBlock = some b → w.heap.size ≤ b) (fun k => n - k) (0) ⟨rfl, rfl, rfl, trivial⟩ ⟨rfl, trivial⟩ ⟨_, Nat.zero_le _, (Ext.kd (Ext.refl w)), (hK0).sz (by simp), fun b hb => (by simp [Value.ownBlock] at hb)⟩ ?_))));intro k E2 W1 h3;obtain ⟨pv, hk, hkd, hK, hpv⟩ := h3;have zz1 := Ext.refl W1; have szk := hkd.size;refine V.seq (V.reg rfl ?_);refine vlt rfl rfl ?_ ?_
 ·intro c4;refine vnil (V.seq (V.condT rfl (V.skip (V.seq (V.block (V.seq (V.reg rfl ?_)))))));refine mvi rfl (asi rfl (vnil (V.reg rfl (vv (rmv (v := .pointer (some ⟨bw, 0, none⟩)) rfl) (mvi rfl (vo ?_))))));have ha := redS_all hr hsz hl1 k;have h5k : L * 5 ^ k ≤ L * 5 ^ n := Nat.mul_le_mul_left _ (Nat.pow_le_pow_right (by omega) (by omega));have h5p : 1 ≤ L * 5 ^ k := Nat.mul_pos hl1 (Nat.pow_pos (by omega));refine xcall e169 (column_ok B bw fs fd xd CX v pv (L * 5 ^ k) N k (redS rows k).1 (redS rows k).2.1 (redS rows k).2.2 _ hK ha.2.2.1 ha.2.2.2 (by omega) h5p (by omega) (by rw [ha.1]; exact ha.2.1) (by rw [ha.1]; exact hn) hN) rfl rfl ?_;rintro _ W2 ⟨q, pv2, rfl, kd2, hK2, hp2⟩;refine ⟨_, rfl, ?_⟩;have hkd2 : KD (fun b => b < w.heap.size ∧ b ≠ bw ∧ v.ownBlock ≠ some b ∧ ¬ xd b) w W2 := (hkd.trans (Ext.kd zz1)).trans (kd2.mono fun b h => ⟨⟨h.2.1, h.2.2.1, fun e => by have := hpv b e; omega⟩, h.2.2.2⟩);have sz2 := (zz1).sz;have zz2 := Ext.refl W2;refine vnil (V.reg rfl (vv (rbin (bAdd (wi (by omega))) rfl rfl) ?_));refine mvi rfl (vnil ⟨rfl, k + 1, ⟨rfl, rfl, rfl, trivial⟩, ⟨rfl, trivial⟩, ⟨pv2, by omega, (hkd2.trans (Ext.kd zz2)), (by rw [redS_S, Nat.pow_succ, ← Nat.mul_assoc, Nat.mul_comm (L * 5 ^ k)]; exact hK2), fun b hb => (by rcases hp2 b hb with h | h; exact hpv b h; omega)⟩, ?_⟩)
  show n - (k + 1) < n - k
  omega
 ·intro c4;refine vnil (V.seq (V.condF rfl (V.exit (V.seq (V.reg rfl ?_)))));refine vv (rmv (v := .pointer (some ⟨bw, 0, none⟩)) rfl) (vv (ras (v := .pointer (some ⟨bw, 0, none⟩)) rfl) (vnil (V.ret ⟨[.pointer (some ⟨bw, 0, none⟩)], ⟨rfl, trivial⟩, ?_⟩)));obtain rfl : k = n := by omega
  exact ⟨pv, rfl, hkd.trans (Ext.kd zz1), hK, hpv⟩
set_option maxHeartbeats 400000 in
theorem places_iter {D : Nat → Prop} {w : World} {fs fd v : Value} {ap : Option Addr} {np cp b1 bw : Nat} {piv : List Int} (hb1 : BoxAt w b1 [.pointer (some ⟨bw, 0, none⟩)] 132) (hbw : BoxAt w bw [v, .slice ap np cp, fs, fd] 141) (hp : RN .i64 D w ap np cp piv) (h1 : D b1) (h2 : D bw) :
    Iter Tryz.prog 170 #[.pointer (some ⟨b1, 0, none⟩)] (fun i => .int .i64 (i : Int)) (fun i => .int .i64 (wd piv i)) D piv.length w := by
 have z0 := Ext.refl w; have hLX : LX = 17592186044416 := rfl; have hLY : LY = 8796093022208 := rfl;intro l J Jx X hX hJs hJxs hY hJ0;have hp0 := hp.ext hX; have b10 := hb1.ext hX; have bw0 := hbw.ext hX;have l1 := hp.len; have q1 := hp.cap; have q3 := hp.max;refine enter (args := [.func (.yield l) #[] #[], .pointer (some ⟨b1, 0, none⟩)]) Tryz.func170 rfl rfl (Nat.le_of_ble_eq_true rfl) (V.seq (V.reg rfl ?_));refine vv (rldb (v := .pointer (some ⟨_, _, none⟩)) rfl sc132 b10 rfl) (vv (rnc (v := .pointer (some ⟨_, _, none⟩)) rfl rfl) (vv (rfa rfl fd141_1) (vv (rldb (v := .slice _ _ _) rfl sc73 bw0 rfl) (vv (rlen sl73 rfl) (mvi rfl (vnil (V.block (V.loopK (ι := Nat) [(0, .func _ _ _), (8, .slice _ _ _), (9, .int _ _)] (fun i => [(10, .int .i64 (i : Int))]) (fun i W => J i W ∧ KD D w W ∧ i ≤ piv.length) (fun i => piv.length - i) (0) ⟨rfl, rfl, rfl, trivial⟩ ⟨rfl, trivial⟩ ⟨hJ0, hX.kd, Nat.zero_le _⟩ ?_))))))));intro i E2 W1 h3;obtain ⟨hJ, hkd, hk⟩ := h3;have hp1 := hp.kd hkd;have hYk : ∀ y, y = wd piv i → i < piv.length → YieldAt Fence.wide 0 Tryz.prog l #[.int .i64 (i : Int), .int .i64 y] W1 (fun e B => (e = .returned (.bool true) ∧ J (i + 1) B ∧ KD D W1 B) ∨ (e = .returned (.bool false) ∧ Jx i B ∧ KD D W1 B)) := by intro y ey hlt; subst ey; exact hY i _ hJ hlt hkd
 refine V.seq (V.reg rfl ?_);refine vlt rfl rfl ?_ ?_
 ·intro c4;refine vnil (V.seq (V.condT rfl (V.skip (V.seq (V.block (V.seq (V.reg rfl ?_)))))));refine mvi rfl (vv (rixn hp1 sl73 sz3 rfl rfl (by omega) (by omega)) ?_);refine vldN hp1 rfl sc3 (by omega) (by omega) ?_;intro q5 hq5 hk6;simp only [kb] at hk6;refine asi rfl (asi rfl (vnil (V.seq (V.reg rfl ?_))));refine mvf rfl (mvi rfl (mvi rfl (vo (xyield (vs := [.int _ _, .int _ _]) rfl rfl (hYk _ hq5 (by omega)) ?_))));rintro _ W' (⟨rfl, hJ', hkd'⟩ | ⟨rfl, hJx, hkd'⟩) <;> refine ⟨_, rfl, ?_⟩
  ·skip;refine vv (rnot (q := false) rfl rfl) (vnil (V.condF rfl (V.skip (V.reg rfl (vv (rbin (bAdd (wi (by omega))) rfl rfl) ?_)))));refine mvi rfl (vnil ⟨rfl, i + 1, ⟨rfl, rfl, rfl, trivial⟩, ⟨rfl, trivial⟩, ⟨hJ', hkd.trans hkd', by omega⟩, ?_⟩)
   show piv.length - (i + 1) < piv.length - i
   omega
  ·skip;refine vv (rnot (q := true) rfl rfl) (vnil (V.condT rfl (V.ret ⟨[], trivial, ?_⟩)));exact ⟨⟨_, rfl⟩, .inr ⟨i, by omega, hJx⟩⟩
 ·intro c4;refine vnil (V.seq (V.condF rfl (V.exit ⟨[], trivial, ?_⟩)));exact ⟨⟨_, rfl⟩, .inl (by rw [show piv.length = i by omega]; exact hJ)⟩
set_option maxHeartbeats 400000 in
theorem places_ok (bw : Nat) (w : World) :
    Calls Tryz.prog 126 #[.pointer (some ⟨bw, 0, none⟩)] w (fun e w' => ∃ b1, b1 = w.heap.size ∧ e = .returned (.func (.func 170) #[] #[.pointer (some ⟨b1, 0, none⟩)]) ∧ Ext w w' ∧ BoxAt w' b1 [.pointer (some ⟨bw, 0, none⟩)] 132) := by
 have z0 := Ext.refl w; have hLX : LX = 17592186044416 := rfl; have hLY : LY = 8796093022208 := rfl;refine enter (args := [.pointer (some ⟨bw, 0, none⟩)]) Tryz.func126 rfl rfl (Nat.le_of_ble_eq_true rfl) (V.seq (V.reg rfl ?_));refine vo (bxp rfl ?_);intro W1 x2 b3 nn4;have s5 := x2.sz;have z6 := x2;refine asn rfl (vnil (V.seq (V.reg rfl ?_)));refine vv (rmk1 (v := .pointer (some ⟨_, _, none⟩)) rfl) (asf rfl (vnil (V.ret ⟨[.func _ _ _], ⟨rfl, trivial⟩, ?_⟩)));exact ⟨_, rfl, rfl, z6, b3⟩
structure EJ (w : World) (b4 b1 b2 : Nat) (v1 v2 : Value) (s : Bool) (X : World) : Prop where
  ext : Ext w X
  x4 : BoxAt X b4 [.bool s] 4
  x1 : BoxAt X b1 [v1] 22
  x2 : BoxAt X b2 [v2] 22
theorem EJ.tn {w X Y : World} {B b4 b1 b2 : Nat} {v1 v2 : Value} {s : Bool} (h : EJ w b4 b1 b2 v1 v2 s X) (t : Tn B X Y) (hB : w.heap.size ≤ B) : EJ w b4 b1 b2 v1 v2 s Y := ⟨t.ext h.ext hB, h.x4.tn t, h.x1.tn t, h.x2.tn t⟩
theorem EJ.xt {w X Y : World} {b4 b1 b2 : Nat} {v1 v2 : Value} {s : Bool} (h : EJ w b4 b1 b2 v1 v2 s X) (x : Ext X Y) : EJ w b4 b1 b2 v1 v2 s Y := ⟨h.ext.trans x, h.x4.ext x, h.x1.ext x, h.x2.ext x⟩

theorem GA.cut {L : Nat} {S : Nat → Prop} {W : World} {a : Option Addr} {n c l m : Nat} {rs : List Rat} (h : GA L S W a n c rs) (h0 : l ≤ m) (hm : m ≤ n) : GA L S W (if c = l then a else a.map (·.add (l * 4))) (m - l) (c - l) ((rs.take m).drop l) := by
  obtain ⟨qs, h1, h2⟩ := h; exact ⟨_, h1.cut h0 hm, (h2.take m).drop l⟩
theorem GC.cut {S : Nat → Prop} {W : World} {a : Option Addr} {n c l m : Nat} {rs : List Rat} (h : GC S W a n c rs) (h0 : l ≤ m) (hm : m ≤ n) : GC S W (if c = l then a else a.map (·.add (l * 4))) (m - l) (c - l) ((rs.take m).drop l) := by
  obtain ⟨qs, h1, h2⟩ := h; exact ⟨_, h1.cut h0 hm, (h2.take m).drop l⟩
section
variable {P : Program} {ρ : Operand → Value} {W : World} {d : Option Tmp} {ty T e : TypeId} {pos : String} {af : Array Edge} {g : Option (Nat × Bool)} {x y u : Operand}
/-- x[:m] -/
theorem rsl1 {k' : IntKind} {a : Option Addr} {n c s m : Nat} {z : Int} (hS : Sl P T e) (hs : Sz P e s) (hx : ρ x = .slice a n c) (hy : ρ y = .int k' z) (hz : z = (m : Int)) (hm : m ≤ c) :
    (execOp ρ ⟨d, .slice T x none (some y) none, ty, pos, af, g⟩).run P W = .ok (.value (.slice a m c)) W := by
  subst hz;refine rslg hS hs hx (l := 0) (h := m) ?_ ?_ rfl rfl
  · simp only [Option.map_none, Option.map_some, hy]; exact sb_h hm
  · rw [Nat.zero_mul]
    split
    · rfl
    · cases a <;> simp [add0]
/-- x[l:] -/
theorem rsl0 {k' : IntKind} {a : Option Addr} {n c s l : Nat} {zl : Int} (hS : Sl P T e) (hs : Sz P e s) (hx : ρ x = .slice a n c) (hu : ρ u = .int k' zl) (hl : zl = (l : Int)) (hm : l ≤ n) :
    (execOp ρ ⟨d, .slice T x (some u) none none, ty, pos, af, g⟩).run P W = .ok (.value (.slice (if c = l then a else a.map (·.add (l * s))) (n - l) (c - l))) W := by
  subst hl;refine rslg hS hs hx (l := l) (h := n) ?_ rfl rfl rfl;simp only [Option.map_some, Option.map_none, hu]; exact sb_l hm
end
theorem GO.old {ρt : Type} {El : (Nat → Prop) → World → List Value → ρt → Prop} {S : Nat → Prop} {s B : Nat} {W : World} {e : TypeId} {v : Value} {rs : List ρt} (h : GO s El S B W e v rs) : ∀ b, b < B → v.ownBlock ≠ some b := fun b hb e => by
  obtain ⟨qs, h1, _⟩ := h;have := (h1.low b e).1; omega
theorem MX.ma {L : Nat} {S : Nat → Prop} {W : World} {a : Option Addr} {n c : Nat} {ρss : List (List RawQ)} (h : MX S W a n c ρss) (hs : ∀ r ∈ ρss, ∀ ρ ∈ r, szQ L ρ) : MA L S W a n c (ρss.map (·.map qval)) := by
  obtain ⟨qs, h1, h2⟩ := h;refine ⟨qs, h1, ?_⟩
  clear h1
  induction qs generalizing ρss with
  | nil => cases ρss <;> simp_all [All2]
  | cons q qs ih => cases ρss with
    | nil => exact h2.elim
    | cons r rs => obtain ⟨a, n, c, e, h3⟩ := h2.1; exact ⟨⟨a, n, c, e, h3.va (hs r (by simp))⟩, ih (fun x hx => hs x (by simp [hx])) h2.2⟩
theorem colsN_raw (ρss : List (List RawQ)) : colsN (ρss.map (·.map qval)) = colsG ρss := colsG_map qval ρss
theorem gridm_sz {L : Nat} {f : Int → Int → Rat} {R C : Nat} (h : ∀ i k : Nat, sz L (f i k)) : ∀ r ∈ gridm f R C, szV L r := by
  intro r hr q hq;obtain ⟨i, _, rfl⟩ := List.mem_map.1 hr;obtain ⟨k, _, rfl⟩ := List.mem_map.1 hq;exact h i k
theorem len_gridm (f : Int → Int → Rat) (R C : Nat) : (gridm f R C).length = R := by simp [gridm]
theorem szOne : sz 1 1 := by constructor <;> decide
theorem unitv_sz (N : Nat) (k : Int) : szV 1 (unitv N k) := by
  intro r hr
  unfold unitv at hr
  split at hr
  · rcases List.mem_or_eq_of_mem_set hr with h | h
    · rw [(List.mem_replicate.1 h).2]; exact sz_zero
    · rw [h]; exact szOne
  · rw [(List.mem_replicate.1 hr).2]; exact sz_zero
theorem MA.rowsz {L : Nat} {S : Nat → Prop} {W : World} {a : Option Addr} {n c : Nat} {rss : List (List Rat)} (h : MA L S W a n c rss) (hL : 1 ≤ L) : ∀ r ∈ rss, szV L r := fun r hr => by
  obtain ⟨i, hi⟩ := List.getElem?_of_mem hr;have := GA.rows h hL i
  unfold rowat at this
  rwa [List.getD_eq_getElem?_getD, hi] at this
section
variable {L1 L2 : Nat} {S1 S2 : Nat → Prop} {w : World} {a1 a2 : Option Addr} {n c m d : Nat} {xs ys : List Rat} {rss mss : List (List Rat)}
end
theorem MC.take {S : Nat → Prop} {W : World} {a : Option Addr} {n c m : Nat} {rss : List (List Rat)} (h : MC S W a n c rss) (hm : m ≤ n) : MC S W a m c (rss.take m) := by
  obtain ⟨qs, h1, h2⟩ := h;refine ⟨qs.take m, ?_, h2.take m⟩;have h3 := h1.cut (Nat.zero_le m) hm
  have e : (if c = 0 then a else a.map (·.add (0 * 1))) = a := by
    split
    · rfl
    · cases a <;> simp [add0]
  rw [e] at h3
  simpa using h3
theorem gridm_rect (f : Int → Int → Rat) (R C : Nat) : rect C (gridm f R C) := by
  intro r hr;obtain ⟨i, _, rfl⟩ := List.mem_map.1 hr
  simp [rowg]
theorem WS.below {B bw L : Nat} {fs fd v pv : Value} {CX : Nat → (Nat → Prop) → World → Rat → Prop} {rows : List (List Rat)} {piv : List Int} {δ : Rat} {W W' : World} {B0 : Nat} {xd : Nat → Prop} (h : WS B bw fs fd xd CX v pv L rows piv δ W) (k : KD (fun b => b < W.heap.size ∧ b ≠ bw ∧ v.ownBlock ≠ some b ∧ ¬ xd b) W W') (hB0 : B0 ≤ B) (hx : ∀ b, xd b → B0 ≤ b) : Below B0 W W' :=
  k.below (fun q hq => ⟨by have := h.x.lt; have := h.hB; omega, by have := h.hB; omega, fun e => by have := (h.vlow q e).1; omega, fun hh => by have := hx q hh; omega⟩) (by have := h.x.lt; have := h.hB; omega)

set_option maxHeartbeats 400000 in
theorem sReduce_ok (a1 : Option Addr) (n c L : Nat) (rss : List (List Rat)) (S S1 : Nat → Prop) (w : World) (hx : MA L S1 w a1 n c rss) (hl1 : 1 ≤ L) (hn : n ≤ 1024) (hc : colsN rss ≤ 1024) (hL5 : 15 * (L * 5 ^ colsN rss) + 2 < LY) (hu : Up S w) :
    Calls Tryz.prog 60 #[.slice a1 n c] w (fun e w' => ∃ ar cr ap cp, e = .returned (.tuple #[.slice ar (redS (gridm (matI rss) n (colsN rss)) (colsN rss)).2.1.length cr, .slice ap (redS (gridm (matI rss) n (colsN rss)) (colsN rss)).2.1.length cp]) ∧ Ext w w' ∧ MC S w' ar (redS (gridm (matI rss) n (colsN rss)) (colsN rss)).2.1.length cr ((redS (gridm (matI rss) n (colsN rss)) (colsN rss)).1.take (redS (gridm (matI rss) n (colsN rss)) (colsN rss)).2.1.length) ∧ RN .i64 S w' ap (redS (gridm (matI rss) n (colsN rss)) (colsN rss)).2.1.length cp (redS (gridm (matI rss) n (colsN rss)) (colsN rss)).2.1) := by
 have z0 := Ext.refl w; have hLX : LX = 17592186044416 := rfl; have hLY : LY = 8796093022208 := rfl;have hLV : LV = 1099511627776 := rfl;have h51 : L * 1 ≤ L * 5 ^ colsN rss := Nat.mul_le_mul_left _ (Nat.pow_pos (by omega));refine enter (args := [.slice a1 n c]) Tryz.func60 rfl rfl (Nat.le_of_ble_eq_true rfl) (V.seq (V.reg rfl ?_));refine ass rfl (ass rfl (vnil (V.seq (V.reg rfl ?_))));refine mvs rfl (vo (xcall e123 (begin_ok _ _ _ L _ _ _ hx (by omega) (by omega) (by omega) (by omega)) rfl rfl ?_));rintro _ W1 ⟨bw, vw, rfl, x2, hbw, hbx, hbG⟩;have s3 := x2.sz;have z4 := x2;have hK0 := WS.begin hbx hbG hbw L; have lbw := hbx.lt;refine ⟨_, rfl, ?_⟩;obtain ⟨rows, hrows⟩ : ∃ r, r = gridm (matI rss) n (colsN rss) := ⟨_, rfl⟩;have hrect : rect (colsN rss) rows := by rw [hrows]; exact gridm_rect _ _ _
 have hszr : szR L rows := by rw [hrows]; exact gridm_sz (fun i k => szMI (hx.ext z4) (by omega) _ _)
 have hrl : rows.length ≤ 1024 := by rw [hrows, len_gridm]; exact hn
 rw [← hrows] at hbG hK0;refine mvs rfl (vo (xcall e35 (mCols_ok _ _ _ _ _ _ _ (hx.ext z4)) rfl rfl ?_));rintro _ W5 ⟨rfl, x6⟩;have s7 := x6.sz;have z8 := z4.trans x6;refine ⟨_, rfl, ?_⟩;refine vo ?_;have hS1 := (hK0.ext x6);refine xcall e125 (all5_ok _ bw _ _ _ _ vw L (colsN rss) (colsN rss) rows _ hS1 hrect hszr (by omega) (by omega) hL5 hrl (by omega)) rfl rfl ?_;rintro _ Wal ⟨pvw, rfl, kdal, hK, hpval⟩;refine ⟨_, rfl, ?_⟩;have hbl := hS1.below (B0 := w.heap.size) kdal (Nat.le_refl _) (fun _ h => h.elim); have szal := kdal.size;have z9 := z8.below (hbl.mono (by omega));obtain ⟨av, cv, rfl⟩ := hK.g.form; obtain ⟨ap, cp, rfl⟩ := hK.p.form;obtain ⟨s, hs⟩ : ∃ s, s = redS rows (colsN rss) := ⟨_, rfl⟩; rw [← hs] at hK; have hall := redS_all hrect hszr (by omega) (colsN rss); rw [← hs] at hall; have hKx := hK.x; have hKm := (hK.mc rfl).max; have hKq := (hK.pn rfl).cap; have hKq2 := (hK.pn rfl).max;refine asp rfl (vnil (V.seq (V.regD mixed rfl ?_)));intro W11 x12;have s13 := x12.sz;have z14 := z9.trans x12;have z15 := x12;replace hKx := hKx.ext x12;have q16 := Ext.refl W11;have r17 := hKx;refine tk 0 rfl (by kernel_rfl) q16 (pv (fun _ y18 => rmv (v := .pointer (some ⟨_, _, none⟩)) rfl)) ?_;refine tk 1 rfl (by kernel_rfl) q16 (pv (fun _ y19 => rnc (v := .pointer (some ⟨_, _, none⟩)) rfl rfl)) ?_;refine tk 2 rfl (by kernel_rfl) q16 (pv (fun _ y20 => rfa rfl fd141_0)) ?_;refine tk 3 rfl (by kernel_rfl) q16 (pv (fun _ y21 => rldb (v := .slice av _ cv) rfl sc22 (r17.ext y21) rfl)) ?_;refine tk 4 rfl (by kernel_rfl) q16 (pv (fun _ y22 => rmv (v := .pointer (some ⟨_, _, none⟩)) rfl)) ?_;refine tk 5 rfl (by kernel_rfl) q16 (pv (fun _ y23 => rnc (v := .pointer (some ⟨_, _, none⟩)) rfl rfl)) ?_;refine tk 6 rfl (by kernel_rfl) q16 (pv (fun _ y24 => rfa rfl fd141_1)) ?_;refine tk 7 rfl (by kernel_rfl) q16 (pv (fun _ y25 => rldb (v := .slice ap _ cp) rfl sc73 (r17.ext y25) rfl)) ?_;refine tk 8 rfl (by kernel_rfl) q16 (pv (fun _ y26 => rlen sl73 rfl)) ?_;refine tk 9 rfl (by kernel_rfl) q16 (pv (fun _ y27 => rsl1 (m := s.2.1.length) sl22 sz23 rfl rfl rfl (by omega))) ?_;refine tk 10 rfl (by kernel_rfl) q16 (pv (fun _ y28 => rmv (v := .pointer (some ⟨_, _, none⟩)) rfl)) ?_;refine tk 11 rfl (by kernel_rfl) q16 (pv (fun _ y29 => rnc (v := .pointer (some ⟨_, _, none⟩)) rfl rfl)) ?_;refine tk 12 rfl (by kernel_rfl) q16 (pv (fun _ y30 => rfa rfl fd141_1)) ?_;refine tk 13 rfl (by kernel_rfl) q16 (pv (fun _ y31 => rldb (v := .slice ap _ cp) rfl sc73 (r17.ext y31) rfl)) ?_;refine tk 14 rfl (by kernel_rfl) q16 (pv (fun _ y32 => ras (v := .slice av s.2.1.length cv) rfl)) ?_;refine tk 15 rfl (by kernel_rfl) q16 (pv (fun _ y33 => ras (v := .slice ap _ cp) rfl)) ?_;refine dn (by kernel_rfl) ?_;refine V.ret ⟨[.slice av s.2.1.length cv, .slice ap _ cp], ⟨rfl, rfl, trivial⟩, ?_⟩;rw [← hrows, ← hs];obtain ⟨hm, hp⟩ := ((hK.ext z15)).fin (S := S) (fun b hb _ => hu b (by omega));exact ⟨av, cv, ap, cp, rfl, z14, hm.take (by omega), hp⟩
def CXd (bd lo : Nat) (L : Nat) (S : Nat → Prop) (W : World) (δ : Rat) : Prop := ∃ cs, BoxAt W bd cs 48 ∧ QC (fun b => S b ∧ b ≠ bd ∧ lo < b) W cs δ ∧ sz L δ ∧ 1 ≤ L ∧ lo < bd
theorem WS.re {B bw L L' : Nat} {fs fd fs' fd' v pv : Value} {xd xd' : Nat → Prop} {CX CX' : Nat → (Nat → Prop) → World → Rat → Prop} {rows : List (List Rat)} {piv : List Int} {δ δ' : Rat} {W W' : World} (h : WS B bw fs fd xd CX v pv L rows piv δ W) (k : KD (fun b => b ≠ bw) W W') (hb : BoxAt W' bw [v, pv, fs', fd'] 141) (cl' : CL xd' fs' fd' CX') (c' : CX' L' (KQ bw v pv) W' δ') (hx' : ∀ b, xd' b → b < B) : WS B bw fs' fd' xd' CX' v pv L' rows piv δ' W' := by
  refine ⟨cl', hb, ?_, h.p.ck k.ck (fun b e hh => h.pb (hh ▸ e)), c', h.hB, hx'⟩;obtain ⟨qs, h1, h2⟩ := h.g;exact ⟨qs, h1.ck k.ck fun b e hh => h.vb (hh ▸ e), h2.imp fun _ _ hq => okRowC.ck hq (k.ck.sub fun b hs => hs.1.2.1)⟩

set_option maxHeartbeats 400000 in
theorem det1_ok (bd lo L : Nat) (S : Nat → Prop) (δ : Rat) (w : World) (h : CXd bd lo L S w δ) (hu : Up S w) (hL : L + 1 < LY) :
    Calls Tryz.prog 130 #[.pointer (some ⟨bd, 0, none⟩)] w (fun e w' => e = .returned (.tuple #[]) ∧ KD (fun b => ¬ b = bd) w w' ∧ CXd bd lo L S w' (-δ)) := by
 have z0 := Ext.refl w; have hLX : LX = 17592186044416 := rfl; have hLY : LY = 8796093022208 := rfl;obtain ⟨cs, hbd, hq, hs, hL1, hlo⟩ := h;obtain ⟨m1, e1, f1, g1, m2, e2, f2, g2, rfl⟩ := hq.form;have hqa := hq.qa hs; have lbd := hbd.lt;have hu2 : ∀ W : World, w.heap.size ≤ W.heap.size → Up (fun b => S b ∧ b ≠ bd ∧ lo < b) W := fun W hW b hb => ⟨hu b (by omega), by omega, by omega⟩
 refine enter (args := [.pointer (some ⟨bd, 0, none⟩)]) Tryz.func130 rfl rfl (Nat.le_of_ble_eq_true rfl) (V.reg rfl (vv (rldb4 rfl ag48 hbd rfl rfl rfl rfl ) (vo (xcall e72 (fNeg_ok _ _ _ _ _ _ hqa (by omega) (by omega) (hu2 _ (by omega))) rfl rfl ?_))));rintro _ W2 ⟨_, rfl, x3, hq1⟩;have s4 := x3.sz;replace hbd := hbd.ext x3;obtain ⟨_, _, _, _, _, _, _, _, rfl⟩ := hq1.form;refine ⟨_, rfl, ?_⟩;refine vo (sta (cs' := [_, _, _, _]) hbd rfl rfl sz48 rfl rfl rfl ?_);intro W6 y7 hbd;have s8 := y7.size;refine vnil ⟨[], trivial, ?_⟩;exact ⟨rfl, (Ext.kd x3).trans (y7.kd fun h => h rfl), _, hbd, (hq1.ext (Ext.refl _)).ck (y7.ck (fun h => h.2.1 rfl)), sz_neg hs, by omega, by omega⟩
set_option maxHeartbeats 400000 in
theorem det2_ok (bd lo L M : Nat) (S : Nat → Prop) (δ : Rat) (q : List Value) (r : Rat) (w : World) (h : CXd bd lo L S w δ) (hu : Up S w) (hr : QA M TT w q r) (hM : 1 ≤ M) (hL : L + M + 1 < LY) :
    Calls Tryz.prog 131 #[.agg q.toArray, .pointer (some ⟨bd, 0, none⟩)] w (fun e w' => e = .returned (.tuple #[]) ∧ KD (fun b => ¬ b = bd) w w' ∧ CXd bd lo (L + M) S w' (δ * r)) := by
 have z0 := Ext.refl w; have hLX : LX = 17592186044416 := rfl; have hLY : LY = 8796093022208 := rfl;obtain ⟨n1, a1, l1, c1, n2, a2, l2, c2, rfl⟩ := hr.form;obtain ⟨cs, hbd, hq, hs, hL1, hlo⟩ := h;obtain ⟨m1, e1, f1, g1, m2, e2, f2, g2, rfl⟩ := hq.form;have hqa := hq.qa hs; have lbd := hbd.lt;have hu2 : ∀ W : World, w.heap.size ≤ W.heap.size → Up (fun b => S b ∧ b ≠ bd ∧ lo < b) W := fun W hW b hb => ⟨hu b (by omega), by omega, by omega⟩
 refine enter (args := [.agg #[.bool n1, .slice a1 l1 c1, .bool n2, .slice a2 l2 c2], .pointer (some ⟨bd, 0, none⟩)]) Tryz.func131 rfl rfl (Nat.le_of_ble_eq_true rfl) (V.seq (V.reg rfl ?_));refine vo (bxa rfl ?_);intro W1 x2 b3 nn4;have s5 := x2.sz;have z6 := x2;replace hbd := hbd.ext x2;refine vnil (V.reg rfl (vv (rldb4 rfl ag48 hbd rfl rfl rfl rfl ) (vv (rldb4 rfl ag48 b3 rfl rfl rfl rfl ) (vo (xcall e71 (fMul_ok _ _ _ _ _ _ _ _ _ _ (hqa.ext z6) (hr.ext z6) (by omega) (by omega) (by omega) (hu2 _ (by omega))) rfl rfl ?_)))));rintro _ W8 ⟨_, rfl, x9, hq7⟩;have s10 := x9.sz;replace hbd := hbd.ext x9;obtain ⟨_, _, _, _, _, _, _, _, rfl⟩ := hq7.form;refine ⟨_, rfl, ?_⟩;refine vo (sta (cs' := [_, _, _, _]) hbd rfl rfl sz48 rfl rfl rfl ?_);intro W12 y13 hbd;have s14 := y13.size;refine vnil ⟨[], trivial, ?_⟩;exact ⟨rfl, (Ext.kd (x2.trans x9)).trans (y13.kd fun h => h rfl), _, hbd, (hq7.ext (Ext.refl _)).ck (y13.ck (fun h => h.2.1 rfl)), sz_mul hs (hr.sz' hM), by omega, by omega⟩

theorem CL.det (bd lo : Nat) : CL (fun b => b = bd) (.func (.func 130) #[] #[.pointer (some ⟨bd, 0, none⟩)]) (.func (.func 131) #[] #[.pointer (some ⟨bd, 0, none⟩)]) (CXd bd lo) where
  ck := fun {L S S' W W' δ} ⟨cs, h1, h2, h3, h4⟩ k hS hx => ⟨cs, h1.ck k (hx _ rfl), ((h2.sub (S' := fun b => (S b ∧ b ≠ bd ∧ lo < b) ∧ S' b) fun b hb hs => ⟨hs, hS b hb hs.1⟩).ck (k.sub fun b hs => hs.2)).sub (fun b _ hs => hs.1), h3, h4⟩
  sub := fun ⟨cs, h1, h2, h3, h4⟩ hS => ⟨cs, h1, h2.sub fun b hb hs => ⟨hS b hb hs.1, hs.2⟩, h3, h4⟩
  mono := fun ⟨cs, h1, h2, h3, h4, h5⟩ hL => ⟨cs, h1, h2, h3.mono hL, by omega, h5⟩
  sw := ⟨_, [.pointer (some ⟨bd, 0, none⟩)], rfl, e130, fun L S W δ h hu hL => det1_ok bd lo L S δ W h hu hL⟩
  dv := ⟨_, [.pointer (some ⟨bd, 0, none⟩)], rfl, e131, fun L M S W δ q r h hu hq hM hL => det2_ok bd lo L M S δ q r W h hu hq hM hL⟩
/-- What Det reckons. -/
def detS (rows : List (List Rat)) (n : Nat) : Rat := if (redS rows n).2.1.length < n then 0 else (redS rows n).2.2

set_option maxHeartbeats 400000 in
theorem sDet_ok (a1 : Option Addr) (n c L : Nat) (rss : List (List Rat)) (S S1 : Nat → Prop) (w : World) (hx : MA L S1 w a1 n c rss) (hl1 : 1 ≤ L) (hn : n ≤ 1024) (hc : colsN rss ≤ 1024) (hL5 : 15 * (L * 5 ^ colsN rss) + 2 < LY) (hu : Up S w) :
    Calls Tryz.prog 55 #[.slice a1 n c] w (fun e w' => ∃ q, e = .returned (.tuple #[.agg q.toArray, .int .i64 (if n = colsN rss then 0 else 13)]) ∧ Ext w w' ∧ QC S w' q (if n = colsN rss then detS (gridm (matI rss) n (colsN rss)) (colsN rss) else 0)) := by
 have z0 := Ext.refl w; have hLX : LX = 17592186044416 := rfl; have hLY : LY = 8796093022208 := rfl;have hLV : LV = 1099511627776 := rfl;have h51 : L * 1 ≤ L * 5 ^ colsN rss := Nat.mul_le_mul_left _ (Nat.pow_pos (by omega));refine enter (args := [.slice a1 n c]) Tryz.func55 rfl rfl (Nat.le_of_ble_eq_true rfl) (V.seq (V.reg rfl ?_));refine vo (xal zc48 ?_);intro W1 x2 b3 nn4;have s5 := x2.sz;have z6 := x2;refine asi rfl (vnil (V.seq (V.seq (V.reg rfl ?_))));refine mvs rfl (vv (rlen sl22 rfl) (mvs rfl (vo (xcall e35 (mCols_ok _ _ _ _ _ _ _ (hx.ext z6)) rfl rfl ?_))));rintro _ W7 ⟨rfl, x8⟩;have s9 := x8.sz;have z10 := z6.trans x8;replace b3 := b3.ext x8;refine ⟨_, rfl, ?_⟩;refine vne rfl rfl ?_ ?_
 ·intro c11;refine vnil (V.condT rfl (V.seq (V.reg rfl ?_)));refine vv (rbd (ps := []) (cs := [.bool false, .slice _ _ _, .bool false, .slice _ _ _]) pl48 rfl rfl) (vo (sta (cs' := [_, _, _, _]) b3 rfl rfl sz48 rfl rfl rfl ?_));intro W12 y13 b3;have z14 := z10.below (y13.below (by omega));have s15 := y13.size;refine asi rfl (vnil (V.ret ⟨[_, .int _ _], ⟨⟨_, rfl, lvb ag48 b3 rfl⟩, rfl, trivial⟩, ?_⟩));rw [if_neg (show ¬ n = colsN rss by omega), if_neg (show ¬ n = colsN rss by omega)];exact ⟨_, rfl, z14, QC.zero S _⟩
 ·intro c11;refine vnil (V.condF rfl (V.skip (V.seq (V.reg rfl ?_))));refine vo (xcall e27 (fFrom_ok 1 (fun b => W7.heap.size ≤ b) _ (by omega) (fun b hb => hb)) rfl rfl ?_);rintro _ W17 ⟨_, rfl, x18, hq16⟩;have s19 := x18.sz;have z20 := z10.trans x18;replace b3 := b3.ext x18;obtain ⟨_, _, _, _, _, _, _, _, rfl⟩ := hq16.form;refine ⟨_, rfl, ?_⟩;have hq1 := (hq16).sub (S' := fun b => b < W17.heap.size ∧ w.heap.size < b) (fun b hb hs => ⟨hb, by omega⟩);refine vo (xal zc48 ?_);intro W22 x23 b24 nn25;have s26 := x23.sz;have z27 := z20.trans x23;have z28 := x23;replace b3 := b3.ext x23;refine vo (sta (cs' := [_, _, _, _]) b24 rfl rfl sz48 rfl rfl rfl ?_);intro W29 y30 b24;have z31 := z27.below (y30.below (by omega));have z32 := z28.below (y30.below (by omega));replace b3 := b3.wr y30 (by omega);have s33 := y30.size;refine vnil (V.seq (V.reg rfl ?_));refine mvs rfl (vo (xcall e123 (begin_ok _ _ _ L _ _ _ (hx.ext z31) (by omega) (by omega) (by omega) (by omega)) rfl rfl ?_));rintro _ W35 ⟨bw, vw, rfl, x36, hbw, hbx, hbG⟩;have s37 := x36.sz;have z38 := z31.trans x36;have z39 := z32.trans x36;replace b3 := b3.ext x36;replace b24 := b24.ext x36;have hK0 := WS.begin hbx hbG hbw L; have lbw := hbx.lt;refine ⟨_, rfl, ?_⟩;obtain ⟨rows, hrows⟩ : ∃ r, r = gridm (matI rss) n (colsN rss) := ⟨_, rfl⟩;have hrect : rect (colsN rss) rows := by rw [hrows]; exact gridm_rect _ _ _
  have hszr : szR L rows := by rw [hrows]; exact gridm_sz (fun i k => szMI (hx.ext z38) (by omega) _ _)
  have hrl : rows.length ≤ 1024 := by rw [hrows, len_gridm]; exact hn
  rw [← hrows] at hbG hK0;have hK00 := hK0;refine asp rfl (vnil (V.seq (V.reg rfl ?_)));refine mvp rfl (vv (rmk1 (v := .pointer (some ⟨_, _, none⟩)) rfl) (vv (rnc (v := .pointer (some ⟨_, _, none⟩)) rfl rfl) (vv (rfa rfl fd141_2) (vo (st1 (v := .func _ _ _) (cs' := [_, _, _, _]) hbx rfl rfl sz1 rfl rfl rfl rfl ?_)))));intro W41 y42 hbx;have z43 := z38.below (y42.below (by omega));have z44 := z39.below (y42.below (by omega));replace b3 := b3.wr y42 (by omega);replace b24 := b24.wr y42 (by omega);have s46 := y42.size;refine vnil (V.seq (V.reg rfl ?_));refine mvp rfl (vv (rmk1 (v := .pointer (some ⟨_, _, none⟩)) rfl) (vv (rnc (v := .pointer (some ⟨_, _, none⟩)) rfl rfl) (vv (rfa rfl fd141_3) (vo (st1 (v := .func _ _ _) (cs' := [_, _, _, _]) hbx rfl rfl sz139 rfl rfl rfl rfl ?_)))));intro W47 y48 hbx;have z49 := z43.below (y48.below (by omega));have z50 := z44.below (y48.below (by omega));replace b3 := b3.wr y48 (by omega);replace b24 := b24.wr y48 (by omega);have s52 := y48.size;refine vnil (V.seq (V.seq (V.reg rfl ?_)));refine mvp rfl (mvs rfl (vv (rlen sl22 rfl) (vo ?_)));obtain ⟨bd, ebd⟩ : ∃ b, b = W17.heap.size := ⟨_, rfl⟩;have hbx1 := hbx; have hbd1 := b24; rw [← ebd] at hbx1 hbd1;have hbB : bd < W29.heap.size := by omega
  have hq3 := (hq1.ext z50);have hS1 : WS W29.heap.size bw _ _ (fun b => b = bd) (CXd bd w.heap.size) vw (.slice none 0 0) L rows [] 1 W47 := hK00.re ((y42.kd fun h => h rfl).trans (y48.kd fun h => h rfl)) hbx1 (CL.det bd w.heap.size) ⟨_, hbd1, hq3.sub (fun b hb hs => ⟨hK00.kq (by omega), by omega, hs.2⟩), sz_one.mono hl1, hl1, by omega⟩ (fun b h => by subst h; exact hbB);refine xcall e125 (all5_ok _ bw _ _ _ _ vw L (colsN rss) (colsN rss) rows _ hS1 hrect hszr (by omega) (by omega) hL5 hrl (by omega)) rfl (by rw [show n = colsN rss by omega]; rfl) ?_;rintro _ Wal ⟨pvw, rfl, kdal, hK, hpval⟩;refine ⟨_, rfl, ?_⟩;have hbl := hS1.below (B0 := w.heap.size) kdal (by omega) (fun b h => by subst h; omega); have szal := kdal.size;have z53 := z49.below hbl;replace b3 := b3.kd kdal ⟨b3.lt, by omega, (hS1.nb b3 (by decide) (by decide) (by omega)).2.1, by omega⟩;obtain ⟨av, cv, rfl⟩ := hK.g.form; obtain ⟨ap, cp, rfl⟩ := hK.p.form;obtain ⟨s, hs⟩ : ∃ s, s = redS rows (colsN rss) := ⟨_, rfl⟩; rw [← hs] at hK; have hall := redS_all hrect hszr (by omega) (colsN rss); rw [← hs] at hall; have hKx := hK.x; obtain ⟨cd, hbd, hqd, hsd, hLd⟩ := hK.c; have hql := hK.p.form;obtain ⟨m1, e1, f1, g1, m2, e2, f2, g2, rfl⟩ := hqd.form;subst ebd;refine vv (rnc (v := .pointer (some ⟨_, _, none⟩)) rfl rfl) (vv (rfa rfl fd141_1) (vv (rldb (v := .slice ap _ cp) rfl sc73 hKx rfl) (vv (rlen sl73 rfl) (mvs rfl (vv (rlen sl22 rfl) (vlt rfl rfl ?_ ?_))))))
  ·intro c57;refine vnil (V.condT rfl (V.seq (V.reg rfl ?_)));refine vv (rbd (ps := []) (cs := [.bool false, .slice _ _ _, .bool false, .slice _ _ _]) pl48 rfl rfl) (vo (sta (cs' := [_, _, _, _]) b3 rfl rfl sz48 rfl rfl rfl ?_));intro W58 y59 b3;have z60 := z53.below (y59.below (by omega));replace hKx := hKx.wr y59 (by omega);replace hbd := hbd.wr y59 (by omega);have s61 := y59.size;refine asi rfl (vnil (V.ret ⟨[_, .int _ _], ⟨⟨_, rfl, lvb ag48 b3 rfl⟩, rfl, trivial⟩, ?_⟩));rw [if_pos (show n = colsN rss by omega), if_pos (show n = colsN rss by omega)];exact ⟨_, rfl, z60, by rw [← hrows, detS, ← hs, if_pos (by omega)]; exact QC.zero S _⟩
  ·intro c57;refine vnil (V.condF rfl (V.skip (V.seq (V.reg rfl ?_))));refine vv (rldb4 rfl ag48 hbd rfl rfl rfl rfl ) (vo (sta (cs' := [_, _, _, _]) b3 rfl rfl sz48 rfl rfl rfl ?_));intro W62 y63 b3;have z64 := z53.below (y63.below (by omega));replace hKx := hKx.wr y63 (by omega);replace hbd := hbd.wr y63 (by omega);have s65 := y63.size;refine asi rfl (vnil (V.ret ⟨[_, .int _ _], ⟨⟨_, rfl, lvb ag48 b3 rfl⟩, rfl, trivial⟩, ?_⟩));rw [if_pos (show n = colsN rss by omega), if_pos (show n = colsN rss by omega)];refine ⟨_, rfl, z64, ?_⟩;rw [← hrows, detS, ← hs, if_neg (by omega)];exact ((hqd.ext (Ext.refl _)).ck (y63.ck (fun h => by have := h.2.2; omega))).sub (fun b hb hs => hu b (by have := hs.2.2; omega))
def catM (rss mss : List (List Rat)) (R : Nat) : List (List Rat) := gridm (catI rss mss (colsN rss)) R (colsN rss + colsN mss)
def invS (rss : List (List Rat)) (n : Nat) : List (List Rat) × Int :=
  if n ≠ colsN rss then ([], 13)
  else if (redS (gridm (matI (catM rss (identm n) n)) n (colsN (catM rss (identm n) n))) n).2.1.length < n then ([], 8)
  else ((redS (gridm (matI (catM rss (identm n) n)) n (colsN (catM rss (identm n) n))) n).1.map (·.drop n), 0)
theorem MC.nil (S : Nat → Prop) (W : World) : MC S W none 0 0 [] := ⟨[], RS.nil _ _ _ _ _ (by omega), trivial⟩
theorem identm_rect (n : Nat) : rect n (identm n) := by
  intro r hr;obtain ⟨i, _, rfl⟩ := List.mem_map.1 hr;exact unitv_len _ _
theorem identm_len (n : Nat) : (identm n).length = n := by simp [identm]
theorem identm_sz (n : Nat) : szR 1 (identm n) := by
  intro r hr;obtain ⟨i, _, rfl⟩ := List.mem_map.1 hr;exact unitv_sz _ _
theorem colsN_rect {N : Nat} {rss : List (List Rat)} (h : rect N rss) : colsN rss = N ∨ rss = [] := by
  cases rss with
  | nil => exact .inr rfl
  | cons r l =>
    left
    have h1 : colsN (r :: l) ≤ N := colsN_le fun x hx => by rw [h x hx]; exact Nat.le_refl _
    have h2 := cols_ge (rss := r :: l) r (by simp);have h3 := h r (by simp);omega
theorem colsN_rect_le {N : Nat} {rss : List (List Rat)} (h : rect N rss) : colsN rss ≤ N := colsN_le fun x hx => by rw [h x hx]; exact Nat.le_refl _

set_option maxHeartbeats 400000 in
theorem sInverse_ok (a1 : Option Addr) (n c L : Nat) (rss : List (List Rat)) (S S1 : Nat → Prop) (w : World) (hx : MA L S1 w a1 n c rss) (hl1 : 1 ≤ L) (hn : n ≤ 512) (hc : colsN rss ≤ 1024) (hL5 : 15 * (L * 5 ^ n) + 2 < LY) (hu : Up S w) :
    Calls Tryz.prog 54 #[.slice a1 n c] w (fun e w' => ∃ ar nr cr, e = .returned (.tuple #[.slice ar nr cr, .int .i64 (invS rss n).2]) ∧ Ext w w' ∧ MC S w' ar nr cr (invS rss n).1) := by
 have z0 := Ext.refl w; have hLX : LX = 17592186044416 := rfl; have hLY : LY = 8796093022208 := rfl;have hLV : LV = 1099511627776 := rfl;have h51 : L * 1 ≤ L * 5 ^ n := Nat.mul_le_mul_left _ (Nat.pow_pos (by omega));refine enter (args := [.slice a1 n c]) Tryz.func54 rfl rfl (Nat.le_of_ble_eq_true rfl) (V.seq (V.reg rfl ?_));refine ass rfl (asi rfl (vnil (V.seq (V.reg rfl ?_))));refine mvs rfl (vv (rlen sl22 rfl) (asi rfl (vnil (V.seq (V.seq (V.reg rfl ?_))))));refine mvi rfl (mvs rfl (vo (xcall e35 (mCols_ok _ _ _ _ _ _ _ hx) rfl rfl ?_)));rintro _ W1 ⟨rfl, x2⟩;have s3 := x2.sz;have z4 := x2;refine ⟨_, rfl, ?_⟩;refine vne rfl rfl ?_ ?_
 ·intro c5;refine vnil (V.condT rfl (V.seq (V.reg rfl ?_)));refine ass rfl (asi rfl (vnil (V.ret ⟨[.slice _ _ _, .int _ _], ⟨rfl, rfl, trivial⟩, ?_⟩)))
  unfold invS; rw [if_pos (by omega)]
  exact ⟨_, _, _, rfl, z4, MC.nil _ _⟩
 ·intro c5;refine vnil (V.condF rfl (V.skip (V.seq (V.reg rfl ?_))));refine mvs rfl (mvi rfl (vo (xcall e47 (mIdent_ok _ n TT _ (by omega) (TT.up _)) rfl rfl ?_)));rintro _ W6 ⟨_, ni, _, rfl, x7, hid⟩;have s8 := x7.sz;have z9 := z4.trans x7;have hida := hid.ma (identm_sz n); have hidl := hid.len; rw [identm_len] at hidl; have hic := colsN_rect_le (identm_rect n);refine ⟨_, rfl, ?_⟩;refine vo ?_;obtain ⟨CM, hCM⟩ : ∃ c, c = catM rss (identm n) n := ⟨_, rfl⟩;refine xcall e84 (mConcat_ok _ _ _ _ _ _ L 1 rss (identm n) TT S1 TT _ (hx.ext z9) ((hid).ma (identm_sz n)) (by omega) (by omega) (by omega) (by omega) (by omega) (by omega) (by omega) (TT.up _)) rfl rfl ?_;rintro _ W10 ⟨_, nc, _, rfl, x11, hcm⟩;have s12 := x11.sz;have z13 := z9.trans x11;have hcml := hcm.len; rw [len_gridm] at hcml;obtain rfl : n = nc := by omega
  have hcmM := hcm; rw [show max n ni = n by omega, show gridm (catI rss (identm n) (colsN rss)) n (colsN rss + colsN (identm n)) = CM from hCM.symm] at hcmM;have hcma := hcmM.ma (L := L) (by rw [hCM]; exact gridm_sz fun i k => szCat (hx.ext z13) (((hid.ext x11)).ma (identm_sz n)) (by omega) (by omega) (by omega) _ _ _);have hcC : colsN CM = (colsN rss + colsN (identm n)) * min n 1 := by rw [hCM]; exact colsN_gridm _ _ _
  have hcC2 : colsN CM ≤ 1024 ∧ n ≤ colsN CM := by rcases Nat.eq_zero_or_pos n with h | h; rw [hcC, h]; simp; rw [hcC, Nat.min_eq_right h]; omega
  refine ⟨_, rfl, ?_⟩;refine vo (xcall e123 (begin_ok _ _ _ L _ _ _ hcma (by omega) (by omega) (by omega) (by omega)) rfl rfl ?_);rintro _ W15 ⟨bw, vw, rfl, x16, hbw, hbx, hbG⟩;have s17 := x16.sz;have z18 := z13.trans x16;have z19 := x16;have hK0 := WS.begin hbx hbG hbw L; have lbw := hbx.lt;refine ⟨_, rfl, ?_⟩;obtain ⟨rows, hrows⟩ : ∃ r, r = gridm (matI CM) n (colsN CM) := ⟨_, rfl⟩;have hrect : rect (colsN CM) rows := by rw [hrows]; exact gridm_rect _ _ _
  have hszr : szR L rows := by rw [hrows]; exact gridm_sz (fun i k => szMI (hcma.ext z19) (by omega) _ _)
  have hrl : rows.length ≤ 1024 := by rw [hrows, len_gridm]; omega
  have hrln : rows.length = n := by rw [hrows, len_gridm]
  rw [← hrows] at hbG hK0;refine mvi rfl (vo ?_);have hS1 := hK0;refine xcall e125 (all5_ok _ bw _ _ _ _ vw L (colsN CM) n rows _ hS1 hrect hszr (by omega) (by omega) hL5 hrl (by omega)) rfl rfl ?_;rintro _ Wal ⟨pvw, rfl, kdal, hK, hpval⟩;refine ⟨_, rfl, ?_⟩;have hbl := hS1.below (B0 := W10.heap.size) kdal (Nat.le_refl _) (fun _ h => h.elim); have szal := kdal.size;have z20 := z18.below (hbl.mono (by omega));obtain ⟨av, cv, rfl⟩ := hK.g.form; obtain ⟨ap, cp, rfl⟩ := hK.p.form;obtain ⟨s, hs⟩ : ∃ s, s = redS rows n := ⟨_, rfl⟩; rw [← hs] at hK; have hall := redS_all hrect hszr (by omega) n; rw [← hs] at hall; have hKx := hK.x; have hKm := (hK.mc rfl).max; have hKq := (hK.pn rfl).cap; have hKq2 := (hK.pn rfl).max;refine asp rfl (vnil (V.seq (V.seq (V.reg rfl ?_))));refine mvp rfl (vv (rnc (v := .pointer (some ⟨_, _, none⟩)) rfl rfl) (vv (rfa rfl fd141_1) (vv (rldb (v := .slice ap _ cp) rfl sc73 hKx rfl) (vv (rlen sl73 rfl) (mvi rfl (vlt rfl rfl ?_ ?_))))))
  ·intro c23;refine vnil (V.condT rfl (V.seq (V.reg rfl ?_)));refine ass rfl (asi rfl (vnil (V.ret ⟨[.slice _ _ _, .int _ _], ⟨rfl, rfl, trivial⟩, ?_⟩)));have ei : invS rss n = ([], 8) := by unfold invS; rw [if_neg (by omega), ← hCM, ← hrows, ← hs, if_pos (by omega)]
   rw [ei];exact ⟨_, _, _, rfl, z20, MC.nil _ _⟩
  ·intro c23;refine vnil (V.condF rfl (V.skip (V.seq (V.reg rfl ?_))));refine ass rfl (vnil (V.seq (V.seq (V.reg rfl ?_))));refine mvp rfl (vv (rnc (v := .pointer (some ⟨_, _, none⟩)) rfl rfl) (vv (rfa rfl fd141_0) (vv (rldb (v := .slice av _ cv) rfl sc22 hKx rfl) (vv (rlen sl22 rfl) (mvi rfl (vnil (V.block ?_)))))));have hM2 := ((hK).fin (S := fun b => b < Wal.heap.size ∧ w.heap.size ≤ b) (fun b hb hb2 => ⟨hb2, by omega⟩)).1;have hnr : s.1.length = n := by omega
   refine V.loopK (ι := Nat × Value) [(2, .slice _ _ _), (3, .int _ _), (4, .int _ _), (32, .slice av _ cv), (33, .int _ _)] (fun ⟨k, v⟩ => [(34, .int .i64 (k : Int)), (6, v)]) (fun ⟨k, v⟩ W => Ext Wal W ∧ k ≤ n ∧ GO 1 (RowOf GC) S Wal.heap.size W 23 v ((s.1.take k).map (·.drop n))) (fun ⟨k, v⟩ => n - k) ((0, _)) ⟨rfl, rfl, rfl, rfl, rfl, trivial⟩ ⟨rfl, rfl, trivial⟩ ⟨Ext.refl _, Nat.zero_le _, GO.nil _ _⟩ ?_;intro i25 E26 W24 h27;obtain ⟨k, v⟩ := i25;simp only at h27
   show V _ _ _ _ _ _ (ups (ups _ _) [(34, .int .i64 (k : Int)), (6, v)]) _
   obtain ⟨x28, hk, hO⟩ := h27;have s29 := x28.sz;have z30 := z20.trans x28;have z32 := x28;replace hKx := hKx.ext x28;refine V.seq (V.reg rfl ?_);refine vlt rfl rfl ?_ ?_
   ·intro c33;refine vnil (V.seq (V.condT rfl (V.skip (V.seq (V.block (V.seq (V.reg rfl ?_)))))));refine vv (rix sl22 sz23 rfl rfl (by omega) (by omega) ((hM2.ext z32).isS (i := 0) (by omega) (by omega))) ?_;refine vldRow (hM2.ext z32) rfl sc23 (by omega) (by omega) ?_;intro a34 n35 c36 hg37;have hg37l := hg37.len; have hg37m := hg37.max;refine ass rfl (vnil (V.reg rfl (vv (rmv (v := v) rfl) (mvs rfl (mvi rfl ?_)))));have hrn : (rowat s.1 ((k : Nat) : Int).toNat).length = colsN CM := hall.2.2.1.row (by omega);have hcut := (hg37).cut (l := n) (m := n35) (by omega) (by omega);refine vv (rsl0 (l := n) sl23 sz48 rfl rfl rfl (by omega)) ?_;refine vo (xbs (ps := [(0, .slice _ _ _)]) (cs := [.slice _ _ _]) sl22 zr23 sz23 rfl rfl rfl rfl rfl rfl ?_);intro W39 x40 b41 nn42;have s43 := x40.sz;have z46 := z32.trans x40;have z47 := x40;replace hKx := hKx.ext x40;replace hO := hO.ext okRowC x40;refine vo (xappG okRowC sl22 in23 rfl rfl hO rfl rfl b41 rfl rfl ((⟨_, _, _, rfl, (((hcut.ext z47)).sub (S' := SO S v) (fun b hb hs => ⟨hu b hs.2, hO.old b hs.1⟩)).cast (by rw [List.take_of_length_le (by omega)]; rfl)⟩ : RowOf GC _ _ _ ((rowat s.1 k).drop n))) (by simp; omega) (by decide) (by omega) ?_);intro v48 W49 hO50 hg51;have y52 := hg51.below; have s53 := y52.size;have z56 := z46.below (y52.mono (by omega));refine vv (ras (v := v48) rfl) (vnil (V.reg rfl (vv (rbin (bAdd (wi (by omega))) rfl rfl) ?_)));refine mvi rfl (vnil ⟨rfl, (k + 1, _), ⟨rfl, rfl, rfl, rfl, rfl, trivial⟩, ⟨rfl, rfl, trivial⟩, ⟨z56, by omega, by rw [take_rowG (·.drop n) s.1 k (by omega)]; exact hO50⟩, ?_⟩)
    show n - (k + 1) < n - k
    omega
   ·intro c33;refine vnil (V.seq (V.condF rfl (V.exit (V.seq (V.reg rfl ?_)))));refine vv (rmv (v := v) rfl) (vv (ras (v := v) rfl) (asi rfl (vnil (V.ret ⟨[v, .int _ _], ⟨rfl, rfl, trivial⟩, ?_⟩))));have ei : invS rss n = (s.1.map (·.drop n), 0) := by unfold invS; rw [if_neg (by omega), ← hCM, ← hrows, ← hs, if_neg (by omega)]
    rw [ei];obtain ⟨a', c', rfl⟩ := hO.form;have hfin := hO.fin okRowC (fun b hb _ => hu b (by omega));rw [List.take_of_length_le (by omega)] at hfin ⊢;exact ⟨_, _, _, rfl, z30, hfin⟩
def wideF (rss : List (List Rat)) (bs : List Rat) (N : Nat) (i k : Int) : Rat := if k < N then matI rss i k else vat bs i.toNat
/-- The augmented matrix, of M rows and N + 1 columns. -/
def wideM (rss : List (List Rat)) (bs : List Rat) (M N : Nat) : List (List Rat) := gridm (wideF rss bs N) M (N + 1)
theorem gridm_congr {f g : Int → Int → Rat} {R C : Nat} (h : ∀ i k : Nat, i < R → k < C → f i k = g i k) : gridm f R C = gridm g R C := by
  unfold gridm
  refine List.map_congr_left fun i hi => ?_
  exact List.map_congr_left fun k hk => h i k (List.mem_range.1 hi) (List.mem_range.1 hk)
theorem wide_eq (rss : List (List Rat)) (bs : List Rat) (M N : Nat) :
    gridm (catI (gridm (matI rss) M N) (gridm (fun i k => matI [resz bs M] k i) (colsN [resz bs M]) 1) (colsN (gridm (matI rss) M N))) (max M (colsN [resz bs M])) (colsN (gridm (matI rss) M N) + colsN (gridm (fun i k => matI [resz bs M] k i) (colsN [resz bs M]) 1)) = wideM rss bs M N := by
  have hc : colsN [resz bs M] = M := by simp [colsN, resz_len]
  rw [hc, Nat.max_self, colsN_gridm, colsN_gridm]
  rcases Nat.eq_zero_or_pos M with h0 | h0
  · subst h0; rfl
  · rw [Nat.min_eq_right h0, Nat.mul_one, Nat.mul_one, wideM];refine gridm_congr fun i k hi hk => ?_
    unfold catI wideF
    split
    · rename_i hlt
      rw [matI_nat, matI_nat, mat_gridm, if_pos ⟨hi, by omega⟩, matI_nat]
    · rename_i hge
      have hk2 : k = N := by omega
      subst hk2;rw [show (k : Int) - (k : Int) = ((0 : Nat) : Int) by omega, matI_nat, mat_gridm, if_pos ⟨hi, by omega⟩, matI_nat]
      show vat (resz bs M) i = vat bs ((i : Int)).toNat
      rw [Int.toNat_natCast]
      unfold resz; simp [vat, hi]
theorem wideF_sz {L : Nat} {rss : List (List Rat)} {bs : List Rat} {N : Nat} (h1 : ∀ r ∈ rss, szV L r) (h2 : szV L bs) (hL : 1 ≤ L) (i k : Int) : sz L (wideF rss bs N i k) := by
  unfold wideF matI
  split
  · split
    · exact (show szR L rss from h1).at hL _ _
    · exact sz_zero.mono hL
  · exact szV_at h2 hL _


theorem resz_sz {L : Nat} {bs : List Rat} (h : szV L bs) (hL : 1 ≤ L) (k : Nat) : szV L (resz bs k) := by
  intro r hr
  unfold resz at hr
  obtain ⟨i, _, rfl⟩ := List.mem_map.1 hr;exact szV_at h hL i


theorem szR.matI {L : Nat} {rows : List (List Rat)} (h : szR L rows) (hL : 1 ≤ L) (i k : Int) : sz L (Proofs.YtknbjfefeeojlaaGreat.matI rows i k) := by
  unfold Proofs.YtknbjfefeeojlaaGreat.matI
  split
  · exact h.at hL _ _
  · exact sz_zero.mono hL

set_option maxHeartbeats 400000 in
theorem sWide_ok (a1 a2 : Option Addr) (n c m d L : Nat) (rss : List (List Rat)) (bs : List Rat) (S S1 S2 : Nat → Prop) (w : World) (hx : MA L S1 w a1 n c rss) (hy : GA L S2 w a2 m d bs) (hl1 : 1 ≤ L) (hL : L < LY) (hn : n ≤ 1000) (hm : m ≤ 1000) (hc : colsN rss ≤ 1000) (hu : Up S w) :
    Calls Tryz.prog 124 #[.slice a1 n c, .slice a2 m d] w (fun e w' => ∃ ra rk rc, e = .returned (.slice ra rk rc) ∧ Ext w w' ∧ MC S w' ra rk rc (wideM rss bs (max n m) (colsN rss))) := by
 have z0 := Ext.refl w; have hLX : LX = 17592186044416 := rfl; have hLY : LY = 8796093022208 := rfl;have hLV : LV = 1099511627776 := rfl;refine enter (args := [.slice a1 n c, .slice a2 m d]) Tryz.func124 rfl rfl (Nat.le_of_ble_eq_true rfl) (V.seq (V.reg rfl ?_));refine ass rfl (vnil (V.seq (V.reg rfl ?_)));refine mvs rfl (mvs rfl (vv (rlen sl22 rfl) (mvs rfl (vv (rlen sl23 rfl) (vv (rmax rfl rfl (show max (n : Int) (m : Int) = ((max n m : Nat) : Int) by omega)) ?_)))));refine mvs rfl (vo (xcall e35 (mCols_ok _ _ _ _ _ _ _ hx) rfl rfl ?_));rintro _ W1 ⟨rfl, x2⟩;have s3 := x2.sz;have z4 := x2;refine ⟨_, rfl, ?_⟩;refine vo (xcall e43 (mResize_ok _ _ _ _ _ (max n m) (colsN rss) L rss TT S1 _ (hx.ext z4) (by omega) (by omega) hL hl1 (fun i k => szMI (hx.ext z4) hl1 _ _) (TT.up _)) rfl rfl ?_);rintro _ W5 ⟨_, nz, _, rfl, x6, hrz⟩;have s7 := x6.sz;have z8 := z4.trans x6;have hrl := hrz.len; rw [len_gridm] at hrl;refine ⟨_, rfl, ?_⟩;refine mvs rfl (mvs rfl (vv (rlen sl22 rfl) (mvs rfl (vv (rlen sl23 rfl) (vv (rmax rfl rfl (show max (n : Int) (m : Int) = ((max n m : Nat) : Int) by omega)) ?_)))));refine vo (xcall e19 (vResize_ok _ _ _ _ (max n m) L bs TT S2 _ (hy.ext z8) (by omega) hL hl1 (TT.up _)) rfl rfl ?_);rintro _ W9 ⟨_, nv, _, rfl, x10, hvr⟩;have s11 := x10.sz;have z12 := z8.trans x10;refine ⟨_, rfl, ?_⟩;refine vo (xbs (ps := [(0, .slice _ _ _)]) (cs := [.slice _ _ _]) sl22 zr23 sz23 rfl rfl rfl rfl rfl rfl ?_);intro W13 x14 b15 nn16;have s17 := x14.sz;have z18 := z12.trans x14;refine vo ?_;have hlit : MC TT W13 (some ⟨W9.heap.size, 0, none⟩) 1 1 [resz bs (max n m)] := ⟨[[.slice _ _ _]], RS.lit (S := TT) _ b15 rfl (by simp) trivial rfl (by omega), ⟨_, _, _, rfl, (hvr.ext x14)⟩, trivial⟩;have hcl : colsN [resz bs (max n m)] = max n m := by simp [colsN, resz_len]
 have hlz : ∀ r ∈ [resz bs (max n m)], szV L r := by intro r hr; simp only [List.mem_singleton] at hr; subst hr; exact resz_sz (hy.szv hl1) hl1 _
 refine xcall e45 (mTr_ok _ _ _ L _ TT TT _ ((hlit).ma hlz) (by omega) (by omega) (by omega) (by omega) (TT.up _)) rfl rfl ?_;rintro _ W20 ⟨_, nt, _, rfl, x21, htr⟩;have s22 := x21.sz;have z23 := z18.trans x21;have htl := htr.len; rw [len_gridm, hcl] at htl;refine ⟨_, rfl, ?_⟩;refine vo ?_;have hca : colsN (gridm (matI rss) (max n m) (colsN rss)) ≤ colsN rss := colsN_rect_le (gridm_rect _ _ _);have hct : colsN (gridm (fun i k => matI [resz bs (max n m)] k i) (colsN [resz bs (max n m)]) 1) ≤ 1 := colsN_rect_le (gridm_rect _ _ _);refine xcall e84 (mConcat_ok _ _ _ _ _ _ L L _ _ S TT TT _ (((hrz.ext ((x10.trans x14).trans x21))).ma (gridm_sz fun i k => szMI (hx.ext z23) hl1 _ _)) ((htr).ma (gridm_sz fun i k => (show szR L [resz bs (max n m)] from hlz).matI hl1 _ _)) (by omega) (by omega) (by omega) (by omega) (by omega) (by omega) (by omega) (hu.mono (by omega))) rfl rfl ?_;rintro _ W25 ⟨_, nc, _, rfl, x26, hcm⟩;have s27 := x26.sz;have z28 := z23.trans x26;refine ⟨_, rfl, ?_⟩;refine ass rfl (vnil (V.ret ⟨[.slice _ _ _], ⟨rfl, trivial⟩, ?_⟩));refine ⟨_, _, _, rfl, z28, ?_⟩;have h := hcm;rw [show max nz nt = max (max n m) (colsN [resz bs (max n m)]) by omega, wide_eq] at h;exact h
end Go.Proofs.YtknbjfefeeojlaaGreat
/- Loops that leave records behind; the basis of the null space, as it is reckoned. -/
namespace Go.Proofs.YtknbjfefeeojlaaGreat
open Go.RowKit
section
variable {r : Option Nat} {P : Program} {N : Nat} {ds : List Deferred} {Q : EQ} {E : Env} {W : World}
theorem V.loopD {c : Code} {ι : Type} (F : List (Nat × Value)) (L : ι → List (Nat × Value)) (I : ι → List Deferred → World → Prop) (μ : ι → Nat) (i₀ : ι) (hF : agree E F) (h₀ : agree E (L i₀)) (hI : I i₀ ds W)
    (round : ∀ i E0 ds W, I i ds W → V r P N ds c (thenV (fun E' ds' W' => ∃ j, agree E' F ∧ agree E' (L j) ∧ I j ds' W' ∧ μ j < μ i) Q) (ups (ups E0 F) (L i)) W) : V r P N ds (.loop c) Q E W := fun a hrep hd => by
  let p : Act → World → Nat → Prop := fun a W m => ∃ i E, Rep N a E ∧ agree E (L i ++ F) ∧ I i a.defers W ∧ μ i = m
  refine wpIn_loop (fun a W => ∃ m, p a W m) (fun a W => leastOf (p a W)) ⟨_, i₀, E, hrep, agree_append h₀ hF, by rw [hd]; exact hI, rfl⟩ ?_;rintro a W ⟨m, hm⟩;obtain ⟨i, E, hrep, hag, hI, hmu⟩ := (leastOf_spec hm).1;have hr := round i E a.defers W hI;rw [← ups_append, ups_agree hag] at hr;refine wpIn_mono (hr a hrep rfl) fun x a' W' hx => ?_
  obtain ⟨E', h1, h2⟩ := hx
  cases x with
  | normal =>
    obtain ⟨j, hj1, hj2, hIj, hlt⟩ := h2;have hp : p a' W' (μ j) := ⟨j, E', h1, agree_append hj2 hj1, hIj, rfl⟩;exact ⟨⟨_, hp⟩, by have := (leastOf_spec hp).2 _ hp; omega⟩
  | _ => exact ⟨E', h1, h2⟩
/-- Records of loops that are over. -/
structure MkO (B : Nat) (Ds : List Nat) (W : World) : Prop where
  at' : ∀ D ∈ Ds, B ≤ D ∧ W.heap[D]? = some (.deferred (some []))
  nd : Ds.Nodup
theorem MkO.nil (B : Nat) (W : World) : MkO B [] W := ⟨by simp, List.nodup_nil⟩
theorem MkO.ext {B : Nat} {Ds : List Nat} {W W' : World} (h : MkO B Ds W) (x : Ext W W') : MkO B Ds W' := ⟨fun D hD => ⟨(h.at' D hD).1, (x.block _ (Array.getElem?_eq_some_iff.1 (h.at' D hD).2).1).trans (h.at' D hD).2⟩, h.nd⟩
theorem MkO.kb {B B' : Nat} {Ds : List Nat} {W W' : World} (h : MkO B Ds W) (x : KB B' W W') : MkO B Ds W' := ⟨fun D hD => ⟨(h.at' D hD).1, x.recs _ _ (h.at' D hD).2 rfl⟩, h.nd⟩
theorem MkO.cons {B D : Nat} {Ds : List Nat} {W : World} (h : MkO B Ds W) (hD : W.heap[D]? = some (.deferred (some []))) (hB : B ≤ D) (hn : D ∉ Ds) : MkO B (D :: Ds) W := ⟨fun D' h' => by
  rcases List.mem_cons.1 h' with rfl | h'
  · exact ⟨hB, hD⟩
  · exact h.at' D' h', List.nodup_cons.2 ⟨hn, h.nd⟩⟩
theorem MkO.lt {B : Nat} {Ds : List Nat} {W : World} (h : MkO B Ds W) : ∀ D ∈ Ds, D < W.heap.size := fun D hD => (Array.getElem?_eq_some_iff.1 (h.at' D hD).2).1
theorem Lv_all {fn : Func} {Rr : Ending → World → Prop} {B : Nat} : ∀ {Ds : List Nat} {W : World}, MkO B Ds W → (∀ W', Tn B W W' → ∃ vs, Res P E W' fn.results.toList vs ∧ Rr (.returned (one vs)) W') → Lv P fn Rr E (Ds.map mark) W
  | [], W, _, h => h W (Tn.of_ext (Ext.refl _) B)
  | D :: Ds, W, hm, h => by
    have hD := hm.at' D (by simp);have hn := List.nodup_cons.1 hm.nd;have t := Tn.putObj (B := B) (.deferred none) hD.2 hD.1 rfl;refine ⟨D, rfl, hD.2, Lv_all ⟨fun D' h' => ⟨(hm.at' D' (by simp [h'])).1, ?_⟩, hn.2⟩ fun W' t' => h W' (t.trans t')⟩;have hne : D' ≠ D := fun e => hn.1 (by rw [← e]; exact h')
    exact (World.putObj_heap_other hne).trans (hm.at' D' (by simp [h'])).2
end
/-! ### The basis of the null space -/
/-- For each column: the row of its pivot, plus one. -/
def pvA (piv : List Int) (N : Nat) : Nat → List Int
  | 0 => List.replicate N 0
  | i + 1 => (pvA piv N i).set (wd piv i).toNat ((i : Int) + 1)
theorem pvA_len (piv : List Int) (N i : Nat) : (pvA piv N i).length = N := by induction i with
  | zero => simp [pvA]
  | succ i ih => simp [pvA, ih]
theorem pvA_pos (piv : List Int) (N : Nat) (hp : ∀ j, j < piv.length → 0 ≤ wd piv j ∧ wd piv j < N) (k : Nat) (hk : k < N) : ∀ i, i ≤ piv.length → (0 < wd (pvA piv N i) k ↔ ∃ j, j < i ∧ wd piv j = k)
  | 0, _ => by
    have : wd (pvA piv N 0) k = 0 := by simp [pvA, wd, hk]
    rw [this]; simp
  | i + 1, hi => by
    have ih := pvA_pos piv N hp k hk i (by omega);have hpi := hp i (by omega)
    have e : wd (pvA piv N (i + 1)) k = if wd piv i = k then (i : Int) + 1 else wd (pvA piv N i) k := by
      show wd ((pvA piv N i).set (wd piv i).toNat ((i : Int) + 1)) k = _
      have hl := pvA_len piv N i
      by_cases h : wd piv i = k
      · rw [if_pos h, h]; simp [wd, hl, hk]
      · rw [if_neg h];have h2 : (wd piv i).toNat ≠ k := fun e => h (by omega)
        simp only [wd, Int.toNat_natCast];rw [List.getD_eq_getElem?_getD, List.getElem?_set_ne (by simpa [wd] using h2), ← List.getD_eq_getElem?_getD]
    rw [e]
    split
    · rename_i h; exact ⟨fun _ => ⟨i, by omega, h⟩, fun _ => by omega⟩
    · rename_i h
      rw [ih];refine ⟨fun ⟨j, h1, h2⟩ => ⟨j, by omega, h2⟩, fun ⟨j, h1, h2⟩ => ⟨j, ?_, h2⟩⟩
      rcases Nat.lt_succ_iff_lt_or_eq.1 h1 with h3 | rfl
      · exact h3
      · exact absurd h2 h
theorem wd_mem {piv : List Int} {k : Int} : (∃ j, j < piv.length ∧ wd piv j = k) ↔ k ∈ piv := by
  constructor
  · rintro ⟨j, hj, rfl⟩
    simp [wd, hj]
  · intro h;obtain ⟨j, hj⟩ := List.getElem?_of_mem h;have hl := (List.getElem?_eq_some_iff.1 hj).1;refine ⟨j, hl, ?_⟩;simp only [wd, Int.toNat_natCast]; rw [List.getD_eq_getElem?_getD, hj]; rfl
/-- The vector of the free column k, after i pivots. -/
def nvec (rows : List (List Rat)) (piv : List Int) (N k : Nat) : Nat → List Rat
  | 0 => unitv N k
  | i + 1 => (nvec rows piv N k i).set (wd piv i).toNat (-(mat rows i k))
def nullL (rows : List (List Rat)) (piv : List Int) (N : Nat) : Nat → List (List Rat)
  | 0 => []
  | k + 1 => if (k : Int) ∈ piv then nullL rows piv N k else nullL rows piv N k ++ [nvec rows piv N k piv.length]
theorem nullL_len (rows : List (List Rat)) (piv : List Int) (N k : Nat) : (nullL rows piv N k).length ≤ k := by induction k with
  | zero => simp [nullL]
  | succ k ih =>
    unfold nullL
    split
    · omega
    · rw [List.length_append, List.length_singleton]; omega
/-- The null space. -/
def nullS (rss : List (List Rat)) (n : Nat) : List (List Rat) := nullL (redS (gridm (matI rss) n (colsN rss)) (colsN rss)).1 (redS (gridm (matI rss) n (colsN rss)) (colsN rss)).2.1 (colsN rss) (colsN rss)
/-- The pivots are columns, in increasing order. -/
theorem redS_piv (rows : List (List Rat)) : ∀ n, (∀ j, j < (redS rows n).2.1.length → ∃ k : Nat, wd (redS rows n).2.1 j = (k : Int) ∧ k < n) ∧ ∀ i j, i < j → j < (redS rows n).2.1.length → wd (redS rows n).2.1 i < wd (redS rows n).2.1 j
  | 0 => ⟨fun j hj => by simp [redS] at hj, fun i j _ hj => by simp [redS] at hj⟩
  | n + 1 => by
    obtain ⟨h1, h2⟩ := redS_piv rows n
    unfold redS colS
    split
    · have e1 : ∀ j, j < (redS rows n).2.1.length → wd ((redS rows n).2.1 ++ [(n : Int)]) j = wd (redS rows n).2.1 j := fun j hj => by
        simp only [wd, Int.toNat_natCast]; rw [List.getD_eq_getElem?_getD, List.getElem?_append_left hj, ← List.getD_eq_getElem?_getD]
      have e2 : wd ((redS rows n).2.1 ++ [(n : Int)]) (((redS rows n).2.1.length : Nat) : Int) = n := by
        simp [wd]
      refine ⟨fun j hj => ?_, fun i j hij hj => ?_⟩
      · simp only [List.length_append, List.length_singleton] at hj
        rcases Nat.lt_succ_iff_lt_or_eq.1 hj with h | rfl
        · obtain ⟨k, h3, h4⟩ := h1 j h; exact ⟨k, by rw [e1 j h]; exact h3, by omega⟩
        · exact ⟨n, e2, by omega⟩
      · simp only [List.length_append, List.length_singleton] at hj
        rcases Nat.lt_succ_iff_lt_or_eq.1 hj with h | rfl
        · rw [e1 i (by omega), e1 j h]; exact h2 i j hij h
        · obtain ⟨k, h3, h4⟩ := h1 i hij;rw [e1 i hij];have e3 := e2;simp only [] at e3 ⊢;omega
    · exact ⟨fun j hj => by obtain ⟨k, h3, h4⟩ := h1 j hj; exact ⟨k, h3, by omega⟩, h2⟩
end Go.Proofs.YtknbjfefeeojlaaGreat
/- The reduced row echelon form: plain mathematics. -/
namespace Go.Proofs.YtknbjfefeeojlaaGreat
/-! ### Entries -/
def sw (p d i : Nat) : Nat := if i = d then p else if i = p then d else i
theorem mat_swapR {rows : List (List Rat)} {p d i k : Nat} (hp : p < rows.length) (hd : d < rows.length) (hi : i < rows.length) : mat (swapR rows p d) i k = mat rows (sw p d i) k := by
  unfold mat swapR sw
  rw [rowat_set (by simpa using hd)]
  by_cases e : i = d
  · rw [if_pos e, if_pos e]
  · rw [if_neg e, if_neg e, rowat_set hp]
    by_cases e2 : i = p
    · rw [if_pos e2, if_pos e2]
    · rw [if_neg e2, if_neg e2]
theorem vat_sclR (r : Rat) (xs : List Rat) (k : Nat) : vat (sclR r xs) k = r * vat xs k := by
  unfold sclR
  rcases Nat.lt_or_ge k (max xs.length 0) with h | h
  · rw [vat_zipf _ _ _ h, show vat [] k = 0 from rfl, Rat.add_zero]
  · rw [vat_ge (by rw [zipf_len]; omega), vat_ge (rs := xs) (by omega), Rat.mul_zero]
theorem vat_axR (r : Rat) (xs ys : List Rat) (k : Nat) : vat (axR r xs ys) k = r * vat xs k + vat ys k := by
  unfold axR
  rcases Nat.lt_or_ge k (max xs.length ys.length) with h | h
  · rw [vat_zipf _ _ _ h]
  · rw [vat_ge (by rw [zipf_len]; omega), vat_ge (rs := xs) (by omega), vat_ge (rs := ys) (by omega), Rat.mul_zero, Rat.add_zero]
theorem mat_divR {rows : List (List Rat)} {d k i c : Nat} (hd : d < rows.length) : mat (divR rows d k) i c = if i = d then 1 / mat rows d k * mat rows d c else mat rows i c := by
  unfold mat divR
  rw [rowat_set hd]
  split
  · rw [vat_sclR]; rfl
  · rfl
theorem mat_elimS {rows : List (List Rat)} {d k i j c : Nat} (hj : j < rows.length) : mat (elimS rows d k i) j c = if j < i ∧ j ≠ d then mat rows j c - mat rows j k * mat rows d c else mat rows j c := by
  unfold mat
  rw [elimS_row hj]
  by_cases h1 : j < i
  · rw [if_pos h1]
    unfold elimT
    by_cases h2 : j = d
    · rw [if_pos (Or.inl h2), if_neg (fun h => h.2 h2)]
    · by_cases h3 : mat rows j k = 0
      · rw [if_pos (Or.inr h3), if_pos ⟨h1, h2⟩];have h4 : vat (rowat rows j) k = 0 := h3;rw [h4]; grind
      · rw [if_neg (fun h => h.elim h2 h3), if_pos ⟨h1, h2⟩, vat_axR]
        show -(vat (rowat rows j) k) * _ + _ = _
        grind
  · rw [if_neg h1, if_neg (fun h => h1 h.1)]
theorem mat_colR {rows : List (List Rat)} {d k p i c : Nat} (hp : p < rows.length) (hd : d < rows.length) (hi : i < rows.length) :
    mat (colR rows d k p) i c = if i = d then mat rows p c / mat rows p k else mat rows (sw p d i) c - mat rows (sw p d i) k * (mat rows p c / mat rows p k) := by
  have e : ∀ c, mat (divR (swapR rows p d) d k) d c = mat rows p c / mat rows p k := fun c => by
    rw [mat_divR (by rw [swapR_len]; exact hd), if_pos rfl, mat_swapR hp hd hd, mat_swapR hp hd hd]
    unfold sw; rw [if_pos rfl, Rat.div_def, Rat.div_def]; grind
  unfold colR
  rw [mat_elimS (by rw [divR_len, swapR_len]; exact hi)]
  by_cases h : i = d
  · rw [if_pos h, if_neg (by omega), h, e]
  · rw [if_neg h, if_pos ⟨hi, h⟩, e, mat_divR (by rw [swapR_len]; exact hd), if_neg h, mat_divR (by rw [swapR_len]; exact hd), if_neg h, mat_swapR hp hd hi, mat_swapR hp hd hi]
/-! ### Rows that are combinations of rows -/
theorem choose_fn {α : Type} [Inhabited α] {m : Nat} {p : Nat → α → Prop} (h : ∀ t, t < m → ∃ c, p t c) : ∃ D : Nat → α, ∀ t, t < m → p t (D t) := by
  induction m with
  | zero => exact ⟨fun _ => default, fun t ht => absurd ht (Nat.not_lt_zero _)⟩
  | succ m ih =>
    obtain ⟨D, hD⟩ := ih fun t ht => h t (by omega)
    obtain ⟨c, hc⟩ := h m (by omega);refine ⟨fun t => if t = m then c else D t, fun t ht => ?_⟩
    by_cases e : t = m
    · subst e; simpa using hc
    · simp only [if_neg e]; exact hD t (by omega)
def Sub (A B : List (List Rat)) : Prop := ∀ i, i < A.length → ∃ c : Nat → Rat, ∀ k, mat A i k = sumk (fun t => c t * mat B t k) B.length
theorem Sub.trans {A B C : List (List Rat)} (h1 : Sub A B) (h2 : Sub B C) : Sub A C := fun i hi => by
  obtain ⟨c, hc⟩ := h1 i hi
  have hD : ∃ D : Nat → Nat → Rat, ∀ t, t < B.length → ∀ k, mat B t k = sumk (fun s => D t s * mat C s k) C.length :=
    choose_fn fun t ht => h2 t ht
  obtain ⟨D, hD⟩ := hD;refine ⟨fun s => sumk (fun t => c t * D t s) B.length, fun k => ?_⟩
  rw [hc k, sumk_ext (g := fun t => sumk (fun s => c t * D t s * mat C s k) C.length) fun t ht => by
    rw [hD t ht k, ← sumk_mul]; exact sumk_ext fun s _ => by grind]
  rw [sumk_comm];exact sumk_ext fun s _ => sumk_mulr _ _ _
theorem Sub.two {A B : List (List Rat)} (h : ∀ i, i < A.length → ∃ p q x y, p < B.length ∧ q < B.length ∧ ∀ k, mat A i k = x * mat B p k + y * mat B q k) : Sub A B := fun i hi => by
  obtain ⟨p, q, x, y, hp, hq, h⟩ := h i hi;refine ⟨fun t => (if t = p then x else 0) + (if t = q then y else 0), fun k => ?_⟩;rw [h k, sumk_ext (g := fun t => (if t = p then x else 0) * mat B t k + (if t = q then y else 0) * mat B t k) fun t _ => by grind, sumk_add];rw [sumk_only hp fun t _ ht => by rw [if_neg ht, Rat.zero_mul], sumk_only hq fun t _ ht => by rw [if_neg ht, Rat.zero_mul], if_pos rfl, if_pos rfl]
theorem Sub.refl (A : List (List Rat)) : Sub A A := Sub.two fun i hi => ⟨i, i, 1, 0, hi, hi, fun k => by grind⟩
theorem Sub.swap {rows : List (List Rat)} {p d : Nat} (hp : p < rows.length) (hd : d < rows.length) : Sub (swapR rows p d) rows ∧ Sub rows (swapR rows p d) := by
  have hs : ∀ i, i < rows.length → sw p d i < rows.length := fun i hi => by unfold sw; split; exact hp; split; exact hd; exact hi
  have hss : ∀ i, sw p d (sw p d i) = i := fun i => by unfold sw; split <;> split <;> (try split) <;> omega
  refine ⟨Sub.two fun i hi => ?_, Sub.two fun i hi => ?_⟩
  · rw [swapR_len] at hi;exact ⟨_, _, 1, 0, hs i hi, hs i hi, fun k => by rw [mat_swapR hp hd hi]; grind⟩
  · exact ⟨sw p d i, sw p d i, 1, 0, by rw [swapR_len]; exact hs i hi, by rw [swapR_len]; exact hs i hi, fun k => by rw [mat_swapR hp hd (hs i hi), hss]; grind⟩
theorem Sub.div {rows : List (List Rat)} {d k : Nat} (hd : d < rows.length) (hk : mat rows d k ≠ 0) : Sub (divR rows d k) rows ∧ Sub rows (divR rows d k) := by
  refine ⟨Sub.two fun i hi => ?_, Sub.two fun i hi => ?_⟩
  · rw [divR_len] at hi
    by_cases e : i = d
    · exact ⟨d, d, 1 / mat rows d k, 0, hd, hd, fun c => by rw [mat_divR hd, if_pos e]; grind⟩
    · exact ⟨i, i, 1, 0, hi, hi, fun c => by rw [mat_divR hd, if_neg e]; grind⟩
  · by_cases e : i = d
    · subst e;refine ⟨i, i, mat rows i k, 0, by rw [divR_len]; exact hd, by rw [divR_len]; exact hd, fun c => ?_⟩;rw [mat_divR hd, if_pos rfl, Rat.div_def, Rat.one_mul, ← Rat.mul_assoc, Rat.mul_inv_cancel _ hk]; grind
    · exact ⟨i, i, 1, 0, by rw [divR_len]; exact hi, by rw [divR_len]; exact hi, fun c => by rw [mat_divR hd, if_neg e]; grind⟩
theorem Sub.elim {rows : List (List Rat)} {d k i : Nat} (hd : d < rows.length) : Sub (elimS rows d k i) rows ∧ Sub rows (elimS rows d k i) := by
  refine ⟨Sub.two fun j hj => ?_, Sub.two fun j hj => ?_⟩
  · rw [elimS_len] at hj
    by_cases h : j < i ∧ j ≠ d
    · exact ⟨j, d, 1, -(mat rows j k), hj, hd, fun c => by rw [mat_elimS hj, if_pos h]; grind⟩
    · exact ⟨j, j, 1, 0, hj, hj, fun c => by rw [mat_elimS hj, if_neg h]; grind⟩
  · have hj' : j < (elimS rows d k i).length := by rw [elimS_len]; exact hj
    have hd' : d < (elimS rows d k i).length := by rw [elimS_len]; exact hd
    have ed : ∀ c, mat (elimS rows d k i) d c = mat rows d c := fun c => by rw [mat_elimS hd, if_neg (by omega)]
    by_cases h : j < i ∧ j ≠ d
    · exact ⟨j, d, 1, mat rows j k, hj', hd', fun c => by rw [mat_elimS hj, if_pos h, ed]; grind⟩
    · exact ⟨j, j, 1, 0, hj', hj', fun c => by rw [mat_elimS hj, if_neg h]; grind⟩
theorem Sub.col {rows : List (List Rat)} {d k p : Nat} (hp : p < rows.length) (hd : d < rows.length) (hk : mat rows p k ≠ 0) : Sub (colR rows d k p) rows ∧ Sub rows (colR rows d k p) := by
  have h1 := Sub.swap hp hd;have h2 := Sub.div (rows := swapR rows p d) (d := d) (k := k) (by rw [swapR_len]; exact hd) (by rw [mat_swapR hp hd hd]; unfold sw; rw [if_pos rfl]; exact hk);have h3 := Sub.elim (rows := divR (swapR rows p d) d k) (d := d) (k := k) (i := rows.length) (by rw [divR_len, swapR_len]; exact hd);exact ⟨(h3.1.trans h2.1).trans h1.1, (h1.2.trans h2.2).trans h3.2⟩
/-! ### The state after n columns -/
def pvt (piv : List Int) (j : Nat) : Nat := (wd piv j).toNat
structure RI (rows0 rows : List (List Rat)) (piv : List Int) (n : Nat) : Prop where
  len : rows.length = rows0.length
  pl : piv.length ≤ rows.length
  nn : ∀ j, j < piv.length → wd piv j = (pvt piv j : Int)
  lt : ∀ j, j < piv.length → pvt piv j < n
  inc : ∀ i j, i < j → j < piv.length → pvt piv i < pvt piv j
  one : ∀ i j, i < rows.length → j < piv.length → mat rows i (pvt piv j) = if i = j then 1 else 0
  low : ∀ i k, piv.length ≤ i → k < n → mat rows i k = 0
  lead : ∀ i k, i < piv.length → k < pvt piv i → mat rows i k = 0
  fwd : Sub rows rows0
  bwd : Sub rows0 rows
theorem pf_nz {rows : List (List Rat)} {k d : Nat} (hd : d ≤ rows.length) (h : pf rows k d < rows.length) : d ≤ pf rows k d ∧ mat rows (pf rows k d) k ≠ 0 := ⟨(pf_is hd).1, (pf_is hd).2.2.2 h⟩
theorem RI.step {rows0 rows : List (List Rat)} {piv : List Int} {δ : Rat} {n : Nat} (h : RI rows0 rows piv n) : RI rows0 (colS (rows, piv, δ) n).1 (colS (rows, piv, δ) n).2.1 (n + 1) := by
  unfold colS
  split
  · rename_i hp
    simp only at hp;obtain ⟨hdp, hnz⟩ := pf_nz h.pl hp
    generalize hP : pf rows n piv.length = p at *
    simp only [hP];have hd : piv.length < rows.length := by omega
    have e1 : ∀ j, j < piv.length → pvt (piv ++ [(n : Int)]) j = pvt piv j := fun j hj => by simp [pvt, wd, hj, List.getElem?_append_left hj]
    have e2 : pvt (piv ++ [(n : Int)]) piv.length = n := by simp [pvt, wd]
    have hm : ∀ i c, i < rows.length → mat (colR rows piv.length n p) i c = if i = piv.length then mat rows p c / mat rows p n else mat rows (sw p piv.length i) c - mat rows (sw p piv.length i) n * (mat rows p c / mat rows p n) := fun i c hi => mat_colR hp hd hi
    have hz : ∀ c, c < n → mat rows p c = 0 := fun c hc => h.low p c (by omega) hc
    have hz2 : ∀ c, c < n → mat rows p c / mat rows p n = 0 := fun c hc => by rw [hz c hc, Rat.div_def, Rat.zero_mul]
    have hlow : ∀ i k, piv.length + 1 ≤ i → k < n + 1 → mat (colR rows piv.length n p) i k = 0 := fun i k hi hk => by
      rcases Nat.lt_or_ge i rows.length with hl | hl
      · rw [hm i k hl, if_neg (by omega)]
        rcases Nat.lt_succ_iff_lt_or_eq.1 hk with hk | rfl
        · rw [hz2 k hk, Rat.mul_zero, h.low _ k (by unfold sw; split; omega; split <;> omega) hk]; grind
        · rw [Rat.div_def, Rat.mul_inv_cancel _ hnz]; grind
      · exact mat_ge1 (by rw [colR_len]; exact hl)
    have hc := Sub.col (d := piv.length) (k := n) hp hd hnz;refine ⟨by rw [colR_len]; exact h.len, by simp only [List.length_append, List.length_singleton, colR_len]; omega, ?_, ?_, ?_, ?_, ?_, ?_, hc.1.trans h.fwd, h.bwd.trans hc.2⟩
    · intro j hj;simp only [List.length_append, List.length_singleton] at hj
      rcases Nat.lt_succ_iff_lt_or_eq.1 hj with hj | rfl
      · rw [e1 j hj, ← h.nn j hj]; simp [wd, hj, List.getElem?_append_left hj]
      · rw [e2]; simp [wd]
    · intro j hj;simp only [List.length_append, List.length_singleton] at hj
      rcases Nat.lt_succ_iff_lt_or_eq.1 hj with hj | rfl
      · rw [e1 j hj]; have := h.lt j hj; omega
      · rw [e2]; omega
    · intro i j hij hj;simp only [List.length_append, List.length_singleton] at hj
      rcases Nat.lt_succ_iff_lt_or_eq.1 hj with hj | rfl
      · rw [e1 j hj, e1 i (by omega)]; exact h.inc i j hij hj
      · rw [e2, e1 i hij]; exact h.lt i hij
    · intro i j hi hj;rw [colR_len] at hi;simp only [List.length_append, List.length_singleton] at hj
      rcases Nat.lt_succ_iff_lt_or_eq.1 hj with hj | rfl
      · have hjn := h.lt j hj;rw [e1 j hj, hm i _ hi, hz2 _ hjn]
        by_cases e : i = piv.length
        · rw [if_pos e, if_neg (by omega)]
        · rw [if_neg e]
          by_cases e3 : i = p
          · rw [show sw p piv.length i = piv.length by unfold sw; rw [if_neg e, if_pos e3], h.one _ j hd hj, if_neg (by omega), if_neg (by omega)]; grind
          · rw [show sw p piv.length i = i by unfold sw; rw [if_neg e, if_neg e3], h.one _ j hi hj]; grind
      · rw [e2, hm i _ hi]
        by_cases e : i = piv.length
        · rw [if_pos e, if_pos e, Rat.div_def, Rat.mul_inv_cancel _ hnz]
        · rw [if_neg e, if_neg e, Rat.div_def, Rat.mul_inv_cancel _ hnz]; grind
    · intro i k hi hk;simp only [List.length_append, List.length_singleton] at hi;exact hlow i k hi hk
    · intro i k hi hk;simp only [List.length_append, List.length_singleton] at hi
      rcases Nat.lt_succ_iff_lt_or_eq.1 hi with hi | rfl
      · rw [e1 i hi] at hk;have hin := h.lt i hi;rw [hm i k (by omega), if_neg (by omega), hz2 k (by omega), show sw p piv.length i = i by unfold sw; rw [if_neg (by omega), if_neg (by omega)], h.lead i k hi hk]; grind
      · rw [e2] at hk;rw [hm _ k hd, if_pos rfl, hz2 k hk]
  · rename_i hp
    simp only at hp;have hp2 := pf_is (rows := rows) (k := n) h.pl;refine ⟨h.len, h.pl, h.nn, fun j hj => Nat.lt_succ_of_lt (h.lt j hj), h.inc, h.one, fun i k hi hk => ?_, h.lead, h.fwd, h.bwd⟩
    rcases Nat.lt_succ_iff_lt_or_eq.1 hk with hk | rfl
    · exact h.low i k hi hk
    · rcases Nat.lt_or_ge i rows.length with hl | hl
      · exact hp2.2.2.1 i hi (by have := hp2.2.1; omega)
      · exact mat_ge1 hl
theorem redS_RI (rows : List (List Rat)) : ∀ n, RI rows (redS rows n).1 (redS rows n).2.1 n
  | 0 => ⟨rfl, Nat.zero_le _, fun _ h => absurd h (Nat.not_lt_zero _), fun _ h => absurd h (Nat.not_lt_zero _), fun _ _ _ h => absurd h (Nat.not_lt_zero _), fun _ _ _ h => absurd h (Nat.not_lt_zero _), fun _ _ _ h => absurd h (Nat.not_lt_zero _), fun _ _ h => absurd h (Nat.not_lt_zero _), Sub.refl _, Sub.refl _⟩
  | n + 1 => (redS_RI rows n).step (δ := (redS rows n).2.2)
theorem rect_ge {N : Nat} {rows : List (List Rat)} (h : rect N rows) {i k : Nat} (hk : N ≤ k) : mat rows i k = 0 := by
  rcases Nat.lt_or_ge i rows.length with hl | hl
  · exact mat_ge2 (by rw [h.row hl]; exact hk)
  · exact mat_ge1 hl
section
variable {rows0 rows : List (List Rat)} {piv : List Int} {n : Nat}
/-- Every row is the combination of the reduced rows by its elements at the pivots. -/
theorem RI.comb (h : RI rows0 rows piv n) (i k : Nat) (hz : ∀ t, piv.length ≤ t → mat rows t k = 0) : mat rows0 i k = sumk (fun j => mat rows0 i (pvt piv j) * mat rows j k) piv.length := by
  rcases Nat.lt_or_ge i rows0.length with hi | hi
  · obtain ⟨c, hc⟩ := h.bwd i hi
    have e : ∀ j, j < piv.length → mat rows0 i (pvt piv j) = c j := fun j hj => by
      have hj2 : j < rows.length := by have := h.pl; omega
      rw [hc, sumk_only hj2 fun t ht hn => by rw [h.one t j ht hj, if_neg hn, Rat.mul_zero], h.one j j hj2 hj, if_pos rfl, Rat.mul_one]
    rw [hc k, sumk_le h.pl fun t h1 _ => by rw [hz t h1, Rat.mul_zero]];exact sumk_ext fun j hj => by rw [e j hj]
  · rw [mat_ge1 hi];exact (sumk_zero fun j _ => by rw [mat_ge1 hi, Rat.zero_mul]).symm
theorem RI.zero {N : Nat} (h : RI rows0 rows piv n) (hr : rect N rows) (hN : N ≤ n) (t k : Nat) (ht : piv.length ≤ t) : mat rows t k = 0 := by
  rcases Nat.lt_or_ge k n with hk | hk
  · exact h.low t k ht hk
  · exact rect_ge hr (by omega)
end
def rank (rows : List (List Rat)) (n : Nat) : Nat := (redS rows n).2.1.length
/-! ### The first columns alone -/
theorem colS_left {rows mows : List (List Rat)} {piv : List Int} {δ : Rat} {N k : Nat} (hl : rows.length = mows.length) (hd : piv.length ≤ rows.length) (hk : k < N) (h : ∀ i c, c < N → mat rows i c = mat mows i c) :
    (colS (rows, piv, δ) k).2 = (colS (mows, piv, δ) k).2 ∧ ∀ i c, c < N → mat (colS (rows, piv, δ) k).1 i c = mat (colS (mows, piv, δ) k).1 i c := by
  have e : pf mows k piv.length = pf rows k piv.length := by
    refine IsP.pf ?_;obtain ⟨h1, h2, h3, h4⟩ := pf_is (rows := rows) (k := k) hd;exact ⟨h1, by omega, fun j hj hj2 => by rw [← h j k hk]; exact h3 j hj hj2, fun hh => by rw [← h _ k hk]; exact h4 (by omega)⟩
  have hd2 := (pf_is (rows := rows) (k := k) hd).1
  by_cases hp : pf rows k piv.length < rows.length
  · have e1 : colS (rows, piv, δ) k = (colR rows piv.length k (pf rows k piv.length), piv ++ [(k : Int)], (if pf rows k piv.length = piv.length then δ else -δ) * mat (swapR rows (pf rows k piv.length) piv.length) piv.length k) := by unfold colS; simp only; rw [if_pos hp]
    have e2 : colS (mows, piv, δ) k = (colR mows piv.length k (pf rows k piv.length), piv ++ [(k : Int)], (if pf rows k piv.length = piv.length then δ else -δ) * mat (swapR mows (pf rows k piv.length) piv.length) piv.length k) := by unfold colS; simp only [e]; rw [if_pos (by omega)]
    rw [e1, e2]
    generalize pf rows k piv.length = p at *
    have hdl : piv.length < rows.length := by omega
    refine ⟨?_, fun i c hc => ?_⟩
    · simp only;rw [mat_swapR hp hdl hdl, mat_swapR (by omega) (by omega) (by omega), h _ k hk]
    · simp only
      rcases Nat.lt_or_ge i rows.length with hi | hi
      · rw [mat_colR hp hdl hi, mat_colR (by omega) (by omega) (by omega)];simp only [h _ k hk, h _ c hc]
      · rw [mat_ge1 (by rw [colR_len]; exact hi), mat_ge1 (by rw [colR_len]; omega)]
  · have e1 : colS (rows, piv, δ) k = (rows, piv, δ) := by unfold colS; simp only; rw [if_neg hp]
    have e2 : colS (mows, piv, δ) k = (mows, piv, δ) := by unfold colS; simp only [e]; rw [if_neg (by omega)]
    rw [e1, e2];exact ⟨rfl, h⟩
theorem redS_left {rows mows : List (List Rat)} {N : Nat} (hl : rows.length = mows.length) (h : ∀ i c, c < N → mat rows i c = mat mows i c) : ∀ n, n ≤ N →
    (redS rows n).2 = (redS mows n).2 ∧ ∀ i c, c < N → mat (redS rows n).1 i c = mat (redS mows n).1 i c
  | 0, _ => ⟨rfl, h⟩
  | n + 1, hn => by
    obtain ⟨h1, h2⟩ := redS_left hl h n (by omega);have h3 := redS_RI rows n;have h4 := redS_RI mows n;rw [redS, redS];rw [show redS rows n = ((redS rows n).1, (redS rows n).2.1, (redS rows n).2.2) from rfl, show redS mows n = ((redS mows n).1, (redS mows n).2.1, (redS mows n).2.2) from rfl, ← h1];exact colS_left (by rw [h3.len, h4.len, hl]) h3.pl (by omega) h2
/-- Rows as columns. -/
def trA (rows : List (List Rat)) : MF := fun i j => mat rows j i
def detR (rows : List (List Rat)) (n : Nat) : Rat := if rank rows n < n then 0 else (redS rows n).2.2
section
variable {n : Nat} {g : MF → Rat}
theorem ColP.swapR (hg : ColP n g) {rows : List (List Rat)} (hl : rows.length = n) {p d : Nat} (hp : p < n) (hd : d < n) : g (trA (swapR rows p d)) = if p = d then g (trA rows) else - g (trA rows) := by
  split
  · rename_i h; subst h; rw [swapR_self]
  · rename_i h
    rw [← hg.swap _ d p hd hp (Ne.symm h)];refine hg.congr _ _ fun i j _ hj => ?_
    unfold trA swapc
    rw [mat_swapR (by omega) (by omega) (by omega)]; rfl
theorem ColP.divR (hg : ColP n g) {rows : List (List Rat)} (hl : rows.length = n) {d k : Nat} (hd : d < n) (hk : mat rows d k ≠ 0) : g (trA rows) = mat rows d k * g (trA (divR rows d k)) := by
  have h := hg.mul (trA rows) d (1 / mat rows d k) hd
  rw [show g (trA (Proofs.YtknbjfefeeojlaaGreat.divR rows d k)) = g (setc (trA rows) d fun i => 1 / mat rows d k * trA rows i d) from hg.congr _ _ fun i j _ hj => by
    unfold trA setc; rw [mat_divR (by omega)], h, Rat.div_def, Rat.one_mul, ← Rat.mul_assoc, Rat.mul_inv_cancel _ hk, Rat.one_mul]
theorem ColP.elim (hg : ColP n g) {rows : List (List Rat)} (hl : rows.length = n) {d k : Nat} (hd : d < n) : ∀ i, i ≤ n → g (trA (elimS rows d k i)) = g (trA rows)
  | 0, _ => by rw [elimS_zero]
  | i + 1, hi => by
    rw [← ColP.elim hg hl hd i (by omega)]
    by_cases e : i = d
    · rw [elimS_keep (by omega) (.inl e)]
    · rw [← hg.add (trA (elimS rows d k i)) i d (-(mat rows i k)) (by omega) hd e];refine hg.congr _ _ fun a j _ hj => ?_
      show mat (elimS rows d k (i + 1)) j a = if j = i then mat (elimS rows d k i) i a + -(mat rows i k) * mat (elimS rows d k i) d a else mat (elimS rows d k i) j a
      rw [mat_elimS (j := j) (by omega), mat_elimS (j := i) (by omega), mat_elimS (j := d) (by omega), mat_elimS (j := j) (by omega)]
      by_cases e2 : j = i
      · subst e2;rw [if_pos ⟨by omega, e⟩, if_pos rfl, if_neg (by omega), if_neg (by omega)]; grind
      · rw [if_neg e2]
        by_cases e3 : j < i ∧ j ≠ d
        · rw [if_pos e3, if_pos ⟨by omega, e3.2⟩]
        · rw [if_neg e3, if_neg (by omega)]
theorem ColP.red (hg : ColP n g) {rows : List (List Rat)} (hl : rows.length = n) : ∀ k, g (trA rows) = (redS rows k).2.2 * g (trA (redS rows k).1)
  | 0 => by simp [redS]
  | k + 1 => by
    have ih := ColP.red hg hl k;have hR := redS_RI rows k;rw [redS, show redS rows k = ((redS rows k).1, (redS rows k).2.1, (redS rows k).2.2) from rfl]
    generalize (redS rows k).1 = R at *
    generalize (redS rows k).2.1 = p at *
    generalize (redS rows k).2.2 = δ at *
    have hRl : R.length = n := by rw [hR.len, hl]
    unfold colS
    split
    · rename_i hp
      simp only at hp;obtain ⟨h1, h2⟩ := pf_nz hR.pl hp;have hid : pf R k p.length < R.length := hp
      generalize pf R k p.length = q at *
      have hd : p.length < n := by omega
      have hq : q < n := by omega
      show _ = ((if q = p.length then δ else -δ) * mat (Proofs.YtknbjfefeeojlaaGreat.swapR R q p.length) p.length k) * g (trA (colR R p.length k q))
      have hs := hg.swapR hRl hq hd;have hsl : (Proofs.YtknbjfefeeojlaaGreat.swapR R q p.length).length = n := by rw [swapR_len, hRl]
      have hnz : mat (Proofs.YtknbjfefeeojlaaGreat.swapR R q p.length) p.length k ≠ 0 := by
        rw [mat_swapR hp (by omega) (by omega)]; unfold sw; rw [if_pos rfl]; exact h2
      have hv := hg.divR hsl hd hnz;have he := hg.elim (rows := Proofs.YtknbjfefeeojlaaGreat.divR (Proofs.YtknbjfefeeojlaaGreat.swapR R q p.length) p.length k) (by rw [divR_len, hsl]) hd (k := k) n (Nat.le_refl _)
      unfold colR
      rw [show R.length = n from hRl, he, ih]
      have e : g (trA R) = (if q = p.length then 1 else -1) * g (trA (Proofs.YtknbjfefeeojlaaGreat.swapR R q p.length)) := by
        rw [hs]; split <;> grind
      rw [e, hv]
      split <;> grind
    · exact ih
end
theorem gap (piv : List Int) (n : Nat) (h1 : ∀ i j, i < j → j < piv.length → pvt piv i < pvt piv j) (h2 : ∀ j, j < piv.length → pvt piv j < n) (hl : piv.length = n) : ∀ j, j < n → pvt piv j = j := by
  have lo : ∀ j, j < n → j ≤ pvt piv j := by
    intro j
    induction j with
    | zero => intro _; omega
    | succ j ih => intro hj; have := ih (by omega); have := h1 j (j + 1) (by omega) (by omega); omega
  have hi : ∀ d j, j < n → n - 1 - j = d → pvt piv j ≤ j := by
    intro d
    induction d with
    | zero => intro j hj he; have := h2 j (by omega); omega
    | succ d ih => intro j hj he; have := ih (j + 1) (by omega) (by omega); have := h1 j (j + 1) (by omega) (by omega); omega
  exact fun j hj => by have := lo j hj; have := hi _ j hj rfl; omega
/-- All columns bear pivots: the first n columns are those of the identity. -/
theorem RI.full {rows0 rows : List (List Rat)} {piv : List Int} {n : Nat} (h : RI rows0 rows piv n) (hp : piv.length = n) {i j : Nat} (hi : i < rows.length) (hj : j < n) : mat rows i j = if i = j then 1 else 0 := by
  have := h.one i j hi (by omega)
  rwa [gap piv n h.inc h.lt hp j hj] at this
theorem rank_le (rows : List (List Rat)) (n : Nat) : rank rows n ≤ n := by
  have hR := redS_RI rows n
  unfold rank
  generalize (redS rows n).2.1 = p at *
  have lo : ∀ j, j < p.length → j ≤ pvt p j := by
    intro j
    induction j with
    | zero => intro _; omega
    | succ j ih => intro hj; have := ih (by omega); have := hR.inc j (j + 1) (by omega) (by omega); omega
  rcases Nat.eq_zero_or_pos p.length with h | h
  · omega
  · have := lo (p.length - 1) (by omega); have := hR.lt (p.length - 1) (by omega); omega
/-- What the elimination reckons is what every such function is, up to its value at the identity. -/
theorem ColP.eq {n : Nat} {g : MF → Rat} (hg : ColP n g) {rows : List (List Rat)} (hl : rows.length = n) : g (trA rows) = detR rows n * g idf := by
  have hR := redS_RI rows n;have h := hg.red hl n;have hle := rank_le rows n
  unfold detR
  rw [h]
  unfold rank at *
  generalize (redS rows n).1 = R at *
  generalize (redS rows n).2.1 = p at *
  generalize (redS rows n).2.2 = δ at *
  split
  · rename_i hlt
    have h0 : g (trA R) = 0 := by
      have := hg.mul (trA R) (n - 1) 0 (by omega);rw [Rat.zero_mul] at this;rw [← this];refine hg.congr _ _ fun i j hi hj => ?_
      unfold trA setc
      by_cases e : j = n - 1
      · rw [if_pos e, e, hR.low (n - 1) i (by omega) hi]; grind
      · rw [if_neg e]
    rw [h0, Rat.mul_zero, Rat.zero_mul]
  · rename_i hge
    rw [hg.congr (trA R) idf fun i j hi hj => by
      unfold trA idf
      rw [hR.full (by omega) (by rw [hR.len]; omega) hi]
      by_cases e : j = i
      · rw [if_pos e, if_pos e.symm]
      · rw [if_neg e, if_neg (Ne.symm e)]]
/-- A matrix of n rows and n columns. -/
def sqm (n : Nat) (A : MF) : List (List Rat) := (List.range n).map fun i => (List.range n).map fun j => A i j
theorem sqm_len (n : Nat) (A : MF) : (sqm n A).length = n := by simp [sqm]
theorem mat_sqm {n : Nat} {A : MF} {i j : Nat} (hi : i < n) (hj : j < n) : mat (sqm n A) i j = A i j := by
  simp [mat, rowat, vat, sqm, hi, hj]
theorem ColP.det {n : Nat} {g : MF → Rat} (hg : ColP n g) (A : MF) : g A = det n A * g idf := by
  have e : ∀ {f : MF → Rat}, ColP n f → f A = f (trA (sqm n fun i j => A j i)) := fun hf => hf.congr _ _ fun i j hi hj => by unfold trA; rw [mat_sqm hj hi]
  rw [e hg, hg.eq (sqm_len _ _), e (det_col n), (det_col n).eq (sqm_len _ _), det_id, Rat.mul_one]
theorem mulF_col (n : Nat) (B : MF) : ColP n fun A => det n (mulF n B A) where
  congr := fun A C h => det_congr n _ _ fun i j hi hj => sumk_ext fun t ht => by rw [h t j ht hj]
  swap := fun A a b ha hb hab => by rw [← (det_col n).swap _ a b ha hb hab]; rfl
  mul := fun A a s ha => by
    rw [← (det_col n).mul _ a s ha]
    congr 1
    funext i j
    unfold mulF setc
    by_cases e : j = a
    · rw [if_pos e]
      show _ = s * sumk (fun t => B i t * A t a) n
      rw [← sumk_mul]; exact sumk_ext fun t _ => by rw [if_pos e]; grind
    · rw [if_neg e]; exact sumk_ext fun t _ => by rw [if_neg e]
  add := fun A a b s ha hb hab => by
    rw [← (det_col n).add (mulF n B A) a b s ha hb hab]
    congr 1
    funext i j
    unfold mulF setc
    by_cases e : j = a
    · rw [if_pos e]
      show _ = sumk (fun t => B i t * A t a) n + s * sumk (fun t => B i t * A t b) n
      rw [← sumk_mul, ← sumk_add]; exact sumk_ext fun t _ => by rw [if_pos e]; grind
    · rw [if_neg e]; exact sumk_ext fun t _ => by rw [if_neg e]
theorem mulF_id {n : Nat} (B : MF) {i j : Nat} (hj : j < n) : mulF n B idf i j = B i j := by
  unfold mulF idf
  rw [sumk_only hj fun t _ ht => by rw [if_neg ht, Rat.mul_zero], if_pos rfl, Rat.mul_one]
theorem det_mul (n : Nat) (B A : MF) : det n (mulF n B A) = det n B * det n A := by
  rw [(mulF_col n B).det A, det_congr n (mulF n B idf) B fun i j _ hj => mulF_id B hj, Rat.mul_comm]
theorem det_row (n : Nat) : ColP n fun A => det n fun i j => A j i where
  congr := fun A C h => det_congr n _ _ fun i j hi hj => h j i hj hi
  swap := fun A a b ha hb hab => by
    have h1 := det_mul n (swapc idf a b) fun i j => A j i
    rw [(det_col n).swap _ a b ha hb hab, det_id] at h1
    rw [show det n (fun i j => swapc A a b j i) = det n (mulF n (swapc idf a b) fun i j => A j i) from det_congr n _ _ fun i j hi hj => by
      have hsw : (if i = a then b else if i = b then a else i) < n := by split; exact hb; split; exact ha; exact hi
      have h2 : ∀ t, idf i (if t = a then b else if t = b then a else t) = if t = (if i = a then b else if i = b then a else i) then 1 else 0 := fun t => by
        unfold idf
        by_cases e1 : t = a
        · subst e1;rw [if_pos rfl]
          by_cases e2 : i = t
          · subst e2; rw [if_neg hab, if_pos rfl, if_neg hab]
          · rw [if_neg e2]
            by_cases e3 : i = b
            · subst e3; rw [if_pos rfl, if_pos rfl, if_pos rfl]
            · rw [if_neg e3, if_neg e3, if_neg (Ne.symm e2)]
        · rw [if_neg e1]
          by_cases e4 : t = b
          · subst e4;rw [if_pos rfl]
            by_cases e2 : i = a
            · rw [if_pos e2, if_pos e2, if_pos rfl]
            · rw [if_neg e2, if_neg e2]
              by_cases e3 : i = t
              · rw [if_pos e3, if_neg e1]
              · rw [if_neg e3, if_neg (Ne.symm e3)]
          · rw [if_neg e4]
            by_cases e2 : i = a
            · rw [if_pos e2, if_neg e4, if_neg (fun h => e1 (by rw [← h, e2]))]
            · rw [if_neg e2]
              by_cases e3 : i = b
              · rw [if_pos e3, if_neg e1, if_neg (fun h => e4 (by rw [← h, e3]))]
              · rw [if_neg e3]
                by_cases e5 : i = t
                · rw [if_pos e5, if_pos e5.symm]
                · rw [if_neg e5, if_neg (Ne.symm e5)]
      show A j (if i = a then b else if i = b then a else i) = sumk (fun t => idf i (if t = a then b else if t = b then a else t) * A j t) n
      rw [sumk_only hsw fun t _ ht => by rw [h2, if_neg ht, Rat.zero_mul], h2, if_pos rfl, Rat.one_mul]]
    rw [h1]; grind
  mul := fun A a s ha => by
    have h1 := det_mul n (setc idf a fun i => s * idf i a) fun i j => A j i
    rw [(det_col n).mul _ a s ha, det_id] at h1
    rw [show det n (fun i j => setc A a (fun i => s * A i a) j i) = det n (mulF n (setc idf a fun i => s * idf i a) fun i j => A j i) from det_congr n _ _ fun i j hi hj => by
      show (if i = a then s * A j a else A j i) = sumk (fun t => (if t = a then s * (if i = a then 1 else 0) else if i = t then 1 else 0) * A j t) n
      rw [sumk_only hi fun t _ ht => by
        by_cases h3 : t = a
        · rw [if_pos h3, if_neg (by omega), Rat.mul_zero, Rat.zero_mul]
        · rw [if_neg h3, if_neg (Ne.symm ht), Rat.zero_mul]]
      by_cases h3 : i = a
      · rw [if_pos h3, if_pos h3, if_pos h3, h3]; grind
      · rw [if_neg h3, if_neg h3, if_pos rfl]; grind]
    rw [h1]; grind
  add := fun A a b s ha hb hab => by
    have h1 := det_mul n (setc idf b fun i => idf i b + s * idf i a) fun i j => A j i
    rw [(det_col n).add _ b a s hb ha (Ne.symm hab), det_id] at h1
    rw [show det n (fun i j => setc A a (fun i => A i a + s * A i b) j i) = det n (mulF n (setc idf b fun i => idf i b + s * idf i a) fun i j => A j i) from det_congr n _ _ fun i j hi hj => by
      show (if i = a then A j a + s * A j b else A j i) = sumk (fun t => (if t = b then (if i = b then 1 else 0) + s * (if i = a then 1 else 0) else if i = t then 1 else 0) * A j t) n
      rw [sumk_ext (g := fun t => (if i = t then 1 else 0) * A j t + (if t = b then (if i = a then s else 0) * A j t else 0)) fun t _ => by
        by_cases h3 : t = b
        · rw [if_pos h3, if_pos h3, h3]
          by_cases h4 : i = a
          · rw [if_pos h4, if_pos h4]; grind
          · rw [if_neg h4, if_neg h4]; grind
        · rw [if_neg h3, if_neg h3]; grind, sumk_add]
      rw [sumk_only hi fun t _ ht => by rw [if_neg (Ne.symm ht), Rat.zero_mul], sumk_only hb fun t _ ht => by rw [if_neg ht], if_pos rfl, if_pos rfl]
      by_cases h4 : i = a
      · rw [if_pos h4, if_pos h4, h4]; grind
      · rw [if_neg h4, if_neg h4]; grind]
    rw [h1]; grind
theorem det_tr (n : Nat) (A : MF) : det n (fun i j => A j i) = det n A := by
  have h := (det_row n).det A;rw [show det n (fun i j => idf j i) = 1 from (det_congr n _ idf fun i j _ _ => by unfold idf; by_cases e : j = i; rw [if_pos e, if_pos e.symm]; rw [if_neg e, if_neg (Ne.symm e)]).trans (det_id n), Rat.mul_one] at h;exact h
/-- The elimination reckons the determinant. -/
theorem detR_det {rows : List (List Rat)} {n : Nat} (hl : rows.length = n) : detR rows n = det n fun i j => mat rows i j := by
  have h := (det_col n).eq hl;rw [det_id, Rat.mul_one] at h;rw [← h, ← det_tr]; rfl
end Go.Proofs.YtknbjfefeeojlaaGreat
/- Package solve: NullSpace. -/
namespace Go.Proofs.YtknbjfefeeojlaaGreat
open Go.RowKit
attribute [local irreducible] RV VH V OpF Calls
theorem GO.tn {ρt : Type} {El : (Nat → Prop) → World → List Value → ρt → Prop} {S : Nat → Prop} {s B B' : Nat} {W W' : World} {e : TypeId} {v : Value} {rs : List ρt} (ok : ElOK El) (h : GO s El S B W e v rs) (t : Tn B' W W') : GO s El S B W' e v rs := by
  obtain ⟨qs, h1, h2⟩ := h;exact ⟨qs, h1.ck (t.ck fun _ => True) fun _ _ => trivial, h2.imp fun _ _ hq => ok.ck hq (t.ck _)⟩
theorem AR.tn {k : IntKind} {W W' : World} {b e n B : Nat} {xs : List Int} (h : AR k W b e n xs) (t : Tn B W W') : AR k W' b e n xs := h.ck (t.ck fun _ => True) trivial
theorem redS_pv (rows : List (List Rat)) (n : Nat) : ∀ j, j < (redS rows n).2.1.length → 0 ≤ wd (redS rows n).2.1 j ∧ wd (redS rows n).2.1 j < n := fun j hj => by
  obtain ⟨k, h1, h2⟩ := (redS_piv rows n).1 j hj; omega

set_option maxHeartbeats 400000 in
theorem vUnit_own (z k : Int) (N : Nat) (S : Nat → Prop) (w : World) (hN : min (max z 0) 65536 = (N : Int)) (hu : Up S w) :
    Calls Tryz.prog 118 #[.int .i64 z, .int .i64 k] w (fun e w' => ∃ b qs, e = .returned (.slice (some ⟨b, 0, none⟩) N N) ∧ Ext w w' ∧ w.heap.size ≤ b ∧ AQ 4 w' b 48 N qs ∧ All2 (QC (SX S [b]) w') qs (unitv N k)) := by
 have z0 := Ext.refl w; have hLX : LX = 17592186044416 := rfl; have hLY : LY = 8796093022208 := rfl;have hNN : N ≤ 65536 := by omega
 have hu2 : ∀ W : World, w.heap.size + 1 ≤ W.heap.size → Up (SX S [w.heap.size]) W := fun W hW => SX.up (hu.mono (by omega)) (by simp <;> omega)
 refine enter (args := [.int .i64 z, .int .i64 k]) Tryz.func118 rfl rfl (Nat.le_of_ble_eq_true rfl) (V.seq (V.reg rfl ?_));refine ass rfl (vnil (V.seq (V.reg rfl ?_)));refine mvi rfl (vv (rmax rfl rfl rfl) (vv (rmin rfl rfl hN) (vo (xmkS (zs := [.bool false, .slice _ _ _, .bool false, .slice _ _ _]) (N) sl23 in48 rfl rfl rfl rfl rfl (by omega) (by omega) (by omega) ?_))));intro W1 x2 out n3;have s4 := x2.sz;have z5 := x2;refine ass rfl (vnil (V.seq (V.seq (V.reg rfl ?_))));refine mvi rfl (vge rfl rfl ?_ ?_)
 ·intro c6;refine mvb rfl (vg rfl (mvi rfl (vg rfl (mvs rfl (vg rfl (vv (rlen sl23 rfl) (vg rfl (vlt rfl rfl ?_ ?_))))))))
  ·intro c7;refine vv (rpk (v := .bool true) rfl rfl) (vnil (V.condT rfl (V.reg rfl (mvs rfl (mvi rfl (vo (xcall e27 (fFrom_ok _ _ _ (by omega) (hu2 _ (by omega))) rfl rfl ?_)))))));rintro _ W9 ⟨_, rfl, x10, hq8⟩;have s11 := x10.sz;have z12 := z5.trans x10;replace out := out.ext x10;obtain ⟨_, _, _, _, _, _, _, _, rfl⟩ := hq8.form;refine ⟨_, rfl, ?_⟩;refine vv (rix sl23 sz48 rfl rfl (by omega) (by omega) rfl) ?_;refine vo (xstq (q := [.bool _, .slice _ _ _, .bool _, .slice _ _ _]) out rfl rfl rfl sz48 rfl rfl (by omega) (by omega) ?_);intro W13 y14 out;have z15 := z12.below (y14.below (by omega));have s16 := y14.size;refine vnil (V.seq (V.reg rfl ?_));refine mvs rfl (ass rfl (vnil (V.ret ⟨[.slice _ _ _], ⟨rfl, trivial⟩, ?_⟩)));refine ⟨_, _, rfl, z15, Nat.le_refl _, out, ?_⟩;rw [unitv, if_pos (show 0 ≤ k ∧ k < (N : Int) from ⟨by omega, by omega⟩)];exact (All2.rep (QC.zero _ _) N).set (hq8.ck (y14.ck (by intro hh; first | (simp [SX] at hh <;> omega) | omega)))
  ·intro c7;refine vv (rpk (v := .bool false) rfl rfl) (vnil (V.condF rfl (V.skip (V.seq (V.reg rfl ?_)))));refine mvs rfl (ass rfl (vnil (V.ret ⟨[.slice _ _ _], ⟨rfl, trivial⟩, ?_⟩)));refine ⟨_, _, rfl, z5, Nat.le_refl _, out, ?_⟩;rw [unitv, if_neg (show ¬ (0 ≤ k ∧ k < (N : Int)) from by omega)];exact All2.rep (QC.zero _ _) N
 ·intro c6;refine mvb rfl (vgn (b := false) rfl rfl (vgn (b := false) rfl rfl (vgn (b := false) rfl rfl (vgn (b := false) rfl rfl (vv (rpk (v := .bool false) rfl rfl) (vnil (V.condF rfl (V.skip (V.seq (V.reg rfl ?_))))))))));refine mvs rfl (ass rfl (vnil (V.ret ⟨[.slice _ _ _], ⟨rfl, trivial⟩, ?_⟩)));refine ⟨_, _, rfl, z5, Nat.le_refl _, out, ?_⟩;rw [unitv, if_neg (show ¬ (0 ≤ k ∧ k < (N : Int)) from by omega)];exact All2.rep (QC.zero _ _) N
set_option maxHeartbeats 2000000 in
theorem sNull_ok (a1 : Option Addr) (n c L : Nat) (rss : List (List Rat)) (S S1 : Nat → Prop) (w : World) (hx : MA L S1 w a1 n c rss) (hl1 : 1 ≤ L) (hn : n ≤ 1024) (hc : colsN rss ≤ 1024) (hL5 : 15 * (L * 5 ^ colsN rss) + 2 < LY) (hu : Up S w) :
    Calls Tryz.prog 64 #[.slice a1 n c] w (fun e w' => ∃ ra rk rc, e = .returned (.slice ra rk rc) ∧ Ext w w' ∧ MC S w' ra rk rc (nullS rss n)) := by
 have z0 := Ext.refl w; have hLX : LX = 17592186044416 := rfl; have hLY : LY = 8796093022208 := rfl;have hLV : LV = 1099511627776 := rfl;have h51 : L * 1 ≤ L * 5 ^ colsN rss := Nat.mul_le_mul_left _ (Nat.pow_pos (by omega));refine enter (args := [.slice a1 n c]) Tryz.func64 rfl rfl (Nat.le_of_ble_eq_true rfl) (V.seq (V.reg rfl ?_));refine ass rfl (vnil (V.seq (V.reg rfl ?_)));refine mvs rfl (vo (xcall e35 (mCols_ok _ _ _ _ _ _ _ hx) rfl rfl ?_));rintro _ W1 ⟨rfl, x2⟩;have s3 := x2.sz;have z4 := x2;refine ⟨_, rfl, ?_⟩;refine asi rfl (vnil (V.seq (V.reg rfl ?_)));refine mvs rfl (vo (xcall e123 (begin_ok _ _ _ L _ _ _ (hx.ext z4) (by omega) (by omega) (by omega) (by omega)) rfl rfl ?_));rintro _ W6 ⟨bw, vw, rfl, x7, hbw, hbx, hbG⟩;have s8 := x7.sz;have z9 := z4.trans x7;have hK0 := WS.begin hbx hbG hbw L; have lbw := hbx.lt;refine ⟨_, rfl, ?_⟩;obtain ⟨rows, hrows⟩ : ∃ r, r = gridm (matI rss) n (colsN rss) := ⟨_, rfl⟩;have hrect : rect (colsN rss) rows := by rw [hrows]; exact gridm_rect _ _ _
 have hszr : szR L rows := by rw [hrows]; exact gridm_sz (fun i k => szMI (hx.ext z9) (by omega) _ _)
 have hrl : rows.length ≤ 1024 := by rw [hrows, len_gridm]; exact hn
 rw [← hrows] at hbG hK0;refine mvi rfl (vo ?_);have hS1 := hK0;refine xcall e125 (all5_ok _ bw _ _ _ _ vw L (colsN rss) (colsN rss) rows _ hS1 hrect hszr (by omega) (by omega) hL5 hrl (by omega)) rfl rfl ?_;rintro _ Wal ⟨pvw, rfl, kdal, hK, hpval⟩;refine ⟨_, rfl, ?_⟩;have hbl := hS1.below (B0 := W1.heap.size) kdal (Nat.le_refl _) (fun _ h => h.elim); have szal := kdal.size;have z11 := z9.below (hbl.mono (by omega));obtain ⟨av, cv, rfl⟩ := hK.g.form; obtain ⟨ap, cp, rfl⟩ := hK.p.form;obtain ⟨s, hs⟩ : ∃ s, s = redS rows (colsN rss) := ⟨_, rfl⟩; rw [← hs] at hK; have hall := redS_all hrect hszr (by omega) (colsN rss); rw [← hs] at hall; have hKx := hK.x; have hKm := (hK.mc rfl).max; have hKq := (hK.pn rfl).cap; have hKq2 := (hK.pn rfl).max;have hrp := hK.p.rn (S := fun b => b < Wal.heap.size) (fun b _ h => h);have hpv : ∀ j, j < s.2.1.length → 0 ≤ wd s.2.1 j ∧ wd s.2.1 j < colsN rss := by rw [hs]; exact redS_pv rows _
 have hal1 := Nat.le_refl Wal.heap.size;refine vo (xal zc132 ?_);intro W14 x15 b16 nn17;have s18 := x15.sz;have z19 := z11.trans x15;have z21 := x15;replace hKx := hKx.ext x15;refine vo (st1 (v := .pointer (some ⟨_, _, none⟩)) (cs' := [_]) b16 rfl rfl sz132 rfl rfl rfl rfl ?_);intro W22 y23 b16;have z24 := z19.below (y23.below (by omega));have z26 := z21.below (y23.below (by omega));replace hKx := hKx.wr y23 (by omega);have s27 := y23.size;refine vnil (V.seq (V.reg rfl ?_));refine mvi rfl ?_;have hK3 := (hK.ext z26); have b4r := b16; have bxr := hKx; have z3 := z24; have hrp3 := (hrp.ext z26); have s3z := z3.sz; have lb4r := b4r.lt;refine vo (xmk ((colsN rss)) sl73 in3 (by simp [kb]) rfl rfl (by omega) (by omega) (by omega) ?_);intro W29 x30 pva n31;have s32 := x30.sz;have z36 := x30;replace hKx := hKx.ext x30;replace b16 := b16.ext x30;refine vo (xal zc73 ?_);intro W37 x38 b39 nn40;have s41 := x38.sz;have z45 := z36.trans x38;replace hKx := hKx.ext x38;replace b16 := b16.ext x38;replace pva := pva.ext x38;refine vo (st1 (v := .slice _ _ _) (cs' := [_]) b39 rfl rfl sz73 rfl rfl rfl rfl ?_);intro W46 y47 b39;have z51 := z45.below (y47.below (by omega));replace hKx := hKx.wr y47 (by omega);replace b16 := b16.wr y47 (by omega);replace pva := pva.wr y47 (by omega);have s52 := y47.size;refine vnil (V.seq (V.seq (V.reg rfl ?_)));refine vv (rldb (v := .pointer (some ⟨_, _, none⟩)) rfl sc132 b16 rfl) (vo (xcall e126 (places_ok bw _) rfl rfl ?_));rintro _ W53 ⟨b1, eb1, rfl, x54, hb1⟩;have s55 := x54.sz;have z59 := z51.trans x54;replace hKx := hKx.ext x54;replace pva := pva.ext x54;replace b39 := b39.ext x54;have lb1 := hb1.lt;refine ⟨_, rfl, ?_⟩;refine vnil (V.block ?_);have lpv := pva.box.lt; have lb5 := b39.lt;have lbx := (hKx).lt;refine V.rf (gf := 170) rfl e170 (places_iter (D := fun q => q < W53.heap.size ∧ q ≠ W22.heap.size) (hb1) hKx ((hrp3.ext z59).sub (fun b _ h => ⟨by omega, by omega⟩)) ⟨by omega, by omega⟩ ⟨by omega, by omega⟩) (Ext.refl _) (by rintro k ⟨h, _⟩; exact h) rfl (fun i X => Ext W22 X ∧ AR .i64 X (W22.heap.size) 3 (colsN rss) (pvA s.2.1 (colsN rss) i) ∧ BoxAt X (W29.heap.size) [.slice (some ⟨W22.heap.size, 0, none⟩) (colsN rss) (colsN rss)] 73) (fun _ _ _ => False) (fun i X Y ⟨h1, h2, h3⟩ t => ⟨t.ext h1 (by omega), h2.tn t, h3.tn t⟩) (fun _ _ _ _ h _ => h) (⟨z59, pva, b39⟩) ?_ ?_ ?_
 ·intro l60 i61 X62 hi63 hM64 hk65 hs66;refine V.seq (V.reg rfl ?_);refine asi rfl (vnil (V.reg rfl (asi rfl (vnil ⟨rfl, Kf.refl _ _ _, ?_⟩))));intro Z67 t68;obtain ⟨hX0, hA, h5⟩ := hi63;replace hX0 := t68.ext hX0 (by omega); replace hA := hA.tn t68; replace h5 := h5.tn t68; have hAb := hA.box; have hwi := hpv i61 (by omega); have hAl := hA.box.lt; have sX0 := hX0.sz;refine V.block (V.reg rfl (vv (rldb (v := .slice _ _ _) rfl sc73 h5 rfl) (mvi rfl (mvi rfl (vv (rbin (bAdd (wi (by omega))) rfl rfl) ?_)))));refine vv (rix sl73 sz3 rfl rfl (by omega) (by omega) rfl) ?_;refine vo (xsti hA rfl rfl sz3 (by simp only [kb]; omega) (by omega) (by omega) ?_);intro W69 y70 hA;replace h5 := h5.wr y70 (by omega);have s71 := y70.size;refine vnil ?_;exact ⟨Kf.wr y70 hAb (by rintro ⟨_, h⟩; exact h rfl), hX0.below (y70.below (by omega)), hA, h5⟩
 ·intro D72 X73 hD74 hI75 hdf76 hs77;obtain ⟨hX0, hA, h5⟩ := hI75;have zR := z3.trans hX0; have hKr := hK3.ext hX0; have b4x := b4r.ext hX0; have bxx := bxr.ext hX0; have sR := zR.sz; have sR2 := hX0.sz; have hMr := hKr.fin (S := fun b => b < X73.heap.size ∧ w.heap.size ≤ b) (fun b hb hb2 => ⟨hb2, by omega⟩);obtain ⟨hM0, hP0⟩ := hMr;have hmk0 := (MkO.nil w.heap.size X73).cons hdf76 (by omega) (by simp);refine V.seq (V.seq (V.reg rfl ?_));refine mvi rfl (mvi rfl (vnil (V.block (V.loopD (ι := Nat × Value) [(3, .int _ _), (4, .pointer (some ⟨_, _, none⟩)), (5, .pointer (some ⟨_, _, none⟩)), (29, .int _ _)] (fun ⟨k, v⟩ => [(30, .int .i64 (k : Int)), (2, v)]) (fun ⟨k, v⟩ ds W => ∃ Ds, ds = Ds.map mark ∧ MkO w.heap.size Ds W ∧ k ≤ colsN rss ∧ Ext w W ∧ X73.heap.size ≤ W.heap.size ∧ MC (fun b => b < X73.heap.size ∧ w.heap.size ≤ b) W av s.1.length cv s.1 ∧ RN .i64 (fun b => b < X73.heap.size ∧ w.heap.size ≤ b) W ap s.2.1.length cp s.2.1 ∧ BoxAt W bw [.slice av s.1.length cv, .slice ap s.2.1.length cp, .func (.func 167) #[] #[], .func (.func 168) #[] #[]] 141 ∧ BoxAt W (Wal.heap.size) [.pointer (some ⟨bw, 0, none⟩)] 132 ∧ BoxAt W (W29.heap.size) [.slice (some ⟨W22.heap.size, 0, none⟩) (colsN rss) (colsN rss)] 73 ∧ AR .i64 W (W22.heap.size) 3 (colsN rss) (pvA s.2.1 (colsN rss) s.2.1.length) ∧ GO 1 (RowOf GC) S X73.heap.size W 23 v (nullL s.1 s.2.1 (colsN rss) k)) (fun ⟨k, v⟩ => colsN rss - k) ((0, _)) ⟨rfl, rfl, rfl, rfl, trivial⟩ ⟨rfl, rfl, trivial⟩ ⟨[D72], rfl, hmk0, Nat.zero_le _, zR, Nat.le_refl _, hM0, hP0, bxx, b4x, h5, hA, GO.nil _ _⟩ ?_))));intro i79 E80 ds W78 h81;obtain ⟨k, v⟩ := i79;simp only at h81
  show V _ _ _ _ _ _ (ups (ups _ _) [(30, .int .i64 (k : Int)), (2, v)]) _
  obtain ⟨Ds, rfl, hmk, hk, hzw, hWL, hM, hP, bxk, b4k, b5k, hA, hO⟩ := h81;have zzk := Ext.refl W78; have szw := hzw.sz; have lb4k := b4k.lt; have lb5k := b5k.lt; have lAk := hA.box.lt; have lbxk := bxk.lt; have hO0 := hO; have b4k0 := b4k; have b5k0 := b5k; have bxk0 := bxk; have hA0 := hA;refine V.seq (V.reg rfl ?_);refine vlt rfl rfl ?_ ?_
  ·intro c82;refine vnil (V.seq (V.condT rfl (V.skip (V.seq (V.block (V.seq (V.reg rfl ?_)))))));refine mvi rfl (vo (xal zc3 ?_));intro W83 x84 b85 nn86;have s87 := x84.sz;have z88 := hzw.trans x84;have z89 := x84;replace b4k := b4k.ext x84;replace b5k := b5k.ext x84;replace hA := hA.ext x84;replace bxk := bxk.ext x84;refine vo (st1 (v := .int _ _) (cs' := [_]) b85 rfl rfl sz3 rfl rfl rfl rfl ?_);intro W90 y91 b85;have z92 := z88.below (y91.below (by omega));have z93 := z89.below (y91.below (by omega));replace b4k := b4k.wr y91 (by omega);replace b5k := b5k.wr y91 (by omega);replace hA := hA.wr y91 (by omega);replace bxk := bxk.wr y91 (by omega);have s94 := y91.size;refine vnil (V.seq (V.seq (V.reg rfl ?_)));refine vv (rldb (v := .slice _ _ _) rfl sc73 b5k rfl) (vv (rldb (v := .int _ _) rfl sc3 b85 rfl) (vv (rix sl73 sz3 rfl rfl (by omega) (by omega) rfl) ?_));refine vldN (hA.rn (S := fun _ => True) trivial) rfl sc3 (by omega) (by omega) ?_;intro q95 hq95 hk96;simp only [kb] at hk96;refine vgt rfl rfl ?_ ?_
   ·intro c97;have hnp0 := pvA_pos s.2.1 (colsN rss) hpv k (by omega) s.2.1.length (Nat.le_refl _);rw [wd_mem, ← hq95] at hnp0;have hnp : (k : Int) ∈ s.2.1 := hnp0.1 (by omega);refine vnil (V.condT rfl (V.exit (V.reg rfl (vv (rbin (bAdd (wi (by omega))) rfl rfl) ?_))));refine mvi rfl (vnil ⟨(k + 1, _), ⟨rfl, rfl, rfl, rfl, trivial⟩, ⟨rfl, rfl, trivial⟩, ⟨Ds, rfl, hmk.ext z93, by omega, z92, by omega, (hM.ext z93), (hP.ext z93), bxk, b4k, b5k, hA, (by rw [nullL, if_pos hnp]; exact hO0.ext okRowC z93)⟩, ?_⟩)
    show colsN rss - (k + 1) < colsN rss - k
    omega
   ·intro c97;have hnp0 := pvA_pos s.2.1 (colsN rss) hpv k (by omega) s.2.1.length (Nat.le_refl _);rw [wd_mem, ← hq95] at hnp0;have hnp : ¬ (k : Int) ∈ s.2.1 := fun h => by have := hnp0.2 h; omega
    refine vnil (V.condF rfl (V.skip (V.seq (V.reg rfl ?_))));refine mvi rfl (vv (rldb (v := .int _ _) rfl sc3 b85 rfl) (vo (xcall e118 (vUnit_own _ _ (colsN rss) (fun b => W78.heap.size ≤ b) _ (by omega) (fun b hb => by omega)) rfl rfl ?_)));rintro _ W98 ⟨bx, qs0, rfl, x99, hbx0, hAx, hQx⟩;have s100 := x99.sz;have z102 := z93.trans x99;replace b4k := b4k.ext x99;replace b5k := b5k.ext x99;replace hA := hA.ext x99;replace bxk := bxk.ext x99;replace b85 := b85.ext x99;have lAx := hAx.box.lt;refine ⟨_, rfl, ?_⟩;refine vo (xal zc23 ?_);intro W104 x105 b106 nn107;have s108 := x105.sz;have z110 := z102.trans x105;have z111 := x105;replace b4k := b4k.ext x105;replace b5k := b5k.ext x105;replace hA := hA.ext x105;replace bxk := bxk.ext x105;replace b85 := b85.ext x105;replace hAx := hAx.ext x105;refine vo (st1 (v := .slice _ _ _) (cs' := [_]) b106 rfl rfl sz23 rfl rfl rfl rfl ?_);intro W112 y113 b106;have z115 := z110.below (y113.below (by omega));have z116 := z111.below (y113.below (by omega));replace b4k := b4k.wr y113 (by omega);replace b5k := b5k.wr y113 (by omega);replace hA := hA.wr y113 (by omega);replace bxk := bxk.wr y113 (by omega);replace b85 := b85.wr y113 (by omega);replace hAx := hAx.wr y113 (by omega);have s117 := y113.size;refine vnil (V.seq (V.seq (V.reg rfl ?_)));refine vv (rldb (v := .pointer (some ⟨_, _, none⟩)) rfl sc132 b4k rfl) (vo (xcall e126 (places_ok bw _) rfl rfl ?_));rintro _ W118 ⟨b1, eb1, rfl, x119, hb1⟩;have s120 := x119.sz;have z122 := z115.trans x119;have z123 := z116.trans x119;replace b4k := b4k.ext x119;replace b5k := b5k.ext x119;replace hA := hA.ext x119;replace bxk := bxk.ext x119;replace b85 := b85.ext x119;replace hAx := hAx.ext x119;replace b106 := b106.ext x119;have lb1 := hb1.lt;refine ⟨_, rfl, ?_⟩;refine vnil (V.block ?_);have lb8 := b85.lt; have lb9 := b106.lt; have zk1 := z122; have szk1 := zk1.sz; have bx1 := bxk; have b41 := b4k; have b51 := b5k; have pv1 := hA;refine V.rf (gf := 170) rfl e170 (places_iter (D := fun q => q < W118.heap.size ∧ q ≠ bx) (hb1) bx1 ((hP.ext zk1).sub (fun b _ h => ⟨by omega, by omega⟩)) ⟨by omega, by omega⟩ ⟨by omega, by omega⟩) (Ext.refl _) (by rintro k ⟨h, _⟩; exact h) rfl (fun i X => Ext W78 X ∧ BoxAt X (W78.heap.size) [.int .i64 (k : Int)] 3 ∧ BoxAt X (W98.heap.size) [.slice (some ⟨bx, 0, none⟩) (colsN rss) (colsN rss)] 23 ∧ ∃ qs, AQ 4 X bx 48 (colsN rss) qs ∧ All2 (QC (SX (fun b => W78.heap.size ≤ b) [bx]) X) qs (nvec s.1 s.2.1 (colsN rss) k i)) (fun _ _ _ => False) (fun i X Y ⟨h1, h2, h3, qs, h4, h5⟩ t => ⟨t.ext h1 (by omega), h2.tn t, h3.tn t, qs, h4.tn t, h5.imp fun _ _ h => h.ck (t.ck _)⟩) (fun _ _ _ _ h _ => h) (⟨zk1, b85, b106, _, hAx, hQx.imp fun _ _ h => h.ext z123⟩) ?_ ?_ ?_
    ·intro l124 i125 X126 hi127 hM128 hk129 hs130;refine V.seq (V.reg rfl ?_);refine asi rfl (vnil (V.reg rfl (asi rfl (vnil ⟨rfl, Kf.refl _ _ _, ?_⟩))));intro Z131 t132;obtain ⟨hX0, h8, h9, qs, hA2, hQ2⟩ := hi127;replace hX0 := t132.ext hX0 (by omega); replace hA2 := hA2.tn t132; replace h8 := h8.tn t132; replace h9 := h9.tn t132; replace hQ2 := hQ2.imp fun _ _ h => h.ck (t132.ck _); have hAb := hA2.box; have hwi := hpv i125 (by omega); have hAl := hA2.box.lt; have sX0 := hX0.sz; have hM2 := hM.ext hX0; have b42 := b4k0.ext hX0; have bx2 := bxk0.ext hX0
     have hzz := Ext.refl Z131;have hrw := hall.2.2.1.row (i := ((i125 : Nat) : Int).toNat) (by omega);obtain ⟨ra5, rk5, rc5, hc5, hg5⟩ := hM2.el (i := (i125 : Int)) (by omega) (by omega);have ce5 : C1 Z131 _ _ := hc5; have hga5 := hg5.va (hall.2.2.2.row _); have hgl5 := hg5.len;obtain ⟨en0, ea0, el0, ec0, em0, eb0, ek0, ed0, hq0, hc0⟩ := hga5.el (i := (k : Int)) (by omega) (by omega);have ce0 : CE Z131 _ _ := hc0;have hux : ∀ W : World, Z131.heap.size ≤ W.heap.size → Up (SX (fun b => W78.heap.size ≤ b) [bx]) W := fun W hW b hb => ⟨by omega, by simp; omega⟩
     refine V.block (V.regD mixed rfl ?_);intro W133 x134;have s135 := x134.sz;have z136 := x134;replace hA2 := hA2.ext x134;replace h8 := h8.ext x134;replace h9 := h9.ext x134;replace b42 := b42.ext x134;replace bx2 := bx2.ext x134;have q137 := Ext.refl W133;have r138 := hA2;have r139 := h8;have r140 := h9;have r141 := b42;have r142 := bx2;refine tk 0 rfl (by kernel_rfl) q137 (pv (fun _ y143 => rldb (v := .slice _ _ _) rfl sc23 (r140.ext y143) rfl)) ?_;refine tk 1 rfl (by kernel_rfl) q137 (pv (fun _ y144 => rmv (v := .int _ _) rfl)) ?_;refine tk 2 rfl (by kernel_rfl) q137 (pv (fun _ y145 => rldb (v := .pointer (some ⟨_, _, none⟩)) rfl sc132 (r141.ext y145) rfl)) ?_;refine tk 3 rfl (by kernel_rfl) q137 (pv (fun _ y146 => rnc (v := .pointer (some ⟨_, _, none⟩)) rfl rfl)) ?_;refine tk 4 rfl (by kernel_rfl) q137 (pv (fun _ y147 => rfa rfl fd141_0)) ?_;refine tk 5 rfl (by kernel_rfl) q137 (pv (fun _ y148 => rldb (v := .slice av _ cv) rfl sc22 (r142.ext y148) rfl)) ?_;refine tk 6 rfl (by kernel_rfl) q137 (pv (fun _ y149 => rmv (v := .int _ _) rfl)) ?_;refine tk 7 rfl (by kernel_rfl) q137 (pv (fun _ y150 => rix sl22 sz23 rfl rfl (by omega) (by omega) (((hM2.ext z136).ext y150).isS (i := 0) (by omega) (by omega)))) ?_;refine tk 8 rfl (by kernel_rfl) q137 (pv (fun _ y151 => rld1 (v := .slice _ _ _) rfl sc23 ((ce5.ext z136).ext y151))) ?_;refine tk 9 rfl (by kernel_rfl) q137 (pv (fun _ y152 => rldb (v := .int _ _) rfl sc3 (r139.ext y152) rfl)) ?_;refine tk 10 rfl (by kernel_rfl) q137 (pv (fun _ y153 => rix sl23 sz48 rfl rfl (by omega) (by omega) (((hga5.ext z136).ext y153).isS (i := 0) (by omega) (by omega)))) ?_;refine tk 11 rfl (by kernel_rfl) q137 (pv (fun _ y154 => rldn (l := [.bool _, .slice _ _ _, .bool _, .slice _ _ _]) rfl ag48 rfl ((ce0.ext z136).ext y154))) ?_;refine ef 12 (by kernel_rfl) rfl ?_;refine xcall e72 (fNeg_ok _ _ _ _ _ _ (hq0.ext z136) (by omega) (by omega) (hux _ (by omega))) rfl rfl ?_;rintro _ W156 ⟨_, rfl, x157, hq155⟩;have s158 := x157.sz;replace hA2 := hA2.ext x157;replace h8 := h8.ext x157;replace h9 := h9.ext x157;have q160 := q137.trans x157;obtain ⟨_, _, _, _, _, _, _, _, rfl⟩ := hq155.form;refine ⟨_, rfl, ?_⟩;refine ⟨fun _ => q160, ?_⟩;refine tk 13 rfl (by kernel_rfl) q160 (pv (fun _ y161 => rix sl23 sz48 rfl rfl (by omega) (by omega) rfl)) ?_;refine ef 14 (by kernel_rfl) rfl ?_;refine xstq (q := [.bool _, .slice _ _ _, .bool _, .slice _ _ _]) hA2 rfl rfl rfl sz48 rfl rfl (by omega) (by omega) ?_;intro W162 y163 hA2;replace h8 := h8.wr y163 (by omega);replace h9 := h9.wr y163 (by omega);have s164 := y163.size;refine lastT (by kernel_rfl) ?_;refine dn (by kernel_rfl) ?_;exact ⟨(Kf.ext (x134.trans x157)).trans (Kf.wr y163 (hAb.ext (x134.trans x157)) (by rintro ⟨_, h⟩; exact h rfl)), (hX0.trans (x134.trans x157)).below (y163.below (by omega)), h8, h9, _, hA2, ((hQ2.imp fun _ _ h => h.ext (x134.trans x157)).set (hq155.ext (Ext.refl _))).imp fun _ _ h => h.ck (y163.ck (fun hh => hh.2 (by simp)))⟩
    ·intro D165 X166 hD167 hI168 hdf169 hs170;obtain ⟨hX0, h8, h9, qs, hA2, hQ2⟩ := hI168;have zw2 := hzw.trans hX0; have sX0 := hX0.sz; have lA2 := hA2.box.lt; have b42 := b4k0.ext hX0; have b52 := b5k0.ext hX0; have pv2 := hA0.ext hX0; have bx2 := bxk0.ext hX0; have hO2 := hO0.ext okRowC hX0; have zx2 := Ext.refl X166;have hmk2 := (hmk.ext hX0).cons hdf169 (by omega) (fun h => by have := hmk.lt _ h; omega);refine V.reg rfl (vv (rmv (v := v) rfl) (vv (rldb (v := .slice _ _ _) rfl sc23 h9 rfl) (vo (xbs (ps := [(0, .slice _ _ _)]) (cs := [.slice _ _ _]) sl22 zr23 sz23 rfl rfl rfl rfl rfl rfl ?_))));intro W171 x172 b173 nn174;have s175 := x172.sz;have z176 := zw2.trans x172;have z177 := hX0.trans x172;have z178 := x172;replace b42 := b42.ext x172;replace b52 := b52.ext x172;replace pv2 := pv2.ext x172;replace bx2 := bx2.ext x172;replace hA2 := hA2.ext x172;replace h9 := h9.ext x172;replace hO2 := hO2.ext okRowC x172;have hMb := (hM.ext z177); have hPb := (hP.ext z177); have hmkb := hmk2.ext z178; have bxb := bx2;refine vo (xappG okRowC sl22 in23 rfl rfl hO2 rfl rfl b173 rfl rfl ((⟨_, _, _, rfl, _, hA2.rs (S := SO S v) ⟨hu _ (by omega), fun e => by obtain ⟨qs', hg', _⟩ := hO0; have := (hg'.low _ e).2; omega⟩, hQ2.imp fun _ _ h => (h.ext z178).sub fun b hb hs => ⟨hu _ (by have := hs.1; omega), fun e => by obtain ⟨qs', hg', _⟩ := hO0; have := (hg'.low _ e).2; have := hs.1; omega⟩⟩ : RowOf GC _ _ _ _)) (by have := nullL_len s.1 s.2.1 (colsN rss) k; omega) (by decide) (by omega) ?_);intro v179 W180 hO181 hg182;have y183 := hg182.below; have s184 := y183.size;have z185 := z176.below (y183.mono (by omega));replace b42 := b42.bl y183 (by omega);replace b52 := b52.bl y183 (by omega);replace pv2 := pv2.bl y183 (by omega);replace bx2 := bx2.bl y183 (by omega);refine vv (ras (v := v179) rfl) (vnil (V.reg rfl (vv (rbin (bAdd (wi (by omega))) rfl rfl) ?_)));refine mvi rfl (vnil ⟨(k + 1, _), ⟨rfl, rfl, rfl, rfl, trivial⟩, ⟨rfl, rfl, trivial⟩, ⟨D165 :: Ds, rfl, hmkb.kb hg182, by omega, z185, by omega, hMb.ck (Below.kd (D := fun b => b < X73.heap.size ∧ w.heap.size ≤ b) y183 (fun k h _ => h.1)).ck, hPb.ck (Below.kd (D := fun b => b < X73.heap.size ∧ w.heap.size ≤ b) y183 (fun k h _ => h.1)).ck, bx2, b42, b52, pv2, (by rw [nullL, if_neg hnp]; exact hO181)⟩, ?_⟩)
     show colsN rss - (k + 1) < colsN rss - k
     omega
    ·intro _ _ _ _ _ _ h; exact h.elim
  ·intro c82;refine vnil (V.seq (V.condF rfl (V.exit (V.seq (V.reg rfl ?_)))));refine vv (rmv (v := v) rfl) (vv (ras (v := v) rfl) (vnil (V.ret (Lv_all hmk fun Wl tl => ?_))));refine ⟨[v], ⟨rfl, trivial⟩, ?_⟩;have hO9 := hO.tn okRowC tl;obtain ⟨a', c', rfl⟩ := hO9.form;refine ⟨_, _, _, rfl, tl.ext hzw (Nat.le_refl _), ?_⟩;have hfin := hO9.fin okRowC (fun b hb _ => hu b (by omega));have ek : k = colsN rss := by omega
   unfold nullS; rw [← hrows, ← hs]; subst ek; exact hfin
 ·intro _ _ _ _ _ _ h; exact h.elim
end Go.Proofs.YtknbjfefeeojlaaGreat

/- Package pylonref02: Least Of Neg Sign Mul. -/
import Derived.Scope
import Derived.Test.YtknbjfefeeojlaaGreatMgqlk5
namespace Go.Proofs.YtknbjfefeeojlaaGreat
open Go.RowKit
attribute [local irreducible] RV VH V OpF Calls
theorem nm_sg (x y : Int) : sg (nmq x y) = cq (qv x y) 0 := by rw [← qv_nd]; exact sg_cq0 (dn_pos y)
theorem qv_mul (x1 y1 x2 y2 : Int) : Rat.divInt (nmq x1 y1 * nmq x2 y2) (dnq y1 * dnq y2) = qv x1 y1 * qv x2 y2 := by rw [← Rat.divInt_mul_divInt, qv_nd, qv_nd]
theorem qv_add (x1 y1 x2 y2 : Int) : Rat.divInt (nmq x1 y1 * dnq y2 + nmq x2 y2 * dnq y1) (dnq y1 * dnq y2) = qv x1 y1 + qv x2 y2 := by
  have h1 := dn_pos y1
  have h2 := dn_pos y2
  rw [← Rat.divInt_add_divInt _ _ (by omega) (by omega), qv_nd, qv_nd]
theorem qv_neg (x y : Int) : Rat.divInt (-nmq x y) (dnq y) = -qv x y := by rw [← Rat.neg_divInt, qv_nd]
theorem int_lt2 {n : Int} (h : -9223372036854775808 ≤ n ∧ n ≤ 9223372036854775807) : (n.natAbs : Int) < b32 ^ 2 := by
  have e : b32 ^ 2 = 18446744073709551616 := by decide
  omega

set_option maxHeartbeats 400000 in
theorem rLeastQ_ok (q : List Value) (r : Rat) (L : Nat) (S S1 : Nat → Prop) (w : World) (h : QA L S1 w q r) (hL : L ≤ LX / 128) (hl : 1 ≤ L) (hu : Up S w) :
    Calls Tryz.prog 106 #[.agg q.toArray] w (PQ S r w) := by
 have z0 := Ext.refl w; have hLX : LX = 17592186044416 := rfl; have hLY : LY = 8796093022208 := rfl
 obtain ⟨n1, a1, l1, c1, n2, a2, l2, c2, rfl⟩ := h.form
 obtain ⟨px, py, hx, hy, er⟩ := h.two
 have hu2 : ∀ W : World, w.heap.size + 2 ≤ W.heap.size → Up (SX S [w.heap.size + 1]) W := fun W hW => SX.up (hu.mono (by omega)) (by simp <;> omega)
 refine enter (args := [.agg #[.bool n1, .slice a1 l1 c1, .bool n2, .slice a2 l2 c2]]) Tryz.func106 rfl rfl (Nat.le_of_ble_eq_true rfl) ?_
 refine V.seq (V.reg rfl ?_)
 refine vo ?_
 refine bxa rfl ?_
 intro W1 x2 b3 nn4
 have s5 := x2.sz
 have z6 := x2
 refine vo ?_
 refine xal zc48 ?_
 intro W7 x8 b9 nn10
 have s11 := x8.sz
 have z12 := z6.trans x8
 replace b3 := b3.ext x8
 refine vnil ?_
 refine V.seq (V.regD mixed rfl ?_)
 intro W13 x14
 have s15 := x14.sz
 have z16 := z12.trans x14
 replace b3 := b3.ext x14
 replace b9 := b9.ext x14
 have q17 := Ext.refl W13
 have r18 := b3
 have r19 := b9
 refine tk 0 rfl (by kernel_rfl) q17 (pv (fun _ y20 => rldb4 rfl ag48 (r18.ext y20) rfl rfl rfl rfl )) ?_
 refine tk 2 rfl (by kernel_rfl) q17 (pv (fun _ y21 => rldb4 rfl ag48 (r18.ext y21) rfl rfl rfl rfl )) ?_
 refine ef 1 (by kernel_rfl) rfl ?_
 refine xcall e160 (rNum_ok [_, _, _, _] _ _ _ _ _ _ (PA.mk' (hx.ext z16) (hy.ext z16)) (by omega) (TT.up _)) rfl rfl ?_
 rintro _ W22 ⟨_, _, _, _, rfl, x23, hz4c⟩
 have s24 := x23.sz
 have z25 := z16.trans x23
 replace b9 := b9.ext x23
 have q26 := q17.trans x23
 have hz4 := ZC.zaH (L := L) hz4c (nm_lt hx.lt)
 refine ⟨_, rfl, ?_⟩
 refine ⟨fun _ => q26, ?_⟩
 refine ef 3 (by kernel_rfl) rfl ?_
 refine xcall e161 (rDen_ok [_, _, _, _] _ _ _ _ _ _ (PA.mk' (hx.ext z25) (hy.ext z25)) (by omega) (TT.up _)) rfl rfl ?_
 rintro _ W27 ⟨_, _, _, _, rfl, x28, hz6c⟩
 have s29 := x28.sz
 have z30 := z25.trans x28
 replace b9 := b9.ext x28
 have q31 := q26.trans x28
 have hz6 := ZC.zaH (L := L) hz6c (dn_abs (by omega) hy.lt)
 refine ⟨_, rfl, ?_⟩
 refine ⟨fun _ => q31, ?_⟩
 refine ef 4 (by kernel_rfl) rfl ?_
 refine xcall e159 (rOver_ok _ _ _ _ _ _ _ _ _ _ _ _ _ _ _ _ (hz4.ext x28) (by omega) hz6 (by omega) (dn_pos _) (hu2 _ (by omega))) rfl rfl ?_
 rintro _ W33 ⟨_, rfl, x34, hq32⟩
 have s35 := x34.sz
 have z36 := z30.trans x34
 replace b9 := b9.ext x34
 have q37 := q31.trans x34
 obtain ⟨_, _, _, _, _, _, _, _, rfl⟩ := hq32.form
 refine ⟨_, rfl, ?_⟩
 refine ⟨fun _ => q37, ?_⟩
 refine ef 5 (by kernel_rfl) rfl ?_
 refine sta (cs' := [_, _, _, _]) b9 rfl rfl sz48 rfl rfl rfl ?_
 intro W38 y39 b9
 have z40 := z36.below (y39.below (by omega))
 have s41 := y39.size
 refine lastT (by kernel_rfl) ?_
 refine dn (by kernel_rfl) ?_
 refine V.ret ?_
 refine ⟨[_], ⟨⟨_, rfl, lvb ag48 b9 rfl⟩, trivial⟩, ?_⟩
 exact ⟨_, rfl, z40, ((hq32.ck (y39.ck (by intro hh; first | (simp [SX] at hh <;> omega) | omega)))).un.cast (by rw [qv_nd, er])⟩
set_option maxHeartbeats 400000 in
theorem rOf_ok (n d : Int) (S : Nat → Prop) (w : World) (hn : -9223372036854775808 ≤ n ∧ n ≤ 9223372036854775807) (hd : -9223372036854775808 ≤ d ∧ d ≤ 9223372036854775807) (hu : Up S w) :
    Calls Tryz.prog 121 #[.int .i64 n, .int .i64 d] w (PQ S (qv n d) w) := by
 have z0 := Ext.refl w; have hLX : LX = 17592186044416 := rfl; have hLY : LY = 8796093022208 := rfl
 have hu2 : ∀ W : World, w.heap.size + 1 ≤ W.heap.size → Up (SX S [w.heap.size]) W := fun W hW => SX.up (hu.mono (by omega)) (by simp <;> omega)
 refine enter (args := [.int .i64 n, .int .i64 d]) Tryz.func121 rfl rfl (Nat.le_of_ble_eq_true rfl) ?_
 refine V.seq (V.reg rfl ?_)
 refine vo ?_
 refine xal zc48 ?_
 intro W1 x2 b3 nn4
 have s5 := x2.sz
 have z6 := x2
 refine vnil ?_
 refine V.seq (V.reg rfl ?_)
 refine mvi rfl ?_
 refine vo ?_
 refine xcall e165 (rFrom_ok _ _ _ hn (TT.up _)) rfl rfl ?_
 rintro _ W7 ⟨_, _, _, _, rfl, x8, hznc⟩
 have s9 := x8.sz
 have z10 := z6.trans x8
 replace b3 := b3.ext x8
 have hzn := ZC.zaH (L := 2) hznc (int_lt2 hn)
 refine ⟨_, rfl, ?_⟩
 refine mvi rfl ?_
 refine vo ?_
 refine xcall e165 (rFrom_ok _ _ _ hd (TT.up _)) rfl rfl ?_
 rintro _ W11 ⟨_, _, _, _, rfl, x12, hzdc⟩
 have s13 := x12.sz
 have z14 := z10.trans x12
 replace b3 := b3.ext x12
 have hzd := ZC.zaH (L := 2) hzdc (int_lt2 hd)
 refine ⟨_, rfl, ?_⟩
 refine vv (rbd (ps := [(0, .agg #[_, _]), (1, .agg #[_, _])]) (cs := [.bool _, .slice _ _ _, .bool _, .slice _ _ _]) pl48 rfl rfl) ?_
 refine vo ?_
 refine xcall e106 (rLeastQ_ok [_, _, _, _] _ _ _ _ _ (QA.mk2 (hzn.ext x12) hzd) (by omega) (by omega) (hu2 _ (by omega))) rfl rfl ?_
 rintro _ W16 ⟨_, rfl, x17, hq15⟩
 have s18 := x17.sz
 have z19 := z14.trans x17
 replace b3 := b3.ext x17
 obtain ⟨_, _, _, _, _, _, _, _, rfl⟩ := hq15.form
 refine ⟨_, rfl, ?_⟩
 refine vo ?_
 refine sta (cs' := [_, _, _, _]) b3 rfl rfl sz48 rfl rfl rfl ?_
 intro W20 y21 b3
 have z22 := z19.below (y21.below (by omega))
 have s23 := y21.size
 refine vnil ?_
 refine V.ret ?_
 refine ⟨[_], ⟨⟨_, rfl, lvb ag48 b3 rfl⟩, trivial⟩, ?_⟩
 exact ⟨_, rfl, z22, ((hq15.ck (y21.ck (by intro hh; first | (simp [SX] at hh <;> omega) | omega)))).un.cast (rfl)⟩
set_option maxHeartbeats 400000 in
theorem rNegQ_ok (q : List Value) (r : Rat) (L : Nat) (S S1 : Nat → Prop) (w : World) (h : QA L S1 w q r) (hL : L ≤ LX / 128) (hl : 1 ≤ L) (hu : Up S w) :
    Calls Tryz.prog 122 #[.agg q.toArray] w (PQ S (-r) w) := by
 have z0 := Ext.refl w; have hLX : LX = 17592186044416 := rfl; have hLY : LY = 8796093022208 := rfl
 obtain ⟨n1, a1, l1, c1, n2, a2, l2, c2, rfl⟩ := h.form
 obtain ⟨px, py, hx, hy, er⟩ := h.two
 have hu2 : ∀ W : World, w.heap.size + 2 ≤ W.heap.size → Up (SX S [w.heap.size + 1]) W := fun W hW => SX.up (hu.mono (by omega)) (by simp <;> omega)
 refine enter (args := [.agg #[.bool n1, .slice a1 l1 c1, .bool n2, .slice a2 l2 c2]]) Tryz.func122 rfl rfl (Nat.le_of_ble_eq_true rfl) ?_
 refine V.seq (V.reg rfl ?_)
 refine vo ?_
 refine bxa rfl ?_
 intro W1 x2 b3 nn4
 have s5 := x2.sz
 have z6 := x2
 refine vo ?_
 refine xal zc48 ?_
 intro W7 x8 b9 nn10
 have s11 := x8.sz
 have z12 := z6.trans x8
 replace b3 := b3.ext x8
 refine vnil ?_
 refine V.seq (V.regD mixed rfl ?_)
 intro W13 x14
 have s15 := x14.sz
 have z16 := z12.trans x14
 replace b3 := b3.ext x14
 replace b9 := b9.ext x14
 have q17 := Ext.refl W13
 have r18 := b3
 have r19 := b9
 refine tk 0 rfl (by kernel_rfl) q17 (pv (fun _ y20 => rldb4 rfl ag48 (r18.ext y20) rfl rfl rfl rfl )) ?_
 refine tk 3 rfl (by kernel_rfl) q17 (pv (fun _ y21 => rldb4 rfl ag48 (r18.ext y21) rfl rfl rfl rfl )) ?_
 refine ef 1 (by kernel_rfl) rfl ?_
 refine xcall e160 (rNum_ok [_, _, _, _] _ _ _ _ _ _ (PA.mk' (hx.ext z16) (hy.ext z16)) (by omega) (TT.up _)) rfl rfl ?_
 rintro _ W22 ⟨_, _, _, _, rfl, x23, hz4c⟩
 have s24 := x23.sz
 have z25 := z16.trans x23
 replace b9 := b9.ext x23
 have q26 := q17.trans x23
 have hz4 := ZC.zaH (L := L) hz4c (nm_lt hx.lt)
 refine ⟨_, rfl, ?_⟩
 refine ⟨fun _ => q26, ?_⟩
 refine ef 2 (by kernel_rfl) rfl ?_
 refine xcall e166 (rNeg_ok _ _ _ _ _ _ _ _ _ hz4 (by omega) (TT.up _)) rfl rfl ?_
 rintro _ W27 ⟨_, _, _, _, rfl, x28, hz5c⟩
 have s29 := x28.sz
 have z30 := z25.trans x28
 replace b9 := b9.ext x28
 have q31 := q26.trans x28
 have hz5 := ZC.zaH (L := L) hz5c (by rw [Int.natAbs_neg]; exact hz4.lt)
 refine ⟨_, rfl, ?_⟩
 refine ⟨fun _ => q31, ?_⟩
 refine ef 4 (by kernel_rfl) rfl ?_
 refine xcall e161 (rDen_ok [_, _, _, _] _ _ _ _ _ _ (PA.mk' (hx.ext z30) (hy.ext z30)) (by omega) (TT.up _)) rfl rfl ?_
 rintro _ W32 ⟨_, _, _, _, rfl, x33, hz7c⟩
 have s34 := x33.sz
 have z35 := z30.trans x33
 replace b9 := b9.ext x33
 have q36 := q31.trans x33
 have hz7 := ZC.zaH (L := L) hz7c (dn_abs (by omega) hy.lt)
 refine ⟨_, rfl, ?_⟩
 refine ⟨fun _ => q36, ?_⟩
 refine ef 5 (by kernel_rfl) rfl ?_
 refine xcall e159 (rOver_ok _ _ _ _ _ _ _ _ _ _ _ _ _ _ _ _ (hz5.ext x33) (by omega) hz7 (by omega) (dn_pos _) (hu2 _ (by omega))) rfl rfl ?_
 rintro _ W38 ⟨_, rfl, x39, hq37⟩
 have s40 := x39.sz
 have z41 := z35.trans x39
 replace b9 := b9.ext x39
 have q42 := q36.trans x39
 obtain ⟨_, _, _, _, _, _, _, _, rfl⟩ := hq37.form
 refine ⟨_, rfl, ?_⟩
 refine ⟨fun _ => q42, ?_⟩
 refine ef 6 (by kernel_rfl) rfl ?_
 refine sta (cs' := [_, _, _, _]) b9 rfl rfl sz48 rfl rfl rfl ?_
 intro W43 y44 b9
 have z45 := z41.below (y44.below (by omega))
 have s46 := y44.size
 refine lastT (by kernel_rfl) ?_
 refine dn (by kernel_rfl) ?_
 refine V.ret ?_
 refine ⟨[_], ⟨⟨_, rfl, lvb ag48 b9 rfl⟩, trivial⟩, ?_⟩
 exact ⟨_, rfl, z45, ((hq37.ck (y44.ck (by intro hh; first | (simp [SX] at hh <;> omega) | omega)))).un.cast (by rw [qv_neg, er])⟩
set_option maxHeartbeats 400000 in
theorem rSignQ_ok (q : List Value) (r : Rat) (L : Nat) (S1 : Nat → Prop) (w : World) (h : QA L S1 w q r) (hL : L ≤ LX / 128) (hl : 1 ≤ L) :
    Calls Tryz.prog 132 #[.agg q.toArray] w (fun e w' => e = .returned (.int .i64 (cq r 0)) ∧ Ext w w') := by
 have z0 := Ext.refl w; have hLX : LX = 17592186044416 := rfl; have hLY : LY = 8796093022208 := rfl
 obtain ⟨n1, a1, l1, c1, n2, a2, l2, c2, rfl⟩ := h.form
 obtain ⟨px, py, hx, hy, er⟩ := h.two
 refine enter (args := [.agg #[.bool n1, .slice a1 l1 c1, .bool n2, .slice a2 l2 c2]]) Tryz.func132 rfl rfl (Nat.le_of_ble_eq_true rfl) ?_
 refine V.seq (V.reg rfl ?_)
 refine vo ?_
 refine bxa rfl ?_
 intro W1 x2 b3 nn4
 have s5 := x2.sz
 have z6 := x2
 refine asi rfl ?_
 refine vnil ?_
 refine V.seq (V.reg rfl ?_)
 refine vv (rldb4 rfl ag48 b3 rfl rfl rfl rfl ) ?_
 refine vo ?_
 refine xcall e160 (rNum_ok [_, _, _, _] _ _ _ _ _ _ (PA.mk' (hx.ext z6) (hy.ext z6)) (by omega) (TT.up _)) rfl rfl ?_
 rintro _ W7 ⟨_, _, _, _, rfl, x8, hz4c⟩
 have s9 := x8.sz
 have z10 := z6.trans x8
 have hz4 := ZC.zaH (L := L) hz4c (nm_lt hx.lt)
 refine ⟨_, rfl, ?_⟩
 refine vo ?_
 refine xcall e172 (rSign_ok _ _ _ _ _ _ _ _ hz4 (by omega)) rfl rfl ?_
 rintro _ W11 ⟨rfl, x12⟩
 have s13 := x12.sz
 have z14 := z10.trans x12
 refine ⟨_, rfl, ?_⟩
 refine asi rfl ?_
 refine vnil ?_
 refine V.ret ?_
 refine ⟨[.int _ _], ⟨rfl, trivial⟩, ?_⟩
 exact ⟨by rw [er, ← nm_sg]; rfl, z14⟩
set_option maxHeartbeats 400000 in
theorem rMulQ_ok (q1 q2 : List Value) (r1 r2 : Rat) (L1 L2 : Nat) (S S1 S2 : Nat → Prop) (w : World) (h1 : QA L1 S1 w q1 r1) (h2 : QA L2 S2 w q2 r2) (hL : L1 + L2 ≤ LX / 128) (hl1 : 1 ≤ L1) (hl2 : 1 ≤ L2) (hu : Up S w) :
    Calls Tryz.prog 133 #[.agg q1.toArray, .agg q2.toArray] w (PQ S (r1 * r2) w) := by
 have z0 := Ext.refl w; have hLX : LX = 17592186044416 := rfl; have hLY : LY = 8796093022208 := rfl
 obtain ⟨n1, a1, l1, c1, n2, a2, l2, c2, rfl⟩ := h1.form; obtain ⟨n3, a3, l3, c3, n4, a4, l4, c4, rfl⟩ := h2.form
 obtain ⟨px1, py1, hx1, hy1, er1⟩ := h1.two
 obtain ⟨px2, py2, hx2, hy2, er2⟩ := h2.two
 have hu2 : ∀ W : World, w.heap.size + 3 ≤ W.heap.size → Up (SX S [w.heap.size + 2]) W := fun W hW => SX.up (hu.mono (by omega)) (by simp <;> omega)
 refine enter (args := [.agg #[.bool n1, .slice a1 l1 c1, .bool n2, .slice a2 l2 c2], .agg #[.bool n3, .slice a3 l3 c3, .bool n4, .slice a4 l4 c4]]) Tryz.func133 rfl rfl (Nat.le_of_ble_eq_true rfl) ?_
 refine V.seq (V.reg rfl ?_)
 refine vo ?_
 refine bxa rfl ?_
 intro W1 x2 b3 nn4
 have s5 := x2.sz
 have z6 := x2
 refine vo ?_
 refine bxa rfl ?_
 intro W7 x8 b9 nn10
 have s11 := x8.sz
 have z12 := z6.trans x8
 replace b3 := b3.ext x8
 refine vo ?_
 refine xal zc48 ?_
 intro W13 x14 b15 nn16
 have s17 := x14.sz
 have z18 := z12.trans x14
 replace b3 := b3.ext x14
 replace b9 := b9.ext x14
 refine vnil ?_
 refine V.seq (V.regD mixed rfl ?_)
 intro W19 x20
 have s21 := x20.sz
 have z22 := z18.trans x20
 replace b3 := b3.ext x20
 replace b9 := b9.ext x20
 replace b15 := b15.ext x20
 have q23 := Ext.refl W19
 have r24 := b3
 have r25 := b9
 have r26 := b15
 refine tk 0 rfl (by kernel_rfl) q23 (pv (fun _ y27 => rldb4 rfl ag48 (r24.ext y27) rfl rfl rfl rfl )) ?_
 refine tk 2 rfl (by kernel_rfl) q23 (pv (fun _ y28 => rldb4 rfl ag48 (r25.ext y28) rfl rfl rfl rfl )) ?_
 refine tk 5 rfl (by kernel_rfl) q23 (pv (fun _ y29 => rldb4 rfl ag48 (r24.ext y29) rfl rfl rfl rfl )) ?_
 refine tk 7 rfl (by kernel_rfl) q23 (pv (fun _ y30 => rldb4 rfl ag48 (r25.ext y30) rfl rfl rfl rfl )) ?_
 refine ef 1 (by kernel_rfl) rfl ?_
 refine xcall e160 (rNum_ok [_, _, _, _] _ _ _ _ _ _ (PA.mk' (hx1.ext z22) (hy1.ext z22)) (by omega) (TT.up _)) rfl rfl ?_
 rintro _ W31 ⟨_, _, _, _, rfl, x32, hz6c⟩
 have s33 := x32.sz
 have z34 := z22.trans x32
 replace b15 := b15.ext x32
 have q35 := q23.trans x32
 have hz6 := ZC.zaH (L := L1) hz6c (nm_lt hx1.lt)
 refine ⟨_, rfl, ?_⟩
 refine ⟨fun _ => q35, ?_⟩
 refine ef 3 (by kernel_rfl) rfl ?_
 refine xcall e160 (rNum_ok [_, _, _, _] _ _ _ _ _ _ (PA.mk' (hx2.ext z34) (hy2.ext z34)) (by omega) (TT.up _)) rfl rfl ?_
 rintro _ W36 ⟨_, _, _, _, rfl, x37, hz8c⟩
 have s38 := x37.sz
 have z39 := z34.trans x37
 replace b15 := b15.ext x37
 have q40 := q35.trans x37
 have hz8 := ZC.zaH (L := L2) hz8c (nm_lt hx2.lt)
 refine ⟨_, rfl, ?_⟩
 refine ⟨fun _ => q40, ?_⟩
 refine ef 4 (by kernel_rfl) rfl ?_
 refine xcall e173 (rMulZ_ok _ _ _ _ _ _ _ _ _ _ _ _ _ _ _ _ (hz6.ext x37) (by omega) hz8 (by omega) (TT.up _)) rfl rfl ?_
 rintro _ W41 ⟨_, _, _, _, rfl, x42, hz9c⟩
 have s43 := x42.sz
 have z44 := z39.trans x42
 replace b15 := b15.ext x42
 have q45 := q40.trans x42
 have hz9 := ZC.za_mul hz9c hz6 hz8
 refine ⟨_, rfl, ?_⟩
 refine ⟨fun _ => q45, ?_⟩
 refine ef 6 (by kernel_rfl) rfl ?_
 refine xcall e161 (rDen_ok [_, _, _, _] _ _ _ _ _ _ (PA.mk' (hx1.ext z44) (hy1.ext z44)) (by omega) (TT.up _)) rfl rfl ?_
 rintro _ W46 ⟨_, _, _, _, rfl, x47, hz11c⟩
 have s48 := x47.sz
 have z49 := z44.trans x47
 replace b15 := b15.ext x47
 have q50 := q45.trans x47
 have hz11 := ZC.zaH (L := L1) hz11c (dn_abs (by omega) hy1.lt)
 refine ⟨_, rfl, ?_⟩
 refine ⟨fun _ => q50, ?_⟩
 refine ef 8 (by kernel_rfl) rfl ?_
 refine xcall e161 (rDen_ok [_, _, _, _] _ _ _ _ _ _ (PA.mk' (hx2.ext z49) (hy2.ext z49)) (by omega) (TT.up _)) rfl rfl ?_
 rintro _ W51 ⟨_, _, _, _, rfl, x52, hz13c⟩
 have s53 := x52.sz
 have z54 := z49.trans x52
 replace b15 := b15.ext x52
 have q55 := q50.trans x52
 have hz13 := ZC.zaH (L := L2) hz13c (dn_abs (by omega) hy2.lt)
 refine ⟨_, rfl, ?_⟩
 refine ⟨fun _ => q55, ?_⟩
 refine ef 9 (by kernel_rfl) rfl ?_
 refine xcall e173 (rMulZ_ok _ _ _ _ _ _ _ _ _ _ _ _ _ _ _ _ (hz11.ext x52) (by omega) hz13 (by omega) (TT.up _)) rfl rfl ?_
 rintro _ W56 ⟨_, _, _, _, rfl, x57, hz14c⟩
 have s58 := x57.sz
 have z59 := z54.trans x57
 replace b15 := b15.ext x57
 have q60 := q55.trans x57
 have hz14 := ZC.za_mul hz14c hz11 hz13
 refine ⟨_, rfl, ?_⟩
 refine ⟨fun _ => q60, ?_⟩
 refine ef 10 (by kernel_rfl) rfl ?_
 refine xcall e159 (rOver_ok _ _ _ _ _ _ _ _ _ _ _ _ _ _ _ _ (hz9.ext ((x47.trans x52).trans x57)) (by omega) hz14 (by omega) (Int.mul_pos (dn_pos _) (dn_pos _)) (hu2 _ (by omega))) rfl rfl ?_
 rintro _ W62 ⟨_, rfl, x63, hq61⟩
 have s64 := x63.sz
 have z65 := z59.trans x63
 replace b15 := b15.ext x63
 have q66 := q60.trans x63
 obtain ⟨_, _, _, _, _, _, _, _, rfl⟩ := hq61.form
 refine ⟨_, rfl, ?_⟩
 refine ⟨fun _ => q66, ?_⟩
 refine ef 11 (by kernel_rfl) rfl ?_
 refine sta (cs' := [_, _, _, _]) b15 rfl rfl sz48 rfl rfl rfl ?_
 intro W67 y68 b15
 have z69 := z65.below (y68.below (by omega))
 have s70 := y68.size
 refine lastT (by kernel_rfl) ?_
 refine dn (by kernel_rfl) ?_
 refine V.ret ?_
 refine ⟨[_], ⟨⟨_, rfl, lvb ag48 b15 rfl⟩, trivial⟩, ?_⟩
 exact ⟨_, rfl, z69, ((hq61.ck (y68.ck (by intro hh; first | (simp [SX] at hh <;> omega) | omega)))).un.cast (by rw [qv_mul, er1, er2])⟩
end Go.Proofs.YtknbjfefeeojlaaGreat
/- Package pylonref02: Add. -/
namespace Go.Proofs.YtknbjfefeeojlaaGreat
open Go.RowKit
attribute [local irreducible] RV VH V OpF Calls
theorem RN.nbox {k : IntKind} {S : Nat → Prop} {W : World} {a : Option Addr} {n c b : Nat} {xs : List Int} {cs : List Value} {T : TypeId} (h : RN k S W a n c xs) (hb : BoxAt W b cs T) (hc : ∀ v ∈ cs, ∀ k z, v ≠ .int k z) : RN k (SX S [b]) W a n c xs :=
  ⟨h.len, h.cap, h.max, h.wf, fun hn => by
    obtain ⟨b', off, cs', T', fz, e, hs, hh, hj⟩ := h.at_ hn
    refine ⟨b', off, cs', T', fz, e, ⟨hs, fun hm => ?_⟩, hh, hj⟩
    simp only [List.mem_cons, List.not_mem_nil, or_false] at hm
    subst hm
    unfold BoxAt at hb
    rw [hb] at hh
    injection hh with hh
    injection hh with h1 _ _
    have h0 := hj 0 hn
    rw [← h1] at h0
    have h2 : cs[off + 0]? = some (.int k (wd xs ((0 : Nat) : Int))) := by simpa using h0
    exact hc _ (List.mem_of_getElem? h2) _ _ rfl⟩
theorem ZA.nbox {L : Nat} {S : Nat → Prop} {W : World} {n : Bool} {a : Option Addr} {l c b : Nat} {z : Int} {cs : List Value} {T : TypeId} (h : ZA L S W n a l c z) (hb : BoxAt W b cs T) (hc : ∀ v ∈ cs, ∀ k z, v ≠ .int k z) : ZA L (SX S [b]) W n a l c z := by
  obtain ⟨xs, h1, h2⟩ := h; exact ⟨xs, h1.nbox hb hc, h2⟩
theorem vhgen {r : Option Nat} {P : Program} {ops : Array Oper} {S : World → Prop} {R : Env → World → Prop} {f : Nat} {l : Array Bool} {E : Env} {W : World} (h : ∀ G : Nat → Array Bool → Env → World → Prop, (∀ f l E W, VH r P ops S R f l E W ↔ G f l E W) → G f l E W) : VH r P ops S R f l E W :=
  h (fun f l E W => VH r P ops S R f l E W) (fun _ _ _ _ => Iff.rfl)
theorem Gcast {G : Nat → Array Bool → Env → World → Prop} {f : Nat} {l l' : Array Bool} {E : Env} {W : World} (e : l = l') (h : G f l' E W) : G f l E W := e ▸ h

set_option maxHeartbeats 400000 in
theorem rAddQ_ok (q1 q2 : List Value) (r1 r2 : Rat) (L1 L2 : Nat) (S S1 S2 : Nat → Prop) (w : World) (h1 : QA L1 S1 w q1 r1) (h2 : QA L2 S2 w q2 r2) (hL : L1 + L2 ≤ LX / 128) (hl1 : 1 ≤ L1) (hl2 : 1 ≤ L2) (hu : Up S w) :
    Calls Tryz.prog 134 #[.agg q1.toArray, .agg q2.toArray] w (PQ S (r1 + r2) w) := by
 have z0 := Ext.refl w; have hLX : LX = 17592186044416 := rfl; have hLY : LY = 8796093022208 := rfl
 obtain ⟨n1, a1, l1, c1, n2, a2, l2, c2, rfl⟩ := h1.form; obtain ⟨n3, a3, l3, c3, n4, a4, l4, c4, rfl⟩ := h2.form
 obtain ⟨px1, py1, hx1, hy1, er1⟩ := h1.two
 obtain ⟨px2, py2, hx2, hy2, er2⟩ := h2.two
 have hu2 : ∀ W : World, w.heap.size + 3 ≤ W.heap.size → Up (SX S [w.heap.size + 2]) W := fun W hW => SX.up (hu.mono (by omega)) (by simp <;> omega)
 refine enter (args := [.agg #[.bool n1, .slice a1 l1 c1, .bool n2, .slice a2 l2 c2], .agg #[.bool n3, .slice a3 l3 c3, .bool n4, .slice a4 l4 c4]]) Tryz.func134 rfl rfl (Nat.le_of_ble_eq_true rfl) ?_
 refine V.seq (V.reg rfl ?_)
 refine vo ?_
 refine bxa rfl ?_
 intro W1 x2 b3 nn4
 have s5 := x2.sz
 have z6 := x2
 refine vo ?_
 refine bxa rfl ?_
 intro W7 x8 b9 nn10
 have s11 := x8.sz
 have z12 := z6.trans x8
 replace b3 := b3.ext x8
 refine vo ?_
 refine xal zc48 ?_
 intro W13 x14 b15 nn16
 have s17 := x14.sz
 have z18 := z12.trans x14
 replace b3 := b3.ext x14
 replace b9 := b9.ext x14
 refine vnil ?_
 refine V.seq (V.regD mixed rfl ?_)
 intro W19 x20
 have s21 := x20.sz
 have z22 := z18.trans x20
 replace b3 := b3.ext x20
 replace b9 := b9.ext x20
 replace b15 := b15.ext x20
 have q23 := Ext.refl W19
 have r24 := b3
 have r25 := b9
 have r26 := b15
 refine tk 0 rfl (by kernel_rfl) q23 (pv (fun _ y27 => rldb4 rfl ag48 (r24.ext y27) rfl rfl rfl rfl )) ?_
 refine tk 2 rfl (by kernel_rfl) q23 (pv (fun _ y28 => rldb4 rfl ag48 (r25.ext y28) rfl rfl rfl rfl )) ?_
 refine tk 5 rfl (by kernel_rfl) q23 (pv (fun _ y29 => rldb4 rfl ag48 (r25.ext y29) rfl rfl rfl rfl )) ?_
 refine tk 7 rfl (by kernel_rfl) q23 (pv (fun _ y30 => rldb4 rfl ag48 (r24.ext y30) rfl rfl rfl rfl )) ?_
 refine vhgen fun G hG => ?_
 have K1_0 : ∀ (b5 : Nat) (m11 : Bool) (d11 : Option Addr) (e11 : Nat) (f11 : Nat) (b6 : Nat) (m16 : Bool) (d16 : Option Addr) (e16 : Nat) (f16 : Nat) (E : Env) (W : World), Ext W19 W → agree E [(2, .pointer (some ⟨w.heap.size, 0, none⟩)), (3, .pointer (some ⟨W1.heap.size, 0, none⟩)), (4, .pointer (some ⟨W7.heap.size, 0, none⟩)), (7, .agg #[.bool n1, .slice a1 l1 c1, .bool n2, .slice a2 l2 c2]), (9, .agg #[.bool n3, .slice a3 l3 c3, .bool n4, .slice a4 l4 c4]), (12, .agg #[.bool n3, .slice a3 l3 c3, .bool n4, .slice a4 l4 c4]), (14, .agg #[.bool n1, .slice a1 l1 c1, .bool n2, .slice a2 l2 c2])] → agree E [(5, .pointer (some ⟨b5, 0, none⟩)), (6, .pointer (some ⟨b6, 0, none⟩))] → (BoxAt W b5 [.bool m11, .slice d11 e11 f11] 46 ∧ W19.heap.size ≤ b5 ∧ ZA (L1 + L2) TT W m11 d11 e11 f11 (nmq px1 py1 * dnq py2) ∧ BoxAt W b6 [.bool m16, .slice d16 e16 f16] 46 ∧ W19.heap.size ≤ b6 ∧ ZA (L1 + L2) TT W m16 d16 e16 f16 (nmq px2 py2 * dnq py1) ∧ b5 ≠ b6) → G 0 #[true, true, true, true, true, true, true, true, true, true, true, true, true, true] E W := by
  intro b5 m11 d11 e11 f11 b6 m16 d16 e16 f16 E31 W32 x33 hF hL hI
  obtain ⟨hb5, lb5, hz5, hb6, lb6, hz6, pr0⟩ := hI
  refine (hG _ _ _ _).1 ?_
  rw [← ups_agree hF, ← ups_agree hL]
  have s34 := x33.sz
  have z35 := z22.trans x33
  replace b3 := b3.ext x33
  replace b9 := b9.ext x33
  replace b15 := b15.ext x33
  have lhb5 := hb5.lt
  have lhb6 := hb6.lt
  refine dn (by kernel_rfl) ?_
  refine V.seq (V.regD mixed rfl ?_)
  intro W37 x38
  have s39 := x38.sz
  have z40 := z35.trans x38
  replace b3 := b3.ext x38
  replace b9 := b9.ext x38
  replace b15 := b15.ext x38
  replace hb5 := hb5.ext x38
  replace hb6 := hb6.ext x38
  have q41 := Ext.refl W37
  have r42 := b3
  have r43 := b9
  have r44 := b15
  have r45 := hb5
  have r46 := hb6
  refine tk 0 rfl (by kernel_rfl) q41 (pv (fun _ y47 => rldb2 rfl ag46 (r45.ext y47) rfl rfl )) ?_
  refine tk 1 rfl (by kernel_rfl) q41 (pv (fun _ y48 => rldb2 rfl ag46 (r46.ext y48) rfl rfl )) ?_
  refine tk 3 rfl (by kernel_rfl) q41 (pv (fun _ y49 => rldb4 rfl ag48 (r42.ext y49) rfl rfl rfl rfl )) ?_
  refine tk 5 rfl (by kernel_rfl) q41 (pv (fun _ y50 => rldb4 rfl ag48 (r43.ext y50) rfl rfl rfl rfl )) ?_
  refine ef 2 (by kernel_rfl) rfl ?_
  refine xcall e174 (rAddZ_ok _ _ _ _ _ _ _ _ _ _ _ _ _ _ _ _ (hz5.ext x38) (by omega) (hz6.ext x38) (by omega) (TT.up _)) rfl rfl ?_
  rintro _ W51 ⟨_, _, _, _, rfl, x52, hz19c⟩
  have s53 := x52.sz
  have z54 := z40.trans x52
  replace b15 := b15.ext x52
  replace hb5 := hb5.ext x52
  replace hb6 := hb6.ext x52
  have q55 := q41.trans x52
  have hz19 := ZC.za_add (L := L1 + L2) hz19c hz5.lt hz6.lt (.inl rfl)
  refine ⟨_, rfl, ?_⟩
  refine ⟨fun _ => q55, ?_⟩
  refine ef 4 (by kernel_rfl) rfl ?_
  refine xcall e161 (rDen_ok [_, _, _, _] _ _ _ _ _ _ (PA.mk' (hx1.ext z54) (hy1.ext z54)) (by omega) (TT.up _)) rfl rfl ?_
  rintro _ W56 ⟨_, _, _, _, rfl, x57, hz21c⟩
  have s58 := x57.sz
  have z59 := z54.trans x57
  replace b15 := b15.ext x57
  replace hb5 := hb5.ext x57
  replace hb6 := hb6.ext x57
  have q60 := q55.trans x57
  have hz21 := ZC.zaH (L := L1) hz21c (dn_abs (by omega) hy1.lt)
  refine ⟨_, rfl, ?_⟩
  refine ⟨fun _ => q60, ?_⟩
  refine ef 6 (by kernel_rfl) rfl ?_
  refine xcall e161 (rDen_ok [_, _, _, _] _ _ _ _ _ _ (PA.mk' (hx2.ext z59) (hy2.ext z59)) (by omega) (TT.up _)) rfl rfl ?_
  rintro _ W61 ⟨_, _, _, _, rfl, x62, hz23c⟩
  have s63 := x62.sz
  have z64 := z59.trans x62
  replace b15 := b15.ext x62
  replace hb5 := hb5.ext x62
  replace hb6 := hb6.ext x62
  have q65 := q60.trans x62
  have hz23 := ZC.zaH (L := L2) hz23c (dn_abs (by omega) hy2.lt)
  refine ⟨_, rfl, ?_⟩
  refine ⟨fun _ => q65, ?_⟩
  refine ef 7 (by kernel_rfl) rfl ?_
  refine xcall e173 (rMulZ_ok _ _ _ _ _ _ _ _ _ _ _ _ _ _ _ _ (hz21.ext x62) (by omega) hz23 (by omega) (TT.up _)) rfl rfl ?_
  rintro _ W66 ⟨_, _, _, _, rfl, x67, hz24c⟩
  have s68 := x67.sz
  have z69 := z64.trans x67
  replace b15 := b15.ext x67
  replace hb5 := hb5.ext x67
  replace hb6 := hb6.ext x67
  have q70 := q65.trans x67
  have hz24 := ZC.za_mul hz24c hz21 hz23
  refine ⟨_, rfl, ?_⟩
  refine ⟨fun _ => q70, ?_⟩
  refine ef 8 (by kernel_rfl) rfl ?_
  refine xcall e159 (rOver_ok _ _ _ _ _ _ _ _ _ _ _ _ _ _ _ _ (hz19.ext ((x57.trans x62).trans x67)) (by omega) hz24 (by omega) (Int.mul_pos (dn_pos _) (dn_pos _)) (hu2 _ (by omega))) rfl rfl ?_
  rintro _ W72 ⟨_, rfl, x73, hq71⟩
  have s74 := x73.sz
  have z75 := z69.trans x73
  replace b15 := b15.ext x73
  replace hb5 := hb5.ext x73
  replace hb6 := hb6.ext x73
  have q76 := q70.trans x73
  obtain ⟨_, _, _, _, _, _, _, _, rfl⟩ := hq71.form
  refine ⟨_, rfl, ?_⟩
  refine ⟨fun _ => q76, ?_⟩
  refine ef 9 (by kernel_rfl) rfl ?_
  refine sta (cs' := [_, _, _, _]) b15 rfl rfl sz48 rfl rfl rfl ?_
  intro W77 y78 b15
  have z79 := z75.below (y78.below (by omega))
  replace hb5 := hb5.wr y78 (by omega)
  replace hb6 := hb6.wr y78 (by omega)
  have s80 := y78.size
  refine lastT (by kernel_rfl) ?_
  refine dn (by kernel_rfl) ?_
  refine V.ret ?_
  refine ⟨[_], ⟨⟨_, rfl, lvb ag48 b15 rfl⟩, trivial⟩, ?_⟩
  exact ⟨_, rfl, z79, ((hq71.ck (y78.ck (by intro hh; first | (simp [SX] at hh <;> omega) | omega)))).un.cast (by rw [qv_add, er1, er2])⟩
 have K1_1 : ∀ (m16 : Bool) (d16 : Option Addr) (e16 : Nat) (f16 : Nat) (b6 : Nat) (b5 : Nat) (m11 : Bool) (d11 : Option Addr) (e11 : Nat) (f11 : Nat) (E : Env) (W : World), Ext W19 W → agree E [(2, .pointer (some ⟨w.heap.size, 0, none⟩)), (3, .pointer (some ⟨W1.heap.size, 0, none⟩)), (4, .pointer (some ⟨W7.heap.size, 0, none⟩)), (7, .agg #[.bool n1, .slice a1 l1 c1, .bool n2, .slice a2 l2 c2]), (9, .agg #[.bool n3, .slice a3 l3 c3, .bool n4, .slice a4 l4 c4]), (12, .agg #[.bool n3, .slice a3 l3 c3, .bool n4, .slice a4 l4 c4]), (14, .agg #[.bool n1, .slice a1 l1 c1, .bool n2, .slice a2 l2 c2])] → agree E [(16, .agg #[.bool m16, .slice d16 e16 f16]), (6, .pointer (some ⟨b6, 0, none⟩)), (5, .pointer (some ⟨b5, 0, none⟩))] → (ZA (L1 + L2) TT W m16 d16 e16 f16 (nmq px2 py2 * dnq py1) ∧ BoxAt W b6 [.bool false, .slice none 0 0] 46 ∧ W19.heap.size ≤ b6 ∧ BoxAt W b5 [.bool m11, .slice d11 e11 f11] 46 ∧ W19.heap.size ≤ b5 ∧ ZA (L1 + L2) TT W m11 d11 e11 f11 (nmq px1 py1 * dnq py2) ∧ b5 ≠ b6) → G 1 #[true, true, true, true, true, true, true, true, true, true, true, true, true, false] E W := by
  intro m16 d16 e16 f16 b6 b5 m11 d11 e11 f11 E81 W82 x83 hF hL hI
  obtain ⟨hz16, hb6, lb6, hb5, lb5, hz5, pr0⟩ := hI
  refine (hG _ _ _ _).1 ?_
  rw [← ups_agree hF, ← ups_agree hL]
  have s84 := x83.sz
  have q86 := q23.trans x83
  have lhb6 := hb6.lt
  have lhb5 := hb5.lt
  refine ef 13 (by kernel_rfl) rfl ?_
  replace hz16 := (hz16).nbox hb6 (by intro v hv; simp at hv; rcases hv with rfl | rfl <;> intro _ _ hh <;> cases hh)
  replace hz5 := (hz5).nbox hb6 (by intro v hv; simp at hv; rcases hv with rfl | rfl <;> intro _ _ hh <;> cases hh)
  refine sta (cs' := [_, _]) hb6 rfl rfl sz46 rfl rfl rfl ?_
  intro W88 y89 hb6
  replace hb5 := hb5.wr y89 (by omega)
  have q91 := q86.below (y89.below (by omega))
  have s92 := y89.size
  refine lastT (by kernel_rfl) ?_
  exact (hG _ _ _ _).2 (Gcast (by kernel_rfl) (K1_0 (b5) (m11) (d11) (e11) (f11) (_) (_) (_) (_) (_) _ _ q91 ⟨rfl, rfl, rfl, rfl, rfl, rfl, rfl, trivial⟩ ⟨rfl, rfl, trivial⟩ ⟨hb5, lb5, ((hz5.ck (y89.ck (by intro hh; first | (simp [SX] at hh <;> omega) | omega)))).sub (fun _ _ _ => trivial), hb6, by omega, ((hz16.ck (y89.ck (by intro hh; first | (simp [SX] at hh <;> omega) | omega)))).sub (fun _ _ _ => trivial), by omega⟩))
 have K1_2 : ∀ (m11 : Bool) (d11 : Option Addr) (e11 : Nat) (f11 : Nat) (m16 : Bool) (d16 : Option Addr) (e16 : Nat) (f16 : Nat) (b5 : Nat) (b6 : Nat) (E : Env) (W : World), Ext W19 W → agree E [(2, .pointer (some ⟨w.heap.size, 0, none⟩)), (3, .pointer (some ⟨W1.heap.size, 0, none⟩)), (4, .pointer (some ⟨W7.heap.size, 0, none⟩)), (7, .agg #[.bool n1, .slice a1 l1 c1, .bool n2, .slice a2 l2 c2]), (9, .agg #[.bool n3, .slice a3 l3 c3, .bool n4, .slice a4 l4 c4]), (12, .agg #[.bool n3, .slice a3 l3 c3, .bool n4, .slice a4 l4 c4]), (14, .agg #[.bool n1, .slice a1 l1 c1, .bool n2, .slice a2 l2 c2])] → agree E [(11, .agg #[.bool m11, .slice d11 e11 f11]), (16, .agg #[.bool m16, .slice d16 e16 f16]), (5, .pointer (some ⟨b5, 0, none⟩)), (6, .pointer (some ⟨b6, 0, none⟩))] → (ZA (L1 + L2) TT W m11 d11 e11 f11 (nmq px1 py1 * dnq py2) ∧ ZA (L1 + L2) TT W m16 d16 e16 f16 (nmq px2 py2 * dnq py1) ∧ BoxAt W b5 [.bool false, .slice none 0 0] 46 ∧ W19.heap.size ≤ b5 ∧ BoxAt W b6 [.bool false, .slice none 0 0] 46 ∧ W19.heap.size ≤ b6 ∧ b5 ≠ b6) → G 2 #[true, true, true, true, true, true, true, true, true, true, true, true, false, false] E W := by
  intro m11 d11 e11 f11 m16 d16 e16 f16 b5 b6 E93 W94 x95 hF hL hI
  obtain ⟨hz11, hz16, hb5, lb5, hb6, lb6, pr0⟩ := hI
  refine (hG _ _ _ _).1 ?_
  rw [← ups_agree hF, ← ups_agree hL]
  have s96 := x95.sz
  have q98 := q23.trans x95
  have lhb5 := hb5.lt
  have lhb6 := hb6.lt
  refine ef 12 (by kernel_rfl) rfl ?_
  replace hz11 := (hz11).nbox hb5 (by intro v hv; simp at hv; rcases hv with rfl | rfl <;> intro _ _ hh <;> cases hh)
  replace hz16 := (hz16).nbox hb5 (by intro v hv; simp at hv; rcases hv with rfl | rfl <;> intro _ _ hh <;> cases hh)
  refine sta (cs' := [_, _]) hb5 rfl rfl sz46 rfl rfl rfl ?_
  intro W100 y101 hb5
  replace hb6 := hb6.wr y101 (by omega)
  have q103 := q98.below (y101.below (by omega))
  have s104 := y101.size
  refine ⟨fun _ => q103, ?_⟩
  exact (hG _ _ _ _).2 (Gcast (by kernel_rfl) (K1_1 (m16) (d16) (e16) (f16) (b6) (_) (_) (_) (_) (_) _ _ q103 ⟨rfl, rfl, rfl, rfl, rfl, rfl, rfl, trivial⟩ ⟨rfl, rfl, rfl, trivial⟩ ⟨((hz16.ck (y101.ck (by intro hh; first | (simp [SX] at hh <;> omega) | omega)))).sub (fun _ _ _ => trivial), hb6, lb6, hb5, by omega, ((hz11.ck (y101.ck (by intro hh; first | (simp [SX] at hh <;> omega) | omega)))).sub (fun _ _ _ => trivial), by omega⟩))
 have K1_3 : ∀ (m11 : Bool) (d11 : Option Addr) (e11 : Nat) (f11 : Nat) (m16 : Bool) (d16 : Option Addr) (e16 : Nat) (f16 : Nat) (b5 : Nat) (E : Env) (W : World), Ext W19 W → agree E [(2, .pointer (some ⟨w.heap.size, 0, none⟩)), (3, .pointer (some ⟨W1.heap.size, 0, none⟩)), (4, .pointer (some ⟨W7.heap.size, 0, none⟩)), (7, .agg #[.bool n1, .slice a1 l1 c1, .bool n2, .slice a2 l2 c2]), (9, .agg #[.bool n3, .slice a3 l3 c3, .bool n4, .slice a4 l4 c4]), (12, .agg #[.bool n3, .slice a3 l3 c3, .bool n4, .slice a4 l4 c4]), (14, .agg #[.bool n1, .slice a1 l1 c1, .bool n2, .slice a2 l2 c2])] → agree E [(11, .agg #[.bool m11, .slice d11 e11 f11]), (16, .agg #[.bool m16, .slice d16 e16 f16]), (5, .pointer (some ⟨b5, 0, none⟩))] → (ZA (L1 + L2) TT W m11 d11 e11 f11 (nmq px1 py1 * dnq py2) ∧ ZA (L1 + L2) TT W m16 d16 e16 f16 (nmq px2 py2 * dnq py1) ∧ BoxAt W b5 [.bool false, .slice none 0 0] 46 ∧ W19.heap.size ≤ b5) → G 3 #[true, true, true, true, true, true, true, true, true, true, true, false, false, false] E W := by
  intro m11 d11 e11 f11 m16 d16 e16 f16 b5 E105 W106 x107 hF hL hI
  obtain ⟨hz11, hz16, hb5, lb5⟩ := hI
  refine (hG _ _ _ _).1 ?_
  rw [← ups_agree hF, ← ups_agree hL]
  have s108 := x107.sz
  have q110 := q23.trans x107
  have lhb5 := hb5.lt
  refine ef 11 (by kernel_rfl) rfl ?_
  refine xal zc46 ?_
  intro W111 x112 b113 nn114
  have s115 := x112.sz
  replace hb5 := hb5.ext x112
  have q117 := q110.trans x112
  refine ⟨fun _ => q117, ?_⟩
  exact (hG _ _ _ _).2 (Gcast (by kernel_rfl) (K1_2 (m11) (d11) (e11) (f11) (m16) (d16) (e16) (f16) (b5) (_) _ _ q117 ⟨rfl, rfl, rfl, rfl, rfl, rfl, rfl, trivial⟩ ⟨rfl, rfl, rfl, rfl, trivial⟩ ⟨((hz11.ext x112)).sub (fun _ _ _ => trivial), ((hz16.ext x112)).sub (fun _ _ _ => trivial), hb5, lb5, b113, by omega, by omega⟩))
 have K1_4 : ∀ (m11 : Bool) (d11 : Option Addr) (e11 : Nat) (f11 : Nat) (m16 : Bool) (d16 : Option Addr) (e16 : Nat) (f16 : Nat) (b6 : Nat) (E : Env) (W : World), Ext W19 W → agree E [(2, .pointer (some ⟨w.heap.size, 0, none⟩)), (3, .pointer (some ⟨W1.heap.size, 0, none⟩)), (4, .pointer (some ⟨W7.heap.size, 0, none⟩)), (7, .agg #[.bool n1, .slice a1 l1 c1, .bool n2, .slice a2 l2 c2]), (9, .agg #[.bool n3, .slice a3 l3 c3, .bool n4, .slice a4 l4 c4]), (12, .agg #[.bool n3, .slice a3 l3 c3, .bool n4, .slice a4 l4 c4]), (14, .agg #[.bool n1, .slice a1 l1 c1, .bool n2, .slice a2 l2 c2])] → agree E [(11, .agg #[.bool m11, .slice d11 e11 f11]), (16, .agg #[.bool m16, .slice d16 e16 f16]), (6, .pointer (some ⟨b6, 0, none⟩))] → (ZA (L1 + L2) TT W m11 d11 e11 f11 (nmq px1 py1 * dnq py2) ∧ ZA (L1 + L2) TT W m16 d16 e16 f16 (nmq px2 py2 * dnq py1) ∧ BoxAt W b6 [.bool false, .slice none 0 0] 46 ∧ W19.heap.size ≤ b6) → G 3 #[true, true, true, true, true, true, true, true, true, true, false, true, false, false] E W := by
  intro m11 d11 e11 f11 m16 d16 e16 f16 b6 E118 W119 x120 hF hL hI
  obtain ⟨hz11, hz16, hb6, lb6⟩ := hI
  refine (hG _ _ _ _).1 ?_
  rw [← ups_agree hF, ← ups_agree hL]
  have s121 := x120.sz
  have q123 := q23.trans x120
  have lhb6 := hb6.lt
  refine ef 10 (by kernel_rfl) rfl ?_
  refine xal zc46 ?_
  intro W124 x125 b126 nn127
  have s128 := x125.sz
  replace hb6 := hb6.ext x125
  have q130 := q123.trans x125
  refine ⟨fun _ => q130, ?_⟩
  exact (hG _ _ _ _).2 (Gcast (by kernel_rfl) (K1_2 (m11) (d11) (e11) (f11) (m16) (d16) (e16) (f16) (_) (b6) _ _ q130 ⟨rfl, rfl, rfl, rfl, rfl, rfl, rfl, trivial⟩ ⟨rfl, rfl, rfl, rfl, trivial⟩ ⟨((hz11.ext x125)).sub (fun _ _ _ => trivial), ((hz16.ext x125)).sub (fun _ _ _ => trivial), b126, by omega, hb6, lb6, by omega⟩))
 have K1_5 : ∀ (m11 : Bool) (d11 : Option Addr) (e11 : Nat) (f11 : Nat) (m13 : Bool) (d13 : Option Addr) (e13 : Nat) (f13 : Nat) (m15 : Bool) (d15 : Option Addr) (e15 : Nat) (f15 : Nat) (b5 : Nat) (b6 : Nat) (E : Env) (W : World), Ext W19 W → agree E [(2, .pointer (some ⟨w.heap.size, 0, none⟩)), (3, .pointer (some ⟨W1.heap.size, 0, none⟩)), (4, .pointer (some ⟨W7.heap.size, 0, none⟩)), (7, .agg #[.bool n1, .slice a1 l1 c1, .bool n2, .slice a2 l2 c2]), (9, .agg #[.bool n3, .slice a3 l3 c3, .bool n4, .slice a4 l4 c4]), (12, .agg #[.bool n3, .slice a3 l3 c3, .bool n4, .slice a4 l4 c4]), (14, .agg #[.bool n1, .slice a1 l1 c1, .bool n2, .slice a2 l2 c2])] → agree E [(11, .agg #[.bool m11, .slice d11 e11 f11]), (13, .agg #[.bool m13, .slice d13 e13 f13]), (15, .agg #[.bool m15, .slice d15 e15 f15]), (5, .pointer (some ⟨b5, 0, none⟩)), (6, .pointer (some ⟨b6, 0, none⟩))] → (ZA (L1 + L2) TT W m11 d11 e11 f11 (nmq px1 py1 * dnq py2) ∧ ZA (L2) TT W m13 d13 e13 f13 (nmq px2 py2) ∧ ZA (L1) TT W m15 d15 e15 f15 (dnq py1) ∧ BoxAt W b5 [.bool false, .slice none 0 0] 46 ∧ W19.heap.size ≤ b5 ∧ BoxAt W b6 [.bool false, .slice none 0 0] 46 ∧ W19.heap.size ≤ b6 ∧ b5 ≠ b6) → G 3 #[true, true, true, true, true, true, true, true, true, false, true, true, false, false] E W := by
  intro m11 d11 e11 f11 m13 d13 e13 f13 m15 d15 e15 f15 b5 b6 E131 W132 x133 hF hL hI
  obtain ⟨hz11, hz13, hz15, hb5, lb5, hb6, lb6, pr0⟩ := hI
  refine (hG _ _ _ _).1 ?_
  rw [← ups_agree hF, ← ups_agree hL]
  have s134 := x133.sz
  have q136 := q23.trans x133
  have lhb5 := hb5.lt
  have lhb6 := hb6.lt
  refine ef 9 (by kernel_rfl) rfl ?_
  refine xcall e173 (rMulZ_ok _ _ _ _ _ _ _ _ _ _ _ _ _ _ _ _ hz13 (by omega) hz15 (by omega) (TT.up _)) rfl rfl ?_
  rintro _ W137 ⟨_, _, _, _, rfl, x138, hz16c⟩
  have s139 := x138.sz
  replace hb5 := hb5.ext x138
  replace hb6 := hb6.ext x138
  have q141 := q136.trans x138
  have hz16 := ZC.za_mul hz16c hz13 hz15
  rw [Nat.add_comm L2 L1] at hz16
  refine ⟨_, rfl, ?_⟩
  refine ⟨fun _ => q141, ?_⟩
  exact (hG _ _ _ _).2 (Gcast (by kernel_rfl) (K1_2 (m11) (d11) (e11) (f11) (_) (_) (_) (_) (b5) (b6) _ _ q141 ⟨rfl, rfl, rfl, rfl, rfl, rfl, rfl, trivial⟩ ⟨rfl, rfl, rfl, rfl, trivial⟩ ⟨((hz11.ext x138)).sub (fun _ _ _ => trivial), (hz16).sub (fun _ _ _ => trivial), hb5, lb5, hb6, lb6, by omega⟩))
 have K1_6 : ∀ (m11 : Bool) (d11 : Option Addr) (e11 : Nat) (f11 : Nat) (m16 : Bool) (d16 : Option Addr) (e16 : Nat) (f16 : Nat) (E : Env) (W : World), Ext W19 W → agree E [(2, .pointer (some ⟨w.heap.size, 0, none⟩)), (3, .pointer (some ⟨W1.heap.size, 0, none⟩)), (4, .pointer (some ⟨W7.heap.size, 0, none⟩)), (7, .agg #[.bool n1, .slice a1 l1 c1, .bool n2, .slice a2 l2 c2]), (9, .agg #[.bool n3, .slice a3 l3 c3, .bool n4, .slice a4 l4 c4]), (12, .agg #[.bool n3, .slice a3 l3 c3, .bool n4, .slice a4 l4 c4]), (14, .agg #[.bool n1, .slice a1 l1 c1, .bool n2, .slice a2 l2 c2])] → agree E [(11, .agg #[.bool m11, .slice d11 e11 f11]), (16, .agg #[.bool m16, .slice d16 e16 f16])] → (ZA (L1 + L2) TT W m11 d11 e11 f11 (nmq px1 py1 * dnq py2) ∧ ZA (L1 + L2) TT W m16 d16 e16 f16 (nmq px2 py2 * dnq py1)) → G 4 #[true, true, true, true, true, true, true, true, true, true, false, false, false, false] E W := by
  intro m11 d11 e11 f11 m16 d16 e16 f16 E142 W143 x144 hF hL hI
  obtain ⟨hz11, hz16⟩ := hI
  refine (hG _ _ _ _).1 ?_
  rw [← ups_agree hF, ← ups_agree hL]
  have s145 := x144.sz
  have q147 := q23.trans x144
  refine efs 10 [11] (by kernel_rfl) ⟨?_, ?_, trivial⟩
  ·skip
   refine efI rfl ?_
   refine xal zc46 ?_
   intro W148 x149 b150 nn151
   have s152 := x149.sz
   have q154 := q147.trans x149
   refine ⟨fun _ => q154, ?_⟩
   exact (hG _ _ _ _).2 (Gcast (by kernel_rfl) (K1_3 (m11) (d11) (e11) (f11) (m16) (d16) (e16) (f16) (_) _ _ q154 ⟨rfl, rfl, rfl, rfl, rfl, rfl, rfl, trivial⟩ ⟨rfl, rfl, rfl, trivial⟩ ⟨((hz11.ext x149)).sub (fun _ _ _ => trivial), ((hz16.ext x149)).sub (fun _ _ _ => trivial), b150, by omega⟩))
  ·skip
   refine efI rfl ?_
   refine xal zc46 ?_
   intro W155 x156 b157 nn158
   have s159 := x156.sz
   have q161 := q147.trans x156
   refine ⟨fun _ => q161, ?_⟩
   exact (hG _ _ _ _).2 (Gcast (by kernel_rfl) (K1_4 (m11) (d11) (e11) (f11) (m16) (d16) (e16) (f16) (_) _ _ q161 ⟨rfl, rfl, rfl, rfl, rfl, rfl, rfl, trivial⟩ ⟨rfl, rfl, rfl, trivial⟩ ⟨((hz11.ext x156)).sub (fun _ _ _ => trivial), ((hz16.ext x156)).sub (fun _ _ _ => trivial), b157, by omega⟩))
 have K1_7 : ∀ (m11 : Bool) (d11 : Option Addr) (e11 : Nat) (f11 : Nat) (m13 : Bool) (d13 : Option Addr) (e13 : Nat) (f13 : Nat) (m15 : Bool) (d15 : Option Addr) (e15 : Nat) (f15 : Nat) (b5 : Nat) (E : Env) (W : World), Ext W19 W → agree E [(2, .pointer (some ⟨w.heap.size, 0, none⟩)), (3, .pointer (some ⟨W1.heap.size, 0, none⟩)), (4, .pointer (some ⟨W7.heap.size, 0, none⟩)), (7, .agg #[.bool n1, .slice a1 l1 c1, .bool n2, .slice a2 l2 c2]), (9, .agg #[.bool n3, .slice a3 l3 c3, .bool n4, .slice a4 l4 c4]), (12, .agg #[.bool n3, .slice a3 l3 c3, .bool n4, .slice a4 l4 c4]), (14, .agg #[.bool n1, .slice a1 l1 c1, .bool n2, .slice a2 l2 c2])] → agree E [(11, .agg #[.bool m11, .slice d11 e11 f11]), (13, .agg #[.bool m13, .slice d13 e13 f13]), (15, .agg #[.bool m15, .slice d15 e15 f15]), (5, .pointer (some ⟨b5, 0, none⟩))] → (ZA (L1 + L2) TT W m11 d11 e11 f11 (nmq px1 py1 * dnq py2) ∧ ZA (L2) TT W m13 d13 e13 f13 (nmq px2 py2) ∧ ZA (L1) TT W m15 d15 e15 f15 (dnq py1) ∧ BoxAt W b5 [.bool false, .slice none 0 0] 46 ∧ W19.heap.size ≤ b5) → G 4 #[true, true, true, true, true, true, true, true, true, false, true, false, false, false] E W := by
  intro m11 d11 e11 f11 m13 d13 e13 f13 m15 d15 e15 f15 b5 E162 W163 x164 hF hL hI
  obtain ⟨hz11, hz13, hz15, hb5, lb5⟩ := hI
  refine (hG _ _ _ _).1 ?_
  rw [← ups_agree hF, ← ups_agree hL]
  have s165 := x164.sz
  have q167 := q23.trans x164
  have lhb5 := hb5.lt
  refine efs 9 [11] (by kernel_rfl) ⟨?_, ?_, trivial⟩
  ·skip
   refine efI rfl ?_
   refine xcall e173 (rMulZ_ok _ _ _ _ _ _ _ _ _ _ _ _ _ _ _ _ hz13 (by omega) hz15 (by omega) (TT.up _)) rfl rfl ?_
   rintro _ W168 ⟨_, _, _, _, rfl, x169, hz16c⟩
   have s170 := x169.sz
   replace hb5 := hb5.ext x169
   have q172 := q167.trans x169
   have hz16 := ZC.za_mul hz16c hz13 hz15
   rw [Nat.add_comm L2 L1] at hz16
   refine ⟨_, rfl, ?_⟩
   refine ⟨fun _ => q172, ?_⟩
   exact (hG _ _ _ _).2 (Gcast (by kernel_rfl) (K1_3 (m11) (d11) (e11) (f11) (_) (_) (_) (_) (b5) _ _ q172 ⟨rfl, rfl, rfl, rfl, rfl, rfl, rfl, trivial⟩ ⟨rfl, rfl, rfl, trivial⟩ ⟨((hz11.ext x169)).sub (fun _ _ _ => trivial), (hz16).sub (fun _ _ _ => trivial), hb5, lb5⟩))
  ·skip
   refine efI rfl ?_
   refine xal zc46 ?_
   intro W173 x174 b175 nn176
   have s177 := x174.sz
   replace hb5 := hb5.ext x174
   have q179 := q167.trans x174
   refine ⟨fun _ => q179, ?_⟩
   exact (hG _ _ _ _).2 (Gcast (by kernel_rfl) (K1_5 (m11) (d11) (e11) (f11) (m13) (d13) (e13) (f13) (m15) (d15) (e15) (f15) (b5) (_) _ _ q179 ⟨rfl, rfl, rfl, rfl, rfl, rfl, rfl, trivial⟩ ⟨rfl, rfl, rfl, rfl, rfl, trivial⟩ ⟨((hz11.ext x174)).sub (fun _ _ _ => trivial), ((hz13.ext x174)).sub (fun _ _ _ => trivial), ((hz15.ext x174)).sub (fun _ _ _ => trivial), hb5, lb5, b175, by omega, by omega⟩))
 have K1_8 : ∀ (m11 : Bool) (d11 : Option Addr) (e11 : Nat) (f11 : Nat) (m13 : Bool) (d13 : Option Addr) (e13 : Nat) (f13 : Nat) (m15 : Bool) (d15 : Option Addr) (e15 : Nat) (f15 : Nat) (b6 : Nat) (E : Env) (W : World), Ext W19 W → agree E [(2, .pointer (some ⟨w.heap.size, 0, none⟩)), (3, .pointer (some ⟨W1.heap.size, 0, none⟩)), (4, .pointer (some ⟨W7.heap.size, 0, none⟩)), (7, .agg #[.bool n1, .slice a1 l1 c1, .bool n2, .slice a2 l2 c2]), (9, .agg #[.bool n3, .slice a3 l3 c3, .bool n4, .slice a4 l4 c4]), (12, .agg #[.bool n3, .slice a3 l3 c3, .bool n4, .slice a4 l4 c4]), (14, .agg #[.bool n1, .slice a1 l1 c1, .bool n2, .slice a2 l2 c2])] → agree E [(11, .agg #[.bool m11, .slice d11 e11 f11]), (13, .agg #[.bool m13, .slice d13 e13 f13]), (15, .agg #[.bool m15, .slice d15 e15 f15]), (6, .pointer (some ⟨b6, 0, none⟩))] → (ZA (L1 + L2) TT W m11 d11 e11 f11 (nmq px1 py1 * dnq py2) ∧ ZA (L2) TT W m13 d13 e13 f13 (nmq px2 py2) ∧ ZA (L1) TT W m15 d15 e15 f15 (dnq py1) ∧ BoxAt W b6 [.bool false, .slice none 0 0] 46 ∧ W19.heap.size ≤ b6) → G 4 #[true, true, true, true, true, true, true, true, true, false, false, true, false, false] E W := by
  intro m11 d11 e11 f11 m13 d13 e13 f13 m15 d15 e15 f15 b6 E180 W181 x182 hF hL hI
  obtain ⟨hz11, hz13, hz15, hb6, lb6⟩ := hI
  refine (hG _ _ _ _).1 ?_
  rw [← ups_agree hF, ← ups_agree hL]
  have s183 := x182.sz
  have q185 := q23.trans x182
  have lhb6 := hb6.lt
  refine efs 9 [10] (by kernel_rfl) ⟨?_, ?_, trivial⟩
  ·skip
   refine efI rfl ?_
   refine xcall e173 (rMulZ_ok _ _ _ _ _ _ _ _ _ _ _ _ _ _ _ _ hz13 (by omega) hz15 (by omega) (TT.up _)) rfl rfl ?_
   rintro _ W186 ⟨_, _, _, _, rfl, x187, hz16c⟩
   have s188 := x187.sz
   replace hb6 := hb6.ext x187
   have q190 := q185.trans x187
   have hz16 := ZC.za_mul hz16c hz13 hz15
   rw [Nat.add_comm L2 L1] at hz16
   refine ⟨_, rfl, ?_⟩
   refine ⟨fun _ => q190, ?_⟩
   exact (hG _ _ _ _).2 (Gcast (by kernel_rfl) (K1_4 (m11) (d11) (e11) (f11) (_) (_) (_) (_) (b6) _ _ q190 ⟨rfl, rfl, rfl, rfl, rfl, rfl, rfl, trivial⟩ ⟨rfl, rfl, rfl, trivial⟩ ⟨((hz11.ext x187)).sub (fun _ _ _ => trivial), (hz16).sub (fun _ _ _ => trivial), hb6, lb6⟩))
  ·skip
   refine efI rfl ?_
   refine xal zc46 ?_
   intro W191 x192 b193 nn194
   have s195 := x192.sz
   replace hb6 := hb6.ext x192
   have q197 := q185.trans x192
   refine ⟨fun _ => q197, ?_⟩
   exact (hG _ _ _ _).2 (Gcast (by kernel_rfl) (K1_5 (m11) (d11) (e11) (f11) (m13) (d13) (e13) (f13) (m15) (d15) (e15) (f15) (_) (b6) _ _ q197 ⟨rfl, rfl, rfl, rfl, rfl, rfl, rfl, trivial⟩ ⟨rfl, rfl, rfl, rfl, rfl, trivial⟩ ⟨((hz11.ext x192)).sub (fun _ _ _ => trivial), ((hz13.ext x192)).sub (fun _ _ _ => trivial), ((hz15.ext x192)).sub (fun _ _ _ => trivial), b193, by omega, hb6, lb6, by omega⟩))
 have K1_9 : ∀ (m11 : Bool) (d11 : Option Addr) (e11 : Nat) (f11 : Nat) (m13 : Bool) (d13 : Option Addr) (e13 : Nat) (f13 : Nat) (b5 : Nat) (b6 : Nat) (E : Env) (W : World), Ext W19 W → agree E [(2, .pointer (some ⟨w.heap.size, 0, none⟩)), (3, .pointer (some ⟨W1.heap.size, 0, none⟩)), (4, .pointer (some ⟨W7.heap.size, 0, none⟩)), (7, .agg #[.bool n1, .slice a1 l1 c1, .bool n2, .slice a2 l2 c2]), (9, .agg #[.bool n3, .slice a3 l3 c3, .bool n4, .slice a4 l4 c4]), (12, .agg #[.bool n3, .slice a3 l3 c3, .bool n4, .slice a4 l4 c4]), (14, .agg #[.bool n1, .slice a1 l1 c1, .bool n2, .slice a2 l2 c2])] → agree E [(11, .agg #[.bool m11, .slice d11 e11 f11]), (13, .agg #[.bool m13, .slice d13 e13 f13]), (5, .pointer (some ⟨b5, 0, none⟩)), (6, .pointer (some ⟨b6, 0, none⟩))] → (ZA (L1 + L2) TT W m11 d11 e11 f11 (nmq px1 py1 * dnq py2) ∧ ZA (L2) TT W m13 d13 e13 f13 (nmq px2 py2) ∧ BoxAt W b5 [.bool false, .slice none 0 0] 46 ∧ W19.heap.size ≤ b5 ∧ BoxAt W b6 [.bool false, .slice none 0 0] 46 ∧ W19.heap.size ≤ b6 ∧ b5 ≠ b6) → G 4 #[true, true, true, true, true, true, true, true, false, false, true, true, false, false] E W := by
  intro m11 d11 e11 f11 m13 d13 e13 f13 b5 b6 E198 W199 x200 hF hL hI
  obtain ⟨hz11, hz13, hb5, lb5, hb6, lb6, pr0⟩ := hI
  refine (hG _ _ _ _).1 ?_
  rw [← ups_agree hF, ← ups_agree hL]
  have s201 := x200.sz
  have z202 := z22.trans x200
  have q203 := q23.trans x200
  have lhb5 := hb5.lt
  have lhb6 := hb6.lt
  refine ef 8 (by kernel_rfl) rfl ?_
  refine xcall e161 (rDen_ok [_, _, _, _] _ _ _ _ _ _ (PA.mk' (hx1.ext z202) (hy1.ext z202)) (by omega) (TT.up _)) rfl rfl ?_
  rintro _ W204 ⟨_, _, _, _, rfl, x205, hz15c⟩
  have s206 := x205.sz
  replace hb5 := hb5.ext x205
  replace hb6 := hb6.ext x205
  have q208 := q203.trans x205
  have hz15 := ZC.zaH (L := L1) hz15c (dn_abs (by omega) hy1.lt)
  refine ⟨_, rfl, ?_⟩
  refine ⟨fun _ => q208, ?_⟩
  exact (hG _ _ _ _).2 (Gcast (by kernel_rfl) (K1_5 (m11) (d11) (e11) (f11) (m13) (d13) (e13) (f13) (_) (_) (_) (_) (b5) (b6) _ _ q208 ⟨rfl, rfl, rfl, rfl, rfl, rfl, rfl, trivial⟩ ⟨rfl, rfl, rfl, rfl, rfl, trivial⟩ ⟨((hz11.ext x205)).sub (fun _ _ _ => trivial), ((hz13.ext x205)).sub (fun _ _ _ => trivial), (hz15).sub (fun _ _ _ => trivial), hb5, lb5, hb6, lb6, by omega⟩))
 have K1_10 : ∀ (m11 : Bool) (d11 : Option Addr) (e11 : Nat) (f11 : Nat) (m13 : Bool) (d13 : Option Addr) (e13 : Nat) (f13 : Nat) (m15 : Bool) (d15 : Option Addr) (e15 : Nat) (f15 : Nat) (E : Env) (W : World), Ext W19 W → agree E [(2, .pointer (some ⟨w.heap.size, 0, none⟩)), (3, .pointer (some ⟨W1.heap.size, 0, none⟩)), (4, .pointer (some ⟨W7.heap.size, 0, none⟩)), (7, .agg #[.bool n1, .slice a1 l1 c1, .bool n2, .slice a2 l2 c2]), (9, .agg #[.bool n3, .slice a3 l3 c3, .bool n4, .slice a4 l4 c4]), (12, .agg #[.bool n3, .slice a3 l3 c3, .bool n4, .slice a4 l4 c4]), (14, .agg #[.bool n1, .slice a1 l1 c1, .bool n2, .slice a2 l2 c2])] → agree E [(11, .agg #[.bool m11, .slice d11 e11 f11]), (13, .agg #[.bool m13, .slice d13 e13 f13]), (15, .agg #[.bool m15, .slice d15 e15 f15])] → (ZA (L1 + L2) TT W m11 d11 e11 f11 (nmq px1 py1 * dnq py2) ∧ ZA (L2) TT W m13 d13 e13 f13 (nmq px2 py2) ∧ ZA (L1) TT W m15 d15 e15 f15 (dnq py1)) → G 5 #[true, true, true, true, true, true, true, true, true, false, false, false, false, false] E W := by
  intro m11 d11 e11 f11 m13 d13 e13 f13 m15 d15 e15 f15 E209 W210 x211 hF hL hI
  obtain ⟨hz11, hz13, hz15⟩ := hI
  refine (hG _ _ _ _).1 ?_
  rw [← ups_agree hF, ← ups_agree hL]
  have s212 := x211.sz
  have q214 := q23.trans x211
  refine efs 9 [10, 11] (by kernel_rfl) ⟨?_, ?_, ?_, trivial⟩
  ·skip
   refine efI rfl ?_
   refine xcall e173 (rMulZ_ok _ _ _ _ _ _ _ _ _ _ _ _ _ _ _ _ hz13 (by omega) hz15 (by omega) (TT.up _)) rfl rfl ?_
   rintro _ W215 ⟨_, _, _, _, rfl, x216, hz16c⟩
   have s217 := x216.sz
   have q219 := q214.trans x216
   have hz16 := ZC.za_mul hz16c hz13 hz15
   rw [Nat.add_comm L2 L1] at hz16
   refine ⟨_, rfl, ?_⟩
   refine ⟨fun _ => q219, ?_⟩
   exact (hG _ _ _ _).2 (Gcast (by kernel_rfl) (K1_6 (m11) (d11) (e11) (f11) (_) (_) (_) (_) _ _ q219 ⟨rfl, rfl, rfl, rfl, rfl, rfl, rfl, trivial⟩ ⟨rfl, rfl, trivial⟩ ⟨((hz11.ext x216)).sub (fun _ _ _ => trivial), (hz16).sub (fun _ _ _ => trivial)⟩))
  ·skip
   refine efI rfl ?_
   refine xal zc46 ?_
   intro W220 x221 b222 nn223
   have s224 := x221.sz
   have q226 := q214.trans x221
   refine ⟨fun _ => q226, ?_⟩
   exact (hG _ _ _ _).2 (Gcast (by kernel_rfl) (K1_7 (m11) (d11) (e11) (f11) (m13) (d13) (e13) (f13) (m15) (d15) (e15) (f15) (_) _ _ q226 ⟨rfl, rfl, rfl, rfl, rfl, rfl, rfl, trivial⟩ ⟨rfl, rfl, rfl, rfl, trivial⟩ ⟨((hz11.ext x221)).sub (fun _ _ _ => trivial), ((hz13.ext x221)).sub (fun _ _ _ => trivial), ((hz15.ext x221)).sub (fun _ _ _ => trivial), b222, by omega⟩))
  ·skip
   refine efI rfl ?_
   refine xal zc46 ?_
   intro W227 x228 b229 nn230
   have s231 := x228.sz
   have q233 := q214.trans x228
   refine ⟨fun _ => q233, ?_⟩
   exact (hG _ _ _ _).2 (Gcast (by kernel_rfl) (K1_8 (m11) (d11) (e11) (f11) (m13) (d13) (e13) (f13) (m15) (d15) (e15) (f15) (_) _ _ q233 ⟨rfl, rfl, rfl, rfl, rfl, rfl, rfl, trivial⟩ ⟨rfl, rfl, rfl, rfl, trivial⟩ ⟨((hz11.ext x228)).sub (fun _ _ _ => trivial), ((hz13.ext x228)).sub (fun _ _ _ => trivial), ((hz15.ext x228)).sub (fun _ _ _ => trivial), b229, by omega⟩))
 have K1_11 : ∀ (m11 : Bool) (d11 : Option Addr) (e11 : Nat) (f11 : Nat) (m13 : Bool) (d13 : Option Addr) (e13 : Nat) (f13 : Nat) (b5 : Nat) (E : Env) (W : World), Ext W19 W → agree E [(2, .pointer (some ⟨w.heap.size, 0, none⟩)), (3, .pointer (some ⟨W1.heap.size, 0, none⟩)), (4, .pointer (some ⟨W7.heap.size, 0, none⟩)), (7, .agg #[.bool n1, .slice a1 l1 c1, .bool n2, .slice a2 l2 c2]), (9, .agg #[.bool n3, .slice a3 l3 c3, .bool n4, .slice a4 l4 c4]), (12, .agg #[.bool n3, .slice a3 l3 c3, .bool n4, .slice a4 l4 c4]), (14, .agg #[.bool n1, .slice a1 l1 c1, .bool n2, .slice a2 l2 c2])] → agree E [(11, .agg #[.bool m11, .slice d11 e11 f11]), (13, .agg #[.bool m13, .slice d13 e13 f13]), (5, .pointer (some ⟨b5, 0, none⟩))] → (ZA (L1 + L2) TT W m11 d11 e11 f11 (nmq px1 py1 * dnq py2) ∧ ZA (L2) TT W m13 d13 e13 f13 (nmq px2 py2) ∧ BoxAt W b5 [.bool false, .slice none 0 0] 46 ∧ W19.heap.size ≤ b5) → G 5 #[true, true, true, true, true, true, true, true, false, false, true, false, false, false] E W := by
  intro m11 d11 e11 f11 m13 d13 e13 f13 b5 E234 W235 x236 hF hL hI
  obtain ⟨hz11, hz13, hb5, lb5⟩ := hI
  refine (hG _ _ _ _).1 ?_
  rw [← ups_agree hF, ← ups_agree hL]
  have s237 := x236.sz
  have z238 := z22.trans x236
  have q239 := q23.trans x236
  have lhb5 := hb5.lt
  refine efs 8 [11] (by kernel_rfl) ⟨?_, ?_, trivial⟩
  ·skip
   refine efI rfl ?_
   refine xcall e161 (rDen_ok [_, _, _, _] _ _ _ _ _ _ (PA.mk' (hx1.ext z238) (hy1.ext z238)) (by omega) (TT.up _)) rfl rfl ?_
   rintro _ W240 ⟨_, _, _, _, rfl, x241, hz15c⟩
   have s242 := x241.sz
   replace hb5 := hb5.ext x241
   have q244 := q239.trans x241
   have hz15 := ZC.zaH (L := L1) hz15c (dn_abs (by omega) hy1.lt)
   refine ⟨_, rfl, ?_⟩
   refine ⟨fun _ => q244, ?_⟩
   exact (hG _ _ _ _).2 (Gcast (by kernel_rfl) (K1_7 (m11) (d11) (e11) (f11) (m13) (d13) (e13) (f13) (_) (_) (_) (_) (b5) _ _ q244 ⟨rfl, rfl, rfl, rfl, rfl, rfl, rfl, trivial⟩ ⟨rfl, rfl, rfl, rfl, trivial⟩ ⟨((hz11.ext x241)).sub (fun _ _ _ => trivial), ((hz13.ext x241)).sub (fun _ _ _ => trivial), (hz15).sub (fun _ _ _ => trivial), hb5, lb5⟩))
  ·skip
   refine efI rfl ?_
   refine xal zc46 ?_
   intro W245 x246 b247 nn248
   have s249 := x246.sz
   replace hb5 := hb5.ext x246
   have q251 := q239.trans x246
   refine ⟨fun _ => q251, ?_⟩
   exact (hG _ _ _ _).2 (Gcast (by kernel_rfl) (K1_9 (m11) (d11) (e11) (f11) (m13) (d13) (e13) (f13) (b5) (_) _ _ q251 ⟨rfl, rfl, rfl, rfl, rfl, rfl, rfl, trivial⟩ ⟨rfl, rfl, rfl, rfl, trivial⟩ ⟨((hz11.ext x246)).sub (fun _ _ _ => trivial), ((hz13.ext x246)).sub (fun _ _ _ => trivial), hb5, lb5, b247, by omega, by omega⟩))
 have K1_12 : ∀ (m11 : Bool) (d11 : Option Addr) (e11 : Nat) (f11 : Nat) (m13 : Bool) (d13 : Option Addr) (e13 : Nat) (f13 : Nat) (b6 : Nat) (E : Env) (W : World), Ext W19 W → agree E [(2, .pointer (some ⟨w.heap.size, 0, none⟩)), (3, .pointer (some ⟨W1.heap.size, 0, none⟩)), (4, .pointer (some ⟨W7.heap.size, 0, none⟩)), (7, .agg #[.bool n1, .slice a1 l1 c1, .bool n2, .slice a2 l2 c2]), (9, .agg #[.bool n3, .slice a3 l3 c3, .bool n4, .slice a4 l4 c4]), (12, .agg #[.bool n3, .slice a3 l3 c3, .bool n4, .slice a4 l4 c4]), (14, .agg #[.bool n1, .slice a1 l1 c1, .bool n2, .slice a2 l2 c2])] → agree E [(11, .agg #[.bool m11, .slice d11 e11 f11]), (13, .agg #[.bool m13, .slice d13 e13 f13]), (6, .pointer (some ⟨b6, 0, none⟩))] → (ZA (L1 + L2) TT W m11 d11 e11 f11 (nmq px1 py1 * dnq py2) ∧ ZA (L2) TT W m13 d13 e13 f13 (nmq px2 py2) ∧ BoxAt W b6 [.bool false, .slice none 0 0] 46 ∧ W19.heap.size ≤ b6) → G 5 #[true, true, true, true, true, true, true, true, false, false, false, true, false, false] E W := by
  intro m11 d11 e11 f11 m13 d13 e13 f13 b6 E252 W253 x254 hF hL hI
  obtain ⟨hz11, hz13, hb6, lb6⟩ := hI
  refine (hG _ _ _ _).1 ?_
  rw [← ups_agree hF, ← ups_agree hL]
  have s255 := x254.sz
  have z256 := z22.trans x254
  have q257 := q23.trans x254
  have lhb6 := hb6.lt
  refine efs 8 [10] (by kernel_rfl) ⟨?_, ?_, trivial⟩
  ·skip
   refine efI rfl ?_
   refine xcall e161 (rDen_ok [_, _, _, _] _ _ _ _ _ _ (PA.mk' (hx1.ext z256) (hy1.ext z256)) (by omega) (TT.up _)) rfl rfl ?_
   rintro _ W258 ⟨_, _, _, _, rfl, x259, hz15c⟩
   have s260 := x259.sz
   replace hb6 := hb6.ext x259
   have q262 := q257.trans x259
   have hz15 := ZC.zaH (L := L1) hz15c (dn_abs (by omega) hy1.lt)
   refine ⟨_, rfl, ?_⟩
   refine ⟨fun _ => q262, ?_⟩
   exact (hG _ _ _ _).2 (Gcast (by kernel_rfl) (K1_8 (m11) (d11) (e11) (f11) (m13) (d13) (e13) (f13) (_) (_) (_) (_) (b6) _ _ q262 ⟨rfl, rfl, rfl, rfl, rfl, rfl, rfl, trivial⟩ ⟨rfl, rfl, rfl, rfl, trivial⟩ ⟨((hz11.ext x259)).sub (fun _ _ _ => trivial), ((hz13.ext x259)).sub (fun _ _ _ => trivial), (hz15).sub (fun _ _ _ => trivial), hb6, lb6⟩))
  ·skip
   refine efI rfl ?_
   refine xal zc46 ?_
   intro W263 x264 b265 nn266
   have s267 := x264.sz
   replace hb6 := hb6.ext x264
   have q269 := q257.trans x264
   refine ⟨fun _ => q269, ?_⟩
   exact (hG _ _ _ _).2 (Gcast (by kernel_rfl) (K1_9 (m11) (d11) (e11) (f11) (m13) (d13) (e13) (f13) (_) (b6) _ _ q269 ⟨rfl, rfl, rfl, rfl, rfl, rfl, rfl, trivial⟩ ⟨rfl, rfl, rfl, rfl, trivial⟩ ⟨((hz11.ext x264)).sub (fun _ _ _ => trivial), ((hz13.ext x264)).sub (fun _ _ _ => trivial), b265, by omega, hb6, lb6, by omega⟩))
 have K1_13 : ∀ (m11 : Bool) (d11 : Option Addr) (e11 : Nat) (f11 : Nat) (b5 : Nat) (b6 : Nat) (E : Env) (W : World), Ext W19 W → agree E [(2, .pointer (some ⟨w.heap.size, 0, none⟩)), (3, .pointer (some ⟨W1.heap.size, 0, none⟩)), (4, .pointer (some ⟨W7.heap.size, 0, none⟩)), (7, .agg #[.bool n1, .slice a1 l1 c1, .bool n2, .slice a2 l2 c2]), (9, .agg #[.bool n3, .slice a3 l3 c3, .bool n4, .slice a4 l4 c4]), (12, .agg #[.bool n3, .slice a3 l3 c3, .bool n4, .slice a4 l4 c4]), (14, .agg #[.bool n1, .slice a1 l1 c1, .bool n2, .slice a2 l2 c2])] → agree E [(11, .agg #[.bool m11, .slice d11 e11 f11]), (5, .pointer (some ⟨b5, 0, none⟩)), (6, .pointer (some ⟨b6, 0, none⟩))] → (ZA (L1 + L2) TT W m11 d11 e11 f11 (nmq px1 py1 * dnq py2) ∧ BoxAt W b5 [.bool false, .slice none 0 0] 46 ∧ W19.heap.size ≤ b5 ∧ BoxAt W b6 [.bool false, .slice none 0 0] 46 ∧ W19.heap.size ≤ b6 ∧ b5 ≠ b6) → G 5 #[true, true, true, true, true, true, false, true, false, false, true, true, false, false] E W := by
  intro m11 d11 e11 f11 b5 b6 E270 W271 x272 hF hL hI
  obtain ⟨hz11, hb5, lb5, hb6, lb6, pr0⟩ := hI
  refine (hG _ _ _ _).1 ?_
  rw [← ups_agree hF, ← ups_agree hL]
  have s273 := x272.sz
  have z274 := z22.trans x272
  have q275 := q23.trans x272
  have lhb5 := hb5.lt
  have lhb6 := hb6.lt
  refine ef 6 (by kernel_rfl) rfl ?_
  refine xcall e160 (rNum_ok [_, _, _, _] _ _ _ _ _ _ (PA.mk' (hx2.ext z274) (hy2.ext z274)) (by omega) (TT.up _)) rfl rfl ?_
  rintro _ W276 ⟨_, _, _, _, rfl, x277, hz13c⟩
  have s278 := x277.sz
  replace hb5 := hb5.ext x277
  replace hb6 := hb6.ext x277
  have q280 := q275.trans x277
  have hz13 := ZC.zaH (L := L2) hz13c (nm_lt hx2.lt)
  refine ⟨_, rfl, ?_⟩
  refine ⟨fun _ => q280, ?_⟩
  exact (hG _ _ _ _).2 (Gcast (by kernel_rfl) (K1_9 (m11) (d11) (e11) (f11) (_) (_) (_) (_) (b5) (b6) _ _ q280 ⟨rfl, rfl, rfl, rfl, rfl, rfl, rfl, trivial⟩ ⟨rfl, rfl, rfl, rfl, trivial⟩ ⟨((hz11.ext x277)).sub (fun _ _ _ => trivial), (hz13).sub (fun _ _ _ => trivial), hb5, lb5, hb6, lb6, by omega⟩))
 have K1_14 : ∀ (m11 : Bool) (d11 : Option Addr) (e11 : Nat) (f11 : Nat) (m13 : Bool) (d13 : Option Addr) (e13 : Nat) (f13 : Nat) (E : Env) (W : World), Ext W19 W → agree E [(2, .pointer (some ⟨w.heap.size, 0, none⟩)), (3, .pointer (some ⟨W1.heap.size, 0, none⟩)), (4, .pointer (some ⟨W7.heap.size, 0, none⟩)), (7, .agg #[.bool n1, .slice a1 l1 c1, .bool n2, .slice a2 l2 c2]), (9, .agg #[.bool n3, .slice a3 l3 c3, .bool n4, .slice a4 l4 c4]), (12, .agg #[.bool n3, .slice a3 l3 c3, .bool n4, .slice a4 l4 c4]), (14, .agg #[.bool n1, .slice a1 l1 c1, .bool n2, .slice a2 l2 c2])] → agree E [(11, .agg #[.bool m11, .slice d11 e11 f11]), (13, .agg #[.bool m13, .slice d13 e13 f13])] → (ZA (L1 + L2) TT W m11 d11 e11 f11 (nmq px1 py1 * dnq py2) ∧ ZA (L2) TT W m13 d13 e13 f13 (nmq px2 py2)) → G 6 #[true, true, true, true, true, true, true, true, false, false, false, false, false, false] E W := by
  intro m11 d11 e11 f11 m13 d13 e13 f13 E281 W282 x283 hF hL hI
  obtain ⟨hz11, hz13⟩ := hI
  refine (hG _ _ _ _).1 ?_
  rw [← ups_agree hF, ← ups_agree hL]
  have s284 := x283.sz
  have z285 := z22.trans x283
  have q286 := q23.trans x283
  refine efs 8 [10, 11] (by kernel_rfl) ⟨?_, ?_, ?_, trivial⟩
  ·skip
   refine efI rfl ?_
   refine xcall e161 (rDen_ok [_, _, _, _] _ _ _ _ _ _ (PA.mk' (hx1.ext z285) (hy1.ext z285)) (by omega) (TT.up _)) rfl rfl ?_
   rintro _ W287 ⟨_, _, _, _, rfl, x288, hz15c⟩
   have s289 := x288.sz
   have q291 := q286.trans x288
   have hz15 := ZC.zaH (L := L1) hz15c (dn_abs (by omega) hy1.lt)
   refine ⟨_, rfl, ?_⟩
   refine ⟨fun _ => q291, ?_⟩
   exact (hG _ _ _ _).2 (Gcast (by kernel_rfl) (K1_10 (m11) (d11) (e11) (f11) (m13) (d13) (e13) (f13) (_) (_) (_) (_) _ _ q291 ⟨rfl, rfl, rfl, rfl, rfl, rfl, rfl, trivial⟩ ⟨rfl, rfl, rfl, trivial⟩ ⟨((hz11.ext x288)).sub (fun _ _ _ => trivial), ((hz13.ext x288)).sub (fun _ _ _ => trivial), (hz15).sub (fun _ _ _ => trivial)⟩))
  ·skip
   refine efI rfl ?_
   refine xal zc46 ?_
   intro W292 x293 b294 nn295
   have s296 := x293.sz
   have q298 := q286.trans x293
   refine ⟨fun _ => q298, ?_⟩
   exact (hG _ _ _ _).2 (Gcast (by kernel_rfl) (K1_11 (m11) (d11) (e11) (f11) (m13) (d13) (e13) (f13) (_) _ _ q298 ⟨rfl, rfl, rfl, rfl, rfl, rfl, rfl, trivial⟩ ⟨rfl, rfl, rfl, trivial⟩ ⟨((hz11.ext x293)).sub (fun _ _ _ => trivial), ((hz13.ext x293)).sub (fun _ _ _ => trivial), b294, by omega⟩))
  ·skip
   refine efI rfl ?_
   refine xal zc46 ?_
   intro W299 x300 b301 nn302
   have s303 := x300.sz
   have q305 := q286.trans x300
   refine ⟨fun _ => q305, ?_⟩
   exact (hG _ _ _ _).2 (Gcast (by kernel_rfl) (K1_12 (m11) (d11) (e11) (f11) (m13) (d13) (e13) (f13) (_) _ _ q305 ⟨rfl, rfl, rfl, rfl, rfl, rfl, rfl, trivial⟩ ⟨rfl, rfl, rfl, trivial⟩ ⟨((hz11.ext x300)).sub (fun _ _ _ => trivial), ((hz13.ext x300)).sub (fun _ _ _ => trivial), b301, by omega⟩))
 have K1_15 : ∀ (m11 : Bool) (d11 : Option Addr) (e11 : Nat) (f11 : Nat) (b5 : Nat) (E : Env) (W : World), Ext W19 W → agree E [(2, .pointer (some ⟨w.heap.size, 0, none⟩)), (3, .pointer (some ⟨W1.heap.size, 0, none⟩)), (4, .pointer (some ⟨W7.heap.size, 0, none⟩)), (7, .agg #[.bool n1, .slice a1 l1 c1, .bool n2, .slice a2 l2 c2]), (9, .agg #[.bool n3, .slice a3 l3 c3, .bool n4, .slice a4 l4 c4]), (12, .agg #[.bool n3, .slice a3 l3 c3, .bool n4, .slice a4 l4 c4]), (14, .agg #[.bool n1, .slice a1 l1 c1, .bool n2, .slice a2 l2 c2])] → agree E [(11, .agg #[.bool m11, .slice d11 e11 f11]), (5, .pointer (some ⟨b5, 0, none⟩))] → (ZA (L1 + L2) TT W m11 d11 e11 f11 (nmq px1 py1 * dnq py2) ∧ BoxAt W b5 [.bool false, .slice none 0 0] 46 ∧ W19.heap.size ≤ b5) → G 6 #[true, true, true, true, true, true, false, true, false, false, true, false, false, false] E W := by
  intro m11 d11 e11 f11 b5 E306 W307 x308 hF hL hI
  obtain ⟨hz11, hb5, lb5⟩ := hI
  refine (hG _ _ _ _).1 ?_
  rw [← ups_agree hF, ← ups_agree hL]
  have s309 := x308.sz
  have z310 := z22.trans x308
  have q311 := q23.trans x308
  have lhb5 := hb5.lt
  refine efs 6 [11] (by kernel_rfl) ⟨?_, ?_, trivial⟩
  ·skip
   refine efI rfl ?_
   refine xcall e160 (rNum_ok [_, _, _, _] _ _ _ _ _ _ (PA.mk' (hx2.ext z310) (hy2.ext z310)) (by omega) (TT.up _)) rfl rfl ?_
   rintro _ W312 ⟨_, _, _, _, rfl, x313, hz13c⟩
   have s314 := x313.sz
   replace hb5 := hb5.ext x313
   have q316 := q311.trans x313
   have hz13 := ZC.zaH (L := L2) hz13c (nm_lt hx2.lt)
   refine ⟨_, rfl, ?_⟩
   refine ⟨fun _ => q316, ?_⟩
   exact (hG _ _ _ _).2 (Gcast (by kernel_rfl) (K1_11 (m11) (d11) (e11) (f11) (_) (_) (_) (_) (b5) _ _ q316 ⟨rfl, rfl, rfl, rfl, rfl, rfl, rfl, trivial⟩ ⟨rfl, rfl, rfl, trivial⟩ ⟨((hz11.ext x313)).sub (fun _ _ _ => trivial), (hz13).sub (fun _ _ _ => trivial), hb5, lb5⟩))
  ·skip
   refine efI rfl ?_
   refine xal zc46 ?_
   intro W317 x318 b319 nn320
   have s321 := x318.sz
   replace hb5 := hb5.ext x318
   have q323 := q311.trans x318
   refine ⟨fun _ => q323, ?_⟩
   exact (hG _ _ _ _).2 (Gcast (by kernel_rfl) (K1_13 (m11) (d11) (e11) (f11) (b5) (_) _ _ q323 ⟨rfl, rfl, rfl, rfl, rfl, rfl, rfl, trivial⟩ ⟨rfl, rfl, rfl, trivial⟩ ⟨((hz11.ext x318)).sub (fun _ _ _ => trivial), hb5, lb5, b319, by omega, by omega⟩))
 have K1_16 : ∀ (m11 : Bool) (d11 : Option Addr) (e11 : Nat) (f11 : Nat) (b6 : Nat) (E : Env) (W : World), Ext W19 W → agree E [(2, .pointer (some ⟨w.heap.size, 0, none⟩)), (3, .pointer (some ⟨W1.heap.size, 0, none⟩)), (4, .pointer (some ⟨W7.heap.size, 0, none⟩)), (7, .agg #[.bool n1, .slice a1 l1 c1, .bool n2, .slice a2 l2 c2]), (9, .agg #[.bool n3, .slice a3 l3 c3, .bool n4, .slice a4 l4 c4]), (12, .agg #[.bool n3, .slice a3 l3 c3, .bool n4, .slice a4 l4 c4]), (14, .agg #[.bool n1, .slice a1 l1 c1, .bool n2, .slice a2 l2 c2])] → agree E [(11, .agg #[.bool m11, .slice d11 e11 f11]), (6, .pointer (some ⟨b6, 0, none⟩))] → (ZA (L1 + L2) TT W m11 d11 e11 f11 (nmq px1 py1 * dnq py2) ∧ BoxAt W b6 [.bool false, .slice none 0 0] 46 ∧ W19.heap.size ≤ b6) → G 6 #[true, true, true, true, true, true, false, true, false, false, false, true, false, false] E W := by
  intro m11 d11 e11 f11 b6 E324 W325 x326 hF hL hI
  obtain ⟨hz11, hb6, lb6⟩ := hI
  refine (hG _ _ _ _).1 ?_
  rw [← ups_agree hF, ← ups_agree hL]
  have s327 := x326.sz
  have z328 := z22.trans x326
  have q329 := q23.trans x326
  have lhb6 := hb6.lt
  refine efs 6 [10] (by kernel_rfl) ⟨?_, ?_, trivial⟩
  ·skip
   refine efI rfl ?_
   refine xcall e160 (rNum_ok [_, _, _, _] _ _ _ _ _ _ (PA.mk' (hx2.ext z328) (hy2.ext z328)) (by omega) (TT.up _)) rfl rfl ?_
   rintro _ W330 ⟨_, _, _, _, rfl, x331, hz13c⟩
   have s332 := x331.sz
   replace hb6 := hb6.ext x331
   have q334 := q329.trans x331
   have hz13 := ZC.zaH (L := L2) hz13c (nm_lt hx2.lt)
   refine ⟨_, rfl, ?_⟩
   refine ⟨fun _ => q334, ?_⟩
   exact (hG _ _ _ _).2 (Gcast (by kernel_rfl) (K1_12 (m11) (d11) (e11) (f11) (_) (_) (_) (_) (b6) _ _ q334 ⟨rfl, rfl, rfl, rfl, rfl, rfl, rfl, trivial⟩ ⟨rfl, rfl, rfl, trivial⟩ ⟨((hz11.ext x331)).sub (fun _ _ _ => trivial), (hz13).sub (fun _ _ _ => trivial), hb6, lb6⟩))
  ·skip
   refine efI rfl ?_
   refine xal zc46 ?_
   intro W335 x336 b337 nn338
   have s339 := x336.sz
   replace hb6 := hb6.ext x336
   have q341 := q329.trans x336
   refine ⟨fun _ => q341, ?_⟩
   exact (hG _ _ _ _).2 (Gcast (by kernel_rfl) (K1_13 (m11) (d11) (e11) (f11) (_) (b6) _ _ q341 ⟨rfl, rfl, rfl, rfl, rfl, rfl, rfl, trivial⟩ ⟨rfl, rfl, rfl, trivial⟩ ⟨((hz11.ext x336)).sub (fun _ _ _ => trivial), b337, by omega, hb6, lb6, by omega⟩))
 have K1_17 : ∀ (m8 : Bool) (d8 : Option Addr) (e8 : Nat) (f8 : Nat) (m10 : Bool) (d10 : Option Addr) (e10 : Nat) (f10 : Nat) (b5 : Nat) (b6 : Nat) (E : Env) (W : World), Ext W19 W → agree E [(2, .pointer (some ⟨w.heap.size, 0, none⟩)), (3, .pointer (some ⟨W1.heap.size, 0, none⟩)), (4, .pointer (some ⟨W7.heap.size, 0, none⟩)), (7, .agg #[.bool n1, .slice a1 l1 c1, .bool n2, .slice a2 l2 c2]), (9, .agg #[.bool n3, .slice a3 l3 c3, .bool n4, .slice a4 l4 c4]), (12, .agg #[.bool n3, .slice a3 l3 c3, .bool n4, .slice a4 l4 c4]), (14, .agg #[.bool n1, .slice a1 l1 c1, .bool n2, .slice a2 l2 c2])] → agree E [(8, .agg #[.bool m8, .slice d8 e8 f8]), (10, .agg #[.bool m10, .slice d10 e10 f10]), (5, .pointer (some ⟨b5, 0, none⟩)), (6, .pointer (some ⟨b6, 0, none⟩))] → (ZA (L1) TT W m8 d8 e8 f8 (nmq px1 py1) ∧ ZA (L2) TT W m10 d10 e10 f10 (dnq py2) ∧ BoxAt W b5 [.bool false, .slice none 0 0] 46 ∧ W19.heap.size ≤ b5 ∧ BoxAt W b6 [.bool false, .slice none 0 0] 46 ∧ W19.heap.size ≤ b6 ∧ b5 ≠ b6) → G 6 #[true, true, true, true, false, true, false, true, false, false, true, true, false, false] E W := by
  intro m8 d8 e8 f8 m10 d10 e10 f10 b5 b6 E342 W343 x344 hF hL hI
  obtain ⟨hz8, hz10, hb5, lb5, hb6, lb6, pr0⟩ := hI
  refine (hG _ _ _ _).1 ?_
  rw [← ups_agree hF, ← ups_agree hL]
  have s345 := x344.sz
  have q347 := q23.trans x344
  have lhb5 := hb5.lt
  have lhb6 := hb6.lt
  refine ef 4 (by kernel_rfl) rfl ?_
  refine xcall e173 (rMulZ_ok _ _ _ _ _ _ _ _ _ _ _ _ _ _ _ _ hz8 (by omega) hz10 (by omega) (TT.up _)) rfl rfl ?_
  rintro _ W348 ⟨_, _, _, _, rfl, x349, hz11c⟩
  have s350 := x349.sz
  replace hb5 := hb5.ext x349
  replace hb6 := hb6.ext x349
  have q352 := q347.trans x349
  have hz11 := ZC.za_mul hz11c hz8 hz10
  refine ⟨_, rfl, ?_⟩
  refine ⟨fun _ => q352, ?_⟩
  exact (hG _ _ _ _).2 (Gcast (by kernel_rfl) (K1_13 (_) (_) (_) (_) (b5) (b6) _ _ q352 ⟨rfl, rfl, rfl, rfl, rfl, rfl, rfl, trivial⟩ ⟨rfl, rfl, rfl, trivial⟩ ⟨(hz11).sub (fun _ _ _ => trivial), hb5, lb5, hb6, lb6, by omega⟩))
 have K1_18 : ∀ (m11 : Bool) (d11 : Option Addr) (e11 : Nat) (f11 : Nat) (E : Env) (W : World), Ext W19 W → agree E [(2, .pointer (some ⟨w.heap.size, 0, none⟩)), (3, .pointer (some ⟨W1.heap.size, 0, none⟩)), (4, .pointer (some ⟨W7.heap.size, 0, none⟩)), (7, .agg #[.bool n1, .slice a1 l1 c1, .bool n2, .slice a2 l2 c2]), (9, .agg #[.bool n3, .slice a3 l3 c3, .bool n4, .slice a4 l4 c4]), (12, .agg #[.bool n3, .slice a3 l3 c3, .bool n4, .slice a4 l4 c4]), (14, .agg #[.bool n1, .slice a1 l1 c1, .bool n2, .slice a2 l2 c2])] → agree E [(11, .agg #[.bool m11, .slice d11 e11 f11])] → (ZA (L1 + L2) TT W m11 d11 e11 f11 (nmq px1 py1 * dnq py2)) → G 7 #[true, true, true, true, true, true, false, true, false, false, false, false, false, false] E W := by
  intro m11 d11 e11 f11 E353 W354 x355 hF hL hI
  have hz11 := hI
  refine (hG _ _ _ _).1 ?_
  rw [← ups_agree hF, ← ups_agree hL]
  have s356 := x355.sz
  have z357 := z22.trans x355
  have q358 := q23.trans x355
  refine efs 6 [10, 11] (by kernel_rfl) ⟨?_, ?_, ?_, trivial⟩
  ·skip
   refine efI rfl ?_
   refine xcall e160 (rNum_ok [_, _, _, _] _ _ _ _ _ _ (PA.mk' (hx2.ext z357) (hy2.ext z357)) (by omega) (TT.up _)) rfl rfl ?_
   rintro _ W359 ⟨_, _, _, _, rfl, x360, hz13c⟩
   have s361 := x360.sz
   have q363 := q358.trans x360
   have hz13 := ZC.zaH (L := L2) hz13c (nm_lt hx2.lt)
   refine ⟨_, rfl, ?_⟩
   refine ⟨fun _ => q363, ?_⟩
   exact (hG _ _ _ _).2 (Gcast (by kernel_rfl) (K1_14 (m11) (d11) (e11) (f11) (_) (_) (_) (_) _ _ q363 ⟨rfl, rfl, rfl, rfl, rfl, rfl, rfl, trivial⟩ ⟨rfl, rfl, trivial⟩ ⟨((hz11.ext x360)).sub (fun _ _ _ => trivial), (hz13).sub (fun _ _ _ => trivial)⟩))
  ·skip
   refine efI rfl ?_
   refine xal zc46 ?_
   intro W364 x365 b366 nn367
   have s368 := x365.sz
   have q370 := q358.trans x365
   refine ⟨fun _ => q370, ?_⟩
   exact (hG _ _ _ _).2 (Gcast (by kernel_rfl) (K1_15 (m11) (d11) (e11) (f11) (_) _ _ q370 ⟨rfl, rfl, rfl, rfl, rfl, rfl, rfl, trivial⟩ ⟨rfl, rfl, trivial⟩ ⟨((hz11.ext x365)).sub (fun _ _ _ => trivial), b366, by omega⟩))
  ·skip
   refine efI rfl ?_
   refine xal zc46 ?_
   intro W371 x372 b373 nn374
   have s375 := x372.sz
   have q377 := q358.trans x372
   refine ⟨fun _ => q377, ?_⟩
   exact (hG _ _ _ _).2 (Gcast (by kernel_rfl) (K1_16 (m11) (d11) (e11) (f11) (_) _ _ q377 ⟨rfl, rfl, rfl, rfl, rfl, rfl, rfl, trivial⟩ ⟨rfl, rfl, trivial⟩ ⟨((hz11.ext x372)).sub (fun _ _ _ => trivial), b373, by omega⟩))
 have K1_19 : ∀ (m8 : Bool) (d8 : Option Addr) (e8 : Nat) (f8 : Nat) (m10 : Bool) (d10 : Option Addr) (e10 : Nat) (f10 : Nat) (b5 : Nat) (E : Env) (W : World), Ext W19 W → agree E [(2, .pointer (some ⟨w.heap.size, 0, none⟩)), (3, .pointer (some ⟨W1.heap.size, 0, none⟩)), (4, .pointer (some ⟨W7.heap.size, 0, none⟩)), (7, .agg #[.bool n1, .slice a1 l1 c1, .bool n2, .slice a2 l2 c2]), (9, .agg #[.bool n3, .slice a3 l3 c3, .bool n4, .slice a4 l4 c4]), (12, .agg #[.bool n3, .slice a3 l3 c3, .bool n4, .slice a4 l4 c4]), (14, .agg #[.bool n1, .slice a1 l1 c1, .bool n2, .slice a2 l2 c2])] → agree E [(8, .agg #[.bool m8, .slice d8 e8 f8]), (10, .agg #[.bool m10, .slice d10 e10 f10]), (5, .pointer (some ⟨b5, 0, none⟩))] → (ZA (L1) TT W m8 d8 e8 f8 (nmq px1 py1) ∧ ZA (L2) TT W m10 d10 e10 f10 (dnq py2) ∧ BoxAt W b5 [.bool false, .slice none 0 0] 46 ∧ W19.heap.size ≤ b5) → G 7 #[true, true, true, true, false, true, false, true, false, false, true, false, false, false] E W := by
  intro m8 d8 e8 f8 m10 d10 e10 f10 b5 E378 W379 x380 hF hL hI
  obtain ⟨hz8, hz10, hb5, lb5⟩ := hI
  refine (hG _ _ _ _).1 ?_
  rw [← ups_agree hF, ← ups_agree hL]
  have s381 := x380.sz
  have q383 := q23.trans x380
  have lhb5 := hb5.lt
  refine efs 4 [11] (by kernel_rfl) ⟨?_, ?_, trivial⟩
  ·skip
   refine efI rfl ?_
   refine xcall e173 (rMulZ_ok _ _ _ _ _ _ _ _ _ _ _ _ _ _ _ _ hz8 (by omega) hz10 (by omega) (TT.up _)) rfl rfl ?_
   rintro _ W384 ⟨_, _, _, _, rfl, x385, hz11c⟩
   have s386 := x385.sz
   replace hb5 := hb5.ext x385
   have q388 := q383.trans x385
   have hz11 := ZC.za_mul hz11c hz8 hz10
   refine ⟨_, rfl, ?_⟩
   refine ⟨fun _ => q388, ?_⟩
   exact (hG _ _ _ _).2 (Gcast (by kernel_rfl) (K1_15 (_) (_) (_) (_) (b5) _ _ q388 ⟨rfl, rfl, rfl, rfl, rfl, rfl, rfl, trivial⟩ ⟨rfl, rfl, trivial⟩ ⟨(hz11).sub (fun _ _ _ => trivial), hb5, lb5⟩))
  ·skip
   refine efI rfl ?_
   refine xal zc46 ?_
   intro W389 x390 b391 nn392
   have s393 := x390.sz
   replace hb5 := hb5.ext x390
   have q395 := q383.trans x390
   refine ⟨fun _ => q395, ?_⟩
   exact (hG _ _ _ _).2 (Gcast (by kernel_rfl) (K1_17 (m8) (d8) (e8) (f8) (m10) (d10) (e10) (f10) (b5) (_) _ _ q395 ⟨rfl, rfl, rfl, rfl, rfl, rfl, rfl, trivial⟩ ⟨rfl, rfl, rfl, rfl, trivial⟩ ⟨((hz8.ext x390)).sub (fun _ _ _ => trivial), ((hz10.ext x390)).sub (fun _ _ _ => trivial), hb5, lb5, b391, by omega, by omega⟩))
 have K1_20 : ∀ (m8 : Bool) (d8 : Option Addr) (e8 : Nat) (f8 : Nat) (m10 : Bool) (d10 : Option Addr) (e10 : Nat) (f10 : Nat) (b6 : Nat) (E : Env) (W : World), Ext W19 W → agree E [(2, .pointer (some ⟨w.heap.size, 0, none⟩)), (3, .pointer (some ⟨W1.heap.size, 0, none⟩)), (4, .pointer (some ⟨W7.heap.size, 0, none⟩)), (7, .agg #[.bool n1, .slice a1 l1 c1, .bool n2, .slice a2 l2 c2]), (9, .agg #[.bool n3, .slice a3 l3 c3, .bool n4, .slice a4 l4 c4]), (12, .agg #[.bool n3, .slice a3 l3 c3, .bool n4, .slice a4 l4 c4]), (14, .agg #[.bool n1, .slice a1 l1 c1, .bool n2, .slice a2 l2 c2])] → agree E [(8, .agg #[.bool m8, .slice d8 e8 f8]), (10, .agg #[.bool m10, .slice d10 e10 f10]), (6, .pointer (some ⟨b6, 0, none⟩))] → (ZA (L1) TT W m8 d8 e8 f8 (nmq px1 py1) ∧ ZA (L2) TT W m10 d10 e10 f10 (dnq py2) ∧ BoxAt W b6 [.bool false, .slice none 0 0] 46 ∧ W19.heap.size ≤ b6) → G 7 #[true, true, true, true, false, true, false, true, false, false, false, true, false, false] E W := by
  intro m8 d8 e8 f8 m10 d10 e10 f10 b6 E396 W397 x398 hF hL hI
  obtain ⟨hz8, hz10, hb6, lb6⟩ := hI
  refine (hG _ _ _ _).1 ?_
  rw [← ups_agree hF, ← ups_agree hL]
  have s399 := x398.sz
  have q401 := q23.trans x398
  have lhb6 := hb6.lt
  refine efs 4 [10] (by kernel_rfl) ⟨?_, ?_, trivial⟩
  ·skip
   refine efI rfl ?_
   refine xcall e173 (rMulZ_ok _ _ _ _ _ _ _ _ _ _ _ _ _ _ _ _ hz8 (by omega) hz10 (by omega) (TT.up _)) rfl rfl ?_
   rintro _ W402 ⟨_, _, _, _, rfl, x403, hz11c⟩
   have s404 := x403.sz
   replace hb6 := hb6.ext x403
   have q406 := q401.trans x403
   have hz11 := ZC.za_mul hz11c hz8 hz10
   refine ⟨_, rfl, ?_⟩
   refine ⟨fun _ => q406, ?_⟩
   exact (hG _ _ _ _).2 (Gcast (by kernel_rfl) (K1_16 (_) (_) (_) (_) (b6) _ _ q406 ⟨rfl, rfl, rfl, rfl, rfl, rfl, rfl, trivial⟩ ⟨rfl, rfl, trivial⟩ ⟨(hz11).sub (fun _ _ _ => trivial), hb6, lb6⟩))
  ·skip
   refine efI rfl ?_
   refine xal zc46 ?_
   intro W407 x408 b409 nn410
   have s411 := x408.sz
   replace hb6 := hb6.ext x408
   have q413 := q401.trans x408
   refine ⟨fun _ => q413, ?_⟩
   exact (hG _ _ _ _).2 (Gcast (by kernel_rfl) (K1_17 (m8) (d8) (e8) (f8) (m10) (d10) (e10) (f10) (_) (b6) _ _ q413 ⟨rfl, rfl, rfl, rfl, rfl, rfl, rfl, trivial⟩ ⟨rfl, rfl, rfl, rfl, trivial⟩ ⟨((hz8.ext x408)).sub (fun _ _ _ => trivial), ((hz10.ext x408)).sub (fun _ _ _ => trivial), b409, by omega, hb6, lb6, by omega⟩))
 have K1_21 : ∀ (m8 : Bool) (d8 : Option Addr) (e8 : Nat) (f8 : Nat) (b5 : Nat) (b6 : Nat) (E : Env) (W : World), Ext W19 W → agree E [(2, .pointer (some ⟨w.heap.size, 0, none⟩)), (3, .pointer (some ⟨W1.heap.size, 0, none⟩)), (4, .pointer (some ⟨W7.heap.size, 0, none⟩)), (7, .agg #[.bool n1, .slice a1 l1 c1, .bool n2, .slice a2 l2 c2]), (9, .agg #[.bool n3, .slice a3 l3 c3, .bool n4, .slice a4 l4 c4]), (12, .agg #[.bool n3, .slice a3 l3 c3, .bool n4, .slice a4 l4 c4]), (14, .agg #[.bool n1, .slice a1 l1 c1, .bool n2, .slice a2 l2 c2])] → agree E [(8, .agg #[.bool m8, .slice d8 e8 f8]), (5, .pointer (some ⟨b5, 0, none⟩)), (6, .pointer (some ⟨b6, 0, none⟩))] → (ZA (L1) TT W m8 d8 e8 f8 (nmq px1 py1) ∧ BoxAt W b5 [.bool false, .slice none 0 0] 46 ∧ W19.heap.size ≤ b5 ∧ BoxAt W b6 [.bool false, .slice none 0 0] 46 ∧ W19.heap.size ≤ b6 ∧ b5 ≠ b6) → G 7 #[true, true, true, false, false, true, false, true, false, false, true, true, false, false] E W := by
  intro m8 d8 e8 f8 b5 b6 E414 W415 x416 hF hL hI
  obtain ⟨hz8, hb5, lb5, hb6, lb6, pr0⟩ := hI
  refine (hG _ _ _ _).1 ?_
  rw [← ups_agree hF, ← ups_agree hL]
  have s417 := x416.sz
  have z418 := z22.trans x416
  have q419 := q23.trans x416
  have lhb5 := hb5.lt
  have lhb6 := hb6.lt
  refine ef 3 (by kernel_rfl) rfl ?_
  refine xcall e161 (rDen_ok [_, _, _, _] _ _ _ _ _ _ (PA.mk' (hx2.ext z418) (hy2.ext z418)) (by omega) (TT.up _)) rfl rfl ?_
  rintro _ W420 ⟨_, _, _, _, rfl, x421, hz10c⟩
  have s422 := x421.sz
  replace hb5 := hb5.ext x421
  replace hb6 := hb6.ext x421
  have q424 := q419.trans x421
  have hz10 := ZC.zaH (L := L2) hz10c (dn_abs (by omega) hy2.lt)
  refine ⟨_, rfl, ?_⟩
  refine ⟨fun _ => q424, ?_⟩
  exact (hG _ _ _ _).2 (Gcast (by kernel_rfl) (K1_17 (m8) (d8) (e8) (f8) (_) (_) (_) (_) (b5) (b6) _ _ q424 ⟨rfl, rfl, rfl, rfl, rfl, rfl, rfl, trivial⟩ ⟨rfl, rfl, rfl, rfl, trivial⟩ ⟨((hz8.ext x421)).sub (fun _ _ _ => trivial), (hz10).sub (fun _ _ _ => trivial), hb5, lb5, hb6, lb6, by omega⟩))
 have K1_22 : ∀ (m8 : Bool) (d8 : Option Addr) (e8 : Nat) (f8 : Nat) (m10 : Bool) (d10 : Option Addr) (e10 : Nat) (f10 : Nat) (E : Env) (W : World), Ext W19 W → agree E [(2, .pointer (some ⟨w.heap.size, 0, none⟩)), (3, .pointer (some ⟨W1.heap.size, 0, none⟩)), (4, .pointer (some ⟨W7.heap.size, 0, none⟩)), (7, .agg #[.bool n1, .slice a1 l1 c1, .bool n2, .slice a2 l2 c2]), (9, .agg #[.bool n3, .slice a3 l3 c3, .bool n4, .slice a4 l4 c4]), (12, .agg #[.bool n3, .slice a3 l3 c3, .bool n4, .slice a4 l4 c4]), (14, .agg #[.bool n1, .slice a1 l1 c1, .bool n2, .slice a2 l2 c2])] → agree E [(8, .agg #[.bool m8, .slice d8 e8 f8]), (10, .agg #[.bool m10, .slice d10 e10 f10])] → (ZA (L1) TT W m8 d8 e8 f8 (nmq px1 py1) ∧ ZA (L2) TT W m10 d10 e10 f10 (dnq py2)) → G 8 #[true, true, true, true, false, true, false, true, false, false, false, false, false, false] E W := by
  intro m8 d8 e8 f8 m10 d10 e10 f10 E425 W426 x427 hF hL hI
  obtain ⟨hz8, hz10⟩ := hI
  refine (hG _ _ _ _).1 ?_
  rw [← ups_agree hF, ← ups_agree hL]
  have s428 := x427.sz
  have q430 := q23.trans x427
  refine efs 4 [10, 11] (by kernel_rfl) ⟨?_, ?_, ?_, trivial⟩
  ·skip
   refine efI rfl ?_
   refine xcall e173 (rMulZ_ok _ _ _ _ _ _ _ _ _ _ _ _ _ _ _ _ hz8 (by omega) hz10 (by omega) (TT.up _)) rfl rfl ?_
   rintro _ W431 ⟨_, _, _, _, rfl, x432, hz11c⟩
   have s433 := x432.sz
   have q435 := q430.trans x432
   have hz11 := ZC.za_mul hz11c hz8 hz10
   refine ⟨_, rfl, ?_⟩
   refine ⟨fun _ => q435, ?_⟩
   exact (hG _ _ _ _).2 (Gcast (by kernel_rfl) (K1_18 (_) (_) (_) (_) _ _ q435 ⟨rfl, rfl, rfl, rfl, rfl, rfl, rfl, trivial⟩ ⟨rfl, trivial⟩ ((hz11).sub (fun _ _ _ => trivial))))
  ·skip
   refine efI rfl ?_
   refine xal zc46 ?_
   intro W436 x437 b438 nn439
   have s440 := x437.sz
   have q442 := q430.trans x437
   refine ⟨fun _ => q442, ?_⟩
   exact (hG _ _ _ _).2 (Gcast (by kernel_rfl) (K1_19 (m8) (d8) (e8) (f8) (m10) (d10) (e10) (f10) (_) _ _ q442 ⟨rfl, rfl, rfl, rfl, rfl, rfl, rfl, trivial⟩ ⟨rfl, rfl, rfl, trivial⟩ ⟨((hz8.ext x437)).sub (fun _ _ _ => trivial), ((hz10.ext x437)).sub (fun _ _ _ => trivial), b438, by omega⟩))
  ·skip
   refine efI rfl ?_
   refine xal zc46 ?_
   intro W443 x444 b445 nn446
   have s447 := x444.sz
   have q449 := q430.trans x444
   refine ⟨fun _ => q449, ?_⟩
   exact (hG _ _ _ _).2 (Gcast (by kernel_rfl) (K1_20 (m8) (d8) (e8) (f8) (m10) (d10) (e10) (f10) (_) _ _ q449 ⟨rfl, rfl, rfl, rfl, rfl, rfl, rfl, trivial⟩ ⟨rfl, rfl, rfl, trivial⟩ ⟨((hz8.ext x444)).sub (fun _ _ _ => trivial), ((hz10.ext x444)).sub (fun _ _ _ => trivial), b445, by omega⟩))
 have K1_23 : ∀ (m8 : Bool) (d8 : Option Addr) (e8 : Nat) (f8 : Nat) (b5 : Nat) (E : Env) (W : World), Ext W19 W → agree E [(2, .pointer (some ⟨w.heap.size, 0, none⟩)), (3, .pointer (some ⟨W1.heap.size, 0, none⟩)), (4, .pointer (some ⟨W7.heap.size, 0, none⟩)), (7, .agg #[.bool n1, .slice a1 l1 c1, .bool n2, .slice a2 l2 c2]), (9, .agg #[.bool n3, .slice a3 l3 c3, .bool n4, .slice a4 l4 c4]), (12, .agg #[.bool n3, .slice a3 l3 c3, .bool n4, .slice a4 l4 c4]), (14, .agg #[.bool n1, .slice a1 l1 c1, .bool n2, .slice a2 l2 c2])] → agree E [(8, .agg #[.bool m8, .slice d8 e8 f8]), (5, .pointer (some ⟨b5, 0, none⟩))] → (ZA (L1) TT W m8 d8 e8 f8 (nmq px1 py1) ∧ BoxAt W b5 [.bool false, .slice none 0 0] 46 ∧ W19.heap.size ≤ b5) → G 8 #[true, true, true, false, false, true, false, true, false, false, true, false, false, false] E W := by
  intro m8 d8 e8 f8 b5 E450 W451 x452 hF hL hI
  obtain ⟨hz8, hb5, lb5⟩ := hI
  refine (hG _ _ _ _).1 ?_
  rw [← ups_agree hF, ← ups_agree hL]
  have s453 := x452.sz
  have z454 := z22.trans x452
  have q455 := q23.trans x452
  have lhb5 := hb5.lt
  refine efs 3 [11] (by kernel_rfl) ⟨?_, ?_, trivial⟩
  ·skip
   refine efI rfl ?_
   refine xcall e161 (rDen_ok [_, _, _, _] _ _ _ _ _ _ (PA.mk' (hx2.ext z454) (hy2.ext z454)) (by omega) (TT.up _)) rfl rfl ?_
   rintro _ W456 ⟨_, _, _, _, rfl, x457, hz10c⟩
   have s458 := x457.sz
   replace hb5 := hb5.ext x457
   have q460 := q455.trans x457
   have hz10 := ZC.zaH (L := L2) hz10c (dn_abs (by omega) hy2.lt)
   refine ⟨_, rfl, ?_⟩
   refine ⟨fun _ => q460, ?_⟩
   exact (hG _ _ _ _).2 (Gcast (by kernel_rfl) (K1_19 (m8) (d8) (e8) (f8) (_) (_) (_) (_) (b5) _ _ q460 ⟨rfl, rfl, rfl, rfl, rfl, rfl, rfl, trivial⟩ ⟨rfl, rfl, rfl, trivial⟩ ⟨((hz8.ext x457)).sub (fun _ _ _ => trivial), (hz10).sub (fun _ _ _ => trivial), hb5, lb5⟩))
  ·skip
   refine efI rfl ?_
   refine xal zc46 ?_
   intro W461 x462 b463 nn464
   have s465 := x462.sz
   replace hb5 := hb5.ext x462
   have q467 := q455.trans x462
   refine ⟨fun _ => q467, ?_⟩
   exact (hG _ _ _ _).2 (Gcast (by kernel_rfl) (K1_21 (m8) (d8) (e8) (f8) (b5) (_) _ _ q467 ⟨rfl, rfl, rfl, rfl, rfl, rfl, rfl, trivial⟩ ⟨rfl, rfl, rfl, trivial⟩ ⟨((hz8.ext x462)).sub (fun _ _ _ => trivial), hb5, lb5, b463, by omega, by omega⟩))
 have K1_24 : ∀ (m8 : Bool) (d8 : Option Addr) (e8 : Nat) (f8 : Nat) (b6 : Nat) (E : Env) (W : World), Ext W19 W → agree E [(2, .pointer (some ⟨w.heap.size, 0, none⟩)), (3, .pointer (some ⟨W1.heap.size, 0, none⟩)), (4, .pointer (some ⟨W7.heap.size, 0, none⟩)), (7, .agg #[.bool n1, .slice a1 l1 c1, .bool n2, .slice a2 l2 c2]), (9, .agg #[.bool n3, .slice a3 l3 c3, .bool n4, .slice a4 l4 c4]), (12, .agg #[.bool n3, .slice a3 l3 c3, .bool n4, .slice a4 l4 c4]), (14, .agg #[.bool n1, .slice a1 l1 c1, .bool n2, .slice a2 l2 c2])] → agree E [(8, .agg #[.bool m8, .slice d8 e8 f8]), (6, .pointer (some ⟨b6, 0, none⟩))] → (ZA (L1) TT W m8 d8 e8 f8 (nmq px1 py1) ∧ BoxAt W b6 [.bool false, .slice none 0 0] 46 ∧ W19.heap.size ≤ b6) → G 8 #[true, true, true, false, false, true, false, true, false, false, false, true, false, false] E W := by
  intro m8 d8 e8 f8 b6 E468 W469 x470 hF hL hI
  obtain ⟨hz8, hb6, lb6⟩ := hI
  refine (hG _ _ _ _).1 ?_
  rw [← ups_agree hF, ← ups_agree hL]
  have s471 := x470.sz
  have z472 := z22.trans x470
  have q473 := q23.trans x470
  have lhb6 := hb6.lt
  refine efs 3 [10] (by kernel_rfl) ⟨?_, ?_, trivial⟩
  ·skip
   refine efI rfl ?_
   refine xcall e161 (rDen_ok [_, _, _, _] _ _ _ _ _ _ (PA.mk' (hx2.ext z472) (hy2.ext z472)) (by omega) (TT.up _)) rfl rfl ?_
   rintro _ W474 ⟨_, _, _, _, rfl, x475, hz10c⟩
   have s476 := x475.sz
   replace hb6 := hb6.ext x475
   have q478 := q473.trans x475
   have hz10 := ZC.zaH (L := L2) hz10c (dn_abs (by omega) hy2.lt)
   refine ⟨_, rfl, ?_⟩
   refine ⟨fun _ => q478, ?_⟩
   exact (hG _ _ _ _).2 (Gcast (by kernel_rfl) (K1_20 (m8) (d8) (e8) (f8) (_) (_) (_) (_) (b6) _ _ q478 ⟨rfl, rfl, rfl, rfl, rfl, rfl, rfl, trivial⟩ ⟨rfl, rfl, rfl, trivial⟩ ⟨((hz8.ext x475)).sub (fun _ _ _ => trivial), (hz10).sub (fun _ _ _ => trivial), hb6, lb6⟩))
  ·skip
   refine efI rfl ?_
   refine xal zc46 ?_
   intro W479 x480 b481 nn482
   have s483 := x480.sz
   replace hb6 := hb6.ext x480
   have q485 := q473.trans x480
   refine ⟨fun _ => q485, ?_⟩
   exact (hG _ _ _ _).2 (Gcast (by kernel_rfl) (K1_21 (m8) (d8) (e8) (f8) (_) (b6) _ _ q485 ⟨rfl, rfl, rfl, rfl, rfl, rfl, rfl, trivial⟩ ⟨rfl, rfl, rfl, trivial⟩ ⟨((hz8.ext x480)).sub (fun _ _ _ => trivial), b481, by omega, hb6, lb6, by omega⟩))
 have K1_25 : ∀ (b5 : Nat) (b6 : Nat) (E : Env) (W : World), Ext W19 W → agree E [(2, .pointer (some ⟨w.heap.size, 0, none⟩)), (3, .pointer (some ⟨W1.heap.size, 0, none⟩)), (4, .pointer (some ⟨W7.heap.size, 0, none⟩)), (7, .agg #[.bool n1, .slice a1 l1 c1, .bool n2, .slice a2 l2 c2]), (9, .agg #[.bool n3, .slice a3 l3 c3, .bool n4, .slice a4 l4 c4]), (12, .agg #[.bool n3, .slice a3 l3 c3, .bool n4, .slice a4 l4 c4]), (14, .agg #[.bool n1, .slice a1 l1 c1, .bool n2, .slice a2 l2 c2])] → agree E [(5, .pointer (some ⟨b5, 0, none⟩)), (6, .pointer (some ⟨b6, 0, none⟩))] → (BoxAt W b5 [.bool false, .slice none 0 0] 46 ∧ W19.heap.size ≤ b5 ∧ BoxAt W b6 [.bool false, .slice none 0 0] 46 ∧ W19.heap.size ≤ b6 ∧ b5 ≠ b6) → G 8 #[true, false, true, false, false, true, false, true, false, false, true, true, false, false] E W := by
  intro b5 b6 E486 W487 x488 hF hL hI
  obtain ⟨hb5, lb5, hb6, lb6, pr0⟩ := hI
  refine (hG _ _ _ _).1 ?_
  rw [← ups_agree hF, ← ups_agree hL]
  have s489 := x488.sz
  have z490 := z22.trans x488
  have q491 := q23.trans x488
  have lhb5 := hb5.lt
  have lhb6 := hb6.lt
  refine ef 1 (by kernel_rfl) rfl ?_
  refine xcall e160 (rNum_ok [_, _, _, _] _ _ _ _ _ _ (PA.mk' (hx1.ext z490) (hy1.ext z490)) (by omega) (TT.up _)) rfl rfl ?_
  rintro _ W492 ⟨_, _, _, _, rfl, x493, hz8c⟩
  have s494 := x493.sz
  replace hb5 := hb5.ext x493
  replace hb6 := hb6.ext x493
  have q496 := q491.trans x493
  have hz8 := ZC.zaH (L := L1) hz8c (nm_lt hx1.lt)
  refine ⟨_, rfl, ?_⟩
  refine ⟨fun _ => q496, ?_⟩
  exact (hG _ _ _ _).2 (Gcast (by kernel_rfl) (K1_21 (_) (_) (_) (_) (b5) (b6) _ _ q496 ⟨rfl, rfl, rfl, rfl, rfl, rfl, rfl, trivial⟩ ⟨rfl, rfl, rfl, trivial⟩ ⟨(hz8).sub (fun _ _ _ => trivial), hb5, lb5, hb6, lb6, by omega⟩))
 have K1_26 : ∀ (m8 : Bool) (d8 : Option Addr) (e8 : Nat) (f8 : Nat) (E : Env) (W : World), Ext W19 W → agree E [(2, .pointer (some ⟨w.heap.size, 0, none⟩)), (3, .pointer (some ⟨W1.heap.size, 0, none⟩)), (4, .pointer (some ⟨W7.heap.size, 0, none⟩)), (7, .agg #[.bool n1, .slice a1 l1 c1, .bool n2, .slice a2 l2 c2]), (9, .agg #[.bool n3, .slice a3 l3 c3, .bool n4, .slice a4 l4 c4]), (12, .agg #[.bool n3, .slice a3 l3 c3, .bool n4, .slice a4 l4 c4]), (14, .agg #[.bool n1, .slice a1 l1 c1, .bool n2, .slice a2 l2 c2])] → agree E [(8, .agg #[.bool m8, .slice d8 e8 f8])] → (ZA (L1) TT W m8 d8 e8 f8 (nmq px1 py1)) → G 9 #[true, true, true, false, false, true, false, true, false, false, false, false, false, false] E W := by
  intro m8 d8 e8 f8 E497 W498 x499 hF hL hI
  have hz8 := hI
  refine (hG _ _ _ _).1 ?_
  rw [← ups_agree hF, ← ups_agree hL]
  have s500 := x499.sz
  have z501 := z22.trans x499
  have q502 := q23.trans x499
  refine efs 3 [10, 11] (by kernel_rfl) ⟨?_, ?_, ?_, trivial⟩
  ·skip
   refine efI rfl ?_
   refine xcall e161 (rDen_ok [_, _, _, _] _ _ _ _ _ _ (PA.mk' (hx2.ext z501) (hy2.ext z501)) (by omega) (TT.up _)) rfl rfl ?_
   rintro _ W503 ⟨_, _, _, _, rfl, x504, hz10c⟩
   have s505 := x504.sz
   have q507 := q502.trans x504
   have hz10 := ZC.zaH (L := L2) hz10c (dn_abs (by omega) hy2.lt)
   refine ⟨_, rfl, ?_⟩
   refine ⟨fun _ => q507, ?_⟩
   exact (hG _ _ _ _).2 (Gcast (by kernel_rfl) (K1_22 (m8) (d8) (e8) (f8) (_) (_) (_) (_) _ _ q507 ⟨rfl, rfl, rfl, rfl, rfl, rfl, rfl, trivial⟩ ⟨rfl, rfl, trivial⟩ ⟨((hz8.ext x504)).sub (fun _ _ _ => trivial), (hz10).sub (fun _ _ _ => trivial)⟩))
  ·skip
   refine efI rfl ?_
   refine xal zc46 ?_
   intro W508 x509 b510 nn511
   have s512 := x509.sz
   have q514 := q502.trans x509
   refine ⟨fun _ => q514, ?_⟩
   exact (hG _ _ _ _).2 (Gcast (by kernel_rfl) (K1_23 (m8) (d8) (e8) (f8) (_) _ _ q514 ⟨rfl, rfl, rfl, rfl, rfl, rfl, rfl, trivial⟩ ⟨rfl, rfl, trivial⟩ ⟨((hz8.ext x509)).sub (fun _ _ _ => trivial), b510, by omega⟩))
  ·skip
   refine efI rfl ?_
   refine xal zc46 ?_
   intro W515 x516 b517 nn518
   have s519 := x516.sz
   have q521 := q502.trans x516
   refine ⟨fun _ => q521, ?_⟩
   exact (hG _ _ _ _).2 (Gcast (by kernel_rfl) (K1_24 (m8) (d8) (e8) (f8) (_) _ _ q521 ⟨rfl, rfl, rfl, rfl, rfl, rfl, rfl, trivial⟩ ⟨rfl, rfl, trivial⟩ ⟨((hz8.ext x516)).sub (fun _ _ _ => trivial), b517, by omega⟩))
 have K1_27 : ∀ (b5 : Nat) (E : Env) (W : World), Ext W19 W → agree E [(2, .pointer (some ⟨w.heap.size, 0, none⟩)), (3, .pointer (some ⟨W1.heap.size, 0, none⟩)), (4, .pointer (some ⟨W7.heap.size, 0, none⟩)), (7, .agg #[.bool n1, .slice a1 l1 c1, .bool n2, .slice a2 l2 c2]), (9, .agg #[.bool n3, .slice a3 l3 c3, .bool n4, .slice a4 l4 c4]), (12, .agg #[.bool n3, .slice a3 l3 c3, .bool n4, .slice a4 l4 c4]), (14, .agg #[.bool n1, .slice a1 l1 c1, .bool n2, .slice a2 l2 c2])] → agree E [(5, .pointer (some ⟨b5, 0, none⟩))] → (BoxAt W b5 [.bool false, .slice none 0 0] 46 ∧ W19.heap.size ≤ b5) → G 9 #[true, false, true, false, false, true, false, true, false, false, true, false, false, false] E W := by
  intro b5 E522 W523 x524 hF hL hI
  obtain ⟨hb5, lb5⟩ := hI
  refine (hG _ _ _ _).1 ?_
  rw [← ups_agree hF, ← ups_agree hL]
  have s525 := x524.sz
  have z526 := z22.trans x524
  have q527 := q23.trans x524
  have lhb5 := hb5.lt
  refine efs 1 [11] (by kernel_rfl) ⟨?_, ?_, trivial⟩
  ·skip
   refine efI rfl ?_
   refine xcall e160 (rNum_ok [_, _, _, _] _ _ _ _ _ _ (PA.mk' (hx1.ext z526) (hy1.ext z526)) (by omega) (TT.up _)) rfl rfl ?_
   rintro _ W528 ⟨_, _, _, _, rfl, x529, hz8c⟩
   have s530 := x529.sz
   replace hb5 := hb5.ext x529
   have q532 := q527.trans x529
   have hz8 := ZC.zaH (L := L1) hz8c (nm_lt hx1.lt)
   refine ⟨_, rfl, ?_⟩
   refine ⟨fun _ => q532, ?_⟩
   exact (hG _ _ _ _).2 (Gcast (by kernel_rfl) (K1_23 (_) (_) (_) (_) (b5) _ _ q532 ⟨rfl, rfl, rfl, rfl, rfl, rfl, rfl, trivial⟩ ⟨rfl, rfl, trivial⟩ ⟨(hz8).sub (fun _ _ _ => trivial), hb5, lb5⟩))
  ·skip
   refine efI rfl ?_
   refine xal zc46 ?_
   intro W533 x534 b535 nn536
   have s537 := x534.sz
   replace hb5 := hb5.ext x534
   have q539 := q527.trans x534
   refine ⟨fun _ => q539, ?_⟩
   exact (hG _ _ _ _).2 (Gcast (by kernel_rfl) (K1_25 (b5) (_) _ _ q539 ⟨rfl, rfl, rfl, rfl, rfl, rfl, rfl, trivial⟩ ⟨rfl, rfl, trivial⟩ ⟨hb5, lb5, b535, by omega, by omega⟩))
 have K1_28 : ∀ (b6 : Nat) (E : Env) (W : World), Ext W19 W → agree E [(2, .pointer (some ⟨w.heap.size, 0, none⟩)), (3, .pointer (some ⟨W1.heap.size, 0, none⟩)), (4, .pointer (some ⟨W7.heap.size, 0, none⟩)), (7, .agg #[.bool n1, .slice a1 l1 c1, .bool n2, .slice a2 l2 c2]), (9, .agg #[.bool n3, .slice a3 l3 c3, .bool n4, .slice a4 l4 c4]), (12, .agg #[.bool n3, .slice a3 l3 c3, .bool n4, .slice a4 l4 c4]), (14, .agg #[.bool n1, .slice a1 l1 c1, .bool n2, .slice a2 l2 c2])] → agree E [(6, .pointer (some ⟨b6, 0, none⟩))] → (BoxAt W b6 [.bool false, .slice none 0 0] 46 ∧ W19.heap.size ≤ b6) → G 9 #[true, false, true, false, false, true, false, true, false, false, false, true, false, false] E W := by
  intro b6 E540 W541 x542 hF hL hI
  obtain ⟨hb6, lb6⟩ := hI
  refine (hG _ _ _ _).1 ?_
  rw [← ups_agree hF, ← ups_agree hL]
  have s543 := x542.sz
  have z544 := z22.trans x542
  have q545 := q23.trans x542
  have lhb6 := hb6.lt
  refine efs 1 [10] (by kernel_rfl) ⟨?_, ?_, trivial⟩
  ·skip
   refine efI rfl ?_
   refine xcall e160 (rNum_ok [_, _, _, _] _ _ _ _ _ _ (PA.mk' (hx1.ext z544) (hy1.ext z544)) (by omega) (TT.up _)) rfl rfl ?_
   rintro _ W546 ⟨_, _, _, _, rfl, x547, hz8c⟩
   have s548 := x547.sz
   replace hb6 := hb6.ext x547
   have q550 := q545.trans x547
   have hz8 := ZC.zaH (L := L1) hz8c (nm_lt hx1.lt)
   refine ⟨_, rfl, ?_⟩
   refine ⟨fun _ => q550, ?_⟩
   exact (hG _ _ _ _).2 (Gcast (by kernel_rfl) (K1_24 (_) (_) (_) (_) (b6) _ _ q550 ⟨rfl, rfl, rfl, rfl, rfl, rfl, rfl, trivial⟩ ⟨rfl, rfl, trivial⟩ ⟨(hz8).sub (fun _ _ _ => trivial), hb6, lb6⟩))
  ·skip
   refine efI rfl ?_
   refine xal zc46 ?_
   intro W551 x552 b553 nn554
   have s555 := x552.sz
   replace hb6 := hb6.ext x552
   have q557 := q545.trans x552
   refine ⟨fun _ => q557, ?_⟩
   exact (hG _ _ _ _).2 (Gcast (by kernel_rfl) (K1_25 (_) (b6) _ _ q557 ⟨rfl, rfl, rfl, rfl, rfl, rfl, rfl, trivial⟩ ⟨rfl, rfl, trivial⟩ ⟨b553, by omega, hb6, lb6, by omega⟩))
 have K1_29 : ∀  (E : Env) (W : World), Ext W19 W → agree E [(2, .pointer (some ⟨w.heap.size, 0, none⟩)), (3, .pointer (some ⟨W1.heap.size, 0, none⟩)), (4, .pointer (some ⟨W7.heap.size, 0, none⟩)), (7, .agg #[.bool n1, .slice a1 l1 c1, .bool n2, .slice a2 l2 c2]), (9, .agg #[.bool n3, .slice a3 l3 c3, .bool n4, .slice a4 l4 c4]), (12, .agg #[.bool n3, .slice a3 l3 c3, .bool n4, .slice a4 l4 c4]), (14, .agg #[.bool n1, .slice a1 l1 c1, .bool n2, .slice a2 l2 c2])] → agree E [] → (True) → G 10 #[true, false, true, false, false, true, false, true, false, false, false, false, false, false] E W := by
  intro  E558 W559 x560 hF hL hI
  refine (hG _ _ _ _).1 ?_
  rw [← ups_agree hF, ← ups_agree hL]
  have s561 := x560.sz
  have z562 := z22.trans x560
  have q563 := q23.trans x560
  refine efs 1 [10, 11] (by kernel_rfl) ⟨?_, ?_, ?_, trivial⟩
  ·skip
   refine efI rfl ?_
   refine xcall e160 (rNum_ok [_, _, _, _] _ _ _ _ _ _ (PA.mk' (hx1.ext z562) (hy1.ext z562)) (by omega) (TT.up _)) rfl rfl ?_
   rintro _ W564 ⟨_, _, _, _, rfl, x565, hz8c⟩
   have s566 := x565.sz
   have q568 := q563.trans x565
   have hz8 := ZC.zaH (L := L1) hz8c (nm_lt hx1.lt)
   refine ⟨_, rfl, ?_⟩
   refine ⟨fun _ => q568, ?_⟩
   exact (hG _ _ _ _).2 (Gcast (by kernel_rfl) (K1_26 (_) (_) (_) (_) _ _ q568 ⟨rfl, rfl, rfl, rfl, rfl, rfl, rfl, trivial⟩ ⟨rfl, trivial⟩ ((hz8).sub (fun _ _ _ => trivial))))
  ·skip
   refine efI rfl ?_
   refine xal zc46 ?_
   intro W569 x570 b571 nn572
   have s573 := x570.sz
   have q575 := q563.trans x570
   refine ⟨fun _ => q575, ?_⟩
   exact (hG _ _ _ _).2 (Gcast (by kernel_rfl) (K1_27 (_) _ _ q575 ⟨rfl, rfl, rfl, rfl, rfl, rfl, rfl, trivial⟩ ⟨rfl, trivial⟩ ⟨b571, by omega⟩))
  ·skip
   refine efI rfl ?_
   refine xal zc46 ?_
   intro W576 x577 b578 nn579
   have s580 := x577.sz
   have q582 := q563.trans x577
   refine ⟨fun _ => q582, ?_⟩
   exact (hG _ _ _ _).2 (Gcast (by kernel_rfl) (K1_28 (_) _ _ q582 ⟨rfl, rfl, rfl, rfl, rfl, rfl, rfl, trivial⟩ ⟨rfl, trivial⟩ ⟨b578, by omega⟩))
 exact (Gcast (by kernel_rfl) (K1_29  _ _ q23 ⟨rfl, rfl, rfl, rfl, rfl, rfl, rfl, trivial⟩ trivial trivial))
end Go.Proofs.YtknbjfefeeojlaaGreat
/- Packages pylonref02: Sub Cmp; pylonref03: At Lex Unit; pylonref04: At row Same. -/
namespace Go.Proofs.YtknbjfefeeojlaaGreat
open Go.RowKit
attribute [local irreducible] RV VH V OpF Calls
theorem QA.cast {L : Nat} {S : Nat → Prop} {W : World} {q : List Value} {r r' : Rat} (h : QA L S W q r) (e : r = r') : QA L S W q r' := e ▸ h
def vatI (xs : List Rat) (i : Int) : Rat := if 0 ≤ i then vat xs i.toNat else 0
theorem vatI_nat (xs : List Rat) (k : Nat) : vatI xs k = vat xs k := by unfold vatI; rw [if_pos (by omega)]; rfl
theorem vatI_ge {xs : List Rat} {i : Int} (h : i < 0 ∨ (xs.length : Int) ≤ i) : vatI xs i = 0 := by
  unfold vatI
  split
  · unfold vat; rw [List.getD_eq_getElem?_getD, List.getElem?_eq_none (by omega)]; rfl
  · rfl
theorem matI_row {rss : List (List Rat)} {i k : Int} (h : 0 ≤ i) : matI rss i k = vatI (rowat rss i.toNat) k := by
  unfold matI vatI mat
  by_cases hk : 0 ≤ k
  · rw [if_pos ⟨h, hk⟩, if_pos hk]
  · rw [if_neg (by omega), if_neg hk]

set_option maxHeartbeats 400000 in
theorem rAt3_ok (a1 : Option Addr) (n c : Nat) (i : Int) (L1 : Nat) (xs : List Rat) (S1 : Nat → Prop) (w : World) (hx : GA L1 S1 w a1 n c xs) :
    Calls Tryz.prog 107 #[.slice a1 n c, .int .i64 i] w (fun e w' => ∃ q, e = .returned (.agg q.toArray) ∧ Ext w w' ∧ QA L1 S1 w' q (vatI xs i)) := by
 have z0 := Ext.refl w; have hLX : LX = 17592186044416 := rfl; have hLY : LY = 8796093022208 := rfl
 have l1 := hx.len; have l2 := hx.max
 have hxk := hx.sub (S' := fun q => S1 q ∧ q ≠ w.heap.size) (fun b hb hs => ⟨hs, by omega⟩)
 refine enter (args := [.slice a1 n c, .int .i64 i]) Tryz.func107 rfl rfl (Nat.le_of_ble_eq_true rfl) ?_
 refine V.seq (V.reg rfl ?_)
 refine vo ?_
 refine xal zc48 ?_
 intro W1 x2 b3 nn4
 have s5 := x2.sz
 have z6 := x2
 refine vnil ?_
 refine V.seq ?_
 refine V.seq (V.reg rfl ?_)
 refine mvi rfl ?_
 refine vge rfl rfl ?_ ?_
 ·intro c7
  refine mvb rfl ?_
  refine vg rfl ?_
  refine mvi rfl ?_
  refine vg rfl ?_
  refine mvs rfl ?_
  refine vg rfl ?_
  refine vv (rlen sl23 rfl) ?_
  refine vg rfl ?_
  refine vlt rfl rfl ?_ ?_
  ·intro c8
   refine vv (rpk (v := .bool true) rfl rfl) ?_
   refine vnil ?_
   refine V.condT rfl ?_
   refine V.seq (V.reg rfl ?_)
   refine mvs rfl ?_
   refine mvi rfl ?_
   refine vv (rix sl23 sz48 rfl rfl (by omega) (by omega) ((hxk.ext z6).isS (i := 0) (by omega) (by omega))) ?_
   refine vldQ (hxk.ext z6) rfl ag48 (by omega) (by omega) ?_
   intro n9 a10 l11 c12 n13 a14 l15 c16 hq17
   refine vo ?_
   refine sta (cs' := [_, _, _, _]) b3 rfl rfl sz48 rfl rfl rfl ?_
   intro W18 y19 b3
   have z20 := z6.below (y19.below (by omega))
   have s21 := y19.size
   refine vnil ?_
   refine V.ret ?_
   refine ⟨[_], ⟨⟨_, rfl, lvb ag48 b3 rfl⟩, trivial⟩, ?_⟩
   exact ⟨_, rfl, z20, (((hq17.ck (y19.ck (by intro hh; first | (simp [SX] at hh <;> omega) | omega)))).sub (fun _ _ h => h.1)).cast (by unfold vatI; rw [if_pos (by omega)])⟩
  ·intro c8
   refine vv (rpk (v := .bool false) rfl rfl) ?_
   refine vnil ?_
   refine V.condF rfl ?_
   refine V.skip ?_
   refine V.seq (V.reg rfl ?_)
   refine vv (rbd (ps := []) (cs := [.bool false, .slice _ _ _, .bool false, .slice _ _ _]) pl48 rfl rfl) ?_
   refine vo ?_
   refine sta (cs' := [_, _, _, _]) b3 rfl rfl sz48 rfl rfl rfl ?_
   intro W22 y23 b3
   have z24 := z6.below (y23.below (by omega))
   have s25 := y23.size
   refine vnil ?_
   refine V.ret ?_
   refine ⟨[_], ⟨⟨_, rfl, lvb ag48 b3 rfl⟩, trivial⟩, ?_⟩
   exact ⟨_, rfl, z24, (QA.zero S1 _).cast (vatI_ge (by omega)).symm⟩
 ·intro c7
  refine mvb rfl ?_
  refine vgn (b := false) rfl rfl ?_
  refine vgn (b := false) rfl rfl ?_
  refine vgn (b := false) rfl rfl ?_
  refine vgn (b := false) rfl rfl ?_
  refine vv (rpk (v := .bool false) rfl rfl) ?_
  refine vnil ?_
  refine V.condF rfl ?_
  refine V.skip ?_
  refine V.seq (V.reg rfl ?_)
  refine vv (rbd (ps := []) (cs := [.bool false, .slice _ _ _, .bool false, .slice _ _ _]) pl48 rfl rfl) ?_
  refine vo ?_
  refine sta (cs' := [_, _, _, _]) b3 rfl rfl sz48 rfl rfl rfl ?_
  intro W26 y27 b3
  have z28 := z6.below (y27.below (by omega))
  have s29 := y27.size
  refine vnil ?_
  refine V.ret ?_
  refine ⟨[_], ⟨⟨_, rfl, lvb ag48 b3 rfl⟩, trivial⟩, ?_⟩
  exact ⟨_, rfl, z28, (QA.zero S1 _).cast (vatI_ge (by omega)).symm⟩
set_option maxHeartbeats 400000 in
theorem rAt4_ok (a1 : Option Addr) (n c : Nat) (i k : Int) (L1 : Nat) (rss : List (List Rat)) (S S1 : Nat → Prop) (w : World) (hx : MA L1 S1 w a1 n c rss) (hL : L1 ≤ LX / 128) (hl1 : 1 ≤ L1) (hu : Up S w) :
    Calls Tryz.prog 39 #[.slice a1 n c, .int .i64 i, .int .i64 k] w (PQ S (matI rss i k) w) := by
 have z0 := Ext.refl w; have hLX : LX = 17592186044416 := rfl; have hLY : LY = 8796093022208 := rfl
 have l1 := hx.len; have l2 := hx.max
 have hu2 : ∀ W : World, w.heap.size + 1 ≤ W.heap.size → Up (SX S [w.heap.size]) W := fun W hW => SX.up (hu.mono (by omega)) (by simp <;> omega)
 refine enter (args := [.slice a1 n c, .int .i64 i, .int .i64 k]) Tryz.func39 rfl rfl (Nat.le_of_ble_eq_true rfl) ?_
 refine V.seq (V.reg rfl ?_)
 refine vo ?_
 refine xal zc48 ?_
 intro W1 x2 b3 nn4
 have s5 := x2.sz
 have z6 := x2
 refine vnil ?_
 refine V.seq ?_
 refine V.seq (V.reg rfl ?_)
 refine mvi rfl ?_
 refine vlt rfl rfl ?_ ?_
 ·intro c7
  refine mvb rfl ?_
  refine vgn (b := true) rfl rfl ?_
  refine vgn (b := true) rfl rfl ?_
  refine vgn (b := true) rfl rfl ?_
  refine vgn (b := true) rfl rfl ?_
  refine vv (rpk (v := .bool true) rfl rfl) ?_
  refine vnil ?_
  refine V.condT rfl ?_
  refine V.seq (V.reg rfl ?_)
  refine vv (rbd (ps := []) (cs := [.bool false, .slice _ _ _, .bool false, .slice _ _ _]) pl48 rfl rfl) ?_
  refine vo ?_
  refine sta (cs' := [_, _, _, _]) b3 rfl rfl sz48 rfl rfl rfl ?_
  intro W8 y9 b3
  have z10 := z6.below (y9.below (by omega))
  have s11 := y9.size
  refine vnil ?_
  refine V.ret ?_
  refine ⟨[_], ⟨⟨_, rfl, lvb ag48 b3 rfl⟩, trivial⟩, ?_⟩
  refine ⟨_, rfl, z10, (QC.zero S _).cast ?_⟩
  first | exact (matI_neg (by omega)).symm | exact (matI_ge1 (by omega)).symm
 ·intro c7
  refine mvb rfl ?_
  refine vg rfl ?_
  refine mvi rfl ?_
  refine vg rfl ?_
  refine mvs rfl ?_
  refine vg rfl ?_
  refine vv (rlen sl22 rfl) ?_
  refine vg rfl ?_
  refine vge rfl rfl ?_ ?_
  ·intro c12
   refine vv (rpk (v := .bool true) rfl rfl) ?_
   refine vnil ?_
   refine V.condT rfl ?_
   refine V.seq (V.reg rfl ?_)
   refine vv (rbd (ps := []) (cs := [.bool false, .slice _ _ _, .bool false, .slice _ _ _]) pl48 rfl rfl) ?_
   refine vo ?_
   refine sta (cs' := [_, _, _, _]) b3 rfl rfl sz48 rfl rfl rfl ?_
   intro W13 y14 b3
   have z15 := z6.below (y14.below (by omega))
   have s16 := y14.size
   refine vnil ?_
   refine V.ret ?_
   refine ⟨[_], ⟨⟨_, rfl, lvb ag48 b3 rfl⟩, trivial⟩, ?_⟩
   refine ⟨_, rfl, z15, (QC.zero S _).cast ?_⟩
   first | exact (matI_neg (by omega)).symm | exact (matI_ge1 (by omega)).symm
  ·intro c12
   refine vv (rpk (v := .bool false) rfl rfl) ?_
   refine vnil ?_
   refine V.condF rfl ?_
   refine V.skip ?_
   refine V.seq (V.reg rfl ?_)
   refine mvs rfl ?_
   refine mvi rfl ?_
   refine vv (rix sl22 sz23 rfl rfl (by omega) (by omega) ((hx.ext z6).isS (i := 0) (by omega) (by omega))) ?_
   refine vldRow (hx.ext z6) rfl sc23 (by omega) (by omega) ?_
   intro a17 n18 c19 hg20
   have hg20l := hg20.len; have hg20m := hg20.max
   refine mvi rfl ?_
   refine vo ?_
   refine xcall e107 (rAt3_ok _ _ _ _ _ _ _ _ hg20) rfl rfl ?_
   rintro _ W22 ⟨_, rfl, x23, hq21⟩
   have s24 := x23.sz
   have z25 := z6.trans x23
   replace b3 := b3.ext x23
   obtain ⟨_, _, _, _, _, _, _, _, rfl⟩ := hq21.form
   refine ⟨_, rfl, ?_⟩
   refine vo ?_
   refine xcall e106 (rLeastQ_ok _ _ _ _ _ _ hq21 (by omega) (by omega) (hu2 _ (by omega))) rfl rfl ?_
   rintro _ W27 ⟨_, rfl, x28, hq26⟩
   have s29 := x28.sz
   have z30 := z25.trans x28
   replace b3 := b3.ext x28
   obtain ⟨_, _, _, _, _, _, _, _, rfl⟩ := hq26.form
   refine ⟨_, rfl, ?_⟩
   refine vo ?_
   refine sta (cs' := [_, _, _, _]) b3 rfl rfl sz48 rfl rfl rfl ?_
   intro W31 y32 b3
   have z33 := z30.below (y32.below (by omega))
   have s34 := y32.size
   refine vnil ?_
   refine V.ret ?_
   refine ⟨[_], ⟨⟨_, rfl, lvb ag48 b3 rfl⟩, trivial⟩, ?_⟩
   exact ⟨_, rfl, z33, ((hq26.ck (y32.ck (by intro hh; first | (simp [SX] at hh <;> omega) | omega)))).un.cast (by rw [matI_row (by omega)])⟩
end Go.Proofs.YtknbjfefeeojlaaGreat
/- Packages pylonref03: Unit; pylonref04: cut place made Fit Turn Unit. -/
namespace Go.Proofs.YtknbjfefeeojlaaGreat
open Go.RowKit
attribute [local irreducible] RV VH V OpF Calls
theorem unitv_eq (N : Nat) (k : Int) : unitv N k = (List.range N).map fun j : Nat => if (j : Int) = k then (1 : Rat) else 0 := by
  unfold unitv
  by_cases h : 0 ≤ k ∧ k < N
  · rw [if_pos h]
    apply List.ext_getElem
    · simp
    · intro j h1 h2
      simp only [List.getElem_map, List.getElem_range, List.getElem_set]
      by_cases e : k.toNat = j
      · rw [if_pos e, if_pos (by omega)]
      · rw [if_neg e, if_neg (by omega)]; simp
  · rw [if_neg h]
    apply List.ext_getElem
    · simp
    · intro j h1 h2
      simp only [List.getElem_map, List.getElem_range, List.getElem_replicate]
      simp at h1
      rw [if_neg (by omega)]
theorem unit_succ (k : Nat) (c : Int) : (List.range (k + 1)).map (fun j : Nat => if (j : Int) = c then (1 : Rat) else 0) = (List.range k).map (fun j : Nat => if (j : Int) = c then (1 : Rat) else 0) ++ [if (k : Int) = c then (1 : Rat) else 0] := by simp [List.range_succ]
theorem szOne' : sz 1 ((1 : Int) : Rat) := by constructor <;> decide
set_option maxHeartbeats 400000 in
theorem rcut_ok (z : Int) (N : Nat) (w : World) (h : min (max z 0) 1024 = (N : Int)) :
    Calls Tryz.prog 115 #[.int .i64 z] w (fun e w' => e = .returned (.int .i64 (N : Int)) ∧ w = w') := by
 have z0 := Ext.refl w; have hLX : LX = 17592186044416 := rfl; have hLY : LY = 8796093022208 := rfl
 refine enter (args := [.int .i64 z]) Tryz.func115 rfl rfl (Nat.le_of_ble_eq_true rfl) ?_
 refine V.seq (V.reg rfl ?_)
 refine asi rfl ?_
 refine vnil ?_
 refine V.seq (V.reg rfl ?_)
 refine mvi rfl ?_
 refine vv (rmax rfl rfl rfl) ?_
 refine vv (rmin rfl rfl rfl) ?_
 refine asi rfl ?_
 refine vnil ?_
 refine V.ret ?_
 refine ⟨[.int _ _], ⟨rfl, trivial⟩, ?_⟩
 exact ⟨by rw [← h]; rfl, rfl⟩
set_option maxHeartbeats 400000 in
theorem rPlace0_ok (q : List Value) (r : Rat) (a1 a2 : Option Addr) (n c m d : Nat) (i k : Nat) (L L1 : Nat) (rss : List (List Rat)) (S S1 S3 : Nat → Prop) (w : World) (h3 : QA L S3 w q r) (hx : MA L1 S1 w a1 n c rss) (hL : L + L1 ≤ LX / 128) (hl : 1 ≤ L) (hl1 : 1 ≤ L1) (hu : Up S w) :
    Calls Tryz.prog 164 #[.int .u8 0, .agg q.toArray, .slice a1 n c, .slice a2 m d, .int .i64 (i : Int), .int .i64 (k : Int)] w (PQ S (r * matI rss i k) w) := by
 have z0 := Ext.refl w; have hLX : LX = 17592186044416 := rfl; have hLY : LY = 8796093022208 := rfl
 obtain ⟨n5, a5, l5, c5, n6, a6, l6, c6, rfl⟩ := h3.form
 have hu2 : ∀ W : World, w.heap.size + 2 ≤ W.heap.size → Up (SX S [w.heap.size + 1]) W := fun W hW => SX.up (hu.mono (by omega)) (by simp <;> omega)
 refine enter (args := [.int .u8 0, .agg #[.bool n5, .slice a5 l5 c5, .bool n6, .slice a6 l6 c6], .slice a1 n c, .slice a2 m d, .int .i64 (i : Int), .int .i64 (k : Int)]) Tryz.func164 rfl rfl (Nat.le_of_ble_eq_true rfl) ?_
 refine V.seq (V.reg rfl ?_)
 refine vo ?_
 refine bxa rfl ?_
 intro W1 x2 b3 nn4
 have s5 := x2.sz
 have z6 := x2
 refine vo ?_
 refine xal zc48 ?_
 intro W7 x8 b9 nn10
 have s11 := x8.sz
 have z12 := z6.trans x8
 replace b3 := b3.ext x8
 refine vnil ?_
 refine V.seq ?_
 refine V.seq (V.reg rfl ?_)
 refine mvi rfl ?_
 refine vnil ?_
 refine V.block ?_
 refine V.seq (V.reg rfl ?_)
 refine veq rfl rfl ?_ ?_
 ·intro c13
  omega
 ·intro c13
  refine asb rfl ?_
  refine vnil ?_
  refine V.condF rfl ?_
  refine V.seq (V.reg rfl ?_)
  refine veq rfl rfl ?_ ?_
  ·intro c14
   omega
  ·intro c14
   refine asb rfl ?_
   refine vnil ?_
   refine V.condF rfl ?_
   refine V.seq (V.reg rfl ?_)
   refine veq rfl rfl ?_ ?_
   ·intro c15
    omega
   ·intro c15
    refine asb rfl ?_
    refine vnil ?_
    refine V.condF rfl ?_
    refine V.skip ?_
    refine V.seq (V.regD mixed rfl ?_)
    intro W16 x17
    have s18 := x17.sz
    have z19 := z12.trans x17
    replace b3 := b3.ext x17
    replace b9 := b9.ext x17
    have q20 := Ext.refl W16
    have r21 := b3
    have r22 := b9
    refine tk 0 rfl (by kernel_rfl) q20 (pv (fun _ y23 => rldb4 rfl ag48 (r21.ext y23) rfl rfl rfl rfl )) ?_
    refine tk 1 rfl (by kernel_rfl) q20 (pv (fun _ y24 => rmv (v := .slice _ _ _) rfl)) ?_
    refine tk 2 rfl (by kernel_rfl) q20 (pv (fun _ y25 => rmv (v := .int _ _) rfl)) ?_
    refine tk 3 rfl (by kernel_rfl) q20 (pv (fun _ y26 => rmv (v := .int _ _) rfl)) ?_
    refine ef 4 (by kernel_rfl) rfl ?_
    refine xcall e39 (rAt4_ok _ _ _ _ _ _ _ _ _ _ (hx.ext z19) (by omega) (by omega) (hu2 _ (by omega))) rfl rfl ?_
    rintro _ W28 ⟨_, rfl, x29, hq27⟩
    have s30 := x29.sz
    have z31 := z19.trans x29
    replace b9 := b9.ext x29
    have q32 := q20.trans x29
    obtain ⟨_, _, _, _, _, _, _, _, rfl⟩ := hq27.form
    refine ⟨_, rfl, ?_⟩
    refine ⟨fun _ => q32, ?_⟩
    refine ef 5 (by kernel_rfl) rfl ?_
    refine xcall e133 (rMulQ_ok [_, _, _, _] [_, _, _, _] _ _ _ _ _ _ _ _ (h3.ext z31) ((hq27).qa (szMI hx hl1 _ _)) (by omega) (by omega) (by omega) (hu2 _ (by omega))) rfl rfl ?_
    rintro _ W34 ⟨_, rfl, x35, hq33⟩
    have s36 := x35.sz
    have z37 := z31.trans x35
    replace b9 := b9.ext x35
    have q38 := q32.trans x35
    obtain ⟨_, _, _, _, _, _, _, _, rfl⟩ := hq33.form
    refine ⟨_, rfl, ?_⟩
    refine ⟨fun _ => q38, ?_⟩
    refine ef 6 (by kernel_rfl) rfl ?_
    refine sta (cs' := [_, _, _, _]) b9 rfl rfl sz48 rfl rfl rfl ?_
    intro W39 y40 b9
    have z41 := z37.below (y40.below (by omega))
    have s42 := y40.size
    refine lastT (by kernel_rfl) ?_
    refine dn (by kernel_rfl) ?_
    refine V.ret ?_
    refine ⟨[_], ⟨⟨_, rfl, lvb ag48 b9 rfl⟩, trivial⟩, ?_⟩
    exact ⟨_, rfl, z41, ((hq33.ck (y40.ck (by intro hh; first | (simp [SX] at hh <;> omega) | omega)))).un.cast (rfl)⟩
abbrev HP (kind : Int) (q : List Value) (a1 a2 : Option Addr) (n c m d : Nat) (f : Int → Int → Rat) (R C : Nat) (w : World) : Prop :=
  ∀ (W : World) (i k : Nat) (S' : Nat → Prop), Ext w W → Up S' W → i < R → k < C → Calls Tryz.prog 164 #[.int .u8 kind, .agg q.toArray, .slice a1 n c, .slice a2 m d, .int .i64 (i : Int), .int .i64 (k : Int)] W (PQ S' (f i k) W)
theorem row_succ (f : Int → Int → Rat) (i : Int) (k : Nat) : (List.range (k + 1)).map (fun j : Nat => f i (j : Int)) = (List.range k).map (fun j : Nat => f i (j : Int)) ++ [f i (k : Int)] := by simp [List.range_succ]
theorem GO.lt {ρt : Type} {El : (Nat → Prop) → World → List Value → ρt → Prop} {S : Nat → Prop} {s B : Nat} {W : World} {e : TypeId} {v : Value} {rs : List ρt} (h : GO s El S B W e v rs) : ∀ b, W.heap.size ≤ b → v.ownBlock ≠ some b := fun b hb e => by
  obtain ⟨qs, h1, _⟩ := h
  have := (h1.low b e).2; omega

end Go.Proofs.YtknbjfefeeojlaaGreat
/- Packages pylonlaw01 to pylonlaw04: Own. -/
namespace Go.Proofs.YtknbjfefeeojlaaGreat
open Go.RowKit
attribute [local irreducible] RV VH V OpF Calls
theorem QX.mk' {S : Nat → Prop} {W : World} {ρ : RawQ} {a1 a2 : Option Addr} {l1 c1 l2 c2 : Nat} {n1 n2 : Bool} (e1 : n1 = ρ.n1) (h1 : RN .u32 S W a1 l1 c1 ρ.xs) (e2 : n2 = ρ.n2) (h2 : RN .u32 S W a2 l2 c2 ρ.ys) : QX S W [.bool n1, .slice a1 l1 c1, .bool n2, .slice a2 l2 c2] ρ := by
  subst e1 e2; exact ⟨_, _, _, _, _, _, rfl, h1, h2⟩

set_option maxHeartbeats 400000 in
theorem own1_ok (neg : Bool) (a : Option Addr) (n c : Nat) (xs : List Int) (S S1 : Nat → Prop) (w : World) (h : RN .u32 S1 w a n c xs) (hn : n ≤ LX) (hu : Up S w) :
    Calls Tryz.prog 171 #[.agg #[.bool neg, .slice a n c]] w (fun e w' => ∃ a' n' c', e = .returned (.agg #[.bool neg, .slice a' n' c']) ∧ Ext w w' ∧ RN .u32 S w' a' n' c' xs) := by
 have z0 := Ext.refl w; have hLX : LX = 17592186044416 := rfl; have hLY : LY = 8796093022208 := rfl
 have hl := h.len
 refine enter (args := [.agg #[.bool neg, .slice a n c]]) Tryz.func171 rfl rfl (Nat.le_of_ble_eq_true rfl) ?_
 refine V.seq (V.reg rfl ?_)
 refine vo ?_
 refine bxa rfl ?_
 intro W1 x2 b3 nn4
 have s5 := x2.sz
 have z6 := x2
 refine vo ?_
 refine xal zc46 ?_
 intro W7 x8 b9 nn10
 have s11 := x8.sz
 have z12 := z6.trans x8
 replace b3 := b3.ext x8
 refine vnil ?_
 refine V.seq (V.regD mixed rfl ?_)
 intro W13 x14
 have s15 := x14.sz
 have z16 := z12.trans x14
 replace b3 := b3.ext x14
 replace b9 := b9.ext x14
 have q17 := Ext.refl W13
 have r18 := b3
 have r19 := b9
 refine tk 0 rfl (by kernel_rfl) q17 (pv (fun _ y20 => rfa rfl fd46_0)) ?_
 refine tk 1 rfl (by kernel_rfl) q17 (pv (fun _ y21 => rldb (v := .bool _) rfl sc4 (r18.ext y21) rfl)) ?_
 refine tk 2 rfl (by kernel_rfl) q17 (pv (fun _ y22 => rfa rfl fd46_1)) ?_
 refine tk 3 rfl (by kernel_rfl) q17 (pv (fun _ y23 => rldb (v := .slice _ _ _) rfl sc44 (r18.ext y23) rfl)) ?_
 refine ef 4 (by kernel_rfl) rfl ?_
 refine xappN sl44 in164 (OI.nil .u32 W13.heap.size _ _) rfl rfl (h.ext z16) (by simp only [List.length_nil]; omega) (by decide) (by omega) ?_
 intro v25 W26 hO27 hg28 ho29
 have y30 : Below W13.heap.size _ _ := grown_below hg28 (by omega) (fun b e => by simp [Value.ownBlock] at e)
 have s31 := y30.size
 have q32 := q17.trans y30
 have z33 := z16.below (y30.mono (by omega))
 replace b9 := b9.bl y30 (by omega)
 obtain ⟨a', c', rfl⟩ := hO27.form
 have hrn := hO27.rn (S := SX S [W1.heap.size]) (fun b hb _ => ⟨hu b (by omega), by have := b9.lt; simp; omega⟩)
 refine ⟨fun _ => q32, ?_⟩
 refine tk 5 rfl (by kernel_rfl) q32 (pv (fun _ y36 => rbd (ps := [(0, .bool _), (1, .slice _ _ _)]) (cs := [.bool _, .slice _ _ _]) pl46 rfl rfl)) ?_
 refine ef 6 (by kernel_rfl) rfl ?_
 refine sta (cs' := [_, _]) b9 rfl rfl sz46 rfl rfl rfl ?_
 intro W37 y38 b9
 have z39 := z33.below (y38.below (by omega))
 have s40 := y38.size
 refine lastT (by kernel_rfl) ?_
 refine dn (by kernel_rfl) ?_
 refine V.ret ?_
 refine ⟨[_], ⟨⟨_, rfl, lvb ag46 b9 rfl⟩, trivial⟩, ?_⟩
 exact ⟨_, _, _, rfl, z39, ((hrn.ck (y38.ck (by intro hh; first | (simp [SX] at hh <;> omega) | omega)))).un⟩
set_option maxHeartbeats 400000 in
theorem own2_ok (q : List Value) (ρ : RawQ) (S S1 : Nat → Prop) (w : World) (h : QX S1 w q ρ) (hs : szQ LX ρ) (hu : Up S w) :
    Calls Tryz.prog 127 #[.agg q.toArray] w (fun e w' => ∃ q, e = .returned (.agg q.toArray) ∧ Ext w w' ∧ QX S w' q ρ) := by
 have z0 := Ext.refl w; have hLX : LX = 17592186044416 := rfl; have hLY : LY = 8796093022208 := rfl
 obtain ⟨n1, a1, l1, c1, n2, a2, l2, c2, rfl⟩ := h.form
 obtain ⟨e1, hxx, e2, hyy⟩ := h.two; have lx := hxx.len; have ly := hyy.len; have hs1 := hs.1; have hs2 := hs.2
 have hu2 : ∀ W : World, w.heap.size + 2 ≤ W.heap.size → Up (SX S [w.heap.size + 1]) W := fun W hW => SX.up (hu.mono (by omega)) (by simp <;> omega)
 refine enter (args := [.agg #[.bool n1, .slice a1 l1 c1, .bool n2, .slice a2 l2 c2]]) Tryz.func127 rfl rfl (Nat.le_of_ble_eq_true rfl) ?_
 refine V.seq (V.reg rfl ?_)
 refine vo ?_
 refine bxa rfl ?_
 intro W1 x2 b3 nn4
 have s5 := x2.sz
 have z6 := x2
 refine vo ?_
 refine xal zc48 ?_
 intro W7 x8 b9 nn10
 have s11 := x8.sz
 have z12 := z6.trans x8
 replace b3 := b3.ext x8
 refine vnil ?_
 refine V.seq (V.regD mixed rfl ?_)
 intro W13 x14
 have s15 := x14.sz
 have z16 := z12.trans x14
 replace b3 := b3.ext x14
 replace b9 := b9.ext x14
 have q17 := Ext.refl W13
 have r18 := b3
 have r19 := b9
 refine tk 0 rfl (by kernel_rfl) q17 (pv (fun _ y20 => rfa rfl fd48_0)) ?_
 refine tk 1 rfl (by kernel_rfl) q17 (pv (fun _ y21 => rldb2 rfl ag46 (r18.ext y21) rfl rfl )) ?_
 refine tk 3 rfl (by kernel_rfl) q17 (pv (fun _ y22 => rfa rfl fd48_1)) ?_
 refine tk 4 rfl (by kernel_rfl) q17 (pv (fun _ y23 => rldb2 rfl ag46 (r18.ext y23) rfl rfl )) ?_
 refine ef 2 (by kernel_rfl) rfl ?_
 refine xcall e171 (own1_ok _ _ _ _ _ _ _ _ (hxx.ext z16) (by omega) (hu2 _ (by omega))) rfl rfl ?_
 rintro _ W25 ⟨_, _, _, rfl, x26, hw24⟩
 have s27 := x26.sz
 have z28 := z16.trans x26
 replace b9 := b9.ext x26
 have q29 := q17.trans x26
 refine ⟨_, rfl, ?_⟩
 refine ⟨fun _ => q29, ?_⟩
 refine ef 5 (by kernel_rfl) rfl ?_
 refine xcall e171 (own1_ok _ _ _ _ _ _ _ _ (hyy.ext z28) (by omega) (hu2 _ (by omega))) rfl rfl ?_
 rintro _ W31 ⟨_, _, _, rfl, x32, hw30⟩
 have s33 := x32.sz
 have z34 := z28.trans x32
 replace b9 := b9.ext x32
 have q35 := q29.trans x32
 refine ⟨_, rfl, ?_⟩
 refine ⟨fun _ => q35, ?_⟩
 refine tk 6 rfl (by kernel_rfl) q35 (pv (fun _ y36 => rbd (ps := [(0, .agg #[_, _]), (1, .agg #[_, _])]) (cs := [.bool _, .slice _ _ _, .bool _, .slice _ _ _]) pl48 rfl rfl)) ?_
 refine ef 7 (by kernel_rfl) rfl ?_
 refine sta (cs' := [_, _, _, _]) b9 rfl rfl sz48 rfl rfl rfl ?_
 intro W37 y38 b9
 have z39 := z34.below (y38.below (by omega))
 have s40 := y38.size
 refine lastT (by kernel_rfl) ?_
 refine dn (by kernel_rfl) ?_
 refine V.ret ?_
 refine ⟨[_], ⟨⟨_, rfl, lvb ag48 b9 rfl⟩, trivial⟩, ?_⟩
 exact ⟨_, rfl, z39, QX.mk' e1 ((hw24.ck ((x32.ck _).trans (y38.ck (by intro hh; first | (simp [SX] at hh <;> omega) | omega))))).un e2 ((hw30.ck (y38.ck (by intro hh; first | (simp [SX] at hh <;> omega) | omega)))).un⟩

theorem szx_at {ρs : List RawQ} (h : ∀ ρ ∈ ρs, szQ LX ρ) (i : Nat) : szQ LX (xat ρs i) := by
  unfold xat; rw [List.getD_eq_getElem?_getD]
  cases hq : ρs[i]? with
  | none => exact ⟨Nat.zero_le _, Nat.zero_le _⟩
  | some r => exact h r (List.mem_of_getElem? hq)
theorem szx_row {ρss : List (List RawQ)} (h : ∀ r ∈ ρss, ∀ ρ ∈ r, szQ LX ρ) (i : Nat) : ∀ ρ ∈ rowat ρss i, szQ LX ρ := by
  unfold rowat; rw [List.getD_eq_getElem?_getD]
  cases hq : ρss[i]? with
  | none => intro ρ hρ; simp at hρ
  | some r => exact h r (List.mem_of_getElem? hq)

set_option maxHeartbeats 400000 in
theorem own3_ok (a1 : Option Addr) (n c : Nat) (ρs : List RawQ) (S S1 : Nat → Prop) (w : World) (hx : GX S1 w a1 n c ρs) (hs : ∀ ρ ∈ ρs, szQ LX ρ) (hn : n ≤ LV) (hu : Up S w) :
    Calls Tryz.prog 52 #[.slice a1 n c] w (fun e w' => ∃ ra rk rc, e = .returned (.slice ra rk rc) ∧ Ext w w' ∧ GX S w' ra rk rc ρs) := by
 have z0 := Ext.refl w; have hLX : LX = 17592186044416 := rfl; have hLY : LY = 8796093022208 := rfl
 have hLV : LV = 1099511627776 := rfl
 have l1 := hx.len; have l2 := hx.max
 refine enter (args := [.slice a1 n c]) Tryz.func52 rfl rfl (Nat.le_of_ble_eq_true rfl) ?_
 refine V.seq (V.reg rfl ?_)
 refine ass rfl ?_
 refine vnil ?_
 refine V.seq (V.reg rfl ?_)
 refine ass rfl ?_
 refine vnil ?_
 refine V.seq ?_
 refine V.seq (V.reg rfl ?_)
 refine asi rfl ?_
 refine vnil ?_
 refine V.block ?_
 refine V.loopK (ι := Nat × Value) [(0, .slice _ _ _), (2, .slice _ _ _)] (fun ⟨k, v⟩ => [(4, .int .i64 (k : Int)), (3, v)]) (fun ⟨k, v⟩ W => Ext w W ∧ k ≤ n ∧ GO 4 QX S w.heap.size W 48 v (ρs.take k)) (fun ⟨k, v⟩ => n - k) ((0, _)) ⟨rfl, rfl, trivial⟩ ⟨rfl, rfl, trivial⟩ ⟨Ext.refl _, Nat.zero_le _, GO.nil _ _⟩ ?_
 intro i2 E3 W1 h4
 obtain ⟨k, v⟩ := i2
 simp only at h4
 show V _ _ _ _ _ _ (ups (ups _ _) [(4, .int .i64 (k : Int)), (3, v)]) _
 obtain ⟨x5, hk, hO⟩ := h4
 have s6 := x5.sz
 have z7 := x5
 refine V.seq ?_
 refine V.seq (V.reg rfl ?_)
 refine mvi rfl ?_
 refine mvs rfl ?_
 refine vv (rlen sl23 rfl) ?_
 refine vlt rfl rfl ?_ ?_
 ·intro c8
  refine vnil ?_
  refine V.condT rfl ?_
  refine V.skip ?_
  refine V.seq ?_
  refine V.block ?_
  refine V.reg rfl ?_
  refine vv (rmv (v := v) rfl) ?_
  refine mvs rfl ?_
  refine mvi rfl ?_
  refine vv (rix sl23 sz48 rfl rfl (by omega) (by omega) ((hx.ext z7).isS (i := 0) (by omega) (by omega))) ?_
  refine vldX (hx.ext z7) rfl ag48 (by omega) (by omega) ?_
  intro n9 a10 l11 c12 n13 a14 l15 c16 hq17
  refine vo ?_
  refine xcall e127 (own2_ok [_, _, _, _] _ _ _ _ hq17 (szx_at hs _) (GO.up hO hu (by omega))) rfl rfl ?_
  rintro _ W19 ⟨_, rfl, x20, hq18⟩
  have s21 := x20.sz
  have z22 := z7.trans x20
  replace hO := hO.ext okQX x20
  obtain ⟨_, _, _, _, _, _, _, _, rfl⟩ := hq18.form
  refine ⟨_, rfl, ?_⟩
  refine vo ?_
  refine xbs (zs := [.bool false, .slice _ _ _, .bool false, .slice _ _ _]) (ps := [(0, .agg #[_, _, _, _])]) (cs := [.bool _, .slice _ _ _, .bool _, .slice _ _ _]) sl23 zr48 sz48 rfl rfl rfl rfl rfl rfl ?_
  intro W23 x24 b25 nn26
  have s27 := x24.sz
  have z28 := z22.trans x24
  replace hO := hO.ext okQX x24
  refine vo ?_
  refine xappG okQX sl23 in48 rfl rfl hO rfl rfl b25 rfl rfl (((hq18.ext x24) : QX _ _ _ (ρs.getD k rz))) (by simp; omega) (by decide) (by omega) ?_
  intro v29 W30 hO31 hg32
  have y33 := hg32.below; have s34 := y33.size
  have z35 := z28.below (y33.mono (by omega))
  refine vv (ras (v := v29) rfl) ?_
  refine vnil ?_
  refine V.reg rfl ?_
  refine mvi rfl ?_
  refine vv (rbin (bAdd (wi (by omega))) rfl rfl) ?_
  refine asi rfl ?_
  refine vnil ?_
  refine ⟨rfl, (k + 1, _), ⟨rfl, rfl, trivial⟩, ⟨rfl, rfl, trivial⟩, ⟨z35, by omega, by rw [take_getD rz ρs k (by omega)]; exact hO31⟩, ?_⟩
  show n - (k + 1) < n - k
  omega
 ·intro c8
  refine vnil ?_
  refine V.condF rfl ?_
  refine V.exit ?_
  refine V.seq (V.reg rfl ?_)
  refine vv (rmv (v := v) rfl) ?_
  refine vv (ras (v := v) rfl) ?_
  refine vnil ?_
  refine V.ret ?_
  refine ⟨[v], ⟨rfl, trivial⟩, ?_⟩
  obtain ⟨a', c', rfl⟩ := hO.form
  have hf := hO.fin okQX (fun b hb _ => hu b (by omega))
  refine ⟨_, _, _, rfl, z7, ?_⟩
  rw [List.take_of_length_le (by omega)] at hf ⊢
  exact hf
set_option maxHeartbeats 400000 in
theorem own4_ok (a1 : Option Addr) (n c : Nat) (ρss : List (List RawQ)) (S S1 : Nat → Prop) (w : World) (hx : MX S1 w a1 n c ρss) (hs : ∀ r ∈ ρss, ∀ ρ ∈ r, szQ LX ρ) (hn : n ≤ LV) (hR : ∀ r ∈ ρss, r.length ≤ LV) (hu : Up S w) :
    Calls Tryz.prog 34 #[.slice a1 n c] w (fun e w' => ∃ ra rk rc, e = .returned (.slice ra rk rc) ∧ Ext w w' ∧ MX S w' ra rk rc ρss) := by
 have z0 := Ext.refl w; have hLX : LX = 17592186044416 := rfl; have hLY : LY = 8796093022208 := rfl
 have hLV : LV = 1099511627776 := rfl
 have l1 := hx.len; have l2 := hx.max
 refine enter (args := [.slice a1 n c]) Tryz.func34 rfl rfl (Nat.le_of_ble_eq_true rfl) ?_
 refine V.seq (V.reg rfl ?_)
 refine ass rfl ?_
 refine vnil ?_
 refine V.seq (V.reg rfl ?_)
 refine ass rfl ?_
 refine vnil ?_
 refine V.seq ?_
 refine V.seq (V.reg rfl ?_)
 refine asi rfl ?_
 refine vnil ?_
 refine V.block ?_
 refine V.loopK (ι := Nat × Value) [(0, .slice _ _ _), (2, .slice _ _ _)] (fun ⟨k, v⟩ => [(4, .int .i64 (k : Int)), (3, v)]) (fun ⟨k, v⟩ W => Ext w W ∧ k ≤ n ∧ GO 1 (RowOf GX) S w.heap.size W 23 v (ρss.take k)) (fun ⟨k, v⟩ => n - k) ((0, _)) ⟨rfl, rfl, trivial⟩ ⟨rfl, rfl, trivial⟩ ⟨Ext.refl _, Nat.zero_le _, GO.nil _ _⟩ ?_
 intro i2 E3 W1 h4
 obtain ⟨k, v⟩ := i2
 simp only at h4
 show V _ _ _ _ _ _ (ups (ups _ _) [(4, .int .i64 (k : Int)), (3, v)]) _
 obtain ⟨x5, hk, hO⟩ := h4
 have s6 := x5.sz
 have z7 := x5
 refine V.seq ?_
 refine V.seq (V.reg rfl ?_)
 refine mvi rfl ?_
 refine mvs rfl ?_
 refine vv (rlen sl22 rfl) ?_
 refine vlt rfl rfl ?_ ?_
 ·intro c8
  have hrw : (rowat ρss ((k : Int)).toNat).length ≤ LV := row_leG hR _
  refine vnil ?_
  refine V.condT rfl ?_
  refine V.skip ?_
  refine V.seq ?_
  refine V.block ?_
  refine V.reg rfl ?_
  refine vv (rmv (v := v) rfl) ?_
  refine mvs rfl ?_
  refine mvi rfl ?_
  refine vv (rix sl22 sz23 rfl rfl (by omega) (by omega) ((hx.ext z7).isS (i := 0) (by omega) (by omega))) ?_
  refine vldRow (hx.ext z7) rfl sc23 (by omega) (by omega) ?_
  intro a9 n10 c11 hg12
  have hg12l := hg12.len; have hg12m := hg12.max
  refine vo ?_
  refine xcall e52 (own3_ok _ _ _ _ _ _ _ hg12 (szx_row hs _) (by omega) (GO.up hO hu (by omega))) rfl rfl ?_
  rintro _ W14 ⟨_, _, _, rfl, x15, hv13⟩
  have s16 := x15.sz
  have z17 := z7.trans x15
  replace hO := hO.ext okRowX x15
  refine ⟨_, rfl, ?_⟩
  refine vo ?_
  refine xbs (ps := [(0, .slice _ _ _)]) (cs := [.slice _ _ _]) sl22 zr23 sz23 rfl rfl rfl rfl rfl rfl ?_
  intro W18 x19 b20 nn21
  have s22 := x19.sz
  have z23 := z17.trans x19
  replace hO := hO.ext okRowX x19
  refine vo ?_
  refine xappG okRowX sl22 in23 rfl rfl hO rfl rfl b20 rfl rfl ((⟨_, _, _, rfl, (hv13.ext x19)⟩ : RowOf GX _ _ _ (ρss.getD k []))) (by simp; omega) (by decide) (by omega) ?_
  intro v24 W25 hO26 hg27
  have y28 := hg27.below; have s29 := y28.size
  have z30 := z23.below (y28.mono (by omega))
  refine vv (ras (v := v24) rfl) ?_
  refine vnil ?_
  refine V.reg rfl ?_
  refine mvi rfl ?_
  refine vv (rbin (bAdd (wi (by omega))) rfl rfl) ?_
  refine asi rfl ?_
  refine vnil ?_
  refine ⟨rfl, (k + 1, _), ⟨rfl, rfl, trivial⟩, ⟨rfl, rfl, trivial⟩, ⟨z30, by omega, by rw [take_getD [] ρss k (by omega)]; exact hO26⟩, ?_⟩
  show n - (k + 1) < n - k
  omega
 ·intro c8
  refine vnil ?_
  refine V.condF rfl ?_
  refine V.exit ?_
  refine V.seq (V.reg rfl ?_)
  refine vv (rmv (v := v) rfl) ?_
  refine vv (ras (v := v) rfl) ?_
  refine vnil ?_
  refine V.ret ?_
  refine ⟨[v], ⟨rfl, trivial⟩, ?_⟩
  obtain ⟨a', c', rfl⟩ := hO.form
  have hf := hO.fin okRowX (fun b hb _ => hu b (by omega))
  refine ⟨_, _, _, rfl, z7, ?_⟩
  rw [List.take_of_length_le (by omega)] at hf ⊢
  exact hf
end Go.Proofs.YtknbjfefeeojlaaGreat
/- A body that lies in a scope (it holds a label), without jumps to it. -/
namespace Go.Proofs.YtknbjfefeeojlaaGreat
open Go.RowKit
section
variable {P : Program} {F : Fence} {n : Nat} {a : Act} {w : World} {Q : Exit → Act → World → Prop}
theorem stepR_scope {b : Frame} {k : List Item} {cs : List Frame} {c : Code} : step P (lone (b.atR a (.code (.scope c) :: k)) cs w) = .next (lone (b.atR a (.code c :: .inScope c :: k)) cs w) :=
  step_lone_go (by simp [stepG, stepG.exec, Frame.atR])
theorem stepR_inScope {b : Frame} {k : List Item} {cs : List Frame} {c : Code} : step P (lone (b.atR a (.inScope c :: k)) cs w) = .next (lone (b.atR a k) cs w) :=
  step_lone_go (by simp [stepG, stepG.exec, Frame.atR])
theorem wpIn_scope {c : Code} (h : c.wpIn F n P (Exit.noGoto Q) a w) : (Code.scope c).wpIn F n P Q a w := by
  intro b k cs hro hb hr
  have h0 : (lone (b.atR a (.code (.scope c) :: k)) cs w).fenced P F := fenced_calm hb hr rfl
  obtain ⟨e, a₁, w₁, hq, harr⟩ := h b (.inScope c :: k) cs hro hb hr
  cases e with
  | normal => exact ⟨.normal, a₁, w₁, hq, .head h0 stepR_scope (StepsIn.trans harr (.one (fenced_calm hb hr rfl) stepR_inScope))⟩
  | exit id =>
    have hx : exitTo id (.inScope c :: k) = exitTo id k := by simp [exitTo]
    exact ⟨.exit id, a₁, w₁, hq, fun k' hk => .head h0 stepR_scope (harr.1 k' (by rw [hx]; exact hk)),
      fun hr' hk => let ⟨k₁, h1, h2⟩ := harr.2 hr' (by rw [hx]; exact hk); ⟨k₁, h1, .head h0 stepR_scope h2⟩⟩
  | goto l => exact hq.elim
  | ret => exact ⟨.ret, a₁, w₁, hq, fun hr' => let ⟨todo, hs⟩ := harr.1 hr'; ⟨todo, .head h0 stepR_scope hs⟩, fun hr' => let ⟨k₁, hs⟩ := harr.2 hr'; ⟨k₁, .head h0 stepR_scope hs⟩⟩
  | panic ch => obtain ⟨todo, hs⟩ := harr; exact ⟨.panic ch, a₁, w₁, hq, todo, .head h0 stepR_scope hs⟩
  | outgrown => exact ⟨.outgrown, a₁, w₁, hq, harr.imp id (Outgrown.of_steps (StepsIn.one h0 stepR_scope).steps)⟩
end
section
variable {r : Option Nat} {P : Program} {N : Nat} {ds : List Deferred} {Q : EQ} {E : Env} {W : World}
def noG (Q : EQ) : EQ
  | .goto _, _, _, _ => False
  | e, E, ds, W => Q e E ds W
theorem V.scope {c : Code} (h : V r P N ds c (noG Q) E W) : V r P N ds (.scope c) Q E W := fun a hrep hd =>
  wpIn_scope (wpIn_mono (h a hrep hd) fun x a' W' ⟨E', h1, h2⟩ => by
    cases x with
    | goto l => exact h2.elim
    | normal => exact ⟨E', h1, h2⟩
    | exit id => exact ⟨E', h1, h2⟩
    | ret => exact ⟨E', h1, h2⟩
    | panic ch => exact ⟨E', h1, h2⟩
    | outgrown => exact ⟨E', h1, h2⟩)
end
end Go.Proofs.YtknbjfefeeojlaaGreat
/- A region that draws its order, in which some operations break what the loads rest on; every such load stands ahead of them. -/
namespace Go.Proofs.YtknbjfefeeojlaaGreat
open Go.RowKit
section
variable {r : Option Nat} {P : Program} {N : Nat} {ops : Array Oper} {S S' : World → Prop} {R : Env → World → Prop} {fuel i : Nat} {listed : Array Bool} {E : Env} {W : World} {d : Option Tmp} {op : Op} {t : Tmp} {ty : TypeId} {pos : String} {af : Array Edge} {ds : List Deferred} {Q : EQ} {v : Value} {bs : List Nat} {oi : Oper}
/-- No breaking operation was done. -/
def whole (bs : List Nat) (listed : Array Bool) : Bool := bs.all fun j => !(listed.getD j true)
def VB (bs : List Nat) (r : Option Nat) (P : Program) (ops : Array Oper) (S : World → Prop) (R : Env → World → Prop) : Nat → Array Bool → Env → World → Prop
  | 0, listed, E, W => Region.ready .any ops listed = [] ∧ R E W
  | fuel + 1, listed, E, W => (Region.ready .any ops listed = [] → R E W) ∧
      ∀ i ∈ Region.ready .any ops listed, opI r P ops i (fun E' W' => (whole bs (listed.setIfInBounds i true) = true → S W') ∧ VB bs r P ops S R fuel (listed.setIfInBounds i true) E' W') E W
theorem VB.va : ∀ (fuel : Nat) (listed : Array Bool) (E : Env) (W : World), VB bs r P ops S R fuel listed E W → VA r P ops R fuel listed E W
  | 0, _, _, _, h => h
  | fuel + 1, _, _, _, h => ⟨h.1, fun i hi => (h.2 i hi).mono fun E' W' h' => VB.va fuel _ E' W' h'.2⟩
def depB (ops : Array Oper) (bs : List Nat) (i : Nat) : Bool := bs.all fun j => !(j == i) && match ops[j]? with
  | none => true
  | some o => o.after.any fun e => Region.binds .any e && e.on == i
theorem whole_set {j : Nat} (h : whole bs listed = true) (hj : bs.contains j = false) : whole bs (listed.setIfInBounds j true) = true := by
  unfold whole at *
  rw [List.all_eq_true] at *
  intro k hk
  have hkj : j ≠ k := fun e => by subst e; simp at hj; exact hj hk
  rw [getD_set_ne true hkj]; exact h k hk
theorem whole_un {j : Nat} (h : whole bs (listed.setIfInBounds j true) = true) : whole bs listed = true := by
  unfold whole at *
  rw [List.all_eq_true] at *
  intro k hk
  have := h k hk
  by_cases e : j = k
  · subst e
    rcases Nat.lt_or_ge j listed.size with h' | h'
    · simp [h'] at this
    · simp [Array.getElem?_eq_none h'] at this
  · rwa [getD_set_ne true e] at this
theorem VB.first (hi : ops[i]? = some oi) (hbi : bs.contains i = false) (hsel : ∀ (j : Nat) (o : Oper) cs b, ops[j]? = some o → o.op ≠ .select cs b) (hk : (depB ops bs i = true ∧ ∀ W, S W → S' W) ∨ (∀ W, S' W)) :
    ∀ (fuel : Nat) (listed : Array Bool) (E : Env) (W : World),
      (∀ j oj, ops[j]? = some oj → j ≠ i → listed.getD j true = false → (∀ e ∈ oj.after, Region.binds .any e = true → e.on ≠ i) → oi.apart ops oj = true) →
      i ∈ Region.ready .any ops listed → PureIf P ops S' oi v E → (depB ops bs i = true → whole bs listed = true) → (whole bs listed = true → S W) →
      VB bs r P ops S R fuel (listed.setIfInBounds i true) (puto E oi.dst v) W → VB bs r P ops S R (fuel + 1) listed E W := by
  intro fuel
  have hS' : ∀ {listed : Array Bool} {W : World}, (depB ops bs i = true → whole bs listed = true) → (whole bs listed = true → S W) → S' W := fun h1 h2 => by
    rcases hk with ⟨h3, h4⟩ | h4
    · exact h4 _ (h2 (h1 h3))
    · exact h4 _
  induction fuel with
  | zero =>
    intro listed E W _ hr hy hw hS H
    refine ⟨fun h => (by rw [h] at hr; cases hr), fun j hj => ?_⟩
    by_cases hji : j = i
    · subst hji
      exact hy.opI hi (hS' hw hS) ⟨fun hb => hS (whole_un hb), H⟩
    · have := ready_mono hj hji
      rw [H.1] at this
      cases this
  | succ fuel ih =>
    intro listed E W hfree hr hy hw hS H
    refine ⟨fun h => (by rw [h] at hr; cases hr), fun j hj => ?_⟩
    by_cases hji : j = i
    · subst hji
      exact hy.opI hi (hS' hw hS) ⟨fun hb => hS (whole_un hb), H⟩
    · have h1 := H.2 j (ready_mono hj hji)
      obtain ⟨hjun, oj, hoj, hall⟩ := mem_ready.1 hj
      have hnot : ∀ e ∈ oj.after, Region.binds .any e = true → e.on ≠ i := fun e he hb heq => by
        have h1 := hall e he hb
        have h0 := (mem_ready.1 hr).1
        rw [heq] at h1
        rcases Nat.lt_or_ge i listed.size with h' | h'
        · simp [h'] at h0 h1; rw [h0] at h1; cases h1
        · simp [Array.getElem?_eq_none h'] at h1
      have h2 := opI_put (r := r) hoj (hfree j oj hoj hji hjun hnot) (fun cs b => hsel i oi cs b hi) (fun cs b => hsel j oj cs b hoj) hy h1
      have hfree' : ∀ k ok, ops[k]? = some ok → k ≠ i → (listed.setIfInBounds j true).getD k true = false →
          (∀ e ∈ ok.after, Region.binds .any e = true → e.on ≠ i) → oi.apart ops ok = true := fun k ok hk hki hun hno => by
        refine hfree k ok hk hki ?_ hno
        by_cases hjk : j = k
        · subst hjk; exact hjun
        · rw [getD_set_ne true hjk] at hun; exact hun
      have hnb : depB ops bs i = true → bs.contains j = false := fun hd => by
        cases hc : bs.contains j with
        | false => rfl
        | true =>
          have h5 := (List.all_eq_true.1 hd) j (by simpa using hc)
          simp only [hoj, Bool.and_eq_true] at h5
          obtain ⟨e, he, hb⟩ := Array.any_eq_true'.1 h5.2
          simp only [Bool.and_eq_true, beq_iff_eq] at hb
          exact absurd hb.2 (hnot e he hb.1)
      refine h2.mono fun E' W' h3 => ⟨fun hb => ?_, ih (listed.setIfInBounds j true) E' W' hfree' (ready_mono hr (Ne.symm hji)) h3.1 (fun hd => whole_set (hw hd) (hnb hd)) (fun hb => ?_) ?_⟩
      · refine h3.2.1 ?_
        rw [Array.setIfInBounds_comm _ _ (Ne.symm hji)]; exact whole_set hb hbi
      · refine h3.2.1 ?_
        rw [Array.setIfInBounds_comm _ _ (Ne.symm hji)]; exact whole_set hb hbi
      · rw [Array.setIfInBounds_comm _ _ hji]
        exact h3.2.2
theorem V.regB {id : Nat} (bs : List Nat) (hm : P.follows .mixedOrders = true) (hl : dstsOK N ops.toList = true)
    (h : ∀ W1, Ext W W1 → VB bs r P ops (Ext W1) (fun E W => Q .normal E ds W) ops.size (Array.replicate ops.size false) E W1) : V r P N ds (.region id ops true) Q E W := fun a hrep hd =>
  wpIn_region_any hm (VA.wp (ds := ds) hl (fun a E W hr hd h => ⟨E, hr, by rw [hd]; exact h⟩) _ _ a E _ hrep hd (VB.va _ _ _ _ (h _ ((Ext.refl W).drew))))
/-- An operation that rests on no world. -/
theorem tkP {g : Option (Nat × Bool)} (i : Nat) (hi : ops[i]? = some ⟨some t, op, ty, pos, af, g⟩) (hf : (Region.noSelect ops && Region.free .any ops listed i && (Region.ready .any ops listed).contains i && !(bs.contains i)) = true) (hw : (!(depB ops bs i) || whole bs listed) = true) (hS : whole bs listed = true → S W) (hy : PureIf P ops (fun _ => True) ⟨some t, op, ty, pos, af, g⟩ v E)
    (k : VB bs r P ops S R fuel (listed.setIfInBounds i true) (up E t v) W) : VB bs r P ops S R (fuel + 1) listed E W := by
  simp only [Bool.and_eq_true, Bool.not_eq_true'] at hf
  refine VB.first hi hf.2 (Region.noSelect_spec hf.1.1.1) (.inr fun _ => trivial) fuel listed E W (Region.free_spec hi hf.1.1.2) (by simpa using hf.1.2) hy (fun hd => ?_) hS k
  rw [hd] at hw; simpa using hw
/-- A load: it stands ahead of all that break. -/
theorem tkB {g : Option (Nat × Bool)} (i : Nat) (hi : ops[i]? = some ⟨some t, op, ty, pos, af, g⟩) (hf : (Region.noSelect ops && Region.free .any ops listed i && (Region.ready .any ops listed).contains i && !(bs.contains i) && depB ops bs i && whole bs listed) = true) (hS : S W) (hy : PureIf P ops S ⟨some t, op, ty, pos, af, g⟩ v E)
    (k : VB bs r P ops S R fuel (listed.setIfInBounds i true) (up E t v) W) : VB bs r P ops S R (fuel + 1) listed E W := by
  simp only [Bool.and_eq_true, Bool.not_eq_true'] at hf
  exact VB.first hi hf.1.1.2 (Region.noSelect_spec hf.1.1.1.1.1) (.inl ⟨hf.1.2, fun _ h => h⟩) fuel listed E W (Region.free_spec hi hf.1.1.1.1.2) (by simpa using hf.1.1.1.2) hy (fun _ => hf.2) (fun _ => hS) k
theorem efB (i : Nat) (hr : Region.ready .any ops listed = [i]) (hi : ops[i]? = some ⟨d, op, ty, pos, af, none⟩) (h : OpF r P (ev E) ⟨d, op, ty, pos, af, none⟩ W fun v W' => (whole bs (listed.setIfInBounds i true) = true → S W') ∧ VB bs r P ops S R fuel (listed.setIfInBounds i true) (puto E d v) W') : VB bs r P ops S R (fuel + 1) listed E W := by
  refine ⟨fun h0 => (by rw [hr] at h0; cases h0), fun j hj => ?_⟩
  rw [hr] at hj
  obtain rfl : j = i := by simpa using hj
  unfold opI
  simp only [hi]
  rw [if_pos (by rfl)]; exact h
theorem dnB (hr : Region.ready .any ops listed = []) (h : R E W) : VB bs r P ops S R fuel listed E W := by
  cases fuel with
  | zero => exact ⟨hr, h⟩
  | succ n => exact ⟨fun _ => h, by rw [hr]; simp⟩
theorem notWf {p : Prop} (h : whole bs listed = false) : whole bs listed = true → p := fun h' => (by rw [h] at h'; cases h')
theorem notW {p q : Prop} (h : whole bs listed = false) (k : q) : (whole bs listed = true → p) ∧ q := ⟨fun h' => (by rw [h] at h'; cases h'), k⟩
end
end Go.Proofs.YtknbjfefeeojlaaGreat
/- A slice of the call's own whose elements are stored anew; a matrix under elimination. -/
namespace Go.Proofs.YtknbjfefeeojlaaGreat
open Go.RowKit
attribute [local irreducible] RV VH V OpF Calls
section
variable {P : Program} {ρ : Operand → Value} {W W' : World} {d : Option Tmp} {ty T e : TypeId} {pos : String} {af : Array Edge} {g : Option (Nat × Bool)} {x y : Operand} {v u : Value} {K : Value → World → Prop} {s B n c : Nat} {a : Option Addr} {qs : List (List Value)}
theorem OS.own (h : OS s B W e v qs) (hn : 0 < qs.length) : ∃ b c cur, v = .slice (some ⟨b, 0, none⟩) qs.length c ∧ v.ownBlock = some b ∧ B ≤ b ∧ BoxAt W b cur e ∧ qs.length ≤ c ∧ c ≤ maxLen ∧ cur.length = c * s ∧ cur.take (qs.length * s) = qs.flatten := by
  rcases h.row.2 with ⟨_, h0⟩ | ⟨b, cap, cur, rfl, hb, hh, h1, h2, h3, h4⟩
  · omega
  · exact ⟨b, cap, cur.toList, rfl, rfl, hb, by unfold BoxAt; simpa using hh, h1, h2, by simpa using h3, h4⟩
theorem OS.of {b c : Nat} {cur : List Value} (hw : ∀ q ∈ qs, q.length = s) (hB : B ≤ b) (hb : BoxAt W b cur e) (h1 : qs.length ≤ c) (h2 : c ≤ maxLen) (h3 : cur.length = c * s) (h4 : cur.take (qs.length * s) = qs.flatten) : OS s B W e (.slice (some ⟨b, 0, none⟩) qs.length c) qs :=
  ⟨⟨flat_len hw, .inr ⟨b, c, cur.toArray, rfl, hB, hb, h1, h2, by simpa using h3, by simpa using h4⟩⟩, hw⟩
theorem take_set_flat {cur : List Value} {q : List Value} {i m : Nat} (hi : i + q.length ≤ m) (hm : m ≤ cur.length) : (cur.take i ++ q ++ cur.drop (i + q.length)).take m = (cur.take m).take i ++ q ++ (cur.take m).drop (i + q.length) := by
  have h1 : (cur.take m).take i = cur.take i := by rw [List.take_take]; congr 1; omega
  have h2 : (cur.take m).drop (i + q.length) = (cur.drop (i + q.length)).take (m - (i + q.length)) := List.drop_take
  have h3 : (cur.take i ++ q).length = i + q.length := by rw [List.length_append, List.length_take]; omega
  rw [h1, h2, List.take_append, List.take_of_length_le (by omega), h3]
/-- v[i] = u, in a slice of the call's own. -/
theorem xstS {r : Option Nat} {i : Int} {q : List Value} (h : OS s B W e v qs) (hv : v = .slice a n c) (hx : ρ x = .pointer (some (adr a i s))) (hy : ρ y = u) (hu : u.cells = q.toArray) (hT : Sz P T q.length) (hq : q.length = s) (ho : (q.all Value.oneCell') = true) (h0 : 0 ≤ i) (h1 : i < n)
    (hk2 : ∀ b W', v.ownBlock = some b → Wr b W W' → OS s B W' e v (qs.set i.toNat q) → K undef W') : OpF r P ρ ⟨d, .store T x y, ty, pos, af, g⟩ W K := by
  obtain ⟨a1, c1, e1⟩ := h.form
  have en : n = qs.length := by rw [hv] at e1; injection e1
  obtain ⟨b, cap, cur, e2, e3, hB, hb, h2, h3, h4, h5⟩ := h.own (by omega)
  have ea : a = some ⟨b, 0, none⟩ := by rw [hv] at e2; injection e2
  subst ea
  have hlt : i.toNat < qs.length := by omega
  have hle : i.toNat * s + s ≤ qs.length * s := by rw [← Nat.succ_mul]; exact Nat.mul_le_mul_right _ hlt
  have hcl : qs.length * s ≤ cur.length := by rw [h4]; exact Nat.mul_le_mul_right _ h2
  refine xst (o := i.toNat * s) (vs := q) (cs' := cur.take (i.toNat * s) ++ q ++ cur.drop (i.toNat * s + q.length)) ?_ hy hT hu ho hb (by omega) rfl ?_
  · rw [hx]; simp [adr, addO]
  · intro W' y' hb'
    refine hk2 b W' e3 y' ?_
    rw [e2]
    have hw : ∀ p ∈ qs.set i.toNat q, p.length = s := fun p hp => by
      rcases List.mem_or_eq_of_mem_set hp with h | h'
      · exact (by assumption : OS s B W e v qs).wd p h
      · subst h'; exact hq
    have hl : (qs.set i.toNat q).length = qs.length := List.length_set
    have := OS.of (W := W') (e := e) (c := cap) (qs := qs.set i.toNat q) hw hB hb' (by omega) h3 ?_ ?_
    · rwa [hl] at this
    · simp; omega
    · rw [hl, take_set_flat (by omega) hcl, h5, flat_set h.wd hlt hq, hq]
end
section
variable {ρt : Type} {El : (Nat → Prop) → World → List Value → ρt → Prop} {S : Nat → Prop} {P : Program} {ρ : Operand → Value} {W W' : World} {d : Option Tmp} {ty T e : TypeId} {pos : String} {af : Array Edge} {g : Option (Nat × Bool)} {x y : Operand} {v u : Value} {K : Value → World → Prop} {s B n c : Nat} {a : Option Addr} {rs : List ρt} {rr : ρt}
theorem xstG {r : Option Nat} {i : Int} {q : List Value} (ok : ElOK El) (h : GO s El S B W e v rs) (hv : v = .slice a n c) (hx : ρ x = .pointer (some (adr a i s))) (hy : ρ y = u) (hu : u.cells = q.toArray) (hT : Sz P T q.length) (hq : q.length = s) (ho : (q.all Value.oneCell') = true) (h0 : 0 ≤ i) (h1 : i < n)
    (hel : El (SO S v) W q rr) (hk2 : ∀ b W', v.ownBlock = some b → Wr b W W' → GO s El S B W' e v (rs.set i.toNat rr) → K undef W') : OpF r P ρ ⟨d, .store T x y, ty, pos, af, g⟩ W K := by
  obtain ⟨qs, h2, h3⟩ := h
  refine xstS h2 hv hx hy hu hT hq ho h0 h1 ?_
  intro b W' hb y' hO
  refine hk2 b W' hb y' ⟨_, hO, ?_⟩
  have := h3.set (k := i.toNat) hel
  exact this.imp fun q r hq => ok.ck hq (y'.ck (fun hh => hh.2 hb))
/-- What is read of such a slice. -/
theorem GO.rd {El : (Nat → Prop) → World → List Value → ρt → Prop} (ok : ElOK El) (h : GO s El S B W e (.slice a n c) rs) : ∃ qs, RS s TT W a n c qs ∧ All2 (El TT W) qs rs := by
  obtain ⟨qs, h2, h3⟩ := h
  exact ⟨qs, h2.rs (fun _ _ _ => trivial), h3.imp fun _ _ hq => ok.sub hq fun _ _ _ => trivial⟩
end
end Go.Proofs.YtknbjfefeeojlaaGreat
/- A matrix under elimination: what is reckoned, and the state of the call. -/
namespace Go.Proofs.YtknbjfefeeojlaaGreat
open Go.RowKit
attribute [local irreducible] RV VH V OpF Calls
def sclR (r : Rat) (xs : List Rat) : List Rat := zipf (fun a b => r * a + b) xs [] (max xs.length 0)
def axR (r : Rat) (xs ys : List Rat) : List Rat := zipf (fun a b => r * a + b) xs ys (max xs.length ys.length)
theorem sclR_len (r : Rat) (xs : List Rat) : (sclR r xs).length = xs.length := by simp [sclR, zipf]
theorem axR_len (r : Rat) (xs ys : List Rat) : (axR r xs ys).length = max xs.length ys.length := by simp [axR, zipf]
/-- p: the first row at d or behind it whose element k is not 0; the number of rows, if there is none. -/
def IsP (rows : List (List Rat)) (k d p : Nat) : Prop := d ≤ p ∧ p ≤ rows.length ∧ (∀ j, d ≤ j → j < p → mat rows j k = 0) ∧ (p < rows.length → mat rows p k ≠ 0)
theorem IsP.uniq {rows : List (List Rat)} {k d p q : Nat} (h : IsP rows k d p) (h' : IsP rows k d q) : p = q := by
  rcases Nat.lt_trichotomy p q with hl | hl | hl
  · exact absurd (h'.2.2.1 p h.1 hl) (h.2.2.2 (by have := h'.2.1; omega))
  · exact hl
  · exact absurd (h.2.2.1 q h'.1 hl) (h'.2.2.2 (by have := h.2.1; omega))
def pfind (rows : List (List Rat)) (k : Nat) : Nat → Nat → Nat
  | 0, d => d
  | n + 1, d => if mat rows d k = 0 then pfind rows k n (d + 1) else d
def pf (rows : List (List Rat)) (k d : Nat) : Nat := pfind rows k (rows.length - d) d
theorem pfind_is (rows : List (List Rat)) (k : Nat) : ∀ (n d : Nat), d + n = rows.length → IsP rows k d (pfind rows k n d)
  | 0, d, h => ⟨Nat.le_refl _, by unfold pfind; omega, fun j h1 h2 => by unfold pfind at h2; omega, fun hh => by unfold pfind at hh; omega⟩
  | n + 1, d, h => by
    unfold pfind
    split
    · rename_i h0
      obtain ⟨h1, h2, h3, h4⟩ := pfind_is rows k n (d + 1) (by omega)
      refine ⟨by omega, h2, fun j hj hj2 => ?_, h4⟩
      rcases Nat.lt_or_eq_of_le hj with hj | rfl
      · exact h3 j hj hj2
      · exact h0
    · rename_i h0
      exact ⟨Nat.le_refl _, by omega, fun j h1 h2 => by omega, fun _ => h0⟩
theorem pf_is {rows : List (List Rat)} {k d : Nat} (h : d ≤ rows.length) : IsP rows k d (pf rows k d) := pfind_is rows k _ d (by omega)
theorem IsP.pf {rows : List (List Rat)} {k d p : Nat} (h : IsP rows k d p) : pf rows k d = p := (pf_is (Nat.le_trans h.1 h.2.1)).uniq h
def swapR (rows : List (List Rat)) (i j : Nat) : List (List Rat) := (rows.set i (rowat rows j)).set j (rowat rows i)
theorem set_rowat (rows : List (List Rat)) (i : Nat) : rows.set i (rowat rows i) = rows := by
  refine List.ext_getElem? fun j => ?_
  rw [List.getElem?_set]
  split
  · rename_i h; subst h
    split
    · rename_i h; unfold rowat; simp [h]
    · rename_i h; rw [List.getElem?_eq_none (by omega)]
  · rfl
theorem swapR_self (rows : List (List Rat)) (i : Nat) : swapR rows i i = rows := by unfold swapR; rw [set_rowat, set_rowat]
theorem swapR_len (rows : List (List Rat)) (i j : Nat) : (swapR rows i j).length = rows.length := by simp [swapR]
/-- The elimination in column k, by row d, in the rows ahead of row i. -/
def elimT (rows : List (List Rat)) (d k j : Nat) : List Rat := if j = d ∨ mat rows j k = 0 then rowat rows j else axR (-(mat rows j k)) (rowat rows d) (rowat rows j)
def elimS (rows : List (List Rat)) (d k i : Nat) : List (List Rat) := (List.range rows.length).map fun j => if j < i then elimT rows d k j else rowat rows j
theorem elimS_len (rows : List (List Rat)) (d k i : Nat) : (elimS rows d k i).length = rows.length := by simp [elimS]
theorem elimS_row {rows : List (List Rat)} {d k i j : Nat} (h : j < rows.length) : rowat (elimS rows d k i) j = if j < i then elimT rows d k j else rowat rows j := by
  unfold elimS; rw [rowat, List.getD_eq_getElem?_getD, List.getElem?_map, List.getElem?_range h]; simp
theorem rows_ext {rows mows : List (List Rat)} (hl : rows.length = mows.length) (h : ∀ j, j < rows.length → rowat rows j = rowat mows j) : rows = mows := by
  refine List.ext_getElem hl fun j h1 h2 => ?_
  have := h j h1
  simpa [rowat, h1, h2] using this
theorem elimS_zero (rows : List (List Rat)) (d k : Nat) : elimS rows d k 0 = rows := rows_ext (elimS_len _ _ _ _) fun j hj => by rw [elimS_len] at hj; rw [elimS_row hj, if_neg (by omega)]
theorem rowat_set {rows : List (List Rat)} {i j : Nat} {r : List Rat} (h : i < rows.length) : rowat (rows.set i r) j = if j = i then r else rowat rows j := by
  unfold rowat
  rw [List.getD_eq_getElem?_getD, List.getElem?_set]
  by_cases e : i = j
  · subst e; simp [h]
  · rw [if_neg e, if_neg (fun h => e h.symm)]; simp
theorem elimS_succ {rows : List (List Rat)} {d k i : Nat} (h : i < rows.length) : elimS rows d k (i + 1) = (elimS rows d k i).set i (elimT rows d k i) := by
  refine rows_ext (by simp [elimS_len]) fun j hj => ?_
  rw [elimS_len] at hj
  rw [rowat_set (by rw [elimS_len]; exact h), elimS_row hj, elimS_row hj]
  by_cases e : j = i
  · subst e; rw [if_pos (by omega), if_pos rfl]
  · rw [if_neg e]; by_cases e2 : j < i
    · rw [if_pos (by omega), if_pos e2]
    · rw [if_neg (by omega), if_neg e2]
theorem elimS_keep {rows : List (List Rat)} {d k i : Nat} (h : i < rows.length) (e : i = d ∨ mat rows i k = 0) : elimS rows d k (i + 1) = elimS rows d k i := by
  rw [elimS_succ h, elimT, if_pos e]
  have := set_rowat (elimS rows d k i) i
  rwa [elimS_row h, if_neg (by omega)] at this
/-- Row d is divided by its element k. -/
def divR (rows : List (List Rat)) (d k : Nat) : List (List Rat) := rows.set d (sclR (1 / mat rows d k) (rowat rows d))
theorem divR_len (rows : List (List Rat)) (d k : Nat) : (divR rows d k).length = rows.length := by simp [divR]
def colR (rows : List (List Rat)) (d k p : Nat) : List (List Rat) := elimS (divR (swapR rows p d) d k) d k rows.length
theorem colR_len (rows : List (List Rat)) (d k p : Nat) : (colR rows d k p).length = rows.length := by simp [colR, elimS_len, divR_len, swapR_len]
/-- One column. -/
def colS (s : List (List Rat) × List Int × Rat) (k : Nat) : List (List Rat) × List Int × Rat :=
  if pf s.1 k s.2.1.length < s.1.length then
    (colR s.1 s.2.1.length k (pf s.1 k s.2.1.length), s.2.1 ++ [(k : Int)], (if pf s.1 k s.2.1.length = s.2.1.length then s.2.2 else -s.2.2) * mat (swapR s.1 (pf s.1 k s.2.1.length) s.2.1.length) s.2.1.length k)
  else s
theorem colS_of {rows : List (List Rat)} {piv : List Int} {δ : Rat} {k p : Nat} (h : IsP rows k piv.length p) (hp : p < rows.length) : colS (rows, piv, δ) k = (colR rows piv.length k p, piv ++ [(k : Int)], (if p = piv.length then δ else -δ) * mat (swapR rows p piv.length) piv.length k) := by
  unfold colS; simp only [h.pf]; rw [if_pos hp]
theorem colS_no {rows : List (List Rat)} {piv : List Int} {δ : Rat} {k : Nat} (h : IsP rows k piv.length rows.length) : colS (rows, piv, δ) k = (rows, piv, δ) := by
  unfold colS; simp only [h.pf]; rw [if_neg (by omega)]
def redS (rows : List (List Rat)) : Nat → List (List Rat) × List Int × Rat
  | 0 => (rows, [], 1)
  | n + 1 => colS (redS rows n) n
/-! ### Lengths and sizes -/
def rect (N : Nat) (rows : List (List Rat)) : Prop := ∀ r ∈ rows, r.length = N
theorem rect.row {N : Nat} {rows : List (List Rat)} (h : rect N rows) {i : Nat} (hi : i < rows.length) : (rowat rows i).length = N := by
  refine h _ ?_; unfold rowat; simp [hi]
theorem rect.set {N : Nat} {rows : List (List Rat)} (h : rect N rows) {i : Nat} {r : List Rat} (hr : r.length = N) : rect N (rows.set i r) := fun x hx => by
  rcases List.mem_or_eq_of_mem_set hx with h' | rfl
  · exact h x h'
  · exact hr
theorem rect.of {N : Nat} {rows : List (List Rat)} (h : ∀ i, i < rows.length → (rowat rows i).length = N) : rect N rows := fun x hx => by
  obtain ⟨i, hi⟩ := List.getElem?_of_mem hx
  have hl := (List.getElem?_eq_some_iff.1 hi).1
  have := h i hl
  unfold rowat at this; rw [List.getD_eq_getElem?_getD, hi] at this; exact this
theorem rect.swap {N : Nat} {rows : List (List Rat)} (h : rect N rows) {i j : Nat} (hi : i < rows.length) (hj : j < rows.length) : rect N (swapR rows i j) := (h.set (h.row hj)).set (h.row hi)
theorem rect.div {N : Nat} {rows : List (List Rat)} (h : rect N rows) {d k : Nat} (hd : d < rows.length) : rect N (divR rows d k) := h.set (by rw [sclR_len]; exact h.row hd)
theorem rect.elimT {N : Nat} {rows : List (List Rat)} (h : rect N rows) {d k j : Nat} (hd : d < rows.length) (hj : j < rows.length) : (elimT rows d k j).length = N := by
  unfold Proofs.YtknbjfefeeojlaaGreat.elimT
  split
  · exact h.row hj
  · rw [axR_len, h.row hd, h.row hj]; omega
theorem rect.elim {N : Nat} {rows : List (List Rat)} (h : rect N rows) {d k i : Nat} (hd : d < rows.length) : rect N (elimS rows d k i) := rect.of fun j hj => by
  rw [elimS_len] at hj
  rw [elimS_row hj]
  split
  · exact h.elimT hd hj
  · exact h.row hj
theorem rect.col {N : Nat} {rows : List (List Rat)} (h : rect N rows) {d k p : Nat} (hd : d < rows.length) (hp : p < rows.length) : rect N (colR rows d k p) :=
  ((h.swap hp hd).div (by rw [swapR_len]; exact hd)).elim (by rw [divR_len, swapR_len]; exact hd)
def szR (L : Nat) (rows : List (List Rat)) : Prop := ∀ r ∈ rows, szV L r
theorem szR.mono {L L' : Nat} {rows : List (List Rat)} (h : szR L rows) (hL : L ≤ L') : szR L' rows := fun r hr q hq => (h r hr q hq).mono hL
theorem szR.row {L : Nat} {rows : List (List Rat)} (h : szR L rows) (i : Nat) : szV L (rowat rows i) := by
  unfold rowat; rw [List.getD_eq_getElem?_getD]
  cases hq : rows[i]? with
  | none => intro q hq; simp at hq
  | some r => exact h r (List.mem_of_getElem? hq)
theorem szR.at {L : Nat} {rows : List (List Rat)} (h : szR L rows) (hL : 1 ≤ L) (i k : Nat) : sz L (mat rows i k) := szV_at (h.row i) hL k
theorem szR.set {L : Nat} {rows : List (List Rat)} (h : szR L rows) {i : Nat} {r : List Rat} (hr : szV L r) : szR L (rows.set i r) := fun x hx => by
  rcases List.mem_or_eq_of_mem_set hx with h' | rfl
  · exact h x h'
  · exact hr
theorem szR.swap {L : Nat} {rows : List (List Rat)} (h : szR L rows) (i j : Nat) : szR L (swapR rows i j) := (h.set (h.row j)).set (h.row i)
theorem sz_inv {L : Nat} {r : Rat} (h : sz L r) (hL : 1 ≤ L) : sz L (1 / r) := by
  rw [Rat.div_def, Rat.one_mul]
  by_cases h0 : r = 0
  · subst h0; rw [Rat.inv_zero]; exact sz_zero.mono hL
  · have e : r⁻¹ = Rat.divInt r.den r.num := by rw [Rat.inv_def]
    rw [e]
    have hd : (0 : Int) < r.den := by have := r.den_pos; omega
    rcases Int.lt_trichotomy r.num 0 with hn | hn | hn
    · have e2 := Rat.neg_divInt_neg (r.den : Int) r.num
      rw [← e2]
      exact sz_divInt (by have := h.2; rw [Int.natAbs_neg]; simpa using this) (by omega) (by have := h.1; omega)
    · exact absurd (Rat.num_eq_zero.1 hn) h0
    · exact sz_divInt (by have := h.2; simpa using this) hn (by have := h.1; omega)
theorem sclR_sz {a b L : Nat} {r : Rat} {xs : List Rat} (hr : sz a r) (hx : szV b xs) (hb : 1 ≤ b) (hL : a + b ≤ L) : szV L (sclR r xs) := szV_zip fun i _ => by
  rw [show vat ([] : List Rat) i = 0 from rfl, Rat.add_zero]; exact (sz_mul hr (szV_at hx hb i)).mono hL
theorem axR_sz {a b c L : Nat} {r : Rat} {xs ys : List Rat} (hr : sz a r) (hx : szV b xs) (hy : szV c ys) (hb : 1 ≤ b) (hc : 1 ≤ c) (hL : a + b + c + 1 ≤ L) : szV L (axR r xs ys) := szV_zip fun i _ =>
  (sz_add (sz_mul hr (szV_at hx hb i)) (szV_at hy hc i)).mono (by omega)
theorem szR.div {L : Nat} {rows : List (List Rat)} (h : szR L rows) (hL : 1 ≤ L) (d k : Nat) : szR (2 * L) (divR rows d k) :=
  (h.mono (by omega)).set (sclR_sz (sz_inv (h.at hL d k) hL) (h.row d) hL (by omega))
theorem elimS_sz {L : Nat} {rows : List (List Rat)} (h : szR L rows) (hL : 1 ≤ L) {d : Nat} (hd : d < rows.length) (k i : Nat) : szR (5 * L) (elimS (divR rows d k) d k i) := by
  have h2 := h.div hL d k
  intro x hx
  obtain ⟨j, hj, rfl⟩ := List.mem_map.1 hx
  rw [List.mem_range, divR_len] at hj
  have hj2 : j < (divR rows d k).length := by rw [divR_len]; exact hj
  have e : ∀ j, j ≠ d → rowat (divR rows d k) j = rowat rows j := fun j hj => by unfold divR; rw [rowat_set hd, if_neg hj]
  have hr : szV (5 * L) (rowat (divR rows d k) j) := (h2.mono (by omega)).row j
  split
  · unfold elimT
    split
    · exact hr
    · rename_i h3
      have h4 : j ≠ d := fun h => h3 (.inl h)
      refine axR_sz (a := L) (b := 2 * L) (c := L) (sz_neg ?_) (h2.row d) ?_ (by omega) hL (by omega)
      · unfold mat; rw [e j h4]; exact h.at hL j k
      · rw [e j h4]; exact h.row j
  · exact hr
theorem colR_sz {L : Nat} {rows : List (List Rat)} (h : szR L rows) (hL : 1 ≤ L) {d : Nat} (hd : d < rows.length) (k p : Nat) : szR (5 * L) (colR rows d k p) := elimS_sz (h.swap p d) hL (by rw [swapR_len]; exact hd) k _
theorem colS_len (s : List (List Rat) × List Int × Rat) (k : Nat) : (colS s k).1.length = s.1.length := by unfold colS; split <;> simp [colR_len]
theorem colS_piv {s : List (List Rat) × List Int × Rat} {k : Nat} (h : s.2.1.length ≤ s.1.length) : (colS s k).2.1.length ≤ s.1.length := by
  unfold colS
  split
  · have := (pf_is (k := k) h).1; simp; omega
  · exact h
theorem colS_rect {N : Nat} {s : List (List Rat) × List Int × Rat} {k : Nat} (hr : rect N s.1) (h : s.2.1.length ≤ s.1.length) : rect N (colS s k).1 := by
  unfold colS
  split
  · have := (pf_is (k := k) h).1; exact hr.col (by omega) (by assumption)
  · exact hr
theorem colS_sz {L : Nat} {s : List (List Rat) × List Int × Rat} {k : Nat} (hz : szR L s.1) (hL : 1 ≤ L) (h : s.2.1.length ≤ s.1.length) : szR (5 * L) (colS s k).1 := by
  unfold colS
  split
  · have := (pf_is (k := k) h).1; exact colR_sz hz hL (by omega) _ _
  · exact hz.mono (by omega)
theorem redS_all {N L : Nat} {rows : List (List Rat)} (hr : rect N rows) (hz : szR L rows) (hL : 1 ≤ L) : ∀ n, (redS rows n).1.length = rows.length ∧ (redS rows n).2.1.length ≤ rows.length ∧ rect N (redS rows n).1 ∧ szR (L * 5 ^ n) (redS rows n).1
  | 0 => ⟨rfl, Nat.zero_le _, hr, by simpa [redS] using hz⟩
  | n + 1 => by
    obtain ⟨h1, h2, h3, h4⟩ := redS_all hr hz hL n
    have h5 : (redS rows n).2.1.length ≤ (redS rows n).1.length := by omega
    have hp : 1 ≤ L * 5 ^ n := Nat.mul_pos hL (Nat.pow_pos (by omega))
    refine ⟨by rw [redS, colS_len, h1], by rw [redS]; have := colS_piv (k := n) h5; omega, by rw [redS]; exact colS_rect h3 h5, ?_⟩
    rw [redS, Nat.pow_succ, ← Nat.mul_assoc, Nat.mul_comm (L * 5 ^ n)]; exact colS_sz h4 hp h5
end Go.Proofs.YtknbjfefeeojlaaGreat
/- The state of a matrix under elimination in the store. -/
namespace Go.Proofs.YtknbjfefeeojlaaGreat
open Go.RowKit
attribute [local irreducible] RV VH V OpF Calls
theorem rnc {P : Program} {ρ : Operand → Value} {d : Option Tmp} {ty : TypeId} {pos : String} {af : Array Edge} {g : Option (Nat × Bool)} {x : Operand} {v : Value} {ad : Addr} {W : World} (hx : ρ x = v) (hv : v = .pointer (some ad)) : (execOp ρ ⟨d, .nilCheck x, ty, pos, af, g⟩).run P W = .ok (.value v) W := by
  subst hx; unfold execOp; simp [hv]
def XS (B bw : Nat) (pv : Value) : Nat → Prop := fun b => B ≤ b ∧ b ≠ bw ∧ pv.ownBlock ≠ some b
def KQ (bw : Nat) (v pv : Value) : Nat → Prop := fun b => b ≠ bw ∧ v.ownBlock ≠ some b ∧ pv.ownBlock ≠ some b
/-- The two callbacks of a work: what they hold, and what they do. -/
structure CL (xd : Nat → Prop) (fs fd : Value) (CX : Nat → (Nat → Prop) → World → Rat → Prop) : Prop where
  ck : ∀ {L : Nat} {S S' : Nat → Prop} {W W' : World} {δ : Rat}, CX L S W δ → CK S' W W' → (∀ b, b < W.heap.size → S b → S' b) → (∀ b, xd b → S' b) → CX L S W' δ
  sub : ∀ {L : Nat} {S S' : Nat → Prop} {W : World} {δ : Rat}, CX L S W δ → (∀ b, b < W.heap.size → S b → S' b) → CX L S' W δ
  mono : ∀ {L L' : Nat} {S : Nat → Prop} {W : World} {δ : Rat}, CX L S W δ → L ≤ L' → CX L' S W δ
  sw : ∃ (f : Nat) (cap : List Value), fs = .func (.func f) #[] cap.toArray ∧ Ent Tryz.prog f ∧ ∀ (L : Nat) (S : Nat → Prop) (W : World) (δ : Rat), CX L S W δ → Up S W → L + 1 < LY → Calls Tryz.prog f (([] : List Value) ++ cap).toArray W fun e W' => e = .returned (.tuple #[]) ∧ KD (fun b => ¬ xd b) W W' ∧ CX L S W' (-δ)
  dv : ∃ (f : Nat) (cap : List Value), fd = .func (.func f) #[] cap.toArray ∧ Ent Tryz.prog f ∧ ∀ (L M : Nat) (S : Nat → Prop) (W : World) (δ : Rat) (q : List Value) (r : Rat), CX L S W δ → Up S W → QA M TT W q r → 1 ≤ M → L + M + 1 < LY → Calls Tryz.prog f (([.agg q.toArray] : List Value) ++ cap).toArray W fun e W' => e = .returned (.tuple #[]) ∧ KD (fun b => ¬ xd b) W W' ∧ CX (L + M) S W' (δ * r)
structure WS (B bw : Nat) (fs fd : Value) (xd : Nat → Prop) (CX : Nat → (Nat → Prop) → World → Rat → Prop) (v pv : Value) (L : Nat) (rows : List (List Rat)) (piv : List Int) (δ : Rat) (W : World) : Prop where
  cl : CL xd fs fd CX
  x : BoxAt W bw [v, pv, fs, fd] 141
  g : GO 1 (RowOf GC) (XS B bw pv) B W 23 v rows
  p : OI .i64 B W 3 pv piv
  c : CX L (KQ bw v pv) W δ
  hB : B ≤ bw
  hx : ∀ b, xd b → b < B
theorem OS.obox {s B : Nat} {W : World} {e : TypeId} {v : Value} {qs : List (List Value)} (h : OS s B W e v qs) {b : Nat} (hb : v.ownBlock = some b) : ∃ cur, BoxAt W b cur e := by
  rcases h.row.2 with ⟨rfl, _⟩ | ⟨b', cap, cur, rfl, _, hh, _⟩
  · simp [Value.ownBlock] at hb
  · simp only [Value.ownBlock, Option.some.injEq] at hb
    subst hb
    exact ⟨cur.toList, by unfold BoxAt; simpa using hh⟩
section
variable {B bw L n c : Nat} {fs fd v pv pv' : Value} {xd : Nat → Prop} {CX : Nat → (Nat → Prop) → World → Rat → Prop} {rows : List (List Rat)} {piv : List Int} {δ : Rat} {W W' : World} {a : Option Addr}
theorem WS.ext (h : WS B bw fs fd xd CX v pv L rows piv δ W) (y : Ext W W') : WS B bw fs fd xd CX v pv L rows piv δ W' :=
  ⟨h.cl, h.x.ext y, h.g.ext okRowC y, h.p.ext y, h.cl.ck h.c (y.ck fun _ => True) (fun _ _ _ => trivial) (fun _ _ => trivial), h.hB, h.hx⟩
theorem WS.vb (h : WS B bw fs fd xd CX v pv L rows piv δ W) : v.ownBlock ≠ some bw := by
  obtain ⟨qs, h1, _⟩ := h.g; exact h1.neBox h.x (by decide)
theorem WS.pb (h : WS B bw fs fd xd CX v pv L rows piv δ W) : pv.ownBlock ≠ some bw := h.p.neBox h.x (by decide)
theorem WS.vp (h : WS B bw fs fd xd CX v pv L rows piv δ W) {b : Nat} (e : v.ownBlock = some b) : pv.ownBlock ≠ some b := by
  obtain ⟨qs, h1, _⟩ := h.g
  obtain ⟨cur, hb⟩ := h1.obox e
  exact h.p.neBox hb (by decide)
theorem WS.vlow (h : WS B bw fs fd xd CX v pv L rows piv δ W) : ∀ b, v.ownBlock = some b → B ≤ b ∧ b < W.heap.size := by
  obtain ⟨qs, h1, _⟩ := h.g; exact h1.low
theorem WS.up (h : WS B bw fs fd xd CX v pv L rows piv δ W) : Up (SO (XS B bw pv) v) W := fun b hb => by
  have := h.x.lt; have := h.hB
  exact ⟨⟨by omega, by omega, fun e => by have := (h.p.low b e).2; omega⟩, fun e => by have := (h.vlow b e).2; omega⟩
theorem WS.upq (h : WS B bw fs fd xd CX v pv L rows piv δ W) : Up (KQ bw v pv) W := fun b hb => by
  have := h.x.lt
  exact ⟨by omega, fun e => by have := (h.vlow b e).2; omega, fun e => by have := (h.p.low b e).2; omega⟩
theorem WS.mc (h : WS B bw fs fd xd CX v pv L rows piv δ W) (hv : v = .slice a n c) : MC TT W a n c rows := by
  subst hv; exact GO.rd okRowC h.g
theorem WS.pn (h : WS B bw fs fd xd CX v pv L rows piv δ W) (hv : pv = .slice a n c) : RN .i64 TT W a n c piv := by
  subst hv; exact h.p.rn fun _ _ _ => trivial
theorem WS.row (h : WS B bw fs fd xd CX v pv L rows piv δ W) (hv : v = .slice a n c) {i : Int} (h0 : 0 ≤ i) (h1 : i < n) : ∃ a' n' c', W.cell? (adr a i 1) = some (.slice a' n' c') ∧ GC (SO (XS B bw pv) v) W a' n' c' (rowat rows i.toNat) := by
  obtain ⟨qs, h2, h3⟩ := h.g
  have h2' := h2
  rw [hv] at h2'
  have hr : RS 1 TT W a n c qs := h2'.rs fun _ _ _ => trivial
  obtain ⟨q, h4, h5, h6⟩ := hr.el h0 h1
  obtain ⟨r, h7, a', n', c', rfl, h8⟩ := h3.get h4
  have e : rowat rows i.toNat = r := by unfold rowat; rw [List.getD_eq_getElem?_getD, h7]; rfl
  refine ⟨a', n', c', ?_, e ▸ h8⟩
  have := h6 0 _ rfl
  rwa [add0] at this
theorem WS.ckB (h : WS B bw fs fd xd CX v pv L rows piv δ W) {L' : Nat} {δ' : Rat} (k : KD (fun b => ¬ xd b) W W') (hc : CX L' (KQ bw v pv) W' δ') : WS B bw fs fd xd CX v pv L' rows piv δ' W' := by
  have nx : ∀ b, B ≤ b → ¬ xd b := fun b hb hx => by have := h.hx b hx; omega
  refine ⟨h.cl, h.x.kd k (nx _ h.hB), ?_, h.p.ck k.ck fun b e => nx b (h.p.low b e).1, hc, h.hB, h.hx⟩
  obtain ⟨qs, h1, h2⟩ := h.g
  refine ⟨qs, h1.ck k.ck fun b e => nx b (h1.low b e).1, h2.imp fun _ _ hq => ?_⟩
  have h3 := okRowC.sub (S' := fun b => SO (XS B bw pv) v b ∧ ¬ xd b) hq fun b _ hs => ⟨hs, nx b hs.1.1⟩
  exact okRowC.sub (okRowC.ck h3 (k.ck.sub fun _ hs => hs.2)) fun b _ hs => hs.1
theorem WS.sz (h : WS B bw fs fd xd CX v pv L rows piv δ W) {L' : Nat} (hL : L ≤ L') : WS B bw fs fd xd CX v pv L' rows piv δ W := ⟨h.cl, h.x, h.g, h.p, h.cl.mono h.c hL, h.hB, h.hx⟩
theorem WS.kq (h : WS B bw fs fd xd CX v pv L rows piv δ W) {b : Nat} (hb : b < B) : KQ bw v pv b := ⟨by have := h.hB; omega, fun e => by have := (h.vlow b e).1; omega, fun e => by have := (h.p.low b e).1; omega⟩
/-- One element more in the list of the pivots, and the new list is stored. -/
theorem WS.push {W1 W2 : World} {z : Int} (h : WS B bw fs fd xd CX v pv L rows piv δ W) (hO : OI .i64 B W1 3 pv' (piv ++ [z])) (hg : W.grownBy W1 pv.ownBlock) (ho : pv'.ownBlock = pv.ownBlock ∨ pv'.ownBlock = some W.heap.size) (hos : Below 0 W W1) (y : Wr bw W1 W2) (hb : BoxAt W2 bw [v, pv', fs, fd] 141) :
    WS B bw fs fd xd CX v pv' L rows (piv ++ [z]) δ W2 ∧ KD (KQ bw v pv) W W2 := by
  have nb : ∀ b, b < W.heap.size → pv.ownBlock ≠ some b → pv'.ownBlock ≠ some b := fun b hb hp e => by
    rcases ho with h' | h'
    · exact hp (h' ▸ e)
    · rw [h'] at e; injection e with e; omega
  have kg : CK (fun b => pv.ownBlock ≠ some b) W W1 := grown_ck hg fun b e h => h e
  have kd : KD (KQ bw v pv) W W2 := (grown_kd hg (fun b e hd => hd.2.2 e) hos).trans (y.kd fun hd => hd.1 rfl)
  refine ⟨⟨h.cl, hb, ?_, ?_, ?_, h.hB, h.hx⟩, kd⟩
  · obtain ⟨qs, h1, h2⟩ := h.g
    have o1 : OS 1 B W1 23 v qs := h1.ck kg fun b e => h.vp e
    refine ⟨qs, o1.ck (y.ck (S := fun b => b ≠ bw) fun hh => hh rfl) (fun b e => fun hh => h.vb (hh ▸ e)), h2.imp fun _ _ hq => ?_⟩
    have h3 := okRowC.sub (S' := fun b => SO (XS B bw pv) v b ∧ pv'.ownBlock ≠ some b) hq fun b hb hs => ⟨hs, nb b hb hs.1.2.2⟩
    have h4 := okRowC.ck h3 (kg.sub fun b hs => hs.1.1.2.2)
    have h5 := okRowC.ck h4 (y.ck (fun hh => hh.1.1.2.1 rfl))
    exact okRowC.sub h5 fun b _ hs => ⟨⟨hs.1.1.1, hs.1.1.2.1, hs.2⟩, hs.1.2⟩
  · refine hO.ck (y.ck (S := fun b => b ≠ bw) fun hh => hh rfl) (fun b e hh => ?_)
    subst hh
    rcases ho with h' | h'
    · exact h.pb (h' ▸ e)
    · rw [h'] at e; injection e with e; have := h.x.lt; omega
  · exact h.cl.ck (h.cl.sub h.c (S' := fun b => KQ bw v pv b ∧ pv'.ownBlock ≠ some b) fun b hb hs => ⟨hs, nb b hb hs.2.2⟩) kd.ck (fun b _ hs => hs.1) (fun b hx => h.kq (h.hx b hx)) |> fun c => h.cl.sub c fun b _ hs => ⟨hs.1.1, hs.1.2.1, hs.2⟩
theorem WS.nb (h : WS B bw fs fd xd CX v pv L rows piv δ W) {b : Nat} {cs : List Value} {T : TypeId} (hb : BoxAt W b cs T) (h1 : T ≠ 23) (h2 : T ≠ 3) (h3 : b ≠ bw) : KQ bw v pv b := by
  obtain ⟨qs, h4, _⟩ := h.g
  exact ⟨h3, h4.neBox hb h1, h.p.neBox hb h2⟩
theorem WS.nx (h : WS B bw fs fd xd CX v pv L rows piv δ W) {b : Nat} (hb : B ≤ b) : ¬ xd b := fun hx => by have := h.hx b hx; omega
theorem WS.ma {L' : Nat} (h : WS B bw fs fd xd CX v pv L rows piv δ W) (hv : v = .slice a n c) (hs : szR L' rows) : MA L' TT W a n c rows := (h.mc hv).ma hs
theorem so_kq {b : Nat} (h : SO (XS B bw pv) v b) : KQ bw v pv b := ⟨h.1.2.1, h.2, h.1.2.2⟩
end
section
variable {B bw L n c n' c' : Nat} {fs fd v pv u : Value} {xd : Nat → Prop} {CX : Nat → (Nat → Prop) → World → Rat → Prop} {rows : List (List Rat)} {piv : List Int} {δ : Rat} {W W' : World} {a a' : Option Addr} {ρ : Operand → Value} {d : Option Tmp} {ty T : TypeId} {pos : String} {af : Array Edge} {gd : Option (Nat × Bool)} {x y : Operand} {K : Value → World → Prop} {rr : List Rat}
/-- w.rows[i] = u -/
theorem xstW {r : Option Nat} {i : Int} (h : WS B bw fs fd xd CX v pv L rows piv δ W) (hv : v = .slice a n c) (hx : ρ x = .pointer (some (adr a i 1))) (hy : ρ y = .slice a' n' c') (hT : Sz Tryz.prog T 1) (h0 : 0 ≤ i) (h1 : i < n) (hel : GC (SO (XS B bw pv) v) W a' n' c' rr)
    (hk2 : ∀ W', WS B bw fs fd xd CX v pv L (rows.set i.toNat rr) piv δ W' → KD (KQ bw v pv) W W' → K undef W') : OpF r Tryz.prog ρ ⟨d, .store T x y, ty, pos, af, gd⟩ W K := by
  refine xstG (q := [.slice a' n' c']) okRowC h.g hv hx hy rfl hT rfl rfl h0 h1 ⟨_, _, _, rfl, hel⟩ ?_
  intro b W' hb y' hG
  have kd : KD (KQ bw v pv) W W' := y'.kd fun hd => hd.2.1 hb
  exact hk2 W' ⟨h.cl, h.x.wr y' (fun e => h.vb (e ▸ hb)), hG, h.p.ck (y'.ck (S := fun q => q ≠ b) fun hh => hh rfl) (fun q e hh => h.vp hb (hh ▸ e)), h.cl.ck h.c kd.ck (fun _ _ hs => hs) (fun b hx => h.kq (h.hx b hx)), h.hB, h.hx⟩ kd
end
end Go.Proofs.YtknbjfefeeojlaaGreat

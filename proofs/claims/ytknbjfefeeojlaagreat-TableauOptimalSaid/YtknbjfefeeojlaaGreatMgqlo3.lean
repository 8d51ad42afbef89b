/- Package frac: the operations. -/
import Derived.Test.YtknbjfefeeojlaaGreatMgqlo2
namespace Go.Proofs.YtknbjfefeeojlaaGreat
open Go.RowKit
attribute [local irreducible] RV VH V OpF Calls

set_option maxHeartbeats 400000 in
theorem addP_ok (q1 q2 : List Value) (x1 y1 x2 y2 : Int) (L1 L2 : Nat) (S S1 S2 : Nat → Prop) (w : World) (h1 : PA L1 S1 w q1 x1 y1) (h2 : PA L2 S2 w q2 x2 y2) (hL : L1 + L2 < LY) (hl1 : 1 ≤ L1) (hl2 : 1 ≤ L2) (hu : Up S w) :
    Calls Tryz.prog 180 #[.agg q1.toArray, .agg q2.toArray] w (fun e w' => ∃ p, e = .returned (.agg p.toArray) ∧ Ext w w' ∧ PA (L1 + L2 + 1) S w' p (x1 * y2 + x2 * y1) (y1 * y2)) := by
 have z0 := Ext.refl w; have hLX : LX = 17592186044416 := rfl; have hLY : LY = 8796093022208 := rfl
 obtain ⟨n1, a1, l1, c1, n2, a2, l2, c2, rfl⟩ := h1.form; obtain ⟨n3, a3, l3, c3, n4, a4, l4, c4, rfl⟩ := h2.form
 obtain ⟨hx1, hy1⟩ := h1.one; obtain ⟨hx2, hy2⟩ := h2.one
 have hu2 : ∀ W : World, w.heap.size + 3 ≤ W.heap.size → Up (SX S [w.heap.size + 2]) W := fun W hW => SX.up (hu.mono (by omega)) (by simp <;> omega)
 refine enter (args := [.agg #[.bool n1, .slice a1 l1 c1, .bool n2, .slice a2 l2 c2], .agg #[.bool n3, .slice a3 l3 c3, .bool n4, .slice a4 l4 c4]]) Tryz.func180 rfl rfl (Nat.le_of_ble_eq_true rfl) ?_
 refine V.seq (V.reg rfl ?_)
 refine vo ?_
 refine bxa rfl ?_
 intro W1 x2 b3 nn4
 have s5 := x2.sz
 have z6 := x2
 refine vo ?_
 refine bxa rfl ?_
 intro W7 x8 b9 nn10
 have s11 := x8.sz
 have z12 := z6.trans x8
 replace b3 := b3.ext x8
 refine vo ?_
 refine xal zc144 ?_
 intro W13 x14 b15 nn16
 have s17 := x14.sz
 have z18 := z12.trans x14
 replace b3 := b3.ext x14
 replace b9 := b9.ext x14
 refine vnil ?_
 refine V.seq (V.regD mixed rfl ?_)
 intro W19 x20
 have s21 := x20.sz
 have z22 := z18.trans x20
 replace b3 := b3.ext x20
 replace b9 := b9.ext x20
 replace b15 := b15.ext x20
 have q23 := Ext.refl W19
 have r24 := b3
 have r25 := b9
 have r26 := b15
 refine tk 0 rfl (by kernel_rfl) q23 (pv (fun _ y27 => rfa rfl fd144_0)) ?_
 refine tk 1 rfl (by kernel_rfl) q23 (pv (fun _ y28 => rldb2 rfl ag46 (r24.ext y28) rfl rfl )) ?_
 refine tk 2 rfl (by kernel_rfl) q23 (pv (fun _ y29 => rfa rfl fd144_1)) ?_
 refine tk 3 rfl (by kernel_rfl) q23 (pv (fun _ y30 => rldb2 rfl ag46 (r25.ext y30) rfl rfl )) ?_
 refine tk 5 rfl (by kernel_rfl) q23 (pv (fun _ y31 => rfa rfl fd144_0)) ?_
 refine tk 6 rfl (by kernel_rfl) q23 (pv (fun _ y32 => rldb2 rfl ag46 (r25.ext y32) rfl rfl )) ?_
 refine tk 7 rfl (by kernel_rfl) q23 (pv (fun _ y33 => rfa rfl fd144_1)) ?_
 refine tk 8 rfl (by kernel_rfl) q23 (pv (fun _ y34 => rldb2 rfl ag46 (r24.ext y34) rfl rfl )) ?_
 refine tk 11 rfl (by kernel_rfl) q23 (pv (fun _ y35 => rfa rfl fd144_1)) ?_
 refine tk 12 rfl (by kernel_rfl) q23 (pv (fun _ y36 => rldb2 rfl ag46 (r24.ext y36) rfl rfl )) ?_
 refine tk 13 rfl (by kernel_rfl) q23 (pv (fun _ y37 => rfa rfl fd144_1)) ?_
 refine tk 14 rfl (by kernel_rfl) q23 (pv (fun _ y38 => rldb2 rfl ag46 (r25.ext y38) rfl rfl )) ?_
 refine ef 4 (by kernel_rfl) rfl ?_
 refine xcall e179 (wMul_ok _ _ _ _ _ _ _ _ _ _ _ _ _ _ _ _ (hx1.ext z22) (hy2.ext z22) (by omega) (by omega) (hu2 _ (by omega))) rfl rfl ?_
 rintro _ W40 ⟨_, _, _, _, rfl, x41, hz39⟩
 have s42 := x41.sz
 have z43 := z22.trans x41
 replace b15 := b15.ext x41
 have q44 := q23.trans x41
 refine ⟨_, rfl, ?_⟩
 refine ⟨fun _ => q44, ?_⟩
 refine ef 9 (by kernel_rfl) rfl ?_
 have hm1 := (hz39).za_mul hx1 hy2
 refine xcall e179 (wMul_ok _ _ _ _ _ _ _ _ _ _ _ _ _ _ _ _ (hx2.ext z43) (hy1.ext z43) (by omega) (by omega) (hu2 _ (by omega))) rfl rfl ?_
 rintro _ W46 ⟨_, _, _, _, rfl, x47, hz45⟩
 have s48 := x47.sz
 have z49 := z43.trans x47
 replace b15 := b15.ext x47
 have q50 := q44.trans x47
 refine ⟨_, rfl, ?_⟩
 refine ⟨fun _ => q50, ?_⟩
 refine ef 10 (by kernel_rfl) rfl ?_
 have hm2 := (hz45).za_mul hx2 hy1
 refine xcall e181 (wAdd_ok _ _ _ _ _ _ _ _ _ _ _ _ _ _ _ _ (hm1.ext x47) hm2 (by omega) (by omega) (hu2 _ (by omega))) rfl rfl ?_
 rintro _ W52 ⟨_, _, _, _, rfl, x53, hz51⟩
 have s54 := x53.sz
 have z55 := z49.trans x53
 replace b15 := b15.ext x53
 have q56 := q50.trans x53
 refine ⟨_, rfl, ?_⟩
 refine ⟨fun _ => q56, ?_⟩
 refine ef 15 (by kernel_rfl) rfl ?_
 have hs := ((hz51).za_add (L := L1 + L2) (hm1.lt) (by rw [Nat.add_comm]; exact hm2.lt) (.inl rfl))
 refine xcall e179 (wMul_ok _ _ _ _ _ _ _ _ _ _ _ _ _ _ _ _ (hy1.ext z55) (hy2.ext z55) (by omega) (by omega) (hu2 _ (by omega))) rfl rfl ?_
 rintro _ W58 ⟨_, _, _, _, rfl, x59, hz57⟩
 have s60 := x59.sz
 have z61 := z55.trans x59
 replace b15 := b15.ext x59
 have q62 := q56.trans x59
 refine ⟨_, rfl, ?_⟩
 refine ⟨fun _ => q62, ?_⟩
 refine tk 16 rfl (by kernel_rfl) q62 (pv (fun _ y63 => rbd (ps := [(0, .agg #[_, _]), (1, .agg #[_, _])]) (cs := [.bool _, .slice _ _ _, .bool _, .slice _ _ _]) pl144 rfl rfl)) ?_
 refine ef 17 (by kernel_rfl) rfl ?_
 have hm3 := ((hz57).za_mul hy1 hy2).mono (L' := L1 + L2 + 1) (by omega)
 refine sta (cs' := [_, _, _, _]) b15 rfl rfl sz144 rfl rfl rfl ?_
 intro W64 y65 b15
 have z66 := z61.below (y65.below (by omega))
 have s67 := y65.size
 refine lastT (by kernel_rfl) ?_
 refine dn (by kernel_rfl) ?_
 refine V.ret ?_
 refine ⟨[_], ⟨⟨_, rfl, lvb ag144 b15 rfl⟩, trivial⟩, ?_⟩
 exact ⟨_, rfl, z66, (PA.mk' ((hs.ck ((x59.ck _).trans (y65.ck (by intro hh; first | (simp [SX] at hh <;> omega) | omega))))) ((hm3.ck (y65.ck (by intro hh; first | (simp [SX] at hh <;> omega) | omega))))).un⟩
set_option maxHeartbeats 400000 in
theorem subP_ok (q1 q2 : List Value) (x1 y1 x2 y2 : Int) (L1 L2 : Nat) (S S1 S2 : Nat → Prop) (w : World) (h1 : PA L1 S1 w q1 x1 y1) (h2 : PA L2 S2 w q2 x2 y2) (hL : L1 + L2 < LY) (hl1 : 1 ≤ L1) (hl2 : 1 ≤ L2) (hu : Up S w) :
    Calls Tryz.prog 182 #[.agg q1.toArray, .agg q2.toArray] w (fun e w' => ∃ p, e = .returned (.agg p.toArray) ∧ Ext w w' ∧ PA (L1 + L2 + 1) S w' p (x1 * y2 - x2 * y1) (y1 * y2)) := by
 have z0 := Ext.refl w; have hLX : LX = 17592186044416 := rfl; have hLY : LY = 8796093022208 := rfl
 obtain ⟨n1, a1, l1, c1, n2, a2, l2, c2, rfl⟩ := h1.form; obtain ⟨n3, a3, l3, c3, n4, a4, l4, c4, rfl⟩ := h2.form
 obtain ⟨hx1, hy1⟩ := h1.one; obtain ⟨hx2, hy2⟩ := h2.one
 have hu2 : ∀ W : World, w.heap.size + 3 ≤ W.heap.size → Up (SX S [w.heap.size + 2]) W := fun W hW => SX.up (hu.mono (by omega)) (by simp <;> omega)
 refine enter (args := [.agg #[.bool n1, .slice a1 l1 c1, .bool n2, .slice a2 l2 c2], .agg #[.bool n3, .slice a3 l3 c3, .bool n4, .slice a4 l4 c4]]) Tryz.func182 rfl rfl (Nat.le_of_ble_eq_true rfl) ?_
 refine V.seq (V.reg rfl ?_)
 refine vo ?_
 refine bxa rfl ?_
 intro W1 x2 b3 nn4
 have s5 := x2.sz
 have z6 := x2
 refine vo ?_
 refine bxa rfl ?_
 intro W7 x8 b9 nn10
 have s11 := x8.sz
 have z12 := z6.trans x8
 replace b3 := b3.ext x8
 refine vo ?_
 refine xal zc144 ?_
 intro W13 x14 b15 nn16
 have s17 := x14.sz
 have z18 := z12.trans x14
 replace b3 := b3.ext x14
 replace b9 := b9.ext x14
 refine vnil ?_
 refine V.seq (V.regD mixed rfl ?_)
 intro W19 x20
 have s21 := x20.sz
 have z22 := z18.trans x20
 replace b3 := b3.ext x20
 replace b9 := b9.ext x20
 replace b15 := b15.ext x20
 have q23 := Ext.refl W19
 have r24 := b3
 have r25 := b9
 have r26 := b15
 refine tk 0 rfl (by kernel_rfl) q23 (pv (fun _ y27 => rfa rfl fd144_0)) ?_
 refine tk 1 rfl (by kernel_rfl) q23 (pv (fun _ y28 => rldb2 rfl ag46 (r24.ext y28) rfl rfl )) ?_
 refine tk 2 rfl (by kernel_rfl) q23 (pv (fun _ y29 => rfa rfl fd144_1)) ?_
 refine tk 3 rfl (by kernel_rfl) q23 (pv (fun _ y30 => rldb2 rfl ag46 (r25.ext y30) rfl rfl )) ?_
 refine tk 5 rfl (by kernel_rfl) q23 (pv (fun _ y31 => rfa rfl fd144_0)) ?_
 refine tk 6 rfl (by kernel_rfl) q23 (pv (fun _ y32 => rldb2 rfl ag46 (r25.ext y32) rfl rfl )) ?_
 refine tk 7 rfl (by kernel_rfl) q23 (pv (fun _ y33 => rfa rfl fd144_1)) ?_
 refine tk 8 rfl (by kernel_rfl) q23 (pv (fun _ y34 => rldb2 rfl ag46 (r24.ext y34) rfl rfl )) ?_
 refine tk 11 rfl (by kernel_rfl) q23 (pv (fun _ y35 => rfa rfl fd144_1)) ?_
 refine tk 12 rfl (by kernel_rfl) q23 (pv (fun _ y36 => rldb2 rfl ag46 (r24.ext y36) rfl rfl )) ?_
 refine tk 13 rfl (by kernel_rfl) q23 (pv (fun _ y37 => rfa rfl fd144_1)) ?_
 refine tk 14 rfl (by kernel_rfl) q23 (pv (fun _ y38 => rldb2 rfl ag46 (r25.ext y38) rfl rfl )) ?_
 refine ef 4 (by kernel_rfl) rfl ?_
 refine xcall e179 (wMul_ok _ _ _ _ _ _ _ _ _ _ _ _ _ _ _ _ (hx1.ext z22) (hy2.ext z22) (by omega) (by omega) (hu2 _ (by omega))) rfl rfl ?_
 rintro _ W40 ⟨_, _, _, _, rfl, x41, hz39⟩
 have s42 := x41.sz
 have z43 := z22.trans x41
 replace b15 := b15.ext x41
 have q44 := q23.trans x41
 refine ⟨_, rfl, ?_⟩
 refine ⟨fun _ => q44, ?_⟩
 refine ef 9 (by kernel_rfl) rfl ?_
 have hm1 := (hz39).za_mul hx1 hy2
 refine xcall e179 (wMul_ok _ _ _ _ _ _ _ _ _ _ _ _ _ _ _ _ (hx2.ext z43) (hy1.ext z43) (by omega) (by omega) (hu2 _ (by omega))) rfl rfl ?_
 rintro _ W46 ⟨_, _, _, _, rfl, x47, hz45⟩
 have s48 := x47.sz
 have z49 := z43.trans x47
 replace b15 := b15.ext x47
 have q50 := q44.trans x47
 refine ⟨_, rfl, ?_⟩
 refine ⟨fun _ => q50, ?_⟩
 refine ef 10 (by kernel_rfl) rfl ?_
 have hm2 := (hz45).za_mul hx2 hy1
 refine xcall e183 (wSub_ok _ _ _ _ _ _ _ _ _ _ _ _ _ _ _ _ (hm1.ext x47) hm2 (by omega) (by omega) (hu2 _ (by omega))) rfl rfl ?_
 rintro _ W52 ⟨_, _, _, _, rfl, x53, hz51⟩
 have s54 := x53.sz
 have z55 := z49.trans x53
 replace b15 := b15.ext x53
 have q56 := q50.trans x53
 refine ⟨_, rfl, ?_⟩
 refine ⟨fun _ => q56, ?_⟩
 refine ef 15 (by kernel_rfl) rfl ?_
 have hs := ((hz51).za_add (L := L1 + L2) (hm1.lt) (by rw [Nat.add_comm]; exact hm2.lt) (.inr rfl))
 refine xcall e179 (wMul_ok _ _ _ _ _ _ _ _ _ _ _ _ _ _ _ _ (hy1.ext z55) (hy2.ext z55) (by omega) (by omega) (hu2 _ (by omega))) rfl rfl ?_
 rintro _ W58 ⟨_, _, _, _, rfl, x59, hz57⟩
 have s60 := x59.sz
 have z61 := z55.trans x59
 replace b15 := b15.ext x59
 have q62 := q56.trans x59
 refine ⟨_, rfl, ?_⟩
 refine ⟨fun _ => q62, ?_⟩
 refine tk 16 rfl (by kernel_rfl) q62 (pv (fun _ y63 => rbd (ps := [(0, .agg #[_, _]), (1, .agg #[_, _])]) (cs := [.bool _, .slice _ _ _, .bool _, .slice _ _ _]) pl144 rfl rfl)) ?_
 refine ef 17 (by kernel_rfl) rfl ?_
 have hm3 := ((hz57).za_mul hy1 hy2).mono (L' := L1 + L2 + 1) (by omega)
 refine sta (cs' := [_, _, _, _]) b15 rfl rfl sz144 rfl rfl rfl ?_
 intro W64 y65 b15
 have z66 := z61.below (y65.below (by omega))
 have s67 := y65.size
 refine lastT (by kernel_rfl) ?_
 refine dn (by kernel_rfl) ?_
 refine V.ret ?_
 refine ⟨[_], ⟨⟨_, rfl, lvb ag144 b15 rfl⟩, trivial⟩, ?_⟩
 exact ⟨_, rfl, z66, (PA.mk' ((hs.ck ((x59.ck _).trans (y65.ck (by intro hh; first | (simp [SX] at hh <;> omega) | omega))))) ((hm3.ck (y65.ck (by intro hh; first | (simp [SX] at hh <;> omega) | omega))))).un⟩
set_option maxHeartbeats 400000 in
theorem mulP_ok (q1 q2 : List Value) (x1 y1 x2 y2 : Int) (L1 L2 : Nat) (S S1 S2 : Nat → Prop) (w : World) (h1 : PA L1 S1 w q1 x1 y1) (h2 : PA L2 S2 w q2 x2 y2) (hL : L1 + L2 < LY) (hl1 : 1 ≤ L1) (hl2 : 1 ≤ L2) (hu : Up S w) :
    Calls Tryz.prog 184 #[.agg q1.toArray, .agg q2.toArray] w (fun e w' => ∃ p, e = .returned (.agg p.toArray) ∧ Ext w w' ∧ PA (L1 + L2 + 1) S w' p (x1 * x2) (y1 * y2)) := by
 have z0 := Ext.refl w; have hLX : LX = 17592186044416 := rfl; have hLY : LY = 8796093022208 := rfl
 obtain ⟨n1, a1, l1, c1, n2, a2, l2, c2, rfl⟩ := h1.form; obtain ⟨n3, a3, l3, c3, n4, a4, l4, c4, rfl⟩ := h2.form
 obtain ⟨hx1, hy1⟩ := h1.one; obtain ⟨hx2, hy2⟩ := h2.one
 have hu2 : ∀ W : World, w.heap.size + 3 ≤ W.heap.size → Up (SX S [w.heap.size + 2]) W := fun W hW => SX.up (hu.mono (by omega)) (by simp <;> omega)
 refine enter (args := [.agg #[.bool n1, .slice a1 l1 c1, .bool n2, .slice a2 l2 c2], .agg #[.bool n3, .slice a3 l3 c3, .bool n4, .slice a4 l4 c4]]) Tryz.func184 rfl rfl (Nat.le_of_ble_eq_true rfl) ?_
 refine V.seq (V.reg rfl ?_)
 refine vo ?_
 refine bxa rfl ?_
 intro W1 x2 b3 nn4
 have s5 := x2.sz
 have z6 := x2
 refine vo ?_
 refine bxa rfl ?_
 intro W7 x8 b9 nn10
 have s11 := x8.sz
 have z12 := z6.trans x8
 replace b3 := b3.ext x8
 refine vo ?_
 refine xal zc144 ?_
 intro W13 x14 b15 nn16
 have s17 := x14.sz
 have z18 := z12.trans x14
 replace b3 := b3.ext x14
 replace b9 := b9.ext x14
 refine vnil ?_
 refine V.seq (V.regD mixed rfl ?_)
 intro W19 x20
 have s21 := x20.sz
 have z22 := z18.trans x20
 replace b3 := b3.ext x20
 replace b9 := b9.ext x20
 replace b15 := b15.ext x20
 have q23 := Ext.refl W19
 have r24 := b3
 have r25 := b9
 have r26 := b15
 refine tk 0 rfl (by kernel_rfl) q23 (pv (fun _ y27 => rfa rfl fd144_0)) ?_
 refine tk 1 rfl (by kernel_rfl) q23 (pv (fun _ y28 => rldb2 rfl ag46 (r24.ext y28) rfl rfl )) ?_
 refine tk 2 rfl (by kernel_rfl) q23 (pv (fun _ y29 => rfa rfl fd144_0)) ?_
 refine tk 3 rfl (by kernel_rfl) q23 (pv (fun _ y30 => rldb2 rfl ag46 (r25.ext y30) rfl rfl )) ?_
 refine tk 5 rfl (by kernel_rfl) q23 (pv (fun _ y31 => rfa rfl fd144_1)) ?_
 refine tk 6 rfl (by kernel_rfl) q23 (pv (fun _ y32 => rldb2 rfl ag46 (r24.ext y32) rfl rfl )) ?_
 refine tk 7 rfl (by kernel_rfl) q23 (pv (fun _ y33 => rfa rfl fd144_1)) ?_
 refine tk 8 rfl (by kernel_rfl) q23 (pv (fun _ y34 => rldb2 rfl ag46 (r25.ext y34) rfl rfl )) ?_
 refine ef 4 (by kernel_rfl) rfl ?_
 refine xcall e179 (wMul_ok _ _ _ _ _ _ _ _ _ _ _ _ _ _ _ _ (hx1.ext z22) (hx2.ext z22) (by omega) (by omega) (hu2 _ (by omega))) rfl rfl ?_
 rintro _ W36 ⟨_, _, _, _, rfl, x37, hz35⟩
 have s38 := x37.sz
 have z39 := z22.trans x37
 replace b15 := b15.ext x37
 have q40 := q23.trans x37
 refine ⟨_, rfl, ?_⟩
 refine ⟨fun _ => q40, ?_⟩
 refine ef 9 (by kernel_rfl) rfl ?_
 have hm1 := ((hz35).za_mul hx1 hx2).mono (L' := L1 + L2 + 1) (by omega)
 refine xcall e179 (wMul_ok _ _ _ _ _ _ _ _ _ _ _ _ _ _ _ _ (hy1.ext z39) (hy2.ext z39) (by omega) (by omega) (hu2 _ (by omega))) rfl rfl ?_
 rintro _ W42 ⟨_, _, _, _, rfl, x43, hz41⟩
 have s44 := x43.sz
 have z45 := z39.trans x43
 replace b15 := b15.ext x43
 have q46 := q40.trans x43
 refine ⟨_, rfl, ?_⟩
 refine ⟨fun _ => q46, ?_⟩
 refine tk 10 rfl (by kernel_rfl) q46 (pv (fun _ y47 => rbd (ps := [(0, .agg #[_, _]), (1, .agg #[_, _])]) (cs := [.bool _, .slice _ _ _, .bool _, .slice _ _ _]) pl144 rfl rfl)) ?_
 refine ef 11 (by kernel_rfl) rfl ?_
 have hm3 := ((hz41).za_mul hy1 hy2).mono (L' := L1 + L2 + 1) (by omega)
 refine sta (cs' := [_, _, _, _]) b15 rfl rfl sz144 rfl rfl rfl ?_
 intro W48 y49 b15
 have z50 := z45.below (y49.below (by omega))
 have s51 := y49.size
 refine lastT (by kernel_rfl) ?_
 refine dn (by kernel_rfl) ?_
 refine V.ret ?_
 refine ⟨[_], ⟨⟨_, rfl, lvb ag144 b15 rfl⟩, trivial⟩, ?_⟩
 exact ⟨_, rfl, z50, (PA.mk' ((hm1.ck ((x43.ck _).trans (y49.ck (by intro hh; first | (simp [SX] at hh <;> omega) | omega))))) ((hm3.ck (y49.ck (by intro hh; first | (simp [SX] at hh <;> omega) | omega))))).un⟩
set_option maxHeartbeats 400000 in
theorem divP_ok (q1 q2 : List Value) (x1 y1 x2 y2 : Int) (L1 L2 : Nat) (S S1 S2 : Nat → Prop) (w : World) (h1 : PA L1 S1 w q1 x1 y1) (h2 : PA L2 S2 w q2 x2 y2) (hL : L1 + L2 < LY) (hl1 : 1 ≤ L1) (hl2 : 1 ≤ L2) (hu : Up S w) :
    Calls Tryz.prog 185 #[.agg q1.toArray, .agg q2.toArray] w (fun e w' => ∃ p, e = .returned (.agg p.toArray) ∧ Ext w w' ∧ ∃ x y, PA (L1 + L2) S w' p x y ∧ 0 < y ∧ qv (x1 * y2) (y1 * x2) = Rat.divInt x y) := by
 have z0 := Ext.refl w; have hLX : LX = 17592186044416 := rfl; have hLY : LY = 8796093022208 := rfl
 obtain ⟨n1, a1, l1, c1, n2, a2, l2, c2, rfl⟩ := h1.form; obtain ⟨n3, a3, l3, c3, n4, a4, l4, c4, rfl⟩ := h2.form
 obtain ⟨hx1, hy1⟩ := h1.one; obtain ⟨hx2, hy2⟩ := h2.one
 have hu2 : ∀ W : World, w.heap.size + 3 ≤ W.heap.size → Up (SX S [w.heap.size + 2]) W := fun W hW => SX.up (hu.mono (by omega)) (by simp <;> omega)
 refine enter (args := [.agg #[.bool n1, .slice a1 l1 c1, .bool n2, .slice a2 l2 c2], .agg #[.bool n3, .slice a3 l3 c3, .bool n4, .slice a4 l4 c4]]) Tryz.func185 rfl rfl (Nat.le_of_ble_eq_true rfl) ?_
 refine V.seq (V.reg rfl ?_)
 refine vo ?_
 refine bxa rfl ?_
 intro W1 x2 b3 nn4
 have s5 := x2.sz
 have z6 := x2
 refine vo ?_
 refine bxa rfl ?_
 intro W7 x8 b9 nn10
 have s11 := x8.sz
 have z12 := z6.trans x8
 replace b3 := b3.ext x8
 refine vo ?_
 refine xal zc144 ?_
 intro W13 x14 b15 nn16
 have s17 := x14.sz
 have z18 := z12.trans x14
 replace b3 := b3.ext x14
 replace b9 := b9.ext x14
 refine vnil ?_
 refine V.seq (V.regD mixed rfl ?_)
 intro W19 x20
 have s21 := x20.sz
 have z22 := z18.trans x20
 replace b3 := b3.ext x20
 replace b9 := b9.ext x20
 replace b15 := b15.ext x20
 have q23 := Ext.refl W19
 have r24 := b3
 have r25 := b9
 have r26 := b15
 refine tk 0 rfl (by kernel_rfl) q23 (pv (fun _ y27 => rfa rfl fd144_0)) ?_
 refine tk 1 rfl (by kernel_rfl) q23 (pv (fun _ y28 => rldb2 rfl ag46 (r24.ext y28) rfl rfl )) ?_
 refine tk 2 rfl (by kernel_rfl) q23 (pv (fun _ y29 => rfa rfl fd144_1)) ?_
 refine tk 3 rfl (by kernel_rfl) q23 (pv (fun _ y30 => rldb2 rfl ag46 (r25.ext y30) rfl rfl )) ?_
 refine tk 5 rfl (by kernel_rfl) q23 (pv (fun _ y31 => rfa rfl fd144_1)) ?_
 refine tk 6 rfl (by kernel_rfl) q23 (pv (fun _ y32 => rldb2 rfl ag46 (r24.ext y32) rfl rfl )) ?_
 refine tk 7 rfl (by kernel_rfl) q23 (pv (fun _ y33 => rfa rfl fd144_0)) ?_
 refine tk 8 rfl (by kernel_rfl) q23 (pv (fun _ y34 => rldb2 rfl ag46 (r25.ext y34) rfl rfl )) ?_
 refine ef 4 (by kernel_rfl) rfl ?_
 refine xcall e179 (wMul_ok _ _ _ _ _ _ _ _ _ _ _ _ _ _ _ _ (hx1.ext z22) (hy2.ext z22) (by omega) (by omega) (hu2 _ (by omega))) rfl rfl ?_
 rintro _ W36 ⟨_, _, _, _, rfl, x37, hz35⟩
 have s38 := x37.sz
 have z39 := z22.trans x37
 replace b15 := b15.ext x37
 have q40 := q23.trans x37
 refine ⟨_, rfl, ?_⟩
 refine ⟨fun _ => q40, ?_⟩
 refine ef 9 (by kernel_rfl) rfl ?_
 have hm1 := (hz35).za_mul hx1 hy2
 refine xcall e179 (wMul_ok _ _ _ _ _ _ _ _ _ _ _ _ _ _ _ _ (hy1.ext z39) (hx2.ext z39) (by omega) (by omega) (hu2 _ (by omega))) rfl rfl ?_
 rintro _ W42 ⟨_, _, _, _, rfl, x43, hz41⟩
 have s44 := x43.sz
 have z45 := z39.trans x43
 replace b15 := b15.ext x43
 have q46 := q40.trans x43
 refine ⟨_, rfl, ?_⟩
 refine ⟨fun _ => q46, ?_⟩
 refine tk 10 rfl (by kernel_rfl) q46 (pv (fun _ y47 => rbd (ps := [(0, .agg #[_, _]), (1, .agg #[_, _])]) (cs := [.bool _, .slice _ _ _, .bool _, .slice _ _ _]) pl48 rfl rfl)) ?_
 refine ef 11 (by kernel_rfl) rfl ?_
 have hm3 := (hz41).za_mul hy1 hx2
 have hqd := QA.mk2 (hm1.ext x43) hm3
 refine xcall e139 (of_ok _ _ _ _ _ hqd (by omega) (by omega) (hu2 _ (by omega))) rfl rfl ?_
 rintro _ W55 ⟨_, rfl, x56, px49, py50, hp48, pp51, pe52⟩
 have s57 := x56.sz
 have z58 := z45.trans x56
 replace b15 := b15.ext x56
 have q59 := q46.trans x56
 obtain ⟨_, _, _, _, _, _, _, _, rfl⟩ := hp48.form
 obtain ⟨zx53, zy54⟩ := hp48.one
 refine ⟨_, rfl, ?_⟩
 refine ⟨fun _ => q59, ?_⟩
 refine ef 12 (by kernel_rfl) rfl ?_
 refine sta (cs' := [_, _, _, _]) b15 rfl rfl sz144 rfl rfl rfl ?_
 intro W60 y61 b15
 have z62 := z58.below (y61.below (by omega))
 have s63 := y61.size
 refine lastT (by kernel_rfl) ?_
 refine dn (by kernel_rfl) ?_
 refine V.ret ?_
 refine ⟨[_], ⟨⟨_, rfl, lvb ag144 b15 rfl⟩, trivial⟩, ?_⟩
 exact ⟨_, rfl, z62, _, _, ((hp48.ck (y61.ck (by intro hh; first | (simp [SX] at hh <;> omega) | omega)))).un, pp51, pe52⟩
set_option maxHeartbeats 400000 in
theorem dAdd_ok (q1 q2 : List Value) (r1 r2 : Rat) (L1 L2 : Nat) (S S1 S2 : Nat → Prop) (w : World) (h1 : QA L1 S1 w q1 r1) (h2 : QA L2 S2 w q2 r2) (hL : L1 + L2 < LY) (hl1 : 1 ≤ L1) (hl2 : 1 ≤ L2) (hu : Up S w) :
    Calls Tryz.prog 144 #[.string ⟨#[97, 100, 100]⟩, .agg q1.toArray, .agg q2.toArray] w (PQ S (r1 + r2) w) := by
 have z0 := Ext.refl w; have hLX : LX = 17592186044416 := rfl; have hLY : LY = 8796093022208 := rfl
 obtain ⟨n1, a1, l1, c1, n2, a2, l2, c2, rfl⟩ := h1.form; obtain ⟨n3, a3, l3, c3, n4, a4, l4, c4, rfl⟩ := h2.form
 have h1n := h1.sub (S' := fun b => b ≠ w.heap.size + 2) (fun b hb _ => by omega); have h2n := h2.sub (S' := fun b => b ≠ w.heap.size + 2) (fun b hb _ => by omega)
 have hu2 : ∀ W : World, w.heap.size + 3 ≤ W.heap.size → Up (SX S [w.heap.size + 2]) W := fun W hW => SX.up (hu.mono (by omega)) (by simp <;> omega)
 refine enter (args := [.string ⟨#[97, 100, 100]⟩, .agg #[.bool n1, .slice a1 l1 c1, .bool n2, .slice a2 l2 c2], .agg #[.bool n3, .slice a3 l3 c3, .bool n4, .slice a4 l4 c4]]) Tryz.func144 rfl rfl (Nat.le_of_ble_eq_true rfl) ?_
 refine V.seq (V.reg rfl ?_)
 refine vo ?_
 refine bxa rfl ?_
 intro W1 x2 b3 nn4
 have s5 := x2.sz
 have z6 := x2
 refine vo ?_
 refine bxa rfl ?_
 intro W7 x8 b9 nn10
 have s11 := x8.sz
 have z12 := z6.trans x8
 replace b3 := b3.ext x8
 refine vo ?_
 refine xal zc48 ?_
 intro W13 x14 b15 nn16
 have s17 := x14.sz
 have z18 := z12.trans x14
 replace b3 := b3.ext x14
 replace b9 := b9.ext x14
 refine vnil ?_
 refine V.seq (V.reg rfl ?_)
 refine vo ?_
 refine xmm ?_
 intro W19 x20 m21 n22
 have s23 := x20.sz
 have z24 := z18.trans x20
 replace b3 := b3.ext x20
 replace b9 := b9.ext x20
 replace b15 := b15.ext x20
 refine vv (rbd (ps := [(0, .func _ _ _)]) (cs := [.func _ _ _]) pl179 rfl rfl) ?_
 refine vo ?_
 refine xins (v := .agg #[_]) m21 rfl rfl rfl Tryz.underlying180 Tryz.underlying9 rfl ?_
 intro W25 n26 t27 M28 n29
 have z30 := t27.ext z24 (by omega)
 replace b3 := b3.tn t27
 replace b9 := b9.tn t27
 replace b15 := b15.tn t27
 refine vv (rbd (ps := [(0, .func _ _ _)]) (cs := [.func _ _ _]) pl179 rfl rfl) ?_
 refine vo ?_
 refine xins (v := .agg #[_]) M28 rfl rfl rfl Tryz.underlying180 Tryz.underlying9 rfl ?_
 intro W31 n32 t33 M34 n35
 have z36 := t33.ext z30 (by omega)
 replace b3 := b3.tn t33
 replace b9 := b9.tn t33
 replace b15 := b15.tn t33
 refine vv (rbd (ps := [(0, .func _ _ _)]) (cs := [.func _ _ _]) pl179 rfl rfl) ?_
 refine vo ?_
 refine xins (v := .agg #[_]) M34 rfl rfl rfl Tryz.underlying180 Tryz.underlying9 rfl ?_
 intro W37 n38 t39 M40 n41
 have z42 := t39.ext z36 (by omega)
 replace b3 := b3.tn t39
 replace b9 := b9.tn t39
 replace b15 := b15.tn t39
 refine vv (rbd (ps := [(0, .func _ _ _)]) (cs := [.func _ _ _]) pl179 rfl rfl) ?_
 refine vo ?_
 refine xins (v := .agg #[_]) M40 rfl rfl rfl Tryz.underlying180 Tryz.underlying9 rfl ?_
 intro W43 n44 t45 M46 n47
 have z48 := t45.ext z42 (by omega)
 replace b3 := b3.tn t45
 replace b9 := b9.tn t45
 replace b15 := b15.tn t45
 refine vv (rmv (v := .map (some _)) rfl) ?_
 refine vv (ras (v := .map (some _)) rfl) ?_
 refine vnil ?_
 refine V.seq (V.regD mixed rfl ?_)
 intro W49 x50
 have s51 := x50.sz
 have z52 := z48.trans x50
 replace b3 := b3.ext x50
 replace b9 := b9.ext x50
 replace b15 := b15.ext x50
 have M46' := M46.ext x50
 have q53 := Ext.refl W49
 have r54 := b3
 have r55 := b9
 have r56 := b15
 refine tk 0 rfl (by kernel_rfl) q53 (pv (fun _ y57 => rmv (v := .map (some _)) rfl)) ?_
 refine tk 1 rfl (by kernel_rfl) q53 (pv (fun _ y58 => rmv (v := .string _) rfl)) ?_
 refine tk 2 rfl (by kernel_rfl) q53 (pv (fun _ y59 => rlk (v := .agg #[.func _ _ _]) (M46'.ext y59) rfl rfl Tryz.underlying180 Tryz.underlying9 rfl)) ?_
 refine tk 3 rfl (by kernel_rfl) q53 (pv (fun _ y60 => rfl1 (l := [_]) (v := .func _ _ _) rfl fd179_0 ⟨_, _, Tryz.underlying179, rfl, sc177⟩ rfl)) ?_
 refine tk 4 rfl (by kernel_rfl) q53 (pv (fun _ y61 => rldb4 rfl ag48 (r54.ext y61) rfl rfl rfl rfl )) ?_
 refine tk 6 rfl (by kernel_rfl) q53 (pv (fun _ y62 => rldb4 rfl ag48 (r55.ext y62) rfl rfl rfl rfl )) ?_
 refine ef 5 (by kernel_rfl) rfl ?_
 refine xcall e139 (of_ok _ _ _ _ _ (h1n.ext z52) (by omega) (by omega) (fun b hb => by omega)) rfl rfl ?_
 rintro _ W70 ⟨_, rfl, x71, px64, py65, hp63, pp66, pe67⟩
 have s72 := x71.sz
 have z73 := z52.trans x71
 replace b15 := b15.ext x71
 have M46'' := M46'.ext x71
 have q74 := q53.trans x71
 obtain ⟨_, _, _, _, _, _, _, _, rfl⟩ := hp63.form
 obtain ⟨zx68, zy69⟩ := hp63.one
 refine ⟨_, rfl, ?_⟩
 refine ⟨fun _ => q74, ?_⟩
 refine ef 7 (by kernel_rfl) rfl ?_
 refine xcall e139 (of_ok _ _ _ _ _ (h2n.ext z73) (by omega) (by omega) (fun b hb => by omega)) rfl rfl ?_
 rintro _ W82 ⟨_, rfl, x83, px76, py77, hp75, pp78, pe79⟩
 have s84 := x83.sz
 have z85 := z73.trans x83
 replace b15 := b15.ext x83
 have M46''' := M46''.ext x83
 have q86 := q74.trans x83
 obtain ⟨_, _, _, _, _, _, _, _, rfl⟩ := hp75.form
 obtain ⟨zx80, zy81⟩ := hp75.one
 refine ⟨_, rfl, ?_⟩
 refine ⟨fun _ => q86, ?_⟩
 refine ef 8 (by kernel_rfl) rfl ?_
 refine xcall e180 (addP_ok _ _ _ _ _ _ _ _ _ _ _ _ (hp63.ext x83) hp75 (by omega) (by omega) (by omega) (hu2 _ (by omega))) rfl rfl ?_
 rintro _ W88 ⟨_, rfl, x89, hp87⟩
 have s90 := x89.sz
 have z91 := z85.trans x89
 replace b15 := b15.ext x89
 have M46'''' := M46'''.ext x89
 have q92 := q86.trans x89
 obtain ⟨_, _, _, _, _, _, _, _, rfl⟩ := hp87.form
 refine ⟨_, rfl, ?_⟩
 refine ⟨fun _ => q92, ?_⟩
 refine ef 9 (by kernel_rfl) rfl ?_
 refine xcall e153 (least_ok _ _ _ _ _ _ _ hp87 (Int.mul_pos pp66 pp78) (by omega) (by omega) (hu2 _ (by omega))) rfl rfl ?_
 rintro _ W94 ⟨_, rfl, x95, hq93⟩
 have s96 := x95.sz
 have z97 := z91.trans x95
 replace b15 := b15.ext x95
 have M46''''' := M46''''.ext x95
 have q98 := q92.trans x95
 obtain ⟨_, _, _, _, _, _, _, _, rfl⟩ := hq93.form
 refine ⟨_, rfl, ?_⟩
 refine ⟨fun _ => q98, ?_⟩
 refine ef 10 (by kernel_rfl) rfl ?_
 refine sta (cs' := [_, _, _, _]) b15 rfl rfl sz48 rfl rfl rfl ?_
 intro W99 y100 b15
 have z101 := z97.below (y100.below (by omega))
 have s102 := y100.size
 refine lastT (by kernel_rfl) ?_
 refine dn (by kernel_rfl) ?_
 refine V.ret ?_
 refine ⟨[_], ⟨⟨_, rfl, lvb ag48 b15 rfl⟩, trivial⟩, ?_⟩
 refine ⟨_, rfl, z101, ((hq93.ck (y100.ck (by intro hh; first | (simp [SX] at hh <;> omega) | omega)))).un.cast ?_⟩
 rw [pe67, pe79, Rat.divInt_add_divInt _ _ (by have := pp66; omega) (by have := pp78; omega)]
set_option maxHeartbeats 400000 in
theorem dSub_ok (q1 q2 : List Value) (r1 r2 : Rat) (L1 L2 : Nat) (S S1 S2 : Nat → Prop) (w : World) (h1 : QA L1 S1 w q1 r1) (h2 : QA L2 S2 w q2 r2) (hL : L1 + L2 < LY) (hl1 : 1 ≤ L1) (hl2 : 1 ≤ L2) (hu : Up S w) :
    Calls Tryz.prog 144 #[.string ⟨#[115, 117, 98]⟩, .agg q1.toArray, .agg q2.toArray] w (PQ S (r1 - r2) w) := by
 have z0 := Ext.refl w; have hLX : LX = 17592186044416 := rfl; have hLY : LY = 8796093022208 := rfl
 obtain ⟨n1, a1, l1, c1, n2, a2, l2, c2, rfl⟩ := h1.form; obtain ⟨n3, a3, l3, c3, n4, a4, l4, c4, rfl⟩ := h2.form
 have h1n := h1.sub (S' := fun b => b ≠ w.heap.size + 2) (fun b hb _ => by omega); have h2n := h2.sub (S' := fun b => b ≠ w.heap.size + 2) (fun b hb _ => by omega)
 have hu2 : ∀ W : World, w.heap.size + 3 ≤ W.heap.size → Up (SX S [w.heap.size + 2]) W := fun W hW => SX.up (hu.mono (by omega)) (by simp <;> omega)
 refine enter (args := [.string ⟨#[115, 117, 98]⟩, .agg #[.bool n1, .slice a1 l1 c1, .bool n2, .slice a2 l2 c2], .agg #[.bool n3, .slice a3 l3 c3, .bool n4, .slice a4 l4 c4]]) Tryz.func144 rfl rfl (Nat.le_of_ble_eq_true rfl) ?_
 refine V.seq (V.reg rfl ?_)
 refine vo ?_
 refine bxa rfl ?_
 intro W1 x2 b3 nn4
 have s5 := x2.sz
 have z6 := x2
 refine vo ?_
 refine bxa rfl ?_
 intro W7 x8 b9 nn10
 have s11 := x8.sz
 have z12 := z6.trans x8
 replace b3 := b3.ext x8
 refine vo ?_
 refine xal zc48 ?_
 intro W13 x14 b15 nn16
 have s17 := x14.sz
 have z18 := z12.trans x14
 replace b3 := b3.ext x14
 replace b9 := b9.ext x14
 refine vnil ?_
 refine V.seq (V.reg rfl ?_)
 refine vo ?_
 refine xmm ?_
 intro W19 x20 m21 n22
 have s23 := x20.sz
 have z24 := z18.trans x20
 replace b3 := b3.ext x20
 replace b9 := b9.ext x20
 replace b15 := b15.ext x20
 refine vv (rbd (ps := [(0, .func _ _ _)]) (cs := [.func _ _ _]) pl179 rfl rfl) ?_
 refine vo ?_
 refine xins (v := .agg #[_]) m21 rfl rfl rfl Tryz.underlying180 Tryz.underlying9 rfl ?_
 intro W25 n26 t27 M28 n29
 have z30 := t27.ext z24 (by omega)
 replace b3 := b3.tn t27
 replace b9 := b9.tn t27
 replace b15 := b15.tn t27
 refine vv (rbd (ps := [(0, .func _ _ _)]) (cs := [.func _ _ _]) pl179 rfl rfl) ?_
 refine vo ?_
 refine xins (v := .agg #[_]) M28 rfl rfl rfl Tryz.underlying180 Tryz.underlying9 rfl ?_
 intro W31 n32 t33 M34 n35
 have z36 := t33.ext z30 (by omega)
 replace b3 := b3.tn t33
 replace b9 := b9.tn t33
 replace b15 := b15.tn t33
 refine vv (rbd (ps := [(0, .func _ _ _)]) (cs := [.func _ _ _]) pl179 rfl rfl) ?_
 refine vo ?_
 refine xins (v := .agg #[_]) M34 rfl rfl rfl Tryz.underlying180 Tryz.underlying9 rfl ?_
 intro W37 n38 t39 M40 n41
 have z42 := t39.ext z36 (by omega)
 replace b3 := b3.tn t39
 replace b9 := b9.tn t39
 replace b15 := b15.tn t39
 refine vv (rbd (ps := [(0, .func _ _ _)]) (cs := [.func _ _ _]) pl179 rfl rfl) ?_
 refine vo ?_
 refine xins (v := .agg #[_]) M40 rfl rfl rfl Tryz.underlying180 Tryz.underlying9 rfl ?_
 intro W43 n44 t45 M46 n47
 have z48 := t45.ext z42 (by omega)
 replace b3 := b3.tn t45
 replace b9 := b9.tn t45
 replace b15 := b15.tn t45
 refine vv (rmv (v := .map (some _)) rfl) ?_
 refine vv (ras (v := .map (some _)) rfl) ?_
 refine vnil ?_
 refine V.seq (V.regD mixed rfl ?_)
 intro W49 x50
 have s51 := x50.sz
 have z52 := z48.trans x50
 replace b3 := b3.ext x50
 replace b9 := b9.ext x50
 replace b15 := b15.ext x50
 have M46' := M46.ext x50
 have q53 := Ext.refl W49
 have r54 := b3
 have r55 := b9
 have r56 := b15
 refine tk 0 rfl (by kernel_rfl) q53 (pv (fun _ y57 => rmv (v := .map (some _)) rfl)) ?_
 refine tk 1 rfl (by kernel_rfl) q53 (pv (fun _ y58 => rmv (v := .string _) rfl)) ?_
 refine tk 2 rfl (by kernel_rfl) q53 (pv (fun _ y59 => rlk (v := .agg #[.func _ _ _]) (M46'.ext y59) rfl rfl Tryz.underlying180 Tryz.underlying9 rfl)) ?_
 refine tk 3 rfl (by kernel_rfl) q53 (pv (fun _ y60 => rfl1 (l := [_]) (v := .func _ _ _) rfl fd179_0 ⟨_, _, Tryz.underlying179, rfl, sc177⟩ rfl)) ?_
 refine tk 4 rfl (by kernel_rfl) q53 (pv (fun _ y61 => rldb4 rfl ag48 (r54.ext y61) rfl rfl rfl rfl )) ?_
 refine tk 6 rfl (by kernel_rfl) q53 (pv (fun _ y62 => rldb4 rfl ag48 (r55.ext y62) rfl rfl rfl rfl )) ?_
 refine ef 5 (by kernel_rfl) rfl ?_
 refine xcall e139 (of_ok _ _ _ _ _ (h1n.ext z52) (by omega) (by omega) (fun b hb => by omega)) rfl rfl ?_
 rintro _ W70 ⟨_, rfl, x71, px64, py65, hp63, pp66, pe67⟩
 have s72 := x71.sz
 have z73 := z52.trans x71
 replace b15 := b15.ext x71
 have M46'' := M46'.ext x71
 have q74 := q53.trans x71
 obtain ⟨_, _, _, _, _, _, _, _, rfl⟩ := hp63.form
 obtain ⟨zx68, zy69⟩ := hp63.one
 refine ⟨_, rfl, ?_⟩
 refine ⟨fun _ => q74, ?_⟩
 refine ef 7 (by kernel_rfl) rfl ?_
 refine xcall e139 (of_ok _ _ _ _ _ (h2n.ext z73) (by omega) (by omega) (fun b hb => by omega)) rfl rfl ?_
 rintro _ W82 ⟨_, rfl, x83, px76, py77, hp75, pp78, pe79⟩
 have s84 := x83.sz
 have z85 := z73.trans x83
 replace b15 := b15.ext x83
 have M46''' := M46''.ext x83
 have q86 := q74.trans x83
 obtain ⟨_, _, _, _, _, _, _, _, rfl⟩ := hp75.form
 obtain ⟨zx80, zy81⟩ := hp75.one
 refine ⟨_, rfl, ?_⟩
 refine ⟨fun _ => q86, ?_⟩
 refine ef 8 (by kernel_rfl) rfl ?_
 refine xcall e182 (subP_ok _ _ _ _ _ _ _ _ _ _ _ _ (hp63.ext x83) hp75 (by omega) (by omega) (by omega) (hu2 _ (by omega))) rfl rfl ?_
 rintro _ W88 ⟨_, rfl, x89, hp87⟩
 have s90 := x89.sz
 have z91 := z85.trans x89
 replace b15 := b15.ext x89
 have M46'''' := M46'''.ext x89
 have q92 := q86.trans x89
 obtain ⟨_, _, _, _, _, _, _, _, rfl⟩ := hp87.form
 refine ⟨_, rfl, ?_⟩
 refine ⟨fun _ => q92, ?_⟩
 refine ef 9 (by kernel_rfl) rfl ?_
 refine xcall e153 (least_ok _ _ _ _ _ _ _ hp87 (Int.mul_pos pp66 pp78) (by omega) (by omega) (hu2 _ (by omega))) rfl rfl ?_
 rintro _ W94 ⟨_, rfl, x95, hq93⟩
 have s96 := x95.sz
 have z97 := z91.trans x95
 replace b15 := b15.ext x95
 have M46''''' := M46''''.ext x95
 have q98 := q92.trans x95
 obtain ⟨_, _, _, _, _, _, _, _, rfl⟩ := hq93.form
 refine ⟨_, rfl, ?_⟩
 refine ⟨fun _ => q98, ?_⟩
 refine ef 10 (by kernel_rfl) rfl ?_
 refine sta (cs' := [_, _, _, _]) b15 rfl rfl sz48 rfl rfl rfl ?_
 intro W99 y100 b15
 have z101 := z97.below (y100.below (by omega))
 have s102 := y100.size
 refine lastT (by kernel_rfl) ?_
 refine dn (by kernel_rfl) ?_
 refine V.ret ?_
 refine ⟨[_], ⟨⟨_, rfl, lvb ag48 b15 rfl⟩, trivial⟩, ?_⟩
 refine ⟨_, rfl, z101, ((hq93.ck (y100.ck (by intro hh; first | (simp [SX] at hh <;> omega) | omega)))).un.cast ?_⟩
 rw [pe67, pe79, Rat.divInt_sub_divInt _ _ (by have := pp66; omega) (by have := pp78; omega)]
set_option maxHeartbeats 400000 in
theorem dMul_ok (q1 q2 : List Value) (r1 r2 : Rat) (L1 L2 : Nat) (S S1 S2 : Nat → Prop) (w : World) (h1 : QA L1 S1 w q1 r1) (h2 : QA L2 S2 w q2 r2) (hL : L1 + L2 < LY) (hl1 : 1 ≤ L1) (hl2 : 1 ≤ L2) (hu : Up S w) :
    Calls Tryz.prog 144 #[.string ⟨#[109, 117, 108]⟩, .agg q1.toArray, .agg q2.toArray] w (PQ S (r1 * r2) w) := by
 have z0 := Ext.refl w; have hLX : LX = 17592186044416 := rfl; have hLY : LY = 8796093022208 := rfl
 obtain ⟨n1, a1, l1, c1, n2, a2, l2, c2, rfl⟩ := h1.form; obtain ⟨n3, a3, l3, c3, n4, a4, l4, c4, rfl⟩ := h2.form
 have h1n := h1.sub (S' := fun b => b ≠ w.heap.size + 2) (fun b hb _ => by omega); have h2n := h2.sub (S' := fun b => b ≠ w.heap.size + 2) (fun b hb _ => by omega)
 have hu2 : ∀ W : World, w.heap.size + 3 ≤ W.heap.size → Up (SX S [w.heap.size + 2]) W := fun W hW => SX.up (hu.mono (by omega)) (by simp <;> omega)
 refine enter (args := [.string ⟨#[109, 117, 108]⟩, .agg #[.bool n1, .slice a1 l1 c1, .bool n2, .slice a2 l2 c2], .agg #[.bool n3, .slice a3 l3 c3, .bool n4, .slice a4 l4 c4]]) Tryz.func144 rfl rfl (Nat.le_of_ble_eq_true rfl) ?_
 refine V.seq (V.reg rfl ?_)
 refine vo ?_
 refine bxa rfl ?_
 intro W1 x2 b3 nn4
 have s5 := x2.sz
 have z6 := x2
 refine vo ?_
 refine bxa rfl ?_
 intro W7 x8 b9 nn10
 have s11 := x8.sz
 have z12 := z6.trans x8
 replace b3 := b3.ext x8
 refine vo ?_
 refine xal zc48 ?_
 intro W13 x14 b15 nn16
 have s17 := x14.sz
 have z18 := z12.trans x14
 replace b3 := b3.ext x14
 replace b9 := b9.ext x14
 refine vnil ?_
 refine V.seq (V.reg rfl ?_)
 refine vo ?_
 refine xmm ?_
 intro W19 x20 m21 n22
 have s23 := x20.sz
 have z24 := z18.trans x20
 replace b3 := b3.ext x20
 replace b9 := b9.ext x20
 replace b15 := b15.ext x20
 refine vv (rbd (ps := [(0, .func _ _ _)]) (cs := [.func _ _ _]) pl179 rfl rfl) ?_
 refine vo ?_
 refine xins (v := .agg #[_]) m21 rfl rfl rfl Tryz.underlying180 Tryz.underlying9 rfl ?_
 intro W25 n26 t27 M28 n29
 have z30 := t27.ext z24 (by omega)
 replace b3 := b3.tn t27
 replace b9 := b9.tn t27
 replace b15 := b15.tn t27
 refine vv (rbd (ps := [(0, .func _ _ _)]) (cs := [.func _ _ _]) pl179 rfl rfl) ?_
 refine vo ?_
 refine xins (v := .agg #[_]) M28 rfl rfl rfl Tryz.underlying180 Tryz.underlying9 rfl ?_
 intro W31 n32 t33 M34 n35
 have z36 := t33.ext z30 (by omega)
 replace b3 := b3.tn t33
 replace b9 := b9.tn t33
 replace b15 := b15.tn t33
 refine vv (rbd (ps := [(0, .func _ _ _)]) (cs := [.func _ _ _]) pl179 rfl rfl) ?_
 refine vo ?_
 refine xins (v := .agg #[_]) M34 rfl rfl rfl Tryz.underlying180 Tryz.underlying9 rfl ?_
 intro W37 n38 t39 M40 n41
 have z42 := t39.ext z36 (by omega)
 replace b3 := b3.tn t39
 replace b9 := b9.tn t39
 replace b15 := b15.tn t39
 refine vv (rbd (ps := [(0, .func _ _ _)]) (cs := [.func _ _ _]) pl179 rfl rfl) ?_
 refine vo ?_
 refine xins (v := .agg #[_]) M40 rfl rfl rfl Tryz.underlying180 Tryz.underlying9 rfl ?_
 intro W43 n44 t45 M46 n47
 have z48 := t45.ext z42 (by omega)
 replace b3 := b3.tn t45
 replace b9 := b9.tn t45
 replace b15 := b15.tn t45
 refine vv (rmv (v := .map (some _)) rfl) ?_
 refine vv (ras (v := .map (some _)) rfl) ?_
 refine vnil ?_
 refine V.seq (V.regD mixed rfl ?_)
 intro W49 x50
 have s51 := x50.sz
 have z52 := z48.trans x50
 replace b3 := b3.ext x50
 replace b9 := b9.ext x50
 replace b15 := b15.ext x50
 have M46' := M46.ext x50
 have q53 := Ext.refl W49
 have r54 := b3
 have r55 := b9
 have r56 := b15
 refine tk 0 rfl (by kernel_rfl) q53 (pv (fun _ y57 => rmv (v := .map (some _)) rfl)) ?_
 refine tk 1 rfl (by kernel_rfl) q53 (pv (fun _ y58 => rmv (v := .string _) rfl)) ?_
 refine tk 2 rfl (by kernel_rfl) q53 (pv (fun _ y59 => rlk (v := .agg #[.func _ _ _]) (M46'.ext y59) rfl rfl Tryz.underlying180 Tryz.underlying9 rfl)) ?_
 refine tk 3 rfl (by kernel_rfl) q53 (pv (fun _ y60 => rfl1 (l := [_]) (v := .func _ _ _) rfl fd179_0 ⟨_, _, Tryz.underlying179, rfl, sc177⟩ rfl)) ?_
 refine tk 4 rfl (by kernel_rfl) q53 (pv (fun _ y61 => rldb4 rfl ag48 (r54.ext y61) rfl rfl rfl rfl )) ?_
 refine tk 6 rfl (by kernel_rfl) q53 (pv (fun _ y62 => rldb4 rfl ag48 (r55.ext y62) rfl rfl rfl rfl )) ?_
 refine ef 5 (by kernel_rfl) rfl ?_
 refine xcall e139 (of_ok _ _ _ _ _ (h1n.ext z52) (by omega) (by omega) (fun b hb => by omega)) rfl rfl ?_
 rintro _ W70 ⟨_, rfl, x71, px64, py65, hp63, pp66, pe67⟩
 have s72 := x71.sz
 have z73 := z52.trans x71
 replace b15 := b15.ext x71
 have M46'' := M46'.ext x71
 have q74 := q53.trans x71
 obtain ⟨_, _, _, _, _, _, _, _, rfl⟩ := hp63.form
 obtain ⟨zx68, zy69⟩ := hp63.one
 refine ⟨_, rfl, ?_⟩
 refine ⟨fun _ => q74, ?_⟩
 refine ef 7 (by kernel_rfl) rfl ?_
 refine xcall e139 (of_ok _ _ _ _ _ (h2n.ext z73) (by omega) (by omega) (fun b hb => by omega)) rfl rfl ?_
 rintro _ W82 ⟨_, rfl, x83, px76, py77, hp75, pp78, pe79⟩
 have s84 := x83.sz
 have z85 := z73.trans x83
 replace b15 := b15.ext x83
 have M46''' := M46''.ext x83
 have q86 := q74.trans x83
 obtain ⟨_, _, _, _, _, _, _, _, rfl⟩ := hp75.form
 obtain ⟨zx80, zy81⟩ := hp75.one
 refine ⟨_, rfl, ?_⟩
 refine ⟨fun _ => q86, ?_⟩
 refine ef 8 (by kernel_rfl) rfl ?_
 refine xcall e184 (mulP_ok _ _ _ _ _ _ _ _ _ _ _ _ (hp63.ext x83) hp75 (by omega) (by omega) (by omega) (hu2 _ (by omega))) rfl rfl ?_
 rintro _ W88 ⟨_, rfl, x89, hp87⟩
 have s90 := x89.sz
 have z91 := z85.trans x89
 replace b15 := b15.ext x89
 have M46'''' := M46'''.ext x89
 have q92 := q86.trans x89
 obtain ⟨_, _, _, _, _, _, _, _, rfl⟩ := hp87.form
 refine ⟨_, rfl, ?_⟩
 refine ⟨fun _ => q92, ?_⟩
 refine ef 9 (by kernel_rfl) rfl ?_
 refine xcall e153 (least_ok _ _ _ _ _ _ _ hp87 (Int.mul_pos pp66 pp78) (by omega) (by omega) (hu2 _ (by omega))) rfl rfl ?_
 rintro _ W94 ⟨_, rfl, x95, hq93⟩
 have s96 := x95.sz
 have z97 := z91.trans x95
 replace b15 := b15.ext x95
 have M46''''' := M46''''.ext x95
 have q98 := q92.trans x95
 obtain ⟨_, _, _, _, _, _, _, _, rfl⟩ := hq93.form
 refine ⟨_, rfl, ?_⟩
 refine ⟨fun _ => q98, ?_⟩
 refine ef 10 (by kernel_rfl) rfl ?_
 refine sta (cs' := [_, _, _, _]) b15 rfl rfl sz48 rfl rfl rfl ?_
 intro W99 y100 b15
 have z101 := z97.below (y100.below (by omega))
 have s102 := y100.size
 refine lastT (by kernel_rfl) ?_
 refine dn (by kernel_rfl) ?_
 refine V.ret ?_
 refine ⟨[_], ⟨⟨_, rfl, lvb ag48 b15 rfl⟩, trivial⟩, ?_⟩
 refine ⟨_, rfl, z101, ((hq93.ck (y100.ck (by intro hh; first | (simp [SX] at hh <;> omega) | omega)))).un.cast ?_⟩
 rw [pe67, pe79, Rat.divInt_mul_divInt _ _]

theorem div_dv {x1 y1 x2 y2 : Int} (h1 : 0 < y1) (h2 : 0 < y2) (hn : Rat.divInt x2 y2 ≠ 0) : Rat.divInt x1 y1 / Rat.divInt x2 y2 = qv (x1 * y2) (y1 * x2) := by
  have hx : x2 ≠ 0 := by rintro rfl; exact hn (Rat.zero_divInt _)
  rw [qvn (Int.mul_ne_zero (by omega) hx), Rat.div_def, Rat.inv_divInt, Rat.divInt_mul_divInt]

set_option maxHeartbeats 400000 in
theorem dDiv_ok (q1 q2 : List Value) (r1 r2 : Rat) (L1 L2 : Nat) (S S1 S2 : Nat → Prop) (w : World) (h1 : QA L1 S1 w q1 r1) (h2 : QA L2 S2 w q2 r2) (hL : L1 + L2 < LY) (hl1 : 1 ≤ L1) (hl2 : 1 ≤ L2) (hu : Up S w) (hnz : r2 ≠ 0) :
    Calls Tryz.prog 144 #[.string ⟨#[100, 105, 118]⟩, .agg q1.toArray, .agg q2.toArray] w (PQ S (r1 / r2) w) := by
 have z0 := Ext.refl w; have hLX : LX = 17592186044416 := rfl; have hLY : LY = 8796093022208 := rfl
 obtain ⟨n1, a1, l1, c1, n2, a2, l2, c2, rfl⟩ := h1.form; obtain ⟨n3, a3, l3, c3, n4, a4, l4, c4, rfl⟩ := h2.form
 have h1n := h1.sub (S' := fun b => b ≠ w.heap.size + 2) (fun b hb _ => by omega); have h2n := h2.sub (S' := fun b => b ≠ w.heap.size + 2) (fun b hb _ => by omega)
 have hu2 : ∀ W : World, w.heap.size + 3 ≤ W.heap.size → Up (SX S [w.heap.size + 2]) W := fun W hW => SX.up (hu.mono (by omega)) (by simp <;> omega)
 refine enter (args := [.string ⟨#[100, 105, 118]⟩, .agg #[.bool n1, .slice a1 l1 c1, .bool n2, .slice a2 l2 c2], .agg #[.bool n3, .slice a3 l3 c3, .bool n4, .slice a4 l4 c4]]) Tryz.func144 rfl rfl (Nat.le_of_ble_eq_true rfl) ?_
 refine V.seq (V.reg rfl ?_)
 refine vo ?_
 refine bxa rfl ?_
 intro W1 x2 b3 nn4
 have s5 := x2.sz
 have z6 := x2
 refine vo ?_
 refine bxa rfl ?_
 intro W7 x8 b9 nn10
 have s11 := x8.sz
 have z12 := z6.trans x8
 replace b3 := b3.ext x8
 refine vo ?_
 refine xal zc48 ?_
 intro W13 x14 b15 nn16
 have s17 := x14.sz
 have z18 := z12.trans x14
 replace b3 := b3.ext x14
 replace b9 := b9.ext x14
 refine vnil ?_
 refine V.seq (V.reg rfl ?_)
 refine vo ?_
 refine xmm ?_
 intro W19 x20 m21 n22
 have s23 := x20.sz
 have z24 := z18.trans x20
 replace b3 := b3.ext x20
 replace b9 := b9.ext x20
 replace b15 := b15.ext x20
 refine vv (rbd (ps := [(0, .func _ _ _)]) (cs := [.func _ _ _]) pl179 rfl rfl) ?_
 refine vo ?_
 refine xins (v := .agg #[_]) m21 rfl rfl rfl Tryz.underlying180 Tryz.underlying9 rfl ?_
 intro W25 n26 t27 M28 n29
 have z30 := t27.ext z24 (by omega)
 replace b3 := b3.tn t27
 replace b9 := b9.tn t27
 replace b15 := b15.tn t27
 refine vv (rbd (ps := [(0, .func _ _ _)]) (cs := [.func _ _ _]) pl179 rfl rfl) ?_
 refine vo ?_
 refine xins (v := .agg #[_]) M28 rfl rfl rfl Tryz.underlying180 Tryz.underlying9 rfl ?_
 intro W31 n32 t33 M34 n35
 have z36 := t33.ext z30 (by omega)
 replace b3 := b3.tn t33
 replace b9 := b9.tn t33
 replace b15 := b15.tn t33
 refine vv (rbd (ps := [(0, .func _ _ _)]) (cs := [.func _ _ _]) pl179 rfl rfl) ?_
 refine vo ?_
 refine xins (v := .agg #[_]) M34 rfl rfl rfl Tryz.underlying180 Tryz.underlying9 rfl ?_
 intro W37 n38 t39 M40 n41
 have z42 := t39.ext z36 (by omega)
 replace b3 := b3.tn t39
 replace b9 := b9.tn t39
 replace b15 := b15.tn t39
 refine vv (rbd (ps := [(0, .func _ _ _)]) (cs := [.func _ _ _]) pl179 rfl rfl) ?_
 refine vo ?_
 refine xins (v := .agg #[_]) M40 rfl rfl rfl Tryz.underlying180 Tryz.underlying9 rfl ?_
 intro W43 n44 t45 M46 n47
 have z48 := t45.ext z42 (by omega)
 replace b3 := b3.tn t45
 replace b9 := b9.tn t45
 replace b15 := b15.tn t45
 refine vv (rmv (v := .map (some _)) rfl) ?_
 refine vv (ras (v := .map (some _)) rfl) ?_
 refine vnil ?_
 refine V.seq (V.regD mixed rfl ?_)
 intro W49 x50
 have s51 := x50.sz
 have z52 := z48.trans x50
 replace b3 := b3.ext x50
 replace b9 := b9.ext x50
 replace b15 := b15.ext x50
 have M46' := M46.ext x50
 have q53 := Ext.refl W49
 have r54 := b3
 have r55 := b9
 have r56 := b15
 refine tk 0 rfl (by kernel_rfl) q53 (pv (fun _ y57 => rmv (v := .map (some _)) rfl)) ?_
 refine tk 1 rfl (by kernel_rfl) q53 (pv (fun _ y58 => rmv (v := .string _) rfl)) ?_
 refine tk 2 rfl (by kernel_rfl) q53 (pv (fun _ y59 => rlk (v := .agg #[.func _ _ _]) (M46'.ext y59) rfl rfl Tryz.underlying180 Tryz.underlying9 rfl)) ?_
 refine tk 3 rfl (by kernel_rfl) q53 (pv (fun _ y60 => rfl1 (l := [_]) (v := .func _ _ _) rfl fd179_0 ⟨_, _, Tryz.underlying179, rfl, sc177⟩ rfl)) ?_
 refine tk 4 rfl (by kernel_rfl) q53 (pv (fun _ y61 => rldb4 rfl ag48 (r54.ext y61) rfl rfl rfl rfl )) ?_
 refine tk 6 rfl (by kernel_rfl) q53 (pv (fun _ y62 => rldb4 rfl ag48 (r55.ext y62) rfl rfl rfl rfl )) ?_
 refine ef 5 (by kernel_rfl) rfl ?_
 refine xcall e139 (of_ok _ _ _ _ _ (h1n.ext z52) (by omega) (by omega) (fun b hb => by omega)) rfl rfl ?_
 rintro _ W70 ⟨_, rfl, x71, px64, py65, hp63, pp66, pe67⟩
 have s72 := x71.sz
 have z73 := z52.trans x71
 replace b15 := b15.ext x71
 have M46'' := M46'.ext x71
 have q74 := q53.trans x71
 obtain ⟨_, _, _, _, _, _, _, _, rfl⟩ := hp63.form
 obtain ⟨zx68, zy69⟩ := hp63.one
 refine ⟨_, rfl, ?_⟩
 refine ⟨fun _ => q74, ?_⟩
 refine ef 7 (by kernel_rfl) rfl ?_
 refine xcall e139 (of_ok _ _ _ _ _ (h2n.ext z73) (by omega) (by omega) (fun b hb => by omega)) rfl rfl ?_
 rintro _ W82 ⟨_, rfl, x83, px76, py77, hp75, pp78, pe79⟩
 have s84 := x83.sz
 have z85 := z73.trans x83
 replace b15 := b15.ext x83
 have M46''' := M46''.ext x83
 have q86 := q74.trans x83
 obtain ⟨_, _, _, _, _, _, _, _, rfl⟩ := hp75.form
 obtain ⟨zx80, zy81⟩ := hp75.one
 refine ⟨_, rfl, ?_⟩
 refine ⟨fun _ => q86, ?_⟩
 refine ef 8 (by kernel_rfl) rfl ?_
 refine xcall e185 (divP_ok _ _ _ _ _ _ _ _ _ _ _ _ (hp63.ext x83) hp75 (by omega) (by omega) (by omega) (hu2 _ (by omega))) rfl rfl ?_
 rintro _ W94 ⟨_, rfl, x95, px88, py89, hp87, pp90, pe91⟩
 have s96 := x95.sz
 have z97 := z85.trans x95
 replace b15 := b15.ext x95
 have M46'''' := M46'''.ext x95
 have q98 := q86.trans x95
 obtain ⟨_, _, _, _, _, _, _, _, rfl⟩ := hp87.form
 obtain ⟨zx92, zy93⟩ := hp87.one
 refine ⟨_, rfl, ?_⟩
 refine ⟨fun _ => q98, ?_⟩
 refine ef 9 (by kernel_rfl) rfl ?_
 refine xcall e153 (least_ok _ _ _ _ _ _ _ hp87 pp90 (by omega) (by omega) (hu2 _ (by omega))) rfl rfl ?_
 rintro _ W100 ⟨_, rfl, x101, hq99⟩
 have s102 := x101.sz
 have z103 := z97.trans x101
 replace b15 := b15.ext x101
 have M46''''' := M46''''.ext x101
 have q104 := q98.trans x101
 obtain ⟨_, _, _, _, _, _, _, _, rfl⟩ := hq99.form
 refine ⟨_, rfl, ?_⟩
 refine ⟨fun _ => q104, ?_⟩
 refine ef 10 (by kernel_rfl) rfl ?_
 refine sta (cs' := [_, _, _, _]) b15 rfl rfl sz48 rfl rfl rfl ?_
 intro W105 y106 b15
 have z107 := z103.below (y106.below (by omega))
 have s108 := y106.size
 refine lastT (by kernel_rfl) ?_
 refine dn (by kernel_rfl) ?_
 refine V.ret ?_
 refine ⟨[_], ⟨⟨_, rfl, lvb ag48 b15 rfl⟩, trivial⟩, ?_⟩
 refine ⟨_, rfl, z107, ((hq99.ck (y106.ck (by intro hh; first | (simp [SX] at hh <;> omega) | omega)))).un.cast ?_⟩
 rw [← pe91, pe67, pe79]
 have hp1 := pp66
 have hp2 := pp78
 rw [pe79] at hnz
 exact (div_dv hp1 hp2 hnz).symm
end Go.Proofs.YtknbjfefeeojlaaGreat
/- Package frac: what it exports. -/
namespace Go.Proofs.YtknbjfefeeojlaaGreat
open Go.RowKit
attribute [local irreducible] RV VH V OpF Calls
theorem QC.zero (S : Nat → Prop) (W : World) : QC S W [.bool false, .slice none 0 0, .bool false, .slice none 0 0] 0 := ⟨_, _, _, _, _, _, rfl, by rw [show (canon 0).xs = [] from dg_zero _]; exact RN.nil _ _ _ _ _ (by omega), RN.nil _ _ _ _ _ (by omega)⟩
theorem sz_zero : sz 1 0 := by constructor <;> decide
theorem sz_one : sz 1 1 := by constructor <;> decide
def cq (a b : Rat) : Int := if a < b then -1 else if a = b then 0 else 1
theorem dv_lt {x1 y1 x2 y2 : Int} (h1 : 0 < y1) (h2 : 0 < y2) : (Rat.divInt x1 y1 < Rat.divInt x2 y2 ↔ x1 * y2 < x2 * y1) ∧ (Rat.divInt x1 y1 = Rat.divInt x2 y2 ↔ x1 * y2 = x2 * y1) := by
  refine ⟨?_, Rat.divInt_eq_divInt_iff (by omega) (by omega)⟩
  rw [← Rat.not_le, Rat.le_iff_sub_nonneg, Rat.divInt_sub_divInt _ _ (by omega) (by omega), Rat.divInt_nonneg_iff_of_pos_right (Int.mul_pos h1 h2)]
  omega
theorem sg_cq {x1 y1 x2 y2 : Int} (h1 : 0 < y1) (h2 : 0 < y2) : sg (x1 * y2 - x2 * y1) = cq (Rat.divInt x1 y1) (Rat.divInt x2 y2) := by
  obtain ⟨e1, e2⟩ := dv_lt (x1 := x1) (x2 := x2) h1 h2
  unfold sg cq
  simp only [e1, e2]
  split <;> split <;> (try split) <;> (try split) <;> omega
theorem sg_cq0 {x y : Int} (h : 0 < y) : sg x = cq (Rat.divInt x y) 0 := by
  have := sg_cq (x1 := x) (x2 := 0) h (show (0 : Int) < 1 by decide)
  simpa using this
theorem cq_eq {a b : Rat} : cq a b = 0 ↔ a = b := by
  unfold cq
  split
  · rename_i h; simp; exact Rat.ne_of_lt h
  · split <;> simp_all
theorem cq_pos {a b : Rat} : 0 < cq a b ↔ b < a := by
  unfold cq
  split
  · rename_i h; simp; exact Rat.not_lt.2 (Rat.le_of_lt h)
  · split
    · rename_i h; subst h; simp [Rat.lt_irrefl]
    · rename_i h1 h2; simp; exact Rat.lt_of_le_of_ne (Rat.not_lt.1 h1) (Ne.symm h2)
set_option maxHeartbeats 400000 in
theorem fFrom_ok (n : Int) (S : Nat → Prop) (w : World) (hn : -9223372036854775808 ≤ n ∧ n ≤ 9223372036854775807) (hu : Up S w) :
    Calls Tryz.prog 27 #[.int .i64 n] w (PQ S (n : Rat) w) := by
 have z0 := Ext.refl w; have hLX : LX = 17592186044416 := rfl; have hLY : LY = 8796093022208 := rfl
 have hu2 : ∀ W : World, w.heap.size + 1 ≤ W.heap.size → Up (SX S [w.heap.size]) W := fun W hW => SX.up (hu.mono (by omega)) (by simp <;> omega)
 refine enter (args := [.int .i64 n]) Tryz.func27 rfl rfl (Nat.le_of_ble_eq_true rfl) ?_
 refine V.seq (V.reg rfl ?_)
 refine vo ?_
 refine xal zc48 ?_
 intro W1 x2 b3 nn4
 have s5 := x2.sz
 have z6 := x2
 refine vnil ?_
 refine V.seq (V.reg rfl ?_)
 refine mvi rfl ?_
 refine vo ?_
 refine xcall e98 (wFrom_ok _ _ _ (by omega) (hu2 _ (by omega))) rfl rfl ?_
 rintro _ W8 ⟨_, _, _, _, rfl, x9, hz7⟩
 have s10 := x9.sz
 have z11 := z6.trans x9
 replace b3 := b3.ext x9
 refine ⟨_, rfl, ?_⟩
 refine vv (rbd (ps := [(0, .agg #[_, _])]) (cs := [.bool _, .slice _ _ _, .bool false, .slice _ _ _]) pl48 rfl rfl) ?_
 refine vo ?_
 refine sta (cs' := [_, _, _, _]) b3 rfl rfl sz48 rfl rfl rfl ?_
 intro W12 y13 b3
 have z14 := z11.below (y13.below (by omega))
 have s15 := y13.size
 refine vnil ?_
 refine V.ret ?_
 refine ⟨[_], ⟨⟨_, rfl, lvb ag48 b3 rfl⟩, trivial⟩, ?_⟩
 exact ⟨_, rfl, z14, QC.mk1 (r := (n : Rat)) ((hz7.ck (y13.ck (by intro hh; first | (simp [SX] at hh <;> omega) | omega)))).un rfl⟩
set_option maxHeartbeats 400000 in
theorem fCanon_ok (q : List Value) (r : Rat) (L : Nat) (S S1 : Nat → Prop) (w : World) (h : QA L S1 w q r) (hL : L < LY) (hl : 1 ≤ L) (hu : Up S w) :
    Calls Tryz.prog 92 #[.agg q.toArray] w (PQ S r w) := by
 have z0 := Ext.refl w; have hLX : LX = 17592186044416 := rfl; have hLY : LY = 8796093022208 := rfl
 obtain ⟨n1, a1, l1, c1, n2, a2, l2, c2, rfl⟩ := h.form
 have hn := h.sub (S' := fun b => b ≠ w.heap.size + 1) (fun b hb _ => by omega)
 have hu2 : ∀ W : World, w.heap.size + 2 ≤ W.heap.size → Up (SX S [w.heap.size + 1]) W := fun W hW => SX.up (hu.mono (by omega)) (by simp <;> omega)
 refine enter (args := [.agg #[.bool n1, .slice a1 l1 c1, .bool n2, .slice a2 l2 c2]]) Tryz.func92 rfl rfl (Nat.le_of_ble_eq_true rfl) ?_
 refine V.seq (V.reg rfl ?_)
 refine vo ?_
 refine bxa rfl ?_
 intro W1 x2 b3 nn4
 have s5 := x2.sz
 have z6 := x2
 refine vo ?_
 refine xal zc48 ?_
 intro W7 x8 b9 nn10
 have s11 := x8.sz
 have z12 := z6.trans x8
 replace b3 := b3.ext x8
 refine vnil ?_
 refine V.seq (V.reg rfl ?_)
 refine vv (rldb4 rfl ag48 b3 rfl rfl rfl rfl ) ?_
 refine vo ?_
 refine xcall e139 (of_ok _ _ _ _ _ (hn.ext z12) (by omega) (by omega) (fun b hb => by omega)) rfl rfl ?_
 rintro _ W20 ⟨_, rfl, x21, px14, py15, hp13, pp16, pe17⟩
 have s22 := x21.sz
 have z23 := z12.trans x21
 replace b9 := b9.ext x21
 obtain ⟨_, _, _, _, _, _, _, _, rfl⟩ := hp13.form
 obtain ⟨zx18, zy19⟩ := hp13.one
 refine ⟨_, rfl, ?_⟩
 refine vo ?_
 refine xcall e153 (least_ok _ _ _ _ _ _ _ hp13 pp16 (by omega) (by omega) (hu2 _ (by omega))) rfl rfl ?_
 rintro _ W25 ⟨_, rfl, x26, hq24⟩
 have s27 := x26.sz
 have z28 := z23.trans x26
 replace b9 := b9.ext x26
 obtain ⟨_, _, _, _, _, _, _, _, rfl⟩ := hq24.form
 refine ⟨_, rfl, ?_⟩
 refine vo ?_
 refine sta (cs' := [_, _, _, _]) b9 rfl rfl sz48 rfl rfl rfl ?_
 intro W29 y30 b9
 have z31 := z28.below (y30.below (by omega))
 have s32 := y30.size
 refine vnil ?_
 refine V.ret ?_
 refine ⟨[_], ⟨⟨_, rfl, lvb ag48 b9 rfl⟩, trivial⟩, ?_⟩
 exact ⟨_, rfl, z31, ((hq24.ck (y30.ck (by intro hh; first | (simp [SX] at hh <;> omega) | omega)))).un.cast pe17.symm⟩
set_option maxHeartbeats 400000 in
theorem fAdd_ok (q1 q2 : List Value) (r1 r2 : Rat) (L1 L2 : Nat) (S S1 S2 : Nat → Prop) (w : World) (h1 : QA L1 S1 w q1 r1) (h2 : QA L2 S2 w q2 r2) (hL : L1 + L2 < LY) (hl1 : 1 ≤ L1) (hl2 : 1 ≤ L2) (hu : Up S w) :
    Calls Tryz.prog 142 #[.agg q1.toArray, .agg q2.toArray] w (PQ S (r1 + r2) w) := by
 have z0 := Ext.refl w; have hLX : LX = 17592186044416 := rfl; have hLY : LY = 8796093022208 := rfl
 obtain ⟨n1, a1, l1, c1, n2, a2, l2, c2, rfl⟩ := h1.form; obtain ⟨n3, a3, l3, c3, n4, a4, l4, c4, rfl⟩ := h2.form
 have hu2 : ∀ W : World, w.heap.size + 3 ≤ W.heap.size → Up (SX S [w.heap.size + 2]) W := fun W hW => SX.up (hu.mono (by omega)) (by simp <;> omega)
 refine enter (args := [.agg #[.bool n1, .slice a1 l1 c1, .bool n2, .slice a2 l2 c2], .agg #[.bool n3, .slice a3 l3 c3, .bool n4, .slice a4 l4 c4]]) Tryz.func142 rfl rfl (Nat.le_of_ble_eq_true rfl) ?_
 refine V.seq (V.reg rfl ?_)
 refine vo ?_
 refine bxa rfl ?_
 intro W1 x2 b3 nn4
 have s5 := x2.sz
 have z6 := x2
 refine vo ?_
 refine bxa rfl ?_
 intro W7 x8 b9 nn10
 have s11 := x8.sz
 have z12 := z6.trans x8
 replace b3 := b3.ext x8
 refine vo ?_
 refine xal zc48 ?_
 intro W13 x14 b15 nn16
 have s17 := x14.sz
 have z18 := z12.trans x14
 replace b3 := b3.ext x14
 replace b9 := b9.ext x14
 refine vnil ?_
 refine V.seq (V.reg rfl ?_)
 refine vv (rldb4 rfl ag48 b3 rfl rfl rfl rfl ) ?_
 refine vv (rldb4 rfl ag48 b9 rfl rfl rfl rfl ) ?_
 refine vo ?_
 refine xcall e144 (dAdd_ok _ _ _ _ _ _ _ _ _ _ (h1.ext z18) (h2.ext z18) (by omega) (by omega) (by omega) (hu2 _ (by omega))) rfl rfl ?_
 rintro _ W20 ⟨_, rfl, x21, hq19⟩
 have s22 := x21.sz
 have z23 := z18.trans x21
 replace b15 := b15.ext x21
 obtain ⟨_, _, _, _, _, _, _, _, rfl⟩ := hq19.form
 refine ⟨_, rfl, ?_⟩
 refine vo ?_
 refine sta (cs' := [_, _, _, _]) b15 rfl rfl sz48 rfl rfl rfl ?_
 intro W24 y25 b15
 have z26 := z23.below (y25.below (by omega))
 have s27 := y25.size
 refine vnil ?_
 refine V.ret ?_
 refine ⟨[_], ⟨⟨_, rfl, lvb ag48 b15 rfl⟩, trivial⟩, ?_⟩
 exact ⟨_, rfl, z26, ((hq19.ck (y25.ck (by intro hh; first | (simp [SX] at hh <;> omega) | omega)))).un⟩
set_option maxHeartbeats 400000 in
theorem fSub_ok (q1 q2 : List Value) (r1 r2 : Rat) (L1 L2 : Nat) (S S1 S2 : Nat → Prop) (w : World) (h1 : QA L1 S1 w q1 r1) (h2 : QA L2 S2 w q2 r2) (hL : L1 + L2 < LY) (hl1 : 1 ≤ L1) (hl2 : 1 ≤ L2) (hu : Up S w) :
    Calls Tryz.prog 95 #[.agg q1.toArray, .agg q2.toArray] w (PQ S (r1 - r2) w) := by
 have z0 := Ext.refl w; have hLX : LX = 17592186044416 := rfl; have hLY : LY = 8796093022208 := rfl
 obtain ⟨n1, a1, l1, c1, n2, a2, l2, c2, rfl⟩ := h1.form; obtain ⟨n3, a3, l3, c3, n4, a4, l4, c4, rfl⟩ := h2.form
 have hu2 : ∀ W : World, w.heap.size + 3 ≤ W.heap.size → Up (SX S [w.heap.size + 2]) W := fun W hW => SX.up (hu.mono (by omega)) (by simp <;> omega)
 refine enter (args := [.agg #[.bool n1, .slice a1 l1 c1, .bool n2, .slice a2 l2 c2], .agg #[.bool n3, .slice a3 l3 c3, .bool n4, .slice a4 l4 c4]]) Tryz.func95 rfl rfl (Nat.le_of_ble_eq_true rfl) ?_
 refine V.seq (V.reg rfl ?_)
 refine vo ?_
 refine bxa rfl ?_
 intro W1 x2 b3 nn4
 have s5 := x2.sz
 have z6 := x2
 refine vo ?_
 refine bxa rfl ?_
 intro W7 x8 b9 nn10
 have s11 := x8.sz
 have z12 := z6.trans x8
 replace b3 := b3.ext x8
 refine vo ?_
 refine xal zc48 ?_
 intro W13 x14 b15 nn16
 have s17 := x14.sz
 have z18 := z12.trans x14
 replace b3 := b3.ext x14
 replace b9 := b9.ext x14
 refine vnil ?_
 refine V.seq (V.reg rfl ?_)
 refine vv (rldb4 rfl ag48 b3 rfl rfl rfl rfl ) ?_
 refine vv (rldb4 rfl ag48 b9 rfl rfl rfl rfl ) ?_
 refine vo ?_
 refine xcall e144 (dSub_ok _ _ _ _ _ _ _ _ _ _ (h1.ext z18) (h2.ext z18) (by omega) (by omega) (by omega) (hu2 _ (by omega))) rfl rfl ?_
 rintro _ W20 ⟨_, rfl, x21, hq19⟩
 have s22 := x21.sz
 have z23 := z18.trans x21
 replace b15 := b15.ext x21
 obtain ⟨_, _, _, _, _, _, _, _, rfl⟩ := hq19.form
 refine ⟨_, rfl, ?_⟩
 refine vo ?_
 refine sta (cs' := [_, _, _, _]) b15 rfl rfl sz48 rfl rfl rfl ?_
 intro W24 y25 b15
 have z26 := z23.below (y25.below (by omega))
 have s27 := y25.size
 refine vnil ?_
 refine V.ret ?_
 refine ⟨[_], ⟨⟨_, rfl, lvb ag48 b15 rfl⟩, trivial⟩, ?_⟩
 exact ⟨_, rfl, z26, ((hq19.ck (y25.ck (by intro hh; first | (simp [SX] at hh <;> omega) | omega)))).un⟩
set_option maxHeartbeats 400000 in
theorem fMul_ok (q1 q2 : List Value) (r1 r2 : Rat) (L1 L2 : Nat) (S S1 S2 : Nat → Prop) (w : World) (h1 : QA L1 S1 w q1 r1) (h2 : QA L2 S2 w q2 r2) (hL : L1 + L2 < LY) (hl1 : 1 ≤ L1) (hl2 : 1 ≤ L2) (hu : Up S w) :
    Calls Tryz.prog 71 #[.agg q1.toArray, .agg q2.toArray] w (PQ S (r1 * r2) w) := by
 have z0 := Ext.refl w; have hLX : LX = 17592186044416 := rfl; have hLY : LY = 8796093022208 := rfl
 obtain ⟨n1, a1, l1, c1, n2, a2, l2, c2, rfl⟩ := h1.form; obtain ⟨n3, a3, l3, c3, n4, a4, l4, c4, rfl⟩ := h2.form
 have hu2 : ∀ W : World, w.heap.size + 3 ≤ W.heap.size → Up (SX S [w.heap.size + 2]) W := fun W hW => SX.up (hu.mono (by omega)) (by simp <;> omega)
 refine enter (args := [.agg #[.bool n1, .slice a1 l1 c1, .bool n2, .slice a2 l2 c2], .agg #[.bool n3, .slice a3 l3 c3, .bool n4, .slice a4 l4 c4]]) Tryz.func71 rfl rfl (Nat.le_of_ble_eq_true rfl) ?_
 refine V.seq (V.reg rfl ?_)
 refine vo ?_
 refine bxa rfl ?_
 intro W1 x2 b3 nn4
 have s5 := x2.sz
 have z6 := x2
 refine vo ?_
 refine bxa rfl ?_
 intro W7 x8 b9 nn10
 have s11 := x8.sz
 have z12 := z6.trans x8
 replace b3 := b3.ext x8
 refine vo ?_
 refine xal zc48 ?_
 intro W13 x14 b15 nn16
 have s17 := x14.sz
 have z18 := z12.trans x14
 replace b3 := b3.ext x14
 replace b9 := b9.ext x14
 refine vnil ?_
 refine V.seq (V.reg rfl ?_)
 refine vv (rldb4 rfl ag48 b3 rfl rfl rfl rfl ) ?_
 refine vv (rldb4 rfl ag48 b9 rfl rfl rfl rfl ) ?_
 refine vo ?_
 refine xcall e144 (dMul_ok _ _ _ _ _ _ _ _ _ _ (h1.ext z18) (h2.ext z18) (by omega) (by omega) (by omega) (hu2 _ (by omega))) rfl rfl ?_
 rintro _ W20 ⟨_, rfl, x21, hq19⟩
 have s22 := x21.sz
 have z23 := z18.trans x21
 replace b15 := b15.ext x21
 obtain ⟨_, _, _, _, _, _, _, _, rfl⟩ := hq19.form
 refine ⟨_, rfl, ?_⟩
 refine vo ?_
 refine sta (cs' := [_, _, _, _]) b15 rfl rfl sz48 rfl rfl rfl ?_
 intro W24 y25 b15
 have z26 := z23.below (y25.below (by omega))
 have s27 := y25.size
 refine vnil ?_
 refine V.ret ?_
 refine ⟨[_], ⟨⟨_, rfl, lvb ag48 b15 rfl⟩, trivial⟩, ?_⟩
 exact ⟨_, rfl, z26, ((hq19.ck (y25.ck (by intro hh; first | (simp [SX] at hh <;> omega) | omega)))).un⟩
set_option maxHeartbeats 400000 in
theorem fNeg_ok (q : List Value) (r : Rat) (L : Nat) (S S1 : Nat → Prop) (w : World) (h : QA L S1 w q r) (hL : L + 1 < LY) (hl : 1 ≤ L) (hu : Up S w) :
    Calls Tryz.prog 72 #[.agg q.toArray] w (PQ S (-r) w) := by
 have z0 := Ext.refl w; have hLX : LX = 17592186044416 := rfl; have hLY : LY = 8796093022208 := rfl
 obtain ⟨n1, a1, l1, c1, n2, a2, l2, c2, rfl⟩ := h.form
 have hu2 : ∀ W : World, w.heap.size + 2 ≤ W.heap.size → Up (SX S [w.heap.size + 1]) W := fun W hW => SX.up (hu.mono (by omega)) (by simp <;> omega)
 refine enter (args := [.agg #[.bool n1, .slice a1 l1 c1, .bool n2, .slice a2 l2 c2]]) Tryz.func72 rfl rfl (Nat.le_of_ble_eq_true rfl) ?_
 refine V.seq (V.reg rfl ?_)
 refine vo ?_
 refine bxa rfl ?_
 intro W1 x2 b3 nn4
 have s5 := x2.sz
 have z6 := x2
 refine vo ?_
 refine xal zc48 ?_
 intro W7 x8 b9 nn10
 have s11 := x8.sz
 have z12 := z6.trans x8
 replace b3 := b3.ext x8
 refine vnil ?_
 refine V.seq (V.reg rfl ?_)
 refine vv (rbd (ps := []) (cs := [.bool false, .slice _ _ _, .bool false, .slice _ _ _]) pl48 rfl rfl) ?_
 refine vv (rldb4 rfl ag48 b3 rfl rfl rfl rfl ) ?_
 refine vo ?_
 refine xcall e95 (fSub_ok _ _ _ _ _ _ _ _ _ _ ((QC.zero (fun _ => True) _).qa sz_zero) (h.ext z12) (by omega) (by omega) (by omega) (hu2 _ (by omega))) rfl rfl ?_
 rintro _ W13 ⟨_, rfl, x14, hq⟩
 have s15 := x14.sz
 have z16 := z12.trans x14
 replace b9 := b9.ext x14
 obtain ⟨_, _, _, _, _, _, _, _, rfl⟩ := hq.form
 refine ⟨_, rfl, ?_⟩
 refine vo ?_
 refine sta (cs' := [_, _, _, _]) b9 rfl rfl sz48 rfl rfl rfl ?_
 intro W17 y18 b9
 have z19 := z16.below (y18.below (by omega))
 have s20 := y18.size
 refine vnil ?_
 refine V.ret ?_
 refine ⟨[_], ⟨⟨_, rfl, lvb ag48 b9 rfl⟩, trivial⟩, ?_⟩
 exact ⟨_, rfl, z19, ((hq.ck (y18.ck (by intro hh; first | (simp [SX] at hh <;> omega) | omega)))).un.cast (by rw [Rat.sub_eq_add_neg, Rat.zero_add])⟩

section
variable {P : Program} {ρ : Operand → Value} {W : World} {d : Option Tmp} {ty T : TypeId} {pos : String} {af : Array Edge} {g : Option (Nat × Bool)} {x : Operand}
/-- A field that is a struct of two cells. -/
theorem rfl2 {f off : Nat} {l : List Value} {v0 v1 : Value} (hx : ρ x = .agg l.toArray) (hF : Fd P T f off) (hS : ∃ fs fd, P.underlying T = some (.struct fs) ∧ fs[f]? = some fd ∧ Ag P fd.type 2) (h0 : l[off]? = some v0) (h1 : l[off + 1]? = some v1) : (execOp ρ ⟨d, .field T x f, ty, pos, af, g⟩).run P W = .ok (.value (.agg #[v0, v1])) W := by
  obtain ⟨fs, fd, i, h2, h3, rfl, h4, h5⟩ := hF
  obtain ⟨fs', fd', h6, h7, h8⟩ := hS
  rw [h2] at h6; cases h6
  rw [h3] at h7; cases h7
  obtain ⟨i', e1, e2⟩ := h8.sz
  rw [h4] at e1; cases e1
  have hlt : fd.offset + 1 < l.length := (List.getElem?_eq_some_iff.1 h1).1
  unfold execOp
  simp only [Instr.field, hx, Sem.run_bind, run_underlying h2, Result.andThen_ok, h3, asAgg, Sem.run_pure, part, isAgg_ag h8, if_true, sizeOf_sz h8.sz]
  have : (l.toArray.extract fd.offset (fd.offset + 2)) = #[v0, v1] := by
    apply Array.ext'
    simp only [List.extract_toArray, List.extract_eq_take_drop, Nat.add_sub_cancel_left]
    apply List.ext_getElem?
    intro j
    match j with
    | 0 => simp [h0]
    | 1 => simp [h1]
    | j + 2 => simp [List.getElem?_take]; omega
  simp [this]
end

theorem PA.top {L : Nat} {S : Nat → Prop} {W : World} {q : List Value} {x y : Int} (h : PA L S W q x y) : PA L (fun _ => True) W q x y := h.sub fun _ _ _ => trivial

set_option maxHeartbeats 400000 in
theorem fSign_ok (q : List Value) (r : Rat) (L : Nat) (S1 : Nat → Prop) (w : World) (h : QA L S1 w q r) (hL : L < LY) (hl : 1 ≤ L) :
    Calls Tryz.prog 66 #[.agg q.toArray] w (fun e w' => e = .returned (.int .i64 (cq r 0)) ∧ Ext w w') := by
 have z0 := Ext.refl w; have hLX : LX = 17592186044416 := rfl; have hLY : LY = 8796093022208 := rfl
 obtain ⟨n1, a1, l1, c1, n2, a2, l2, c2, rfl⟩ := h.form
 have hn := h.sub (S' := fun _ => True) (fun _ _ _ => trivial)
 refine enter (args := [.agg #[.bool n1, .slice a1 l1 c1, .bool n2, .slice a2 l2 c2]]) Tryz.func66 rfl rfl (Nat.le_of_ble_eq_true rfl) ?_
 refine V.seq (V.reg rfl ?_)
 refine vo ?_
 refine bxa rfl ?_
 intro W1 x2 b3 nn4
 have s5 := x2.sz
 have z6 := x2
 refine asi rfl ?_
 refine vnil ?_
 refine V.seq (V.reg rfl ?_)
 refine vv (rldb4 rfl ag48 b3 rfl rfl rfl rfl ) ?_
 refine vo ?_
 refine xcall e139 (of_ok _ _ _ _ _ (hn.ext z6) (by omega) (by omega) (fun _ _ => trivial)) rfl rfl ?_
 rintro _ W14 ⟨_, rfl, x15, px8, py9, hp7, pp10, pe11⟩
 have s16 := x15.sz
 have z17 := z6.trans x15
 obtain ⟨_, _, _, _, _, _, _, _, rfl⟩ := hp7.form
 obtain ⟨zx12, zy13⟩ := hp7.one
 refine ⟨_, rfl, ?_⟩
 refine vv (rfl2 (l := [.bool _, .slice _ _ _, .bool _, .slice _ _ _]) (v0 := .bool _) (v1 := .slice _ _ _) rfl fd144_0 ⟨_, _, Tryz.underlying144, rfl, ag46⟩ rfl rfl) ?_
 refine vo ?_
 refine xcall e138 (wSign_ok _ _ _ _ _ _ _ _ zx12) rfl rfl ?_
 rintro _ W19 ⟨_, rfl, x20, hs18⟩
 have s21 := x20.sz
 have z22 := z17.trans x20
 refine ⟨_, rfl, ?_⟩
 refine asi rfl ?_
 refine vnil ?_
 refine V.ret ?_
 refine ⟨[.int _ _], ⟨rfl, trivial⟩, ?_⟩
 refine ⟨?_, z22⟩
 rw [pe11, ← sg_cq0 pp10, ← hs18]; rfl
set_option maxHeartbeats 400000 in
theorem fCmp_ok (q1 q2 : List Value) (r1 r2 : Rat) (L1 L2 : Nat) (S1 S2 : Nat → Prop) (w : World) (h1 : QA L1 S1 w q1 r1) (h2 : QA L2 S2 w q2 r2) (hL : L1 + L2 < LY) (hl1 : 1 ≤ L1) (hl2 : 1 ≤ L2) :
    Calls Tryz.prog 140 #[.agg q1.toArray, .agg q2.toArray] w (fun e w' => e = .returned (.int .i64 (cq r1 r2)) ∧ Ext w w') := by
 have z0 := Ext.refl w; have hLX : LX = 17592186044416 := rfl; have hLY : LY = 8796093022208 := rfl
 obtain ⟨n1, a1, l1, c1, n2, a2, l2, c2, rfl⟩ := h1.form; obtain ⟨n3, a3, l3, c3, n4, a4, l4, c4, rfl⟩ := h2.form
 have hu2 : ∀ W : World, w.heap.size ≤ W.heap.size → Up (fun _ => True) W := fun _ _ _ _ => trivial
 refine enter (args := [.agg #[.bool n1, .slice a1 l1 c1, .bool n2, .slice a2 l2 c2], .agg #[.bool n3, .slice a3 l3 c3, .bool n4, .slice a4 l4 c4]]) Tryz.func140 rfl rfl (Nat.le_of_ble_eq_true rfl) ?_
 refine V.seq (V.reg rfl ?_)
 refine vo ?_
 refine bxa rfl ?_
 intro W1 x2 b3 nn4
 have s5 := x2.sz
 have z6 := x2
 refine vo ?_
 refine bxa rfl ?_
 intro W7 x8 b9 nn10
 have s11 := x8.sz
 have z12 := z6.trans x8
 replace b3 := b3.ext x8
 refine asi rfl ?_
 refine vnil ?_
 refine V.seq (V.regJ (ι := Nat × Nat × List Value × List Value × Int × Int × Int × Int) [(2, .pointer (some ⟨_, _, none⟩)), (3, .pointer (some ⟨_, _, none⟩)), (4, .int _ _)] (fun ⟨b5, b6, p1, p2, x1, y1, x2, y2⟩ => [(5, .pointer (some ⟨b5, 0, none⟩)), (6, .pointer (some ⟨b6, 0, none⟩))]) (fun ⟨b5, b6, p1, p2, x1, y1, x2, y2⟩ W => Ext W7 W ∧ BoxAt W b5 p1 144 ∧ BoxAt W b6 p2 144 ∧ PA L1 (fun _ => True) W p1 x1 y1 ∧ PA L2 (fun _ => True) W p2 x2 y2 ∧ 0 < y1 ∧ 0 < y2 ∧ r1 = Rat.divInt x1 y1 ∧ r2 = Rat.divInt x2 y2) mixed rfl ⟨rfl, rfl, rfl, trivial⟩ ?_ ?_)
 ·skip
  intro W14 x15
  have s16 := x15.sz
  have z17 := z12.trans x15
  have z18 := x15
  replace b3 := b3.ext x15
  replace b9 := b9.ext x15
  have q19 := Ext.refl W14
  have r20 := b3
  have r21 := b9
  refine tk 0 rfl (by kernel_rfl) q19 (pv (fun _ y22 => rldb4 rfl ag48 (r20.ext y22) rfl rfl rfl rfl )) ?_
  refine tk 2 rfl (by kernel_rfl) q19 (pv (fun _ y23 => rldb4 rfl ag48 (r21.ext y23) rfl rfl rfl rfl )) ?_
  refine efs 1 [4, 5] (by kernel_rfl) ⟨?_, ?_, ?_, trivial⟩
  ·skip
   refine efI rfl ?_
   refine xcall e139 (of_ok _ _ _ _ _ ((h1.sub (S' := SX (fun _ => True) [w.heap.size, W1.heap.size]) (fun b hb _ => ⟨trivial, by simp <;> omega⟩)).ext z17) (by omega) (by omega) (SX.up (fun _ _ => trivial) (by simp <;> omega))) rfl rfl ?_
   rintro _ W31 ⟨_, rfl, x32, px25, py26, hp24, pp27, pe28⟩
   have s33 := x32.sz
   have z34 := z17.trans x32
   have z35 := z18.trans x32
   have q36 := q19.trans x32
   obtain ⟨_, _, _, _, _, _, _, _, rfl⟩ := hp24.form
   obtain ⟨zx29, zy30⟩ := hp24.one
   refine ⟨_, rfl, ?_⟩
   refine ⟨fun _ => q36, ?_⟩
   refine efs 3 [4, 5] (by kernel_rfl) ⟨?_, ?_, ?_, trivial⟩
   ·skip
    refine efI rfl ?_
    refine xcall e139 (of_ok _ _ _ _ _ ((h2.sub (S' := SX (fun _ => True) [w.heap.size, W1.heap.size]) (fun b hb _ => ⟨trivial, by simp <;> omega⟩)).ext z34) (by omega) (by omega) (SX.up (fun _ _ => trivial) (by simp <;> omega))) rfl rfl ?_
    rintro _ W44 ⟨_, rfl, x45, px38, py39, hp37, pp40, pe41⟩
    have s46 := x45.sz
    have z48 := z35.trans x45
    have q49 := q36.trans x45
    obtain ⟨_, _, _, _, _, _, _, _, rfl⟩ := hp37.form
    obtain ⟨zx42, zy43⟩ := hp37.one
    refine ⟨_, rfl, ?_⟩
    refine ⟨fun _ => q49, ?_⟩
    refine efs 4 [5] (by kernel_rfl) ⟨?_, ?_, trivial⟩
    ·skip
     refine efI rfl ?_
     refine xal zc144 ?_
     intro W50 x51 b52 nn53
     have s54 := x51.sz
     have z56 := z48.trans x51
     have q57 := q49.trans x51
     refine ⟨fun _ => q57, ?_⟩
     refine ef 5 (by kernel_rfl) rfl ?_
     refine xal zc144 ?_
     intro W58 x59 b60 nn61
     have s62 := x59.sz
     have z64 := z56.trans x59
     replace b52 := b52.ext x59
     have q65 := q57.trans x59
     refine ⟨fun _ => q65, ?_⟩
     refine ef 6 (by kernel_rfl) rfl ?_
     refine sta (cs' := [_, _, _, _]) b52 rfl rfl sz144 rfl rfl rfl ?_
     intro W66 y67 b52
     have z69 := z64.below (y67.below (by omega))
     replace b60 := b60.wr y67 (by omega)
     have q70 := q65.below (y67.below (by omega))
     have s71 := y67.size
     refine ⟨fun _ => q70, ?_⟩
     refine ef 7 (by kernel_rfl) rfl ?_
     refine sta (cs' := [_, _, _, _]) b60 rfl rfl sz144 rfl rfl rfl ?_
     intro W72 y73 b60
     have z75 := z69.below (y73.below (by omega))
     replace b52 := b52.wr y73 (by omega)
     have s76 := y73.size
     refine lastT (by kernel_rfl) ?_
     refine dn (by kernel_rfl) ?_
     exact ⟨(_, _, _, _, _, _, _, _), ⟨rfl, rfl, rfl, trivial⟩, ⟨rfl, rfl, trivial⟩, z75, b52, b60, (((hp24.sub (S' := SX _ [W44.heap.size, W50.heap.size]) (SX.old (by simp <;> omega))).ck (((((x45.ck _).trans (x51.ck _)).trans (x59.ck _)).trans (y67.ck (by intro hh; first | (simp [SX] at hh <;> omega) | omega))).trans (y73.ck (by intro hh; first | (simp [SX] at hh <;> omega) | omega))))).top, (((hp37.sub (S' := SX _ [W44.heap.size, W50.heap.size]) (SX.old (by simp <;> omega))).ck ((((x51.ck _).trans (x59.ck _)).trans (y67.ck (by intro hh; first | (simp [SX] at hh <;> omega) | omega))).trans (y73.ck (by intro hh; first | (simp [SX] at hh <;> omega) | omega))))).top, pp27, pp40, pe28, pe41⟩
    ·skip
     refine efI rfl ?_
     refine xal zc144 ?_
     intro W77 x78 b79 nn80
     have s81 := x78.sz
     have z83 := z48.trans x78
     have q84 := q49.trans x78
     refine ⟨fun _ => q84, ?_⟩
     refine ef 4 (by kernel_rfl) rfl ?_
     refine xal zc144 ?_
     intro W85 x86 b87 nn88
     have s89 := x86.sz
     have z91 := z83.trans x86
     replace b79 := b79.ext x86
     have q92 := q84.trans x86
     refine ⟨fun _ => q92, ?_⟩
     refine ef 6 (by kernel_rfl) rfl ?_
     refine sta (cs' := [_, _, _, _]) b87 rfl rfl sz144 rfl rfl rfl ?_
     intro W93 y94 b87
     have z96 := z91.below (y94.below (by omega))
     replace b79 := b79.wr y94 (by omega)
     have q97 := q92.below (y94.below (by omega))
     have s98 := y94.size
     refine ⟨fun _ => q97, ?_⟩
     refine ef 7 (by kernel_rfl) rfl ?_
     refine sta (cs' := [_, _, _, _]) b79 rfl rfl sz144 rfl rfl rfl ?_
     intro W99 y100 b79
     have z102 := z96.below (y100.below (by omega))
     replace b87 := b87.wr y100 (by omega)
     have s103 := y100.size
     refine lastT (by kernel_rfl) ?_
     refine dn (by kernel_rfl) ?_
     exact ⟨(_, _, _, _, _, _, _, _), ⟨rfl, rfl, rfl, trivial⟩, ⟨rfl, rfl, trivial⟩, z102, b87, b79, (((hp24.sub (S' := SX _ [W44.heap.size, W77.heap.size]) (SX.old (by simp <;> omega))).ck (((((x45.ck _).trans (x78.ck _)).trans (x86.ck _)).trans (y94.ck (by intro hh; first | (simp [SX] at hh <;> omega) | omega))).trans (y100.ck (by intro hh; first | (simp [SX] at hh <;> omega) | omega))))).top, (((hp37.sub (S' := SX _ [W44.heap.size, W77.heap.size]) (SX.old (by simp <;> omega))).ck ((((x78.ck _).trans (x86.ck _)).trans (y94.ck (by intro hh; first | (simp [SX] at hh <;> omega) | omega))).trans (y100.ck (by intro hh; first | (simp [SX] at hh <;> omega) | omega))))).top, pp27, pp40, pe28, pe41⟩
   ·skip
    refine efI rfl ?_
    refine xal zc144 ?_
    intro W104 x105 b106 nn107
    have s108 := x105.sz
    have z109 := z34.trans x105
    have z110 := z35.trans x105
    have q111 := q36.trans x105
    refine ⟨fun _ => q111, ?_⟩
    refine efs 3 [5] (by kernel_rfl) ⟨?_, ?_, trivial⟩
    ·skip
     refine efI rfl ?_
     refine xcall e139 (of_ok _ _ _ _ _ ((h2.sub (S' := SX (fun _ => True) [w.heap.size, W1.heap.size, W31.heap.size]) (fun b hb _ => ⟨trivial, by simp <;> omega⟩)).ext z109) (by omega) (by omega) (SX.up (fun _ _ => trivial) (by simp <;> omega))) rfl rfl ?_
     rintro _ W119 ⟨_, rfl, x120, px113, py114, hp112, pp115, pe116⟩
     have s121 := x120.sz
     have z123 := z110.trans x120
     replace b106 := b106.ext x120
     have q124 := q111.trans x120
     obtain ⟨_, _, _, _, _, _, _, _, rfl⟩ := hp112.form
     obtain ⟨zx117, zy118⟩ := hp112.one
     refine ⟨_, rfl, ?_⟩
     refine ⟨fun _ => q124, ?_⟩
     refine ef 5 (by kernel_rfl) rfl ?_
     refine xal zc144 ?_
     intro W125 x126 b127 nn128
     have s129 := x126.sz
     have z131 := z123.trans x126
     replace b106 := b106.ext x126
     have q132 := q124.trans x126
     refine ⟨fun _ => q132, ?_⟩
     refine ef 6 (by kernel_rfl) rfl ?_
     refine sta (cs' := [_, _, _, _]) b106 rfl rfl sz144 rfl rfl rfl ?_
     intro W133 y134 b106
     have z136 := z131.below (y134.below (by omega))
     replace b127 := b127.wr y134 (by omega)
     have q137 := q132.below (y134.below (by omega))
     have s138 := y134.size
     refine ⟨fun _ => q137, ?_⟩
     refine ef 7 (by kernel_rfl) rfl ?_
     refine sta (cs' := [_, _, _, _]) b127 rfl rfl sz144 rfl rfl rfl ?_
     intro W139 y140 b127
     have z142 := z136.below (y140.below (by omega))
     replace b106 := b106.wr y140 (by omega)
     have s143 := y140.size
     refine lastT (by kernel_rfl) ?_
     refine dn (by kernel_rfl) ?_
     exact ⟨(_, _, _, _, _, _, _, _), ⟨rfl, rfl, rfl, trivial⟩, ⟨rfl, rfl, trivial⟩, z142, b106, b127, (((hp24.sub (S' := SX _ [W119.heap.size, W31.heap.size]) (SX.old (by simp <;> omega))).ck (((((x105.ck _).trans (x120.ck _)).trans (x126.ck _)).trans (y134.ck (by intro hh; first | (simp [SX] at hh <;> omega) | omega))).trans (y140.ck (by intro hh; first | (simp [SX] at hh <;> omega) | omega))))).top, (((hp112.sub (S' := SX _ [W119.heap.size]) (SX.old (by simp <;> omega))).ck (((x126.ck _).trans (y134.ck (by intro hh; first | (simp [SX] at hh <;> omega) | omega))).trans (y140.ck (by intro hh; first | (simp [SX] at hh <;> omega) | omega))))).top, pp27, pp115, pe28, pe116⟩
    ·skip
     refine efI rfl ?_
     refine xal zc144 ?_
     intro W144 x145 b146 nn147
     have s148 := x145.sz
     have z149 := z109.trans x145
     have z150 := z110.trans x145
     replace b106 := b106.ext x145
     have q151 := q111.trans x145
     refine ⟨fun _ => q151, ?_⟩
     refine ef 3 (by kernel_rfl) rfl ?_
     refine xcall e139 (of_ok _ _ _ _ _ ((h2.sub (S' := SX (fun _ => True) [w.heap.size, W1.heap.size, W31.heap.size, W104.heap.size]) (fun b hb _ => ⟨trivial, by simp <;> omega⟩)).ext z149) (by omega) (by omega) (SX.up (fun _ _ => trivial) (by simp <;> omega))) rfl rfl ?_
     rintro _ W159 ⟨_, rfl, x160, px153, py154, hp152, pp155, pe156⟩
     have s161 := x160.sz
     have z163 := z150.trans x160
     replace b106 := b106.ext x160
     replace b146 := b146.ext x160
     have q164 := q151.trans x160
     obtain ⟨_, _, _, _, _, _, _, _, rfl⟩ := hp152.form
     obtain ⟨zx157, zy158⟩ := hp152.one
     refine ⟨_, rfl, ?_⟩
     refine ⟨fun _ => q164, ?_⟩
     refine ef 6 (by kernel_rfl) rfl ?_
     refine sta (cs' := [_, _, _, _]) b106 rfl rfl sz144 rfl rfl rfl ?_
     intro W165 y166 b106
     have z168 := z163.below (y166.below (by omega))
     replace b146 := b146.wr y166 (by omega)
     have q169 := q164.below (y166.below (by omega))
     have s170 := y166.size
     refine ⟨fun _ => q169, ?_⟩
     refine ef 7 (by kernel_rfl) rfl ?_
     refine sta (cs' := [_, _, _, _]) b146 rfl rfl sz144 rfl rfl rfl ?_
     intro W171 y172 b146
     have z174 := z168.below (y172.below (by omega))
     replace b106 := b106.wr y172 (by omega)
     have s175 := y172.size
     refine lastT (by kernel_rfl) ?_
     refine dn (by kernel_rfl) ?_
     exact ⟨(_, _, _, _, _, _, _, _), ⟨rfl, rfl, rfl, trivial⟩, ⟨rfl, rfl, trivial⟩, z174, b106, b146, (((hp24.sub (S' := SX _ [W104.heap.size, W31.heap.size]) (SX.old (by simp <;> omega))).ck (((((x105.ck _).trans (x145.ck _)).trans (x160.ck _)).trans (y166.ck (by intro hh; first | (simp [SX] at hh <;> omega) | omega))).trans (y172.ck (by intro hh; first | (simp [SX] at hh <;> omega) | omega))))).top, ((hp152.ck ((y166.ck (by intro hh; first | (simp [SX] at hh <;> omega) | omega)).trans (y172.ck (by intro hh; first | (simp [SX] at hh <;> omega) | omega))))).top, pp27, pp155, pe28, pe156⟩
   ·skip
    refine efI rfl ?_
    refine xal zc144 ?_
    intro W176 x177 b178 nn179
    have s180 := x177.sz
    have z181 := z34.trans x177
    have z182 := z35.trans x177
    have q183 := q36.trans x177
    refine ⟨fun _ => q183, ?_⟩
    refine efs 3 [4] (by kernel_rfl) ⟨?_, ?_, trivial⟩
    ·skip
     refine efI rfl ?_
     refine xcall e139 (of_ok _ _ _ _ _ ((h2.sub (S' := SX (fun _ => True) [w.heap.size, W1.heap.size, W31.heap.size]) (fun b hb _ => ⟨trivial, by simp <;> omega⟩)).ext z181) (by omega) (by omega) (SX.up (fun _ _ => trivial) (by simp <;> omega))) rfl rfl ?_
     rintro _ W191 ⟨_, rfl, x192, px185, py186, hp184, pp187, pe188⟩
     have s193 := x192.sz
     have z195 := z182.trans x192
     replace b178 := b178.ext x192
     have q196 := q183.trans x192
     obtain ⟨_, _, _, _, _, _, _, _, rfl⟩ := hp184.form
     obtain ⟨zx189, zy190⟩ := hp184.one
     refine ⟨_, rfl, ?_⟩
     refine ⟨fun _ => q196, ?_⟩
     refine ef 4 (by kernel_rfl) rfl ?_
     refine xal zc144 ?_
     intro W197 x198 b199 nn200
     have s201 := x198.sz
     have z203 := z195.trans x198
     replace b178 := b178.ext x198
     have q204 := q196.trans x198
     refine ⟨fun _ => q204, ?_⟩
     refine ef 6 (by kernel_rfl) rfl ?_
     refine sta (cs' := [_, _, _, _]) b199 rfl rfl sz144 rfl rfl rfl ?_
     intro W205 y206 b199
     have z208 := z203.below (y206.below (by omega))
     replace b178 := b178.wr y206 (by omega)
     have q209 := q204.below (y206.below (by omega))
     have s210 := y206.size
     refine ⟨fun _ => q209, ?_⟩
     refine ef 7 (by kernel_rfl) rfl ?_
     refine sta (cs' := [_, _, _, _]) b178 rfl rfl sz144 rfl rfl rfl ?_
     intro W211 y212 b178
     have z214 := z208.below (y212.below (by omega))
     replace b199 := b199.wr y212 (by omega)
     have s215 := y212.size
     refine lastT (by kernel_rfl) ?_
     refine dn (by kernel_rfl) ?_
     exact ⟨(_, _, _, _, _, _, _, _), ⟨rfl, rfl, rfl, trivial⟩, ⟨rfl, rfl, trivial⟩, z214, b199, b178, (((hp24.sub (S' := SX _ [W191.heap.size, W31.heap.size]) (SX.old (by simp <;> omega))).ck (((((x177.ck _).trans (x192.ck _)).trans (x198.ck _)).trans (y206.ck (by intro hh; first | (simp [SX] at hh <;> omega) | omega))).trans (y212.ck (by intro hh; first | (simp [SX] at hh <;> omega) | omega))))).top, (((hp184.sub (S' := SX _ [W191.heap.size]) (SX.old (by simp <;> omega))).ck (((x198.ck _).trans (y206.ck (by intro hh; first | (simp [SX] at hh <;> omega) | omega))).trans (y212.ck (by intro hh; first | (simp [SX] at hh <;> omega) | omega))))).top, pp27, pp187, pe28, pe188⟩
    ·skip
     refine efI rfl ?_
     refine xal zc144 ?_
     intro W216 x217 b218 nn219
     have s220 := x217.sz
     have z221 := z181.trans x217
     have z222 := z182.trans x217
     replace b178 := b178.ext x217
     have q223 := q183.trans x217
     refine ⟨fun _ => q223, ?_⟩
     refine ef 3 (by kernel_rfl) rfl ?_
     refine xcall e139 (of_ok _ _ _ _ _ ((h2.sub (S' := SX (fun _ => True) [w.heap.size, W1.heap.size, W31.heap.size, W176.heap.size]) (fun b hb _ => ⟨trivial, by simp <;> omega⟩)).ext z221) (by omega) (by omega) (SX.up (fun _ _ => trivial) (by simp <;> omega))) rfl rfl ?_
     rintro _ W231 ⟨_, rfl, x232, px225, py226, hp224, pp227, pe228⟩
     have s233 := x232.sz
     have z235 := z222.trans x232
     replace b178 := b178.ext x232
     replace b218 := b218.ext x232
     have q236 := q223.trans x232
     obtain ⟨_, _, _, _, _, _, _, _, rfl⟩ := hp224.form
     obtain ⟨zx229, zy230⟩ := hp224.one
     refine ⟨_, rfl, ?_⟩
     refine ⟨fun _ => q236, ?_⟩
     refine ef 6 (by kernel_rfl) rfl ?_
     refine sta (cs' := [_, _, _, _]) b218 rfl rfl sz144 rfl rfl rfl ?_
     intro W237 y238 b218
     have z240 := z235.below (y238.below (by omega))
     replace b178 := b178.wr y238 (by omega)
     have q241 := q236.below (y238.below (by omega))
     have s242 := y238.size
     refine ⟨fun _ => q241, ?_⟩
     refine ef 7 (by kernel_rfl) rfl ?_
     refine sta (cs' := [_, _, _, _]) b178 rfl rfl sz144 rfl rfl rfl ?_
     intro W243 y244 b178
     have z246 := z240.below (y244.below (by omega))
     replace b218 := b218.wr y244 (by omega)
     have s247 := y244.size
     refine lastT (by kernel_rfl) ?_
     refine dn (by kernel_rfl) ?_
     exact ⟨(_, _, _, _, _, _, _, _), ⟨rfl, rfl, rfl, trivial⟩, ⟨rfl, rfl, trivial⟩, z246, b218, b178, (((hp24.sub (S' := SX _ [W176.heap.size, W31.heap.size]) (SX.old (by simp <;> omega))).ck (((((x177.ck _).trans (x217.ck _)).trans (x232.ck _)).trans (y238.ck (by intro hh; first | (simp [SX] at hh <;> omega) | omega))).trans (y244.ck (by intro hh; first | (simp [SX] at hh <;> omega) | omega))))).top, ((hp224.ck ((y238.ck (by intro hh; first | (simp [SX] at hh <;> omega) | omega)).trans (y244.ck (by intro hh; first | (simp [SX] at hh <;> omega) | omega))))).top, pp27, pp227, pe28, pe228⟩
  ·skip
   refine efI rfl ?_
   refine xal zc144 ?_
   intro W248 x249 b250 nn251
   have s252 := x249.sz
   have z253 := z17.trans x249
   have z254 := z18.trans x249
   have q255 := q19.trans x249
   refine ⟨fun _ => q255, ?_⟩
   refine efs 1 [5] (by kernel_rfl) ⟨?_, ?_, trivial⟩
   ·skip
    refine efI rfl ?_
    refine xcall e139 (of_ok _ _ _ _ _ ((h1.sub (S' := SX (fun _ => True) [w.heap.size, W1.heap.size, W14.heap.size]) (fun b hb _ => ⟨trivial, by simp <;> omega⟩)).ext z253) (by omega) (by omega) (SX.up (fun _ _ => trivial) (by simp <;> omega))) rfl rfl ?_
    rintro _ W263 ⟨_, rfl, x264, px257, py258, hp256, pp259, pe260⟩
    have s265 := x264.sz
    have z266 := z253.trans x264
    have z267 := z254.trans x264
    replace b250 := b250.ext x264
    have q268 := q255.trans x264
    obtain ⟨_, _, _, _, _, _, _, _, rfl⟩ := hp256.form
    obtain ⟨zx261, zy262⟩ := hp256.one
    refine ⟨_, rfl, ?_⟩
    refine ⟨fun _ => q268, ?_⟩
    refine efs 3 [5] (by kernel_rfl) ⟨?_, ?_, trivial⟩
    ·skip
     refine efI rfl ?_
     refine xcall e139 (of_ok _ _ _ _ _ ((h2.sub (S' := SX (fun _ => True) [w.heap.size, W1.heap.size, W14.heap.size]) (fun b hb _ => ⟨trivial, by simp <;> omega⟩)).ext z266) (by omega) (by omega) (SX.up (fun _ _ => trivial) (by simp <;> omega))) rfl rfl ?_
     rintro _ W276 ⟨_, rfl, x277, px270, py271, hp269, pp272, pe273⟩
     have s278 := x277.sz
     have z280 := z267.trans x277
     replace b250 := b250.ext x277
     have q281 := q268.trans x277
     obtain ⟨_, _, _, _, _, _, _, _, rfl⟩ := hp269.form
     obtain ⟨zx274, zy275⟩ := hp269.one
     refine ⟨_, rfl, ?_⟩
     refine ⟨fun _ => q281, ?_⟩
     refine ef 5 (by kernel_rfl) rfl ?_
     refine xal zc144 ?_
     intro W282 x283 b284 nn285
     have s286 := x283.sz
     have z288 := z280.trans x283
     replace b250 := b250.ext x283
     have q289 := q281.trans x283
     refine ⟨fun _ => q289, ?_⟩
     refine ef 6 (by kernel_rfl) rfl ?_
     refine sta (cs' := [_, _, _, _]) b250 rfl rfl sz144 rfl rfl rfl ?_
     intro W290 y291 b250
     have z293 := z288.below (y291.below (by omega))
     replace b284 := b284.wr y291 (by omega)
     have q294 := q289.below (y291.below (by omega))
     have s295 := y291.size
     refine ⟨fun _ => q294, ?_⟩
     refine ef 7 (by kernel_rfl) rfl ?_
     refine sta (cs' := [_, _, _, _]) b284 rfl rfl sz144 rfl rfl rfl ?_
     intro W296 y297 b284
     have z299 := z293.below (y297.below (by omega))
     replace b250 := b250.wr y297 (by omega)
     have s300 := y297.size
     refine lastT (by kernel_rfl) ?_
     refine dn (by kernel_rfl) ?_
     exact ⟨(_, _, _, _, _, _, _, _), ⟨rfl, rfl, rfl, trivial⟩, ⟨rfl, rfl, trivial⟩, z299, b250, b284, (((hp256.sub (S' := SX _ [W276.heap.size]) (SX.old (by simp <;> omega))).ck ((((x277.ck _).trans (x283.ck _)).trans (y291.ck (by intro hh; first | (simp [SX] at hh <;> omega) | omega))).trans (y297.ck (by intro hh; first | (simp [SX] at hh <;> omega) | omega))))).top, (((hp269.sub (S' := SX _ [W276.heap.size]) (SX.old (by simp <;> omega))).ck (((x283.ck _).trans (y291.ck (by intro hh; first | (simp [SX] at hh <;> omega) | omega))).trans (y297.ck (by intro hh; first | (simp [SX] at hh <;> omega) | omega))))).top, pp259, pp272, pe260, pe273⟩
    ·skip
     refine efI rfl ?_
     refine xal zc144 ?_
     intro W301 x302 b303 nn304
     have s305 := x302.sz
     have z306 := z266.trans x302
     have z307 := z267.trans x302
     replace b250 := b250.ext x302
     have q308 := q268.trans x302
     refine ⟨fun _ => q308, ?_⟩
     refine ef 3 (by kernel_rfl) rfl ?_
     refine xcall e139 (of_ok _ _ _ _ _ ((h2.sub (S' := SX (fun _ => True) [w.heap.size, W1.heap.size, W14.heap.size, W263.heap.size]) (fun b hb _ => ⟨trivial, by simp <;> omega⟩)).ext z306) (by omega) (by omega) (SX.up (fun _ _ => trivial) (by simp <;> omega))) rfl rfl ?_
     rintro _ W316 ⟨_, rfl, x317, px310, py311, hp309, pp312, pe313⟩
     have s318 := x317.sz
     have z320 := z307.trans x317
     replace b250 := b250.ext x317
     replace b303 := b303.ext x317
     have q321 := q308.trans x317
     obtain ⟨_, _, _, _, _, _, _, _, rfl⟩ := hp309.form
     obtain ⟨zx314, zy315⟩ := hp309.one
     refine ⟨_, rfl, ?_⟩
     refine ⟨fun _ => q321, ?_⟩
     refine ef 6 (by kernel_rfl) rfl ?_
     refine sta (cs' := [_, _, _, _]) b250 rfl rfl sz144 rfl rfl rfl ?_
     intro W322 y323 b250
     have z325 := z320.below (y323.below (by omega))
     replace b303 := b303.wr y323 (by omega)
     have q326 := q321.below (y323.below (by omega))
     have s327 := y323.size
     refine ⟨fun _ => q326, ?_⟩
     refine ef 7 (by kernel_rfl) rfl ?_
     refine sta (cs' := [_, _, _, _]) b303 rfl rfl sz144 rfl rfl rfl ?_
     intro W328 y329 b303
     have z331 := z325.below (y329.below (by omega))
     replace b250 := b250.wr y329 (by omega)
     have s332 := y329.size
     refine lastT (by kernel_rfl) ?_
     refine dn (by kernel_rfl) ?_
     exact ⟨(_, _, _, _, _, _, _, _), ⟨rfl, rfl, rfl, trivial⟩, ⟨rfl, rfl, trivial⟩, z331, b250, b303, (((hp256.sub (S' := SX _ [W263.heap.size]) (SX.old (by simp <;> omega))).ck ((((x302.ck _).trans (x317.ck _)).trans (y323.ck (by intro hh; first | (simp [SX] at hh <;> omega) | omega))).trans (y329.ck (by intro hh; first | (simp [SX] at hh <;> omega) | omega))))).top, ((hp309.ck ((y323.ck (by intro hh; first | (simp [SX] at hh <;> omega) | omega)).trans (y329.ck (by intro hh; first | (simp [SX] at hh <;> omega) | omega))))).top, pp259, pp312, pe260, pe313⟩
   ·skip
    refine efI rfl ?_
    refine xal zc144 ?_
    intro W333 x334 b335 nn336
    have s337 := x334.sz
    have z338 := z253.trans x334
    have z339 := z254.trans x334
    replace b250 := b250.ext x334
    have q340 := q255.trans x334
    refine ⟨fun _ => q340, ?_⟩
    refine ef 1 (by kernel_rfl) rfl ?_
    refine xcall e139 (of_ok _ _ _ _ _ ((h1.sub (S' := SX (fun _ => True) [w.heap.size, W1.heap.size, W14.heap.size, W248.heap.size]) (fun b hb _ => ⟨trivial, by simp <;> omega⟩)).ext z338) (by omega) (by omega) (SX.up (fun _ _ => trivial) (by simp <;> omega))) rfl rfl ?_
    rintro _ W348 ⟨_, rfl, x349, px342, py343, hp341, pp344, pe345⟩
    have s350 := x349.sz
    have z351 := z338.trans x349
    have z352 := z339.trans x349
    replace b250 := b250.ext x349
    replace b335 := b335.ext x349
    have q353 := q340.trans x349
    obtain ⟨_, _, _, _, _, _, _, _, rfl⟩ := hp341.form
    obtain ⟨zx346, zy347⟩ := hp341.one
    refine ⟨_, rfl, ?_⟩
    refine ⟨fun _ => q353, ?_⟩
    refine ef 3 (by kernel_rfl) rfl ?_
    refine xcall e139 (of_ok _ _ _ _ _ ((h2.sub (S' := SX (fun _ => True) [w.heap.size, W1.heap.size, W14.heap.size, W248.heap.size]) (fun b hb _ => ⟨trivial, by simp <;> omega⟩)).ext z351) (by omega) (by omega) (SX.up (fun _ _ => trivial) (by simp <;> omega))) rfl rfl ?_
    rintro _ W361 ⟨_, rfl, x362, px355, py356, hp354, pp357, pe358⟩
    have s363 := x362.sz
    have z365 := z352.trans x362
    replace b250 := b250.ext x362
    replace b335 := b335.ext x362
    have q366 := q353.trans x362
    obtain ⟨_, _, _, _, _, _, _, _, rfl⟩ := hp354.form
    obtain ⟨zx359, zy360⟩ := hp354.one
    refine ⟨_, rfl, ?_⟩
    refine ⟨fun _ => q366, ?_⟩
    refine ef 6 (by kernel_rfl) rfl ?_
    refine sta (cs' := [_, _, _, _]) b250 rfl rfl sz144 rfl rfl rfl ?_
    intro W367 y368 b250
    have z370 := z365.below (y368.below (by omega))
    replace b335 := b335.wr y368 (by omega)
    have q371 := q366.below (y368.below (by omega))
    have s372 := y368.size
    refine ⟨fun _ => q371, ?_⟩
    refine ef 7 (by kernel_rfl) rfl ?_
    refine sta (cs' := [_, _, _, _]) b335 rfl rfl sz144 rfl rfl rfl ?_
    intro W373 y374 b335
    have z376 := z370.below (y374.below (by omega))
    replace b250 := b250.wr y374 (by omega)
    have s377 := y374.size
    refine lastT (by kernel_rfl) ?_
    refine dn (by kernel_rfl) ?_
    exact ⟨(_, _, _, _, _, _, _, _), ⟨rfl, rfl, rfl, trivial⟩, ⟨rfl, rfl, trivial⟩, z376, b250, b335, ((hp341.ck (((x362.ck _).trans (y368.ck (by intro hh; first | (simp [SX] at hh <;> omega) | omega))).trans (y374.ck (by intro hh; first | (simp [SX] at hh <;> omega) | omega))))).top, ((hp354.ck ((y368.ck (by intro hh; first | (simp [SX] at hh <;> omega) | omega)).trans (y374.ck (by intro hh; first | (simp [SX] at hh <;> omega) | omega))))).top, pp344, pp357, pe345, pe358⟩
  ·skip
   refine efI rfl ?_
   refine xal zc144 ?_
   intro W378 x379 b380 nn381
   have s382 := x379.sz
   have z383 := z17.trans x379
   have z384 := z18.trans x379
   have q385 := q19.trans x379
   refine ⟨fun _ => q385, ?_⟩
   refine efs 1 [4] (by kernel_rfl) ⟨?_, ?_, trivial⟩
   ·skip
    refine efI rfl ?_
    refine xcall e139 (of_ok _ _ _ _ _ ((h1.sub (S' := SX (fun _ => True) [w.heap.size, W1.heap.size, W14.heap.size]) (fun b hb _ => ⟨trivial, by simp <;> omega⟩)).ext z383) (by omega) (by omega) (SX.up (fun _ _ => trivial) (by simp <;> omega))) rfl rfl ?_
    rintro _ W393 ⟨_, rfl, x394, px387, py388, hp386, pp389, pe390⟩
    have s395 := x394.sz
    have z396 := z383.trans x394
    have z397 := z384.trans x394
    replace b380 := b380.ext x394
    have q398 := q385.trans x394
    obtain ⟨_, _, _, _, _, _, _, _, rfl⟩ := hp386.form
    obtain ⟨zx391, zy392⟩ := hp386.one
    refine ⟨_, rfl, ?_⟩
    refine ⟨fun _ => q398, ?_⟩
    refine efs 3 [4] (by kernel_rfl) ⟨?_, ?_, trivial⟩
    ·skip
     refine efI rfl ?_
     refine xcall e139 (of_ok _ _ _ _ _ ((h2.sub (S' := SX (fun _ => True) [w.heap.size, W1.heap.size, W14.heap.size]) (fun b hb _ => ⟨trivial, by simp <;> omega⟩)).ext z396) (by omega) (by omega) (SX.up (fun _ _ => trivial) (by simp <;> omega))) rfl rfl ?_
     rintro _ W406 ⟨_, rfl, x407, px400, py401, hp399, pp402, pe403⟩
     have s408 := x407.sz
     have z410 := z397.trans x407
     replace b380 := b380.ext x407
     have q411 := q398.trans x407
     obtain ⟨_, _, _, _, _, _, _, _, rfl⟩ := hp399.form
     obtain ⟨zx404, zy405⟩ := hp399.one
     refine ⟨_, rfl, ?_⟩
     refine ⟨fun _ => q411, ?_⟩
     refine ef 4 (by kernel_rfl) rfl ?_
     refine xal zc144 ?_
     intro W412 x413 b414 nn415
     have s416 := x413.sz
     have z418 := z410.trans x413
     replace b380 := b380.ext x413
     have q419 := q411.trans x413
     refine ⟨fun _ => q419, ?_⟩
     refine ef 6 (by kernel_rfl) rfl ?_
     refine sta (cs' := [_, _, _, _]) b414 rfl rfl sz144 rfl rfl rfl ?_
     intro W420 y421 b414
     have z423 := z418.below (y421.below (by omega))
     replace b380 := b380.wr y421 (by omega)
     have q424 := q419.below (y421.below (by omega))
     have s425 := y421.size
     refine ⟨fun _ => q424, ?_⟩
     refine ef 7 (by kernel_rfl) rfl ?_
     refine sta (cs' := [_, _, _, _]) b380 rfl rfl sz144 rfl rfl rfl ?_
     intro W426 y427 b380
     have z429 := z423.below (y427.below (by omega))
     replace b414 := b414.wr y427 (by omega)
     have s430 := y427.size
     refine lastT (by kernel_rfl) ?_
     refine dn (by kernel_rfl) ?_
     exact ⟨(_, _, _, _, _, _, _, _), ⟨rfl, rfl, rfl, trivial⟩, ⟨rfl, rfl, trivial⟩, z429, b414, b380, (((hp386.sub (S' := SX _ [W406.heap.size]) (SX.old (by simp <;> omega))).ck ((((x407.ck _).trans (x413.ck _)).trans (y421.ck (by intro hh; first | (simp [SX] at hh <;> omega) | omega))).trans (y427.ck (by intro hh; first | (simp [SX] at hh <;> omega) | omega))))).top, (((hp399.sub (S' := SX _ [W406.heap.size]) (SX.old (by simp <;> omega))).ck (((x413.ck _).trans (y421.ck (by intro hh; first | (simp [SX] at hh <;> omega) | omega))).trans (y427.ck (by intro hh; first | (simp [SX] at hh <;> omega) | omega))))).top, pp389, pp402, pe390, pe403⟩
    ·skip
     refine efI rfl ?_
     refine xal zc144 ?_
     intro W431 x432 b433 nn434
     have s435 := x432.sz
     have z436 := z396.trans x432
     have z437 := z397.trans x432
     replace b380 := b380.ext x432
     have q438 := q398.trans x432
     refine ⟨fun _ => q438, ?_⟩
     refine ef 3 (by kernel_rfl) rfl ?_
     refine xcall e139 (of_ok _ _ _ _ _ ((h2.sub (S' := SX (fun _ => True) [w.heap.size, W1.heap.size, W14.heap.size, W393.heap.size]) (fun b hb _ => ⟨trivial, by simp <;> omega⟩)).ext z436) (by omega) (by omega) (SX.up (fun _ _ => trivial) (by simp <;> omega))) rfl rfl ?_
     rintro _ W446 ⟨_, rfl, x447, px440, py441, hp439, pp442, pe443⟩
     have s448 := x447.sz
     have z450 := z437.trans x447
     replace b380 := b380.ext x447
     replace b433 := b433.ext x447
     have q451 := q438.trans x447
     obtain ⟨_, _, _, _, _, _, _, _, rfl⟩ := hp439.form
     obtain ⟨zx444, zy445⟩ := hp439.one
     refine ⟨_, rfl, ?_⟩
     refine ⟨fun _ => q451, ?_⟩
     refine ef 6 (by kernel_rfl) rfl ?_
     refine sta (cs' := [_, _, _, _]) b433 rfl rfl sz144 rfl rfl rfl ?_
     intro W452 y453 b433
     have z455 := z450.below (y453.below (by omega))
     replace b380 := b380.wr y453 (by omega)
     have q456 := q451.below (y453.below (by omega))
     have s457 := y453.size
     refine ⟨fun _ => q456, ?_⟩
     refine ef 7 (by kernel_rfl) rfl ?_
     refine sta (cs' := [_, _, _, _]) b380 rfl rfl sz144 rfl rfl rfl ?_
     intro W458 y459 b380
     have z461 := z455.below (y459.below (by omega))
     replace b433 := b433.wr y459 (by omega)
     have s462 := y459.size
     refine lastT (by kernel_rfl) ?_
     refine dn (by kernel_rfl) ?_
     exact ⟨(_, _, _, _, _, _, _, _), ⟨rfl, rfl, rfl, trivial⟩, ⟨rfl, rfl, trivial⟩, z461, b433, b380, (((hp386.sub (S' := SX _ [W393.heap.size]) (SX.old (by simp <;> omega))).ck ((((x432.ck _).trans (x447.ck _)).trans (y453.ck (by intro hh; first | (simp [SX] at hh <;> omega) | omega))).trans (y459.ck (by intro hh; first | (simp [SX] at hh <;> omega) | omega))))).top, ((hp439.ck ((y453.ck (by intro hh; first | (simp [SX] at hh <;> omega) | omega)).trans (y459.ck (by intro hh; first | (simp [SX] at hh <;> omega) | omega))))).top, pp389, pp442, pe390, pe443⟩
   ·skip
    refine efI rfl ?_
    refine xal zc144 ?_
    intro W463 x464 b465 nn466
    have s467 := x464.sz
    have z468 := z383.trans x464
    have z469 := z384.trans x464
    replace b380 := b380.ext x464
    have q470 := q385.trans x464
    refine ⟨fun _ => q470, ?_⟩
    refine ef 1 (by kernel_rfl) rfl ?_
    refine xcall e139 (of_ok _ _ _ _ _ ((h1.sub (S' := SX (fun _ => True) [w.heap.size, W1.heap.size, W14.heap.size, W378.heap.size]) (fun b hb _ => ⟨trivial, by simp <;> omega⟩)).ext z468) (by omega) (by omega) (SX.up (fun _ _ => trivial) (by simp <;> omega))) rfl rfl ?_
    rintro _ W478 ⟨_, rfl, x479, px472, py473, hp471, pp474, pe475⟩
    have s480 := x479.sz
    have z481 := z468.trans x479
    have z482 := z469.trans x479
    replace b380 := b380.ext x479
    replace b465 := b465.ext x479
    have q483 := q470.trans x479
    obtain ⟨_, _, _, _, _, _, _, _, rfl⟩ := hp471.form
    obtain ⟨zx476, zy477⟩ := hp471.one
    refine ⟨_, rfl, ?_⟩
    refine ⟨fun _ => q483, ?_⟩
    refine ef 3 (by kernel_rfl) rfl ?_
    refine xcall e139 (of_ok _ _ _ _ _ ((h2.sub (S' := SX (fun _ => True) [w.heap.size, W1.heap.size, W14.heap.size, W378.heap.size]) (fun b hb _ => ⟨trivial, by simp <;> omega⟩)).ext z481) (by omega) (by omega) (SX.up (fun _ _ => trivial) (by simp <;> omega))) rfl rfl ?_
    rintro _ W491 ⟨_, rfl, x492, px485, py486, hp484, pp487, pe488⟩
    have s493 := x492.sz
    have z495 := z482.trans x492
    replace b380 := b380.ext x492
    replace b465 := b465.ext x492
    have q496 := q483.trans x492
    obtain ⟨_, _, _, _, _, _, _, _, rfl⟩ := hp484.form
    obtain ⟨zx489, zy490⟩ := hp484.one
    refine ⟨_, rfl, ?_⟩
    refine ⟨fun _ => q496, ?_⟩
    refine ef 6 (by kernel_rfl) rfl ?_
    refine sta (cs' := [_, _, _, _]) b465 rfl rfl sz144 rfl rfl rfl ?_
    intro W497 y498 b465
    have z500 := z495.below (y498.below (by omega))
    replace b380 := b380.wr y498 (by omega)
    have q501 := q496.below (y498.below (by omega))
    have s502 := y498.size
    refine ⟨fun _ => q501, ?_⟩
    refine ef 7 (by kernel_rfl) rfl ?_
    refine sta (cs' := [_, _, _, _]) b380 rfl rfl sz144 rfl rfl rfl ?_
    intro W503 y504 b380
    have z506 := z500.below (y504.below (by omega))
    replace b465 := b465.wr y504 (by omega)
    have s507 := y504.size
    refine lastT (by kernel_rfl) ?_
    refine dn (by kernel_rfl) ?_
    exact ⟨(_, _, _, _, _, _, _, _), ⟨rfl, rfl, rfl, trivial⟩, ⟨rfl, rfl, trivial⟩, z506, b465, b380, ((hp471.ck (((x492.ck _).trans (y498.ck (by intro hh; first | (simp [SX] at hh <;> omega) | omega))).trans (y504.ck (by intro hh; first | (simp [SX] at hh <;> omega) | omega))))).top, ((hp484.ck ((y498.ck (by intro hh; first | (simp [SX] at hh <;> omega) | omega)).trans (y504.ck (by intro hh; first | (simp [SX] at hh <;> omega) | omega))))).top, pp474, pp487, pe475, pe488⟩
 ·skip
  intro i510 E511 W509 h512
  obtain ⟨b5, b6, p1, p2, x1, y1, x2, y2⟩ := i510
  simp only at h512
  show thenV _ _ .normal (ups (ups _ _) [(5, .pointer (some ⟨b5, 0, none⟩)), (6, .pointer (some ⟨b6, 0, none⟩))]) _ _
  obtain ⟨x513, hb5, hb6, hp1, hp2, k1, k2, er1, er2⟩ := h512
  have s514 := x513.sz
  have z515 := z12.trans x513
  replace b3 := b3.ext x513
  replace b9 := b9.ext x513
  obtain ⟨m1, d1, e1, f1, m2, d2, e2, f2, rfl⟩ := hp1.form; obtain ⟨m3, d3, e3, f3, m4, d4, e4, f4, rfl⟩ := hp2.form; obtain ⟨zx1, zy1⟩ := hp1.one; obtain ⟨zx2, zy2⟩ := hp2.one
  refine V.seq (V.regD mixed rfl ?_)
  intro W518 x519
  have s520 := x519.sz
  have z521 := z515.trans x519
  have z523 := x519
  replace b3 := b3.ext x519
  replace b9 := b9.ext x519
  replace hb5 := hb5.ext x519
  replace hb6 := hb6.ext x519
  have q524 := Ext.refl W518
  have r525 := b3
  have r526 := b9
  have r527 := hb5
  have r528 := hb6
  refine tk 0 rfl (by kernel_rfl) q524 (pv (fun _ y529 => rfa rfl fd144_0)) ?_
  refine tk 1 rfl (by kernel_rfl) q524 (pv (fun _ y530 => rldb2 rfl ag46 (r527.ext y530) rfl rfl )) ?_
  refine tk 2 rfl (by kernel_rfl) q524 (pv (fun _ y531 => rfa rfl fd144_1)) ?_
  refine tk 3 rfl (by kernel_rfl) q524 (pv (fun _ y532 => rldb2 rfl ag46 (r528.ext y532) rfl rfl )) ?_
  refine tk 5 rfl (by kernel_rfl) q524 (pv (fun _ y533 => rfa rfl fd144_0)) ?_
  refine tk 6 rfl (by kernel_rfl) q524 (pv (fun _ y534 => rldb2 rfl ag46 (r528.ext y534) rfl rfl )) ?_
  refine tk 7 rfl (by kernel_rfl) q524 (pv (fun _ y535 => rfa rfl fd144_1)) ?_
  refine tk 8 rfl (by kernel_rfl) q524 (pv (fun _ y536 => rldb2 rfl ag46 (r527.ext y536) rfl rfl )) ?_
  refine ef 4 (by kernel_rfl) rfl ?_
  refine xcall e179 (wMul_ok _ _ _ _ _ _ _ _ _ _ _ _ _ _ _ _ (zx1.ext z523) (zy2.ext z523) (by omega) (by omega) (hu2 _ (by omega))) rfl rfl ?_
  rintro _ W538 ⟨_, _, _, _, rfl, x539, hz537⟩
  have s540 := x539.sz
  have z541 := z521.trans x539
  have z543 := z523.trans x539
  replace hb5 := hb5.ext x539
  replace hb6 := hb6.ext x539
  have q544 := q524.trans x539
  refine ⟨_, rfl, ?_⟩
  refine ⟨fun _ => q544, ?_⟩
  refine ef 9 (by kernel_rfl) rfl ?_
  have hm1 := (hz537).za_mul zx1 zy2
  refine xcall e179 (wMul_ok _ _ _ _ _ _ _ _ _ _ _ _ _ _ _ _ (zx2.ext z543) (zy1.ext z543) (by omega) (by omega) (hu2 _ (by omega))) rfl rfl ?_
  rintro _ W546 ⟨_, _, _, _, rfl, x547, hz545⟩
  have s548 := x547.sz
  have z549 := z541.trans x547
  replace hb5 := hb5.ext x547
  replace hb6 := hb6.ext x547
  have q552 := q544.trans x547
  refine ⟨_, rfl, ?_⟩
  refine ⟨fun _ => q552, ?_⟩
  refine ef 10 (by kernel_rfl) rfl ?_
  have hm2 := (hz545).za_mul zx2 zy1
  refine xcall e178 (wCmp_ok _ _ _ _ _ _ _ _ _ _ _ _ _ _ _ (hm1.ext x547) hm2 (by omega) (by omega)) rfl rfl ?_
  rintro _ W554 ⟨_, rfl, x555, hs553⟩
  have s556 := x555.sz
  have z557 := z549.trans x555
  replace hb5 := hb5.ext x555
  replace hb6 := hb6.ext x555
  have q560 := q552.trans x555
  refine ⟨_, rfl, ?_⟩
  refine ⟨fun _ => q560, ?_⟩
  refine tk 11 rfl (by kernel_rfl) q560 (pv (fun _ y561 => ras (v := .int _ _) rfl)) ?_
  refine dn (by kernel_rfl) ?_
  refine V.ret ?_
  refine ⟨[.int _ _], ⟨rfl, trivial⟩, ?_⟩
  refine ⟨?_, z557⟩
  rw [er1, er2, ← sg_cq k1 k2, ← hs553]; rfl
set_option maxHeartbeats 400000 in
theorem fDiv_ok (q1 q2 : List Value) (r1 r2 : Rat) (L1 L2 : Nat) (S S1 S2 : Nat → Prop) (w : World) (h1 : QA L1 S1 w q1 r1) (h2 : QA L2 S2 w q2 r2) (hL : L1 + L2 < LY) (hl1 : 1 ≤ L1) (hl2 : 1 ≤ L2) (hu : Up S w) (hnz : r2 ≠ 0) :
    Calls Tryz.prog 89 #[.agg q1.toArray, .agg q2.toArray] w (fun e w' => ∃ q, e = .returned (.tuple #[.agg q.toArray, .int .i64 0]) ∧ Ext w w' ∧ QC S w' q (r1 / r2)) := by
 have z0 := Ext.refl w; have hLX : LX = 17592186044416 := rfl; have hLY : LY = 8796093022208 := rfl
 obtain ⟨n1, a1, l1, c1, n2, a2, l2, c2, rfl⟩ := h1.form; obtain ⟨n3, a3, l3, c3, n4, a4, l4, c4, rfl⟩ := h2.form
 have hu2 : ∀ W : World, w.heap.size + 3 ≤ W.heap.size → Up (SX S [w.heap.size + 2]) W := fun W hW => SX.up (hu.mono (by omega)) (by simp <;> omega)
 refine enter (args := [.agg #[.bool n1, .slice a1 l1 c1, .bool n2, .slice a2 l2 c2], .agg #[.bool n3, .slice a3 l3 c3, .bool n4, .slice a4 l4 c4]]) Tryz.func89 rfl rfl (Nat.le_of_ble_eq_true rfl) ?_
 refine V.seq (V.reg rfl ?_)
 refine vo ?_
 refine bxa rfl ?_
 intro W1 x2 b3 nn4
 have s5 := x2.sz
 have z6 := x2
 refine vo ?_
 refine bxa rfl ?_
 intro W7 x8 b9 nn10
 have s11 := x8.sz
 have z12 := z6.trans x8
 replace b3 := b3.ext x8
 refine vo ?_
 refine xal zc48 ?_
 intro W13 x14 b15 nn16
 have s17 := x14.sz
 have z18 := z12.trans x14
 replace b3 := b3.ext x14
 replace b9 := b9.ext x14
 refine asi rfl ?_
 refine vnil ?_
 refine V.seq ?_
 refine V.seq (V.reg rfl ?_)
 refine vv (rldb4 rfl ag48 b9 rfl rfl rfl rfl ) ?_
 refine vo ?_
 refine xcall e66 (fSign_ok _ _ _ _ _ (h2.ext z18) (by omega) (by omega)) rfl rfl ?_
 rintro _ W19 ⟨rfl, x20⟩
 have s21 := x20.sz
 have z22 := z18.trans x20
 replace b3 := b3.ext x20
 replace b9 := b9.ext x20
 replace b15 := b15.ext x20
 refine ⟨_, rfl, ?_⟩
 refine veq rfl rfl ?_ ?_
 ·intro c1
  exact absurd (cq_eq.1 c1) hnz
 ·intro c1
  refine vnil ?_
  refine V.condF rfl ?_
  refine V.skip ?_
  refine V.seq (V.reg rfl ?_)
  refine vv (rldb4 rfl ag48 b3 rfl rfl rfl rfl ) ?_
  refine vv (rldb4 rfl ag48 b9 rfl rfl rfl rfl ) ?_
  refine vo ?_
  refine xcall e144 (dDiv_ok _ _ _ _ _ _ _ _ _ _ (h1.ext z22) (h2.ext z22) (by omega) (by omega) (by omega) (hu2 _ (by omega)) hnz) rfl rfl ?_
  rintro _ W24 ⟨_, rfl, x25, hq23⟩
  have s26 := x25.sz
  have z27 := z22.trans x25
  replace b15 := b15.ext x25
  obtain ⟨_, _, _, _, _, _, _, _, rfl⟩ := hq23.form
  refine ⟨_, rfl, ?_⟩
  refine vo ?_
  refine sta (cs' := [_, _, _, _]) b15 rfl rfl sz48 rfl rfl rfl ?_
  intro W28 y29 b15
  have z30 := z27.below (y29.below (by omega))
  have s31 := y29.size
  refine asi rfl ?_
  refine vnil ?_
  refine V.ret ?_
  refine ⟨[_, .int _ _], ⟨⟨_, rfl, lvb ag48 b15 rfl⟩, rfl, trivial⟩, ?_⟩
  exact ⟨_, rfl, z30, ((hq23.ck (y29.ck (by intro hh; first | (simp [SX] at hh <;> omega) | omega)))).un⟩
end Go.Proofs.YtknbjfefeeojlaaGreat
/- Vectors and matrices of the program: slices whose elements take several cells. -/
namespace Go.Proofs.YtknbjfefeeojlaaGreat
open Go.RowKit
def All2 {α β : Type} (p : α → β → Prop) : List α → List β → Prop
  | [], [] => True
  | x :: xs, y :: ys => p x y ∧ All2 p xs ys
  | _, _ => False
section
variable {α β γ : Type} {p p' : α → β → Prop}
theorem All2.imp (h : ∀ x y, p x y → p' x y) : ∀ {xs : List α} {ys : List β}, All2 p xs ys → All2 p' xs ys
  | [], [], _ => trivial
  | _ :: _, _ :: _, ⟨h1, h2⟩ => ⟨h _ _ h1, All2.imp h h2⟩
theorem All2.len : ∀ {xs : List α} {ys : List β}, All2 p xs ys → xs.length = ys.length
  | [], [], _ => rfl
  | _ :: xs, _ :: ys, ⟨_, h2⟩ => by simp [All2.len h2]
  | [], _ :: _, h => h.elim
  | _ :: _, [], h => h.elim
theorem All2.snoc : ∀ {xs : List α} {ys : List β} {x : α} {y : β}, All2 p xs ys → p x y → All2 p (xs ++ [x]) (ys ++ [y])
  | [], [], _, _, _, h => ⟨h, trivial⟩
  | _ :: _, _ :: _, _, _, ⟨h1, h2⟩, h => ⟨h1, All2.snoc h2 h⟩
theorem All2.get : ∀ {xs : List α} {ys : List β} {k : Nat} {x : α}, All2 p xs ys → xs[k]? = some x → ∃ y, ys[k]? = some y ∧ p x y
  | _ :: _, _ :: _, 0, _, ⟨h1, _⟩, h => by simp at h; subst h; exact ⟨_, rfl, h1⟩
  | _ :: _, _ :: _, k + 1, _, ⟨_, h2⟩, h => by simp at h; simpa using All2.get h2 h
theorem All2.set : ∀ {xs : List α} {ys : List β} {k : Nat} {x : α} {y : β}, All2 p xs ys → p x y → All2 p (xs.set k x) (ys.set k y)
  | [], [], _, _, _, _, _ => trivial
  | _ :: _, _ :: _, 0, _, _, ⟨_, h2⟩, h => ⟨h, h2⟩
  | _ :: _, _ :: _, k + 1, _, _, ⟨h1, h2⟩, h => ⟨h1, All2.set h2 h⟩
theorem All2.map {q : α → γ → Prop} (f : β → γ) (h : ∀ x y, p x y → q x (f y)) : ∀ {xs : List α} {ys : List β}, All2 p xs ys → All2 q xs (ys.map f)
  | [], [], _ => trivial
  | _ :: _, _ :: _, ⟨h1, h2⟩ => ⟨h _ _ h1, All2.map f h h2⟩
theorem All2.take : ∀ {xs : List α} {ys : List β} (k : Nat), All2 p xs ys → All2 p (xs.take k) (ys.take k)
  | [], [], _, _ => by simp [All2]
  | _ :: _, _ :: _, 0, _ => by simp [All2]
  | _ :: _, _ :: _, k + 1, ⟨h1, h2⟩ => ⟨h1, All2.take k h2⟩
theorem All2.drop : ∀ {xs : List α} {ys : List β} (k : Nat), All2 p xs ys → All2 p (xs.drop k) (ys.drop k)
  | [], [], _, _ => by simp [All2]
  | _ :: _, _ :: _, 0, h => h
  | _ :: _, _ :: _, k + 1, ⟨_, h2⟩ => by simpa using All2.drop k h2
theorem All2.rep {x : α} {y : β} (h : p x y) : ∀ n, All2 p (List.replicate n x) (List.replicate n y)
  | 0 => trivial
  | n + 1 => ⟨h, All2.rep h n⟩
end
/-- A slice whose elements have s cells each: these are qs. -/
structure RS (s : Nat) (S : Nat → Prop) (W : World) (a : Option Addr) (n c : Nat) (qs : List (List Value)) : Prop where
  len : qs.length = n
  cap : n ≤ c
  max : c ≤ 9223372036854775807
  wd : ∀ q ∈ qs, q.length = s
  at_ : 0 < n → ∃ b off cs T fz, a = some ⟨b, off, none⟩ ∧ S b ∧ W.heap[b]? = some (.cells cs T fz) ∧ ∀ k q, qs[k]? = some q → ∀ j u, q[j]? = some u → cs[off + k * s + j]? = some u
section
variable {s : Nat} {S S' : Nat → Prop} {W W' : World} {a : Option Addr} {n c : Nat} {qs : List (List Value)}
theorem RS.ck (h : RS s S W a n c qs) (x : CK S W W') : RS s S W' a n c qs :=
  ⟨h.len, h.cap, h.max, h.wd, fun hn => by
    obtain ⟨b, off, cs, T, fz, e, hs, hb, hc⟩ := h.at_ hn
    exact ⟨b, off, cs, T, fz, e, hs, x.2 b cs T fz hs hb, hc⟩⟩
theorem RS.sub (h : RS s S W a n c qs) (hs : ∀ b, b < W.heap.size → S b → S' b) : RS s S' W a n c qs :=
  ⟨h.len, h.cap, h.max, h.wd, fun hn => by
    obtain ⟨b, off, cs, T, fz, e, h1, hb, hc⟩ := h.at_ hn
    exact ⟨b, off, cs, T, fz, e, hs b (Array.getElem?_eq_some_iff.1 hb).1 h1, hb, hc⟩⟩
theorem RS.nil (s : Nat) (S : Nat → Prop) (W : World) (a : Option Addr) (c : Nat) (hc : c ≤ 9223372036854775807) : RS s S W a 0 c [] := ⟨rfl, Nat.zero_le _, hc, by simp, fun h => absurd h (by omega)⟩
theorem RS.isS (h : RS s S W a n c qs) {i : Int} (hi : 0 ≤ i) (hn : i < n) : a.isSome = true := by
  obtain ⟨b, off, cs, T, fz, rfl, _⟩ := h.at_ (by omega); rfl
/-- The cells of an element. -/
theorem RS.el (h : RS s S W a n c qs) {i : Int} (hi : 0 ≤ i) (hn : i < n) : ∃ q, qs[i.toNat]? = some q ∧ q.length = s ∧ ∀ j u, q[j]? = some u → W.cell? ((adr a i s).add j) = some u := by
  obtain ⟨b, off, cs, T, fz, rfl, hs, hb, hc⟩ := h.at_ (by omega)
  have hl := h.len
  have hlt : i.toNat < qs.length := by omega
  refine ⟨qs[i.toNat], List.getElem?_eq_getElem hlt, h.wd _ (List.getElem_mem hlt), fun j u hj => ?_⟩
  simp only [adr, addO]
  simp [World.cell?, hb, hc _ _ (List.getElem?_eq_getElem hlt) j u hj]
/-- A part of it. -/
theorem RS.cut (h : RS s S W a n c qs) {l m : Nat} (h0 : l ≤ m) (hm : m ≤ n) : RS s S W (if c = l then a else a.map (·.add (l * s))) (m - l) (c - l) ((qs.take m).drop l) :=
  ⟨by have := h.len; simp; omega, by have := h.cap; omega, by have := h.max; omega, fun q hq => h.wd q (List.mem_of_mem_take (List.mem_of_mem_drop hq)), fun hn => by
    obtain ⟨b, off, cs, T, fz, rfl, hs, hb, hc⟩ := h.at_ (by omega)
    have hcap := h.cap
    refine ⟨b, off + l * s, cs, T, fz, by rw [if_neg (by omega)]; simp [addO], hs, hb, fun k q hk j u hj => ?_⟩
    rw [List.getElem?_drop, List.getElem?_take] at hk
    split at hk
    · have := hc (l + k) q hk j u hj
      rw [Nat.add_mul] at this
      rw [← this]; congr 1; omega
    · cases hk⟩
end

/-! ### Vectors -/
def GX (S : Nat → Prop) (W : World) (a : Option Addr) (n c : Nat) (ρs : List RawQ) : Prop := ∃ qs, RS 4 S W a n c qs ∧ All2 (QX S W) qs ρs
def GA (L : Nat) (S : Nat → Prop) (W : World) (a : Option Addr) (n c : Nat) (rs : List Rat) : Prop := ∃ qs, RS 4 S W a n c qs ∧ All2 (QA L S W) qs rs
def GC (S : Nat → Prop) (W : World) (a : Option Addr) (n c : Nat) (rs : List Rat) : Prop := ∃ qs, RS 4 S W a n c qs ∧ All2 (QC S W) qs rs
def szV (L : Nat) (rs : List Rat) : Prop := ∀ r ∈ rs, sz L r
/-- The element at i, or 0 beyond the end. -/
def vat (rs : List Rat) (i : Nat) : Rat := rs.getD i 0
section
variable {L L' : Nat} {S S' : Nat → Prop} {W W' : World} {a : Option Addr} {n c : Nat} {ρs : List RawQ} {rs : List Rat} {bs : List Nat}
theorem GA.ck (h : GA L S W a n c rs) (x : CK S W W') : GA L S W' a n c rs := by obtain ⟨qs, h1, h2⟩ := h; exact ⟨qs, h1.ck x, h2.imp fun _ _ h => h.ck x⟩
theorem GA.ext (h : GA L S W a n c rs) (x : Ext W W') : GA L S W' a n c rs := h.ck (x.ck S)
theorem GA.sub (h : GA L S W a n c rs) (hs : ∀ b, b < W.heap.size → S b → S' b) : GA L S' W a n c rs := by obtain ⟨qs, h1, h2⟩ := h; exact ⟨qs, h1.sub hs, h2.imp fun _ _ h => h.sub hs⟩
theorem GA.un (h : GA L (SX S bs) W a n c rs) : GA L S W a n c rs := h.sub fun _ _ h => h.1
theorem GA.top (h : GA L S W a n c rs) : GA L (fun _ => True) W a n c rs := h.sub fun _ _ _ => trivial
theorem GA.mono (h : GA L S W a n c rs) (hL : L ≤ L') : GA L' S W a n c rs := by obtain ⟨qs, h1, h2⟩ := h; exact ⟨qs, h1, h2.imp fun _ _ h => h.mono hL⟩
theorem GA.len (h : GA L S W a n c rs) : rs.length = n := by obtain ⟨qs, h1, h2⟩ := h; rw [← h2.len, h1.len]
theorem GA.max (h : GA L S W a n c rs) : n ≤ c ∧ c ≤ 9223372036854775807 := by obtain ⟨qs, h1, h2⟩ := h; exact ⟨h1.cap, h1.max⟩
theorem GC.ck (h : GC S W a n c rs) (x : CK S W W') : GC S W' a n c rs := by obtain ⟨qs, h1, h2⟩ := h; exact ⟨qs, h1.ck x, h2.imp fun _ _ h => h.ck x⟩
theorem GC.ext (h : GC S W a n c rs) (x : Ext W W') : GC S W' a n c rs := h.ck (x.ck S)
theorem GC.sub (h : GC S W a n c rs) (hs : ∀ b, b < W.heap.size → S b → S' b) : GC S' W a n c rs := by obtain ⟨qs, h1, h2⟩ := h; exact ⟨qs, h1.sub hs, h2.imp fun _ _ h => h.sub hs⟩
theorem GC.un (h : GC (SX S bs) W a n c rs) : GC S W a n c rs := h.sub fun _ _ h => h.1
theorem GC.len (h : GC S W a n c rs) : rs.length = n := by obtain ⟨qs, h1, h2⟩ := h; rw [← h2.len, h1.len]
theorem GC.max (h : GC S W a n c rs) : n ≤ c ∧ c ≤ 9223372036854775807 := by obtain ⟨qs, h1, h2⟩ := h; exact ⟨h1.cap, h1.max⟩
theorem GC.cast {rs' : List Rat} (h : GC S W a n c rs) (e : rs = rs') : GC S W a n c rs' := e ▸ h
theorem GC.va (h : GC S W a n c rs) (hs : szV L rs) : GA L S W a n c rs := by
  obtain ⟨qs, h1, h2⟩ := h
  refine ⟨qs, h1, ?_⟩
  clear h1
  induction qs generalizing rs with
  | nil => cases rs <;> simp_all [All2]
  | cons q qs ih => cases rs with
    | nil => exact h2.elim
    | cons r rs => exact ⟨QC.qa h2.1 (hs r (by simp)), ih (fun x hx => hs x (by simp [hx])) h2.2⟩
theorem GA.szv (h : GA L S W a n c rs) (hL : 1 ≤ L) : szV L rs := by
  obtain ⟨qs, h1, h2⟩ := h
  intro r hr
  obtain ⟨k, hk⟩ := List.getElem?_of_mem hr
  have hl := h2.len
  have : k < qs.length := by rw [hl]; exact (List.getElem?_eq_some_iff.1 hk).1
  obtain ⟨y, e, hy⟩ := h2.get (List.getElem?_eq_getElem this)
  rw [hk] at e; cases e
  exact hy.sz' hL
theorem GX.ck (h : GX S W a n c ρs) (x : CK S W W') : GX S W' a n c ρs := by obtain ⟨qs, h1, h2⟩ := h; exact ⟨qs, h1.ck x, h2.imp fun _ _ h => h.ck x⟩
theorem GX.ext (h : GX S W a n c ρs) (x : Ext W W') : GX S W' a n c ρs := h.ck (x.ck S)
theorem GX.sub (h : GX S W a n c ρs) (hs : ∀ b, b < W.heap.size → S b → S' b) : GX S' W a n c ρs := by obtain ⟨qs, h1, h2⟩ := h; exact ⟨qs, h1.sub hs, h2.imp fun _ _ h => h.sub hs⟩
theorem GX.len (h : GX S W a n c ρs) : ρs.length = n := by obtain ⟨qs, h1, h2⟩ := h; rw [← h2.len, h1.len]
theorem GX.va (h : GX S W a n c ρs) (hs : ∀ ρ ∈ ρs, szQ L ρ) : GA L S W a n c (ρs.map qval) := by
  obtain ⟨qs, h1, h2⟩ := h
  refine ⟨qs, h1, ?_⟩
  clear h1
  induction qs generalizing ρs with
  | nil => cases ρs <;> simp_all [All2]
  | cons q qs ih => cases ρs with
    | nil => exact h2.elim
    | cons r rs => exact ⟨⟨r, h2.1, hs r (by simp), rfl⟩, ih (fun x hx => hs x (by simp [hx])) h2.2⟩
/-- An element. -/
theorem GA.el (h : GA L S W a n c rs) {i : Int} (hi : 0 ≤ i) (hn : i < n) : ∃ n1 a1 l1 c1 n2 a2 l2 c2, QA L S W [.bool n1, .slice a1 l1 c1, .bool n2, .slice a2 l2 c2] (vat rs i.toNat) ∧
    ∀ j u, ([.bool n1, .slice a1 l1 c1, .bool n2, .slice a2 l2 c2] : List Value)[j]? = some u → W.cell? ((adr a i 4).add j) = some u := by
  obtain ⟨qs, h1, h2⟩ := h
  obtain ⟨q, h3, h4, h5⟩ := h1.el hi hn
  obtain ⟨r, h6, h7⟩ := h2.get h3
  obtain ⟨n1, a1, l1, c1, n2, a2, l2, c2, rfl⟩ := h7.form
  refine ⟨n1, a1, l1, c1, n2, a2, l2, c2, ?_, h5⟩
  have : vat rs i.toNat = r := by unfold vat; rw [List.getD_eq_getElem?_getD, h6]; rfl
  rw [this]; exact h7
end
section
variable {r : Option Nat} {P : Program} {ops : Array Oper} {R : Env → World → Prop} {l : List Oper} {E : Env} {W W' : World} {t : Tmp} {d : Option Tmp} {ty T T' e : TypeId} {pos : String} {af : Array Edge} {g : Option (Nat × Bool)} {x y : Operand} {K : Value → World → Prop} {ρ : Operand → Value} {v : Value}
theorem vldQ {L : Nat} {S : Nat → Prop} {a : Option Addr} {n c : Nat} {rs : List Rat} {i : Int} (h : GA L S W a n c rs) (hx : ev E x = .pointer (some (adr a i 4))) (hT : Ag P T 4) (h0 : 0 ≤ i) (h1 : i < n)
    (K : ∀ n1 a1 l1 c1 n2 a2 l2 c2, QA L S W [.bool n1, .slice a1 l1 c1, .bool n2, .slice a2 l2 c2] (vat rs i.toNat) → RV r P ops R l (up E t (.agg #[.bool n1, .slice a1 l1 c1, .bool n2, .slice a2 l2 c2])) W) : RV r P ops R (⟨some t, .load T x, ty, pos, af, none⟩ :: l) E W := by
  obtain ⟨n1, a1, l1, c1, n2, a2, l2, c2, hq, hc⟩ := h.el h0 h1
  exact vv (rldn (l := [.bool n1, .slice a1 l1 c1, .bool n2, .slice a2 l2 c2]) hx hT rfl hc) (K _ _ _ _ _ _ _ _ hq)
end

/-! ### A slice that the call appends to -/
structure OS (s : Nat) (B : Nat) (W : World) (e : TypeId) (v : Value) (qs : List (List Value)) : Prop where
  row : W.ownsRow B e s v qs.length qs.flatten
  wd : ∀ q ∈ qs, q.length = s
section
variable {r : Option Nat} {P : Program} {ρ : Operand → Value} {W W' : World} {d : Option Tmp} {op : Op} {ty T e : TypeId} {pos : String} {af : Array Edge} {g : Option (Nat × Bool)} {x y : Operand} {v u : Value} {K : Value → World → Prop} {s B : Nat} {qs : List (List Value)}
theorem flat_get {qs : List (List Value)} {s : Nat} (hw : ∀ q ∈ qs, q.length = s) {k : Nat} {q : List Value} (hk : qs[k]? = some q) {j : Nat} (hj : j < s) : qs.flatten[k * s + j]? = q[j]? := by
  induction qs generalizing k with
  | nil => simp at hk
  | cons p qs ih =>
    have hp := hw p (by simp)
    cases k with
    | zero => simp at hk; subst hk; rw [List.flatten_cons, Nat.zero_mul, Nat.zero_add, List.getElem?_append_left (by omega)]
    | succ k =>
      simp at hk
      rw [List.flatten_cons, List.getElem?_append_right (by rw [Nat.succ_mul]; omega), hp, ← ih (fun q hq => hw q (by simp [hq])) hk]
      congr 1; rw [Nat.succ_mul]; omega
theorem OS.form (h : OS s B W e v qs) : ∃ a c, v = .slice a qs.length c := by
  rcases h.row.2 with ⟨rfl, h0⟩ | ⟨b, cap, cur, rfl, _⟩
  · exact ⟨none, 0, by rw [h0]⟩
  · exact ⟨_, cap, rfl⟩
theorem OS.rs {S : Nat → Prop} {a : Option Addr} {n c : Nat} (h : OS s B W e (.slice a n c) qs) (hS : ∀ b, B ≤ b → b < W.heap.size → S b) : RS s S W a n c qs := by
  rcases h.row.2 with ⟨h1, h0⟩ | ⟨b, cap, cur, h1, hb, hh, hn, hm, hs, ht⟩
  · injection h1 with h1 h2 h3
    subst h1 h2 h3
    have : qs = [] := List.eq_nil_of_length_eq_zero h0
    subst this
    exact RS.nil _ _ _ _ _ (by omega)
  · injection h1 with h1 h2 h3
    subst h1 h2 h3
    refine ⟨rfl, hn, by simp only [maxLen] at hm; omega, h.wd, fun h0 => ⟨b, 0, cur, e, (0,0), rfl, hS b hb (Array.getElem?_eq_some_iff.1 hh).1, hh, fun k q hk j u hj => ?_⟩⟩
    have hq := h.wd q (List.mem_of_getElem? hk)
    have hj2 : j < s := by rw [← hq]; exact (List.getElem?_eq_some_iff.1 hj).1
    have h5 := flat_get h.wd hk hj2
    rw [← ht, hj, List.getElem?_take] at h5
    split at h5
    · simpa using h5
    · cases h5
theorem OS.nil (s B : Nat) (W : World) (e : TypeId) : OS s B W e (.slice none 0 0) [] := ⟨World.ownsRow_nil _ _ _ _, by simp⟩
theorem OS.ck {S : Nat → Prop} (h : OS s B W e v qs) (hx : CK S W W') (hS : ∀ b, v.ownBlock = some b → S b) : OS s B W' e v qs := by
  refine ⟨⟨h.row.1, ?_⟩, h.wd⟩
  rcases h.row.2 with h1 | ⟨b, cap, cur, rfl, hb, hh, rest⟩
  · exact .inl h1
  · exact .inr ⟨b, cap, cur, rfl, hb, hx.2 b cur e (0,0) (hS b rfl) hh, rest⟩
theorem OS.ext (h : OS s B W e v qs) (hx : Ext W W') : OS s B W' e v qs := h.ck (hx.ck fun _ => True) fun _ _ => trivial
theorem OS.low (h : OS s B W e v qs) : ∀ b, v.ownBlock = some b → B ≤ b ∧ b < W.heap.size := h.row.lt
theorem OS.neBox {b : Nat} {cs : List Value} (h : OS s B W e v qs) (hb : BoxAt W b cs T) (hT : T ≠ e) : v.ownBlock ≠ some b := by
  rcases h.row.2 with ⟨rfl, _⟩ | ⟨b', cap, cur, rfl, _, hh, _⟩
  · simp [Value.ownBlock]
  · intro e0
    simp only [Value.ownBlock, Option.some.injEq] at e0
    subst e0
    unfold BoxAt at hb
    rw [hb] at hh
    injection hh with hh
    injection hh with _ h2 _
    exact hT h2
theorem KB.grownS {n : Nat} (h : OS s B W e v qs) (hg : W.grownBy W' v.ownBlock) (hn : n ≤ B) (hB : n ≤ W.heap.size) : KB n W W' :=
  ⟨(Below.refl n W).grown hg hB fun b e => Nat.le_trans hn (h.low b e).1, fun k o hk ho => by
    refine (hg.block k (Array.getElem?_eq_some_iff.1 hk).1 ?_).trans hk
    intro e0
    rcases h.row.2 with ⟨rfl, _⟩ | ⟨b', cap, cur, rfl, _, hh, _⟩
    · cases e0
    · simp only [Value.ownBlock, Option.some.injEq] at e0
      subst e0; rw [hh] at hk; cases hk; simp [Obj.isCells] at ho⟩
/-- append(v, q): the one element stands in a block of its own. -/
theorem xappS {t1 : TypeId} {b c1 bytes : Nat} {z : Value} {q : List Value} (hS : Sl P t1 e) (hi : ∃ i, P.info? e = some i ∧ i.size = s ∧ i.bytes = bytes ∧ i.zero = some z) (hzs : Nat.beq z.cells.size s = true) (hs0 : Nat.blt 0 s = true) (hO : OS s B W e v qs) (hx : ρ x = v) (hy : ρ y = .slice (some ⟨b, 0, none⟩) 1 c1) (hb : BoxAt W b q e) (hq : Nat.beq q.length s = true) (ho : (q.all Value.oneCell') = true)
    (hlen : (qs.length + 1) * bytes ≤ 140737488355328) (hbp : 0 < bytes) (hB : B ≤ W.heap.size)
    (hk2 : ∀ v' W', OS s B W' e v' (qs ++ [q]) → W.grownBy W' v.ownBlock → (v'.ownBlock = v.ownBlock ∨ v'.ownBlock = some W.heap.size) → K v' W') :
    OpF r P ρ ⟨d, .call ⟨.builtin .append, #[x, y], #[t1, t1]⟩, ty, pos, af, g⟩ W K := by
  obtain ⟨i, h1, h2, h3, h4⟩ := hi
  have hq' : q.length = s := Nat.eq_of_beq_eq_true hq
  have hle : qs.length + 1 ≤ 140737488355328 := Nat.le_trans (Nat.le_mul_of_pos_right _ hbp) hlen
  obtain ⟨v', W', hr, h5, h6, h7, h8⟩ := run_append_own_at (P := P) W B t1 ty e i z s bytes hS h1 h4 h2 h3 (Nat.eq_of_beq_eq_true hzs) (by have := Nat.le_of_ble_eq_true hs0; omega) v qs.length _ hO.row ⟨b, 0, none⟩ 1 c1 q (by omega)
    (by intro j u hj; rw [addO, Nat.zero_add]; exact hb.cell j hj) (by simpa using ho) (by simp only [maxLen]; omega) hlen hB
  unfold OpF execOp
  simp only [resolve, invoke, builtin, Sem.run_bind, Sem.run_pure, Result.andThen_ok, List.map_toArray, List.map_cons, List.map_nil, hx, hy, hr]
  refine hk2 v' W' ⟨by simpa using h5, ?_⟩ h6 h8
  intro p hp
  rcases List.mem_append.1 hp with hp | hp
  · exact hO.wd p hp
  · simp at hp; subst hp; exact hq'
end

/-! ### Elements by their cells -/
def form4 (q : List Value) : Prop := ∃ n1 a1 l1 c1 n2 a2 l2 c2, q = [.bool n1, .slice a1 l1 c1, .bool n2, .slice a2 l2 c2]
def zq : List Value := [.bool false, .slice none 0 0, .bool false, .slice none 0 0]
theorem form4_zq : form4 zq := ⟨_, _, _, _, _, _, _, _, rfl⟩
def qat (qs : List (List Value)) (i : Nat) : List Value := qs.getD i zq
theorem qat_form {qs : List (List Value)} (h : ∀ q ∈ qs, form4 q) (i : Nat) : form4 (qat qs i) := by
  unfold qat
  rw [List.getD_eq_getElem?_getD]
  cases hq : qs[i]? with
  | none => exact form4_zq
  | some q => exact h q (List.mem_of_getElem? hq)
theorem All2.form {L : Nat} {S : Nat → Prop} {W : World} : ∀ {qs : List (List Value)} {rs : List Rat}, All2 (QA L S W) qs rs → ∀ q ∈ qs, form4 q
  | _ :: _, _ :: _, ⟨h1, h2⟩, q, hq => by
    rcases List.mem_cons.1 hq with rfl | hq
    · exact h1.form
    · exact All2.form h2 q hq
theorem QA.zero {L : Nat} (S : Nat → Prop) (W : World) : QA L S W zq 0 := ⟨⟨false, [], false, []⟩, ⟨_, _, _, _, _, _, rfl, RN.nil _ _ _ _ _ (by omega), RN.nil _ _ _ _ _ (by omega)⟩, ⟨Nat.zero_le _, Nat.zero_le _⟩, by simp [qval, zval, vl, qv]⟩
theorem All2.qat {L : Nat} {S : Nat → Prop} {W : World} {qs : List (List Value)} {rs : List Rat} (h : All2 (QA L S W) qs rs) (i : Nat) : QA L S W (qat qs i) (vat rs i) := by
  unfold Go.Proofs.YtknbjfefeeojlaaGreat.qat vat
  rw [List.getD_eq_getElem?_getD, List.getD_eq_getElem?_getD]
  cases hq : qs[i]? with
  | none =>
    have : rs[i]? = none := by rw [List.getElem?_eq_none_iff, ← h.len]; exact List.getElem?_eq_none_iff.1 hq
    rw [this]; exact QA.zero S W
  | some q =>
    obtain ⟨r, e, hr⟩ := h.get hq
    rw [e]; exact hr
section
variable {r : Option Nat} {P : Program} {ops : Array Oper} {R : Env → World → Prop} {l : List Oper} {E : Env} {W : World} {t : Tmp} {ty T : TypeId} {pos : String} {af : Array Edge} {x : Operand}
theorem RS.el4 {S : Nat → Prop} {a : Option Addr} {n c : Nat} {qs : List (List Value)} (h : RS 4 S W a n c qs) (hf : ∀ q ∈ qs, form4 q) {i : Int} (hi : 0 ≤ i) (hn : i < n) : ∃ n1 a1 l1 c1 n2 a2 l2 c2, qat qs i.toNat = [.bool n1, .slice a1 l1 c1, .bool n2, .slice a2 l2 c2] ∧
    ∀ j u, ([.bool n1, .slice a1 l1 c1, .bool n2, .slice a2 l2 c2] : List Value)[j]? = some u → W.cell? ((adr a i 4).add j) = some u := by
  obtain ⟨q, h3, h4, h5⟩ := h.el hi hn
  obtain ⟨n1, a1, l1, c1, n2, a2, l2, c2, rfl⟩ := hf q (List.mem_of_getElem? h3)
  refine ⟨n1, a1, l1, c1, n2, a2, l2, c2, ?_, h5⟩
  unfold qat; rw [List.getD_eq_getElem?_getD, h3]; rfl
theorem vldR {S : Nat → Prop} {a : Option Addr} {n c : Nat} {qs : List (List Value)} {i : Int} (h : RS 4 S W a n c qs) (hf : ∀ q ∈ qs, form4 q) (hx : ev E x = .pointer (some (adr a i 4))) (hT : Ag P T 4) (h0 : 0 ≤ i) (h1 : i < n)
    (K : ∀ n1 a1 l1 c1 n2 a2 l2 c2, qat qs i.toNat = [.bool n1, .slice a1 l1 c1, .bool n2, .slice a2 l2 c2] → RV r P ops R l (up E t (.agg #[.bool n1, .slice a1 l1 c1, .bool n2, .slice a2 l2 c2])) W) : RV r P ops R (⟨some t, .load T x, ty, pos, af, none⟩ :: l) E W := by
  obtain ⟨n1, a1, l1, c1, n2, a2, l2, c2, hq, hc⟩ := h.el4 hf h0 h1
  exact vv (rldn (l := [.bool n1, .slice a1 l1 c1, .bool n2, .slice a2 l2 c2]) hx hT rfl hc) (K _ _ _ _ _ _ _ _ hq)
end
theorem RS.kd {s : Nat} {D : Nat → Prop} {W W' : World} {a : Option Addr} {n c : Nat} {qs : List (List Value)} (h : RS s D W a n c qs) (x : KD D W W') : RS s D W' a n c qs := h.ck x.ck
theorem RS.ext {s : Nat} {S : Nat → Prop} {W W' : World} {a : Option Addr} {n c : Nat} {qs : List (List Value)} (h : RS s S W a n c qs) (x : Ext W W') : RS s S W' a n c qs := h.ck (x.ck S)
/-- An array, built out of its elements. -/
theorem rba {P : Program} {ρ : Operand → Value} {W : World} {d : Option Tmp} {ty T e : TypeId} {pos : String} {af : Array Edge} {g : Option (Nat × Bool)} {n s : Nat} {cs zs : List Value} {parts : Array (Nat × Operand)} {ps : List (Nat × Value)} (hT : P.underlying T = some (.array n e)) (hs : Sz P e s) (hz : Zc P T zs) (hp' : (parts.toList.map fun p => (p.1, ρ p.2)) = ps) (hf : Instr.fill (fun i => some (i * s, s)) zs.toArray ps = some cs.toArray) :
    (execOp ρ ⟨d, .build T parts, ty, pos, af, g⟩).run P W = .ok (.value (.agg cs.toArray)) W := by
  obtain ⟨z, h3, h4⟩ := hz
  have hp : (parts.map fun (i, x) => (i, ρ x)).toList = ps := by rw [← hp']; simp
  unfold execOp
  simp only [Instr.build, Sem.run_bind, zero_zr h3, Result.andThen_ok, run_underlying hT, sizeOf_sz hs, h4, hp]
  simp only [hf, Sem.run_pure, Result.andThen_ok]
theorem fill24 (z0 z1 z2 z3 z4 z5 z6 z7 u0 u1 u2 u3 v0 v1 v2 v3 : Value) : Instr.fill (fun i => some (i * 4, 4)) [z0, z1, z2, z3, z4, z5, z6, z7].toArray [(0, .agg #[u0, u1, u2, u3]), (1, .agg #[v0, v1, v2, v3])] = some [u0, u1, u2, u3, v0, v1, v2, v3].toArray := by
  simp [Instr.fill, Value.cells]
end Go.Proofs.YtknbjfefeeojlaaGreat
/- Package vec: at, both. -/
namespace Go.Proofs.YtknbjfefeeojlaaGreat
open Go.RowKit
attribute [local irreducible] RV VH V OpF Calls
theorem qat_ge {qs : List (List Value)} {i : Nat} (h : qs.length ≤ i) : qat qs i = zq := by unfold qat; rw [List.getD_eq_getElem?_getD, List.getElem?_eq_none h]; rfl

set_option maxHeartbeats 400000 in
theorem at_ok (a : Option Addr) (n c : Nat) (k : Int) (qs : List (List Value)) (S : Nat → Prop) (w : World) (h : RS 4 S w a n c qs) (hf : ∀ q ∈ qs, form4 q) (hk : 0 ≤ k) :
    Calls Tryz.prog 93 #[.slice a n c, .int .i64 k] w (fun e w' => ∃ n1 a1 l1 c1 n2 a2 l2 c2, e = .returned (.agg #[.bool n1, .slice a1 l1 c1, .bool n2, .slice a2 l2 c2]) ∧ Ext w w' ∧ qat qs k.toNat = [.bool n1, .slice a1 l1 c1, .bool n2, .slice a2 l2 c2]) := by
 have z0 := Ext.refl w; have hLX : LX = 17592186044416 := rfl; have hLY : LY = 8796093022208 := rfl
 have hl := h.len
 refine enter (args := [.slice a n c, .int .i64 k]) Tryz.func93 rfl rfl (Nat.le_of_ble_eq_true rfl) ?_
 refine V.seq (V.reg rfl ?_)
 refine vo ?_
 refine xal zc48 ?_
 intro W1 x2 b3 nn4
 have s5 := x2.sz
 have z6 := x2
 refine vnil ?_
 refine V.seq ?_
 refine V.seq (V.reg rfl ?_)
 refine mvi rfl ?_
 refine mvs rfl ?_
 refine vv (rlen sl23 rfl) ?_
 refine vlt rfl rfl ?_ ?_
 ·intro c7
  refine vnil ?_
  refine V.condT rfl ?_
  refine V.seq (V.reg rfl ?_)
  refine mvs rfl ?_
  refine mvi rfl ?_
  refine vv (rix sl23 sz48 rfl rfl (by omega) (by omega) ((h.ext z6).isS (i := 0) (by omega) (by omega))) ?_
  refine vldR (h.ext z6) hf rfl ag48 (by omega) (by omega) ?_
  intro n8 a9 l10 c11 n12 a13 l14 c15 hq16
  refine vo ?_
  refine sta (cs' := [_, _, _, _]) b3 rfl rfl sz48 rfl rfl rfl ?_
  intro W17 y18 b3
  have z19 := z6.below (y18.below (by omega))
  have s20 := y18.size
  refine vnil ?_
  refine V.ret ?_
  refine ⟨[_], ⟨⟨_, rfl, lvb ag48 b3 rfl⟩, trivial⟩, ?_⟩
  exact ⟨_, _, _, _, _, _, _, _, rfl, z19, hq16⟩
 ·intro c7
  refine vnil ?_
  refine V.condF rfl ?_
  refine V.skip ?_
  refine V.seq (V.reg rfl ?_)
  refine vv (rbd (ps := []) (cs := [.bool false, .slice _ _ _, .bool false, .slice _ _ _]) pl48 rfl rfl) ?_
  refine vo ?_
  refine sta (cs' := [_, _, _, _]) b3 rfl rfl sz48 rfl rfl rfl ?_
  intro W21 y22 b3
  have z23 := z6.below (y22.below (by omega))
  have s24 := y22.size
  refine vnil ?_
  refine V.ret ?_
  refine ⟨[_], ⟨⟨_, rfl, lvb ag48 b3 rfl⟩, trivial⟩, ?_⟩
  exact ⟨_, _, _, _, _, _, _, _, rfl, z23, qat_ge (by omega)⟩
set_option maxHeartbeats 400000 in
theorem both_iter {D : Nat → Prop} {w : World} {a1 a2 : Option Addr} {n c m d : Nat} {qs1 qs2 : List (List Value)} {b1 b2 : Nat} (hb1 : BoxAt w b1 [.slice a1 n c] 23) (hb2 : BoxAt w b2 [.slice a2 m d] 23) (hx : RS 4 D w a1 n c qs1) (hy : RS 4 D w a2 m d qs2) (f1 : ∀ q ∈ qs1, form4 q) (f2 : ∀ q ∈ qs2, form4 q) (h1 : D b1) (h2 : D b2) :
    Iter Tryz.prog 189 #[.pointer (some ⟨b1, 0, none⟩), .pointer (some ⟨b2, 0, none⟩)] (fun i => .int .i64 (i : Int)) (fun i => .agg (qat qs1 i ++ qat qs2 i).toArray) D (max n m) w := by
 have z0 := Ext.refl w; have hLX : LX = 17592186044416 := rfl; have hLY : LY = 8796093022208 := rfl
 intro l J Jx X hX hJs hJxs hY hJ0
 have hx0 := hx.ext hX; have hy0 := hy.ext hX; have b10 := hb1.ext hX; have b20 := hb2.ext hX
 have l1 := hx.len; have l2 := hy.len; have q1 := hx.cap; have q2 := hy.cap; have q3 := hx.max; have q4 := hy.max
 refine enter (args := [.func (.yield l) #[] #[], .pointer (some ⟨b1, 0, none⟩), .pointer (some ⟨b2, 0, none⟩)]) Tryz.func189 rfl rfl (Nat.le_of_ble_eq_true rfl) ?_
 refine V.seq (V.reg rfl ?_)
 refine vv (rldb (v := .slice _ _ _) rfl sc23 b10 rfl) ?_
 refine vv (rlen sl23 rfl) ?_
 refine vv (rldb (v := .slice _ _ _) rfl sc23 b20 rfl) ?_
 refine vv (rlen sl23 rfl) ?_
 refine vv (rmax rfl rfl rfl) ?_
 refine mvi rfl ?_
 refine vnil ?_
 refine V.block ?_
 refine V.loopK (ι := Nat) [(0, .func _ _ _), (1, .pointer (some ⟨_, _, none⟩)), (2, .pointer (some ⟨_, _, none⟩)), (9, .int _ _)] (fun k => [(10, .int .i64 (k : Int))]) (fun k W => J k W ∧ KD D w W ∧ k ≤ max n m) (fun k => max n m - k) (0) ⟨rfl, rfl, rfl, rfl, trivial⟩ ⟨rfl, trivial⟩ ⟨hJ0, hX.kd, Nat.zero_le _⟩ ?_
 intro k E2 W1 h3
 obtain ⟨hJ, hkd, hk⟩ := h3
 have hx1 := hx.kd hkd
 have hy1 := hy.kd hkd
 have b1' := hb1.kd hkd h1; have b2' := hb2.kd hkd h2
 refine V.seq (V.reg rfl ?_)
 refine vlt rfl rfl ?_ ?_
 ·intro c4
  refine vnil ?_
  refine V.seq ?_
  refine V.condT rfl ?_
  refine V.skip ?_
  refine V.seq ?_
  refine V.block ?_
  refine V.seq (V.reg rfl ?_)
  refine mvi rfl ?_
  refine asi rfl ?_
  refine vnil ?_
  refine V.seq (V.regS (fun W => KD D W) mixed rfl ?_)
  intro W5 x6
  have s7 := x6.sz
  replace b1' := b1'.ext x6
  replace b2' := b2'.ext x6
  have q9 := KD.refl D W5
  have r10 := b1'
  have r11 := b2'
  refine tk 0 rfl (by kernel_rfl) q9 (pv (fun _ y12 => rmv (v := .func _ _ _) rfl)) ?_
  refine tk 1 rfl (by kernel_rfl) q9 (pv (fun _ y13 => rmv (v := .int _ _) rfl)) ?_
  refine tk 2 rfl (by kernel_rfl) q9 (pv (fun _ y14 => rldb (v := .slice _ _ _) rfl sc23 (r10.kd y14 h1) rfl)) ?_
  refine tk 3 rfl (by kernel_rfl) q9 (pv (fun _ y15 => rmv (v := .int _ _) rfl)) ?_
  refine tk 5 rfl (by kernel_rfl) q9 (pv (fun _ y16 => rldb (v := .slice _ _ _) rfl sc23 (r11.kd y16 h2) rfl)) ?_
  refine tk 6 rfl (by kernel_rfl) q9 (pv (fun _ y17 => rmv (v := .int _ _) rfl)) ?_
  refine ef 4 (by kernel_rfl) rfl ?_
  refine xcall e93 (at_ok _ _ _ _ _ _ _ (hx1.ext x6) f1 (by omega)) rfl rfl ?_
  rintro _ W19 ⟨_, _, _, _, _, _, _, _, rfl, x20, eq18⟩
  have s21 := x20.sz
  replace b1' := b1'.ext x20
  replace b2' := b2'.ext x20
  have q22 := q9.trans x20.kd
  refine ⟨_, rfl, ?_⟩
  refine ⟨fun _ => q22, ?_⟩
  refine ef 7 (by kernel_rfl) rfl ?_
  refine xcall e93 (at_ok _ _ _ _ _ _ _ (hy1.ext (x6.trans x20)) f2 (by omega)) rfl rfl ?_
  rintro _ W24 ⟨_, _, _, _, _, _, _, _, rfl, x25, eq23⟩
  have s26 := x25.sz
  replace b1' := b1'.ext x25
  replace b2' := b2'.ext x25
  have q27 := q22.trans x25.kd
  refine ⟨_, rfl, ?_⟩
  refine ⟨fun _ => q27, ?_⟩
  refine tk 8 rfl (by kernel_rfl) q27 (pv (fun _ y28 => rba (ps := [(0, .agg #[_, _, _, _]), (1, .agg #[_, _, _, _])]) (cs := [.bool _, .slice _ _ _, .bool _, .slice _ _ _, .bool _, .slice _ _ _, .bool _, .slice _ _ _]) Tryz.underlying161 sz48 zc161 rfl (fill24 _ _ _ _ _ _ _ _ _ _ _ _ _ _ _ _))) ?_
  refine ef 9 (by kernel_rfl) rfl ?_
  have hYk : ∀ u : List Value, u = qat qs1 k ++ qat qs2 k → YieldAt Fence.wide 0 Tryz.prog l #[.int .i64 (k : Int), .agg u.toArray] W24 (fun e B => (e = .returned (.bool true) ∧ J (k + 1) B ∧ KD D W24 B) ∨ (e = .returned (.bool false) ∧ Jx k B ∧ KD D W24 B)) := by intro u eu; subst eu; exact hY k _ (hJs _ _ _ hJ ((x6.trans x20).trans x25)) (by omega) (hkd.trans (Ext.kd ((x6.trans x20).trans x25)))
  refine xyield (vs := [.int _ _, .agg #[_, _, _, _, _, _, _, _]]) rfl rfl (hYk [_, _, _, _, _, _, _, _] (by rw [show ((k : Int)).toNat = k by omega] at eq18 eq23; rw [eq18, eq23]; rfl)) ?_
  rintro _ W' (⟨rfl, hJ', hkd'⟩ | ⟨rfl, hJx, hkd'⟩) <;> refine ⟨_, rfl, ?_⟩
  ·skip
   refine ⟨fun _ => (q27.trans hkd'), ?_⟩
   refine tk 10 rfl (by kernel_rfl) (q27.trans hkd') (pv (fun _ y29 => rnot (q := false) rfl rfl)) ?_
   refine dn (by kernel_rfl) ?_
   refine V.condF rfl ?_
   refine V.skip ?_
   refine V.reg rfl ?_
   refine vv (rbin (bAdd (wi (by omega))) rfl rfl) ?_
   refine mvi rfl ?_
   refine vnil ?_
   refine ⟨rfl, k + 1, ⟨rfl, rfl, rfl, rfl, trivial⟩, ⟨rfl, trivial⟩, ⟨hJ', (hkd.trans (Ext.kd ((x6.trans x20).trans x25))).trans hkd', by omega⟩, ?_⟩
   show max n m - (k + 1) < max n m - k
   omega
  ·skip
   refine ⟨fun _ => (q27.trans hkd'), ?_⟩
   refine tk 10 rfl (by kernel_rfl) (q27.trans hkd') (pv (fun _ y30 => rnot (q := true) rfl rfl)) ?_
   refine dn (by kernel_rfl) ?_
   refine V.condT rfl ?_
   refine V.ret ?_
   refine ⟨[], trivial, ?_⟩
   exact ⟨⟨_, rfl⟩, .inr ⟨k, by omega, hJx⟩⟩
 ·intro c4
  refine vnil ?_
  refine V.seq ?_
  refine V.condF rfl ?_
  refine V.exit ?_
  refine ⟨[], trivial, ?_⟩
  exact ⟨⟨_, rfl⟩, .inl (by rw [show max n m = k by omega]; exact hJ)⟩
set_option maxHeartbeats 400000 in
theorem both_ok (a1 a2 : Option Addr) (n c m d : Nat) (w : World) :
    Calls Tryz.prog 156 #[.slice a1 n c, .slice a2 m d] w (fun e w' => ∃ b1 b2, b1 = w.heap.size ∧ b2 = w.heap.size + 1 ∧ e = .returned (.func (.func 189) #[] #[.pointer (some ⟨b1, 0, none⟩), .pointer (some ⟨b2, 0, none⟩)]) ∧ Ext w w' ∧ BoxAt w' b1 [.slice a1 n c] 23 ∧ BoxAt w' b2 [.slice a2 m d] 23) := by
 have z0 := Ext.refl w; have hLX : LX = 17592186044416 := rfl; have hLY : LY = 8796093022208 := rfl
 refine enter (args := [.slice a1 n c, .slice a2 m d]) Tryz.func156 rfl rfl (Nat.le_of_ble_eq_true rfl) ?_
 refine V.seq (V.reg rfl ?_)
 refine vo ?_
 refine bxs rfl ?_
 intro W1 x2 b3 nn4
 have s5 := x2.sz
 have z6 := x2
 refine vo ?_
 refine bxs rfl ?_
 intro W7 x8 b9 nn10
 have s11 := x8.sz
 have z12 := z6.trans x8
 replace b3 := b3.ext x8
 refine asn rfl ?_
 refine vnil ?_
 refine V.seq (V.reg rfl ?_)
 refine vv (rmk2 (v := .pointer (some ⟨_, _, none⟩)) (u := .pointer (some ⟨_, _, none⟩)) rfl rfl) ?_
 refine asf rfl ?_
 refine vnil ?_
 refine V.ret ?_
 refine ⟨[.func _ _ _], ⟨rfl, trivial⟩, ?_⟩
 exact ⟨_, _, rfl, by omega, rfl, z12, b3, b9⟩
end Go.Proofs.YtknbjfefeeojlaaGreat
/- Package vec: with. -/
namespace Go.Proofs.YtknbjfefeeojlaaGreat
open Go.RowKit
attribute [local irreducible] RV VH V OpF Calls
abbrev LV : Nat := 1099511627776
def SW (S : Nat → Prop) (b6 : Nat) (v : Value) : Nat → Prop := fun b => S b ∧ b ≠ b6 ∧ v.ownBlock ≠ some b
theorem grown_kd {D : Nat → Prop} {W W' : World} {row : Option Nat} (h : W.grownBy W' row) (hr : ∀ b, row = some b → ¬ D b) (hos : Below 0 W W') : KD D W W' :=
  ⟨hos.os, hos.tape, hos.output, h.size, fun k hk hl => h.block k hl (fun e => hr k e.symm hk)⟩
structure WJ (w : World) (T5 : TypeId) (b5 b6 b1 b2 : Nat) (fv v1 v2 v : Value) (qs : List (List Value)) (X : World) : Prop where
  ext : Ext w X
  x5 : BoxAt X b5 [fv] T5
  x6 : BoxAt X b6 [v] 23
  x1 : BoxAt X b1 [v1] 23
  x2 : BoxAt X b2 [v2] 23
  os : OS 4 w.heap.size X 48 v qs
section
variable {w X Y : World} {T5 : TypeId} {B b5 b6 b1 b2 : Nat} {fv v1 v2 v v' : Value} {qs : List (List Value)} {rs : List Rat} {S : Nat → Prop}
theorem WJ.tn (h : WJ w T5 b5 b6 b1 b2 fv v1 v2 v qs X) (t : Tn B X Y) (hB : w.heap.size ≤ B) : WJ w T5 b5 b6 b1 b2 fv v1 v2 v qs Y :=
  ⟨t.ext h.ext hB, h.x5.tn t, h.x6.tn t, h.x1.tn t, h.x2.tn t, h.os.ck (t.ck fun _ => True) fun _ _ => trivial⟩
theorem WJ.xt (h : WJ w T5 b5 b6 b1 b2 fv v1 v2 v qs X) (x : Ext X Y) : WJ w T5 b5 b6 b1 b2 fv v1 v2 v qs Y :=
  ⟨h.ext.trans x, h.x5.ext x, h.x6.ext x, h.x1.ext x, h.x2.ext x, h.os.ext x⟩
theorem SW.up (hu : Up S w) (h : WJ w T5 b5 b6 b1 b2 fv v1 v2 v qs X) : Up (SW S b6 v) X := fun b hb =>
  ⟨hu b (Nat.le_trans h.ext.sz hb), fun e => by have := h.x6.lt; omega, fun e => by have := (h.os.low b e).2; omega⟩
theorem app_all (h : All2 (QC (SW S b6 v) X) qs rs) (hg : X.grownBy Y v.ownBlock) (ho : v'.ownBlock = v.ownBlock ∨ v'.ownBlock = some X.heap.size) : All2 (QC (SW S b6 v') Y) qs rs :=
  h.imp fun q r hq => by
    have h1 := hq.sub (S' := fun b => SW S b6 v b ∧ v'.ownBlock ≠ some b) (fun b hb hs => ⟨hs, fun e => by
      rcases ho with h | h
      · rw [h] at e; exact hs.2.2 e
      · rw [h] at e; injection e with e; omega⟩)
    exact (h1.ck (grown_ck hg fun b e hs => hs.1.2.2 e)).sub fun b _ hs => ⟨hs.1.1, hs.1.2.1, hs.2⟩
/-- One element more. -/
theorem WJ.app {Z : World} {q : List Value} (h : WJ w T5 b5 b6 b1 b2 fv v1 v2 v qs X) (hT : T5 ≠ 48) (hO : OS 4 w.heap.size Y 48 v' (qs ++ [q])) (hg : X.grownBy Y v.ownBlock) (ho : v'.ownBlock = v.ownBlock ∨ v'.ownBlock = some X.heap.size)
    (y : Wr b6 Y Z) (hb : BoxAt Z b6 [v'] 23) (hl : w.heap.size ≤ b6) (n5 : b5 ≠ b6) (n1 : b1 ≠ b6) (n2 : b2 ≠ b6) :
    WJ w T5 b5 b6 b1 b2 fv v1 v2 v' (qs ++ [q]) Z ∧ KB w.heap.size X Z ∧ KD (fun k => k < w.heap.size ∨ k = b1 ∨ k = b2) X Z := by
  have k1 : KB w.heap.size X Y := KB.grownS h.os hg (Nat.le_refl _) h.ext.sz
  have ne : ∀ {b : Nat} {cs : List Value} {T : TypeId}, BoxAt X b cs T → T ≠ 48 → BoxAt Y b cs T := fun hb hT => hb.ck (S := fun q => v.ownBlock ≠ some q) (grown_ck hg fun b e h => h e) (h.os.neBox hb hT)
  have k2 : KB w.heap.size Y Z := KB.wr y (ne h.x6 (by decide)) hl
  have o6 : v'.ownBlock ≠ some b6 := by
    rcases ho with h' | h' <;> rw [h']
    · exact h.os.neBox h.x6 (by decide)
    · intro e; injection e with e; have := h.x6.lt; omega
  refine ⟨⟨h.ext.below (k1.trans k2).below, (ne h.x5 hT).wr y n5, hb, (ne h.x1 (by decide)).wr y n1, (ne h.x2 (by decide)).wr y n2, hO.ck (y.ck (S := fun q => q ≠ b6) (fun h => h rfl)) (fun b e e2 => o6 (e2 ▸ e))⟩, k1.trans k2, ?_⟩
  refine (grown_kd hg (fun b e hd => ?_) (k1.below.mono (Nat.zero_le _))).trans (y.kd (fun hd => ?_))
  · rcases hd with hd | rfl | rfl
    · have := (h.os.low b e).1; omega
    · exact h.os.neBox h.x1 (by decide) e
    · exact h.os.neBox h.x2 (by decide) e
  · rcases hd with hd | hd | hd
    · omega
    · exact n1 hd.symm
    · exact n2 hd.symm
end


abbrev HF (fF : Nat) (cap : List Value) (gf : Rat → Rat → Rat) (L1 L2 : Nat) (w : World) : Prop :=
  ∀ (W : World) (q1 q2 : List Value) (r1 r2 : Rat) (S' : Nat → Prop), Ext w W → Up S' W → QA L1 (fun _ => True) W q1 r1 → QA L2 (fun _ => True) W q2 r2 → Calls Tryz.prog fF (([.agg q1.toArray, .agg q2.toArray] : List Value) ++ cap).toArray W (PQ S' (gf r1 r2) W)
def zipf (gf : Rat → Rat → Rat) (xs ys : List Rat) (k : Nat) : List Rat := (List.range k).map fun i => gf (vat xs i) (vat ys i)
theorem zipf_succ (gf : Rat → Rat → Rat) (xs ys : List Rat) (k : Nat) : zipf gf xs ys (k + 1) = zipf gf xs ys k ++ [gf (vat xs k) (vat ys k)] := by simp [zipf, List.range_succ]
theorem zipf_len (gf : Rat → Rat → Rat) (xs ys : List Rat) (k : Nat) : (zipf gf xs ys k).length = k := by simp [zipf]

set_option maxHeartbeats 400000 in
theorem with_ok (a1 a2 : Option Addr) (n c m d : Nat) (fF : Nat) (cap : List Value) (gf : Rat → Rat → Rat) (L1 L2 : Nat) (xs ys : List Rat) (S S1 S2 : Nat → Prop) (w : World) (hx : GA L1 S1 w a1 n c xs) (hy : GA L2 S2 w a2 m d ys) (he : Ent Tryz.prog fF) (hf : HF fF cap gf L1 L2 w) (hn : n ≤ LV) (hm : m ≤ LV) (hu : Up S w) :
    Calls Tryz.prog 99 #[.slice a1 n c, .slice a2 m d, .func (.func fF) #[] cap.toArray] w (fun e w' => ∃ a k cc, e = .returned (.slice a k cc) ∧ Ext w w' ∧ GC S w' a k cc (zipf gf xs ys (max n m))) := by
 have z0 := Ext.refl w; have hLX : LX = 17592186044416 := rfl; have hLY : LY = 8796093022208 := rfl
 have hLV : LV = 1099511627776 := rfl
 have l1 := hx.len; have l2 := hy.len
 obtain ⟨qs1, rx, ax⟩ := hx; obtain ⟨qs2, ry, ay⟩ := hy
 have f1 := ax.form; have f2 := ay.form
 refine enter (args := [.slice a1 n c, .slice a2 m d, .func (.func fF) #[] cap.toArray]) Tryz.func99 rfl rfl (Nat.le_of_ble_eq_true rfl) ?_
 refine V.seq (V.reg rfl ?_)
 refine vo ?_
 refine bxf rfl ?_
 intro W1 x2 b3 nn4
 have s5 := x2.sz
 have z6 := x2
 refine vo ?_
 refine xal zc23 ?_
 intro W7 x8 b9 nn10
 have s11 := x8.sz
 have z12 := z6.trans x8
 replace b3 := b3.ext x8
 refine vnil ?_
 refine V.seq ?_
 refine V.seq (V.reg rfl ?_)
 refine mvs rfl ?_
 refine mvs rfl ?_
 refine vo ?_
 refine xcall e156 (both_ok _ _ _ _ _ _ _) rfl rfl ?_
 rintro _ W13 ⟨b1, b2, eb1, eb2, rfl, x14, hb1, hb2⟩
 have s15 := x14.sz
 have z16 := z12.trans x14
 replace b3 := b3.ext x14
 replace b9 := b9.ext x14
 have lb1 := hb1.lt; have lb2 := hb2.lt
 refine ⟨_, rfl, ?_⟩
 refine vnil ?_
 refine V.block ?_
 have lb5 := b3.lt; have lb6 := b9.lt
 refine V.rf (gf := 189) rfl e189 (both_iter hb1 hb2 ((rx.sub (S' := fun q => q < w.heap.size ∨ q = b1 ∨ q = b2) (fun b hb _ => .inl hb)).ext z16) ((ry.sub (S' := fun q => q < w.heap.size ∨ q = b1 ∨ q = b2) (fun b hb _ => .inl hb)).ext z16) f1 f2 (.inr (.inl rfl)) (.inr (.inr rfl))) (Ext.refl _) (by rintro k (h | rfl | rfl) <;> omega) rfl (fun i X => ∃ v qs, WJ w 81 (w.heap.size) (W1.heap.size) b1 b2 (.func (.func fF) #[] cap.toArray) (.slice a1 n c) (.slice a2 m d) v qs X ∧ All2 (QC (SW S (W1.heap.size) v) X) qs (zipf gf xs ys i)) (fun _ _ _ => False) (fun i X Y ⟨v, qs, hA, h⟩ t => ⟨v, qs, hA.tn t (by omega), h.imp fun _ _ h => h.ck (t.ck _)⟩) (fun _ _ _ _ h _ => h) (⟨_, [], ⟨z16, b3, b9, hb1, hb2, OS.nil _ _ _ _⟩, trivial⟩) ?_ ?_ ?_
 ·intro l17 i18 X19 hi20 hM21 hk22 hs23
  obtain ⟨m1, d1, e1, g1, m2, d2, e2, g2, p1⟩ := qat_form f1 i18; obtain ⟨m3, d3, e3, g3, m4, d4, e4, g4, p2⟩ := qat_form f2 i18
  have ev2 : (Value.agg (qat qs1 i18 ++ qat qs2 i18).toArray) = .agg #[.bool m1, .slice d1 e1 g1, .bool m2, .slice d2 e2 g2, .bool m3, .slice d3 e3 g3, .bool m4, .slice d4 e4 g4] := by rw [p1, p2]; rfl
  show V _ _ _ _ _ _ (up (up _ _ _) _ (Value.agg (qat qs1 i18 ++ qat qs2 i18).toArray)) _
  rw [ev2]
  have zX := Ext.refl X19
  refine V.reg rfl ?_
  refine vo ?_
  refine xal zc161 ?_
  intro W24 x25 b26 nn27
  have s28 := x25.sz
  have z29 := x25
  refine vo ?_
  refine sta (cs' := [_, _, _, _, _, _, _, _]) b26 rfl rfl sz161 rfl rfl rfl ?_
  intro W30 y31 b26
  have z32 := z29.below (y31.below (by omega))
  have s33 := y31.size
  refine vnil ?_
  obtain ⟨v, qs, hA, hQ⟩ := hi20
  replace hA := hA.xt z32; replace hQ := hQ.imp fun _ _ h => h.ext z32
  have l8 := b26.lt; have lA5 := hA.x5.lt; have lA6 := hA.x6.lt; have sX := z32.sz
  refine ⟨rfl, Kf.ext z32, ?_⟩
  intro Z34 t35
  replace hA := hA.tn t35 (by omega); replace hQ := hQ.imp fun _ _ h => h.ck (t35.ck _); have x8 := b26.tn t35; have st8 := t35.size
  obtain ⟨a0, c0, rfl⟩ := hA.os.form
  have x5 := hA.x5; have x6 := hA.x6; have lq := hQ.len; rw [zipf_len] at lq
  have zZ := Ext.refl Z34
  have hqx := ((ax.qat i18).sub (S' := fun _ => True) (fun _ _ _ => trivial)).ext hA.ext; have hqy := ((ay.qat i18).sub (S' := fun _ => True) (fun _ _ _ => trivial)).ext hA.ext; rw [p1] at hqx; rw [p2] at hqy
  refine V.block ?_
  refine V.regS (fun W => KD (fun q => q = (w.heap.size) ∨ q = (W1.heap.size) ∨ q = (X19.heap.size)) W) mixed rfl ?_
  intro W36 x37
  have s38 := x37.sz
  have z39 := x37
  replace x5 := x5.ext x37
  replace x6 := x6.ext x37
  replace x8 := x8.ext x37
  have q41 := KD.refl (fun q => q = (w.heap.size) ∨ q = (W1.heap.size) ∨ q = (X19.heap.size)) W36
  have r42 := x5
  have r43 := x6
  have r44 := x8
  refine tk 0 rfl (by kernel_rfl) q41 (pv (fun _ y45 => rldb (v := .slice _ _ _) rfl sc23 (r43.kd y45 (.inr (.inl rfl))) rfl)) ?_
  refine tk 1 rfl (by kernel_rfl) q41 (pv (fun _ y46 => rldb (v := .func _ _ _) rfl sc81 (r42.kd y46 (.inl rfl)) rfl)) ?_
  refine tk 2 rfl (by kernel_rfl) q41 (pv (fun _ y47 => rixa (i := 0) Tryz.underlying161 sz48 rfl rfl (by decide))) ?_
  refine tk 3 rfl (by kernel_rfl) q41 (pv (fun _ y48 => rldb4 rfl ag48 (r44.kd y48 (.inr (.inr rfl))) rfl rfl rfl rfl )) ?_
  refine tk 4 rfl (by kernel_rfl) q41 (pv (fun _ y49 => rixa (i := 1) Tryz.underlying161 sz48 rfl rfl (by decide))) ?_
  refine tk 5 rfl (by kernel_rfl) q41 (pv (fun _ y50 => rldb4 rfl ag48 (r44.kd y50 (.inr (.inr rfl))) rfl rfl rfl rfl )) ?_
  refine ef 6 (by kernel_rfl) rfl ?_
  refine xcall he (hf _ _ _ _ _ (SW S (W1.heap.size) (.slice a0 qs.length c0)) (hA.ext.trans x37) (SW.up hu (hA.xt x37)) (hqx.ext z39) (hqy.ext z39)) rfl rfl ?_
  rintro _ W7 ⟨_, rfl, x7, hq7⟩
  obtain ⟨k1, k2, k3, k4, k5, k6, k7, k8, rfl⟩ := hq7.form
  refine ⟨_, rfl, ?_⟩
  have s51 := x7.sz
  replace x5 := x5.ext x7
  replace x6 := x6.ext x7
  replace x8 := x8.ext x7
  have q53 := q41.trans x7.kd
  refine ⟨fun _ => q53, ?_⟩
  refine ef 7 (by kernel_rfl) rfl ?_
  refine xbs (zs := [.bool false, .slice _ _ _, .bool false, .slice _ _ _]) (ps := [(0, .agg #[_, _, _, _])]) (cs := [.bool _, .slice _ _ _, .bool _, .slice _ _ _]) sl23 zr48 sz48 rfl rfl rfl rfl rfl rfl ?_
  intro W54 x55 b56 nn57
  have s58 := x55.sz
  replace x5 := x5.ext x55
  replace x6 := x6.ext x55
  replace x8 := x8.ext x55
  have q60 := q53.trans x55.kd
  refine ⟨fun _ => q60, ?_⟩
  refine ef 8 (by kernel_rfl) rfl ?_
  have hA8 := hA.xt ((x37.trans x7).trans x55); have hQ8 := hQ.imp fun _ _ h => h.ext ((x37.trans x7).trans x55)
  refine xappS sl23 in48 rfl rfl hA8.os rfl rfl b56 rfl rfl (by omega) (by decide) (by omega) ?_
  intro v2 W8 hO2 hg ho
  have r8x := x8
  have k8 : KB w.heap.size _ W8 := KB.grownS hA8.os hg (Nat.le_refl _) (by omega)
  refine ⟨fun _ => (q60.trans (grown_kd hg (fun b e hh => by rcases hh with rfl | rfl | rfl <;> first | exact hA8.os.neBox hA8.x5 (by decide) e | exact hA8.os.neBox hA8.x6 (by decide) e | exact hA8.os.neBox r8x (by decide) e) (k8.below.mono (Nat.zero_le _)))), ?_⟩
  refine ef 9 (by kernel_rfl) rfl ?_
  obtain ⟨a9, c9, rfl⟩ := hO2.form
  refine st1 (v := .slice _ _ _) (cs' := [_]) (hA8.x6.ck (S := fun q => (Value.slice a0 qs.length c0).ownBlock ≠ some q) (grown_ck hg fun b e h => h e) (hA8.os.neBox hA8.x6 (by decide))) rfl rfl sz23 rfl rfl rfl rfl ?_
  intro W9 y9 x6'
  have hWA := hA8.app (by decide) hO2 hg ho y9 x6' (by omega) (by omega) (by omega) (by omega)
  refine lastT (by kernel_rfl) ?_
  refine dn (by kernel_rfl) ?_
  exact ⟨(Kf.ext ((x37.trans x7).trans x55)).trans ⟨hWA.2.1.keeps _, hWA.2.2⟩, _, _, hWA.1, by rw [zipf_succ]; exact ((app_all (hQ8.snoc (hq7.ext x55)) hg ho).imp fun _ _ h => h.ck (y9.ck (fun h => h.2.1 rfl)))⟩
 ·intro D61 X62 hD63 hI64 hdf65 hs66
  obtain ⟨v, qs, hA, hQ⟩ := hI64
  obtain ⟨a0, c0, rfl⟩ := hA.os.form
  have x6 := hA.x6
  refine V.seq (V.reg rfl ?_)
  refine vv (rldb (v := .slice _ _ _) rfl sc23 x6 rfl) ?_
  refine vo ?_
  refine st1 (v := .slice _ _ _) (cs' := [_]) x6 rfl rfl sz23 rfl rfl rfl rfl ?_
  intro W67 y68 x6
  have z69 := hA.ext.below (y68.below (by omega))
  have hd70 := y68.obj hdf65 (by omega)
  have s71 := y68.size
  refine vnil ?_
  refine V.ret ?_
  refine ⟨D61, rfl, hd70, ?_⟩
  have tp := Tn.putObj (B := w.heap.size) (.deferred none) hd70 (by omega) rfl
  have x6 := x6.tn tp
  have z72 := tp.ext z69 (Nat.le_refl _)
  refine ⟨[.slice _ _ _], ⟨⟨_, rfl, lv1 sc23 x6 rfl⟩, trivial⟩, ?_⟩
  refine ⟨_, _, _, rfl, z72, ?_⟩
  have hQ3 := (hQ.imp fun _ _ h => ((h.ck (y68.ck (S := SW S (W1.heap.size) (.slice a0 qs.length c0)) (fun h => h.2.1 rfl))).ck (tp.ck _)).sub (fun b _ h => h.1) : All2 (QC S _) qs _)
  have hO3 := (hA.os.ck (y68.ck (S := fun q => q ≠ (W1.heap.size)) (fun h => h rfl)) (fun b e e2 => hA.os.neBox hA.x6 (by decide) (e2 ▸ e))).ck (tp.ck fun _ => True) (fun _ _ => trivial)
  exact ⟨qs, hO3.rs (fun b hb _ => hu b hb), hQ3⟩
 ·intro _ _ _ _ _ _ h; exact h.elim
end Go.Proofs.YtknbjfefeeojlaaGreat
/- Package vec: the operations that use with. -/
namespace Go.Proofs.YtknbjfefeeojlaaGreat
open Go.RowKit
attribute [local irreducible] RV VH V OpF Calls
theorem pow_mul_lt {x y : Int} {a b : Nat} (hx0 : 0 ≤ x) (hy0 : 0 ≤ y) (hx : x < b32 ^ a) (hy : y < b32 ^ b) : x * y < b32 ^ (a + b) := by
  rw [Int.pow_add]
  have p := pow_pos' (B := b32) (by decide) b
  have m1 : x * y ≤ x * b32 ^ b := Int.mul_le_mul_of_nonneg_left (Int.le_of_lt hy) hx0
  have m2 : x * b32 ^ b < b32 ^ a * b32 ^ b := Int.mul_lt_mul_of_pos_right hx p
  omega
theorem sz_mul {a b : Nat} {r s : Rat} (hr : sz a r) (hs : sz b s) : sz (a + b) (r * s) := by
  rw [Rat.mul_def', ← Rat.divInt_ofNat]
  have h1 := r.den_pos
  have h2 := s.den_pos
  refine sz_divInt ?_ (by have := Nat.mul_pos h1 h2; omega) ?_
  · rw [Int.natAbs_mul, Int.natCast_mul]; exact pow_mul_lt (by omega) (by omega) hr.1 hs.1
  · rw [Int.natCast_mul]; exact pow_mul_lt (by omega) (by omega) hr.2 hs.2
theorem sz_add {a b : Nat} {r s : Rat} (hr : sz a r) (hs : sz b s) : sz (a + b + 1) (r + s) := by
  rw [Rat.add_def', ← Rat.divInt_ofNat]
  have h1 := r.den_pos
  have h2 := s.den_pos
  have e := pow_succ' (a + b)
  have e0 := pow_pos' (B := b32) (by decide) (a + b)
  refine sz_divInt ?_ (by have := Nat.mul_pos h1 h2; omega) ?_
  · have i1 := pow_mul_lt (by omega) (by omega) hr.1 hs.2
    have i2 := pow_mul_lt (by omega) (by omega) hs.1 hr.2
    rw [Nat.add_comm b a] at i2
    have j1 : (r.num * s.den).natAbs = r.num.natAbs * s.den := by rw [Int.natAbs_mul]; simp
    have j2 : (s.num * r.den).natAbs = s.num.natAbs * r.den := by rw [Int.natAbs_mul]; simp
    rw [← Int.natCast_mul, ← j1] at i1
    rw [← Int.natCast_mul, ← j2] at i2
    omega
  · rw [Int.natCast_mul]
    have := pow_mul_lt (by omega) (by omega) hr.2 hs.2
    omega
theorem sz_neg {a : Nat} {r : Rat} (hr : sz a r) : sz a (-r) := ⟨by rw [Rat.neg_num, Int.natAbs_neg]; exact hr.1, hr.2⟩
theorem sz_sub {a b : Nat} {r s : Rat} (hr : sz a r) (hs : sz b s) : sz (a + b + 1) (r - s) := by rw [Rat.sub_eq_add_neg]; exact sz_add hr (sz_neg hs)
theorem sz_zero' (L : Nat) (h : 1 ≤ L) : sz L 0 := sz_zero.mono h
theorem szV_at {L : Nat} {rs : List Rat} (h : szV L rs) (hL : 1 ≤ L) (i : Nat) : sz L (vat rs i) := by
  unfold vat; rw [List.getD_eq_getElem?_getD]
  cases hq : rs[i]? with
  | none => exact sz_zero' L hL
  | some r => exact h r (List.mem_of_getElem? hq)
theorem szV_zip {L : Nat} {gf : Rat → Rat → Rat} {xs ys : List Rat} {n : Nat} (h : ∀ i, i < n → sz L (gf (vat xs i) (vat ys i))) : szV L (zipf gf xs ys n) := by
  intro r hr
  simp only [zipf, List.mem_map, List.mem_range] at hr
  obtain ⟨i, hi, rfl⟩ := hr
  exact h i hi

set_option maxHeartbeats 400000 in
theorem scl_ok (q1 q2 q3 : List Value) (r1 r2 r3 : Rat) (L1 L2 L3 : Nat) (S S1 S2 S3 : Nat → Prop) (w : World) (b : Nat) (hb : BoxAt w b q3 48) (h1 : QA L1 S1 w q1 r1) (h2 : QA L2 S2 w q2 r2) (h3 : QA L3 S3 w q3 r3) (hL : L1 + L2 + L3 < LY) (hl1 : 1 ≤ L1) (hl2 : 1 ≤ L2) (hl3 : 1 ≤ L3) (hu : Up S w) :
    Calls Tryz.prog 141 #[.agg q1.toArray, .agg q2.toArray, .pointer (some ⟨b, 0, none⟩)] w (PQ S (r3 * r1 + r2) w) := by
 have z0 := Ext.refl w; have hLX : LX = 17592186044416 := rfl; have hLY : LY = 8796093022208 := rfl
 obtain ⟨n1, a1, l1, c1, n2, a2, l2, c2, rfl⟩ := h1.form; obtain ⟨n3, a3, l3, c3, n4, a4, l4, c4, rfl⟩ := h2.form
 obtain ⟨n5, a5, l5, c5, n6, a6, l6, c6, rfl⟩ := h3.form
 have lb := hb.lt
 have hu2 : ∀ W : World, w.heap.size + 3 ≤ W.heap.size → Up (SX S [w.heap.size + 2]) W := fun W hW => SX.up (hu.mono (by omega)) (by simp <;> omega)
 refine enter (args := [.agg #[.bool n1, .slice a1 l1 c1, .bool n2, .slice a2 l2 c2], .agg #[.bool n3, .slice a3 l3 c3, .bool n4, .slice a4 l4 c4], .pointer (some ⟨b, 0, none⟩)]) Tryz.func141 rfl rfl (Nat.le_of_ble_eq_true rfl) ?_
 refine V.seq (V.reg rfl ?_)
 refine vo ?_
 refine bxa rfl ?_
 intro W1 x2 b3 nn4
 have s5 := x2.sz
 have z6 := x2
 replace hb := hb.ext x2
 refine vo ?_
 refine bxa rfl ?_
 intro W7 x8 b9 nn10
 have s11 := x8.sz
 have z12 := z6.trans x8
 replace hb := hb.ext x8
 replace b3 := b3.ext x8
 refine vo ?_
 refine xal zc48 ?_
 intro W13 x14 b15 nn16
 have s17 := x14.sz
 have z18 := z12.trans x14
 replace hb := hb.ext x14
 replace b3 := b3.ext x14
 replace b9 := b9.ext x14
 refine vnil ?_
 refine V.seq (V.regD mixed rfl ?_)
 intro W19 x20
 have s21 := x20.sz
 have z22 := z18.trans x20
 replace hb := hb.ext x20
 replace b3 := b3.ext x20
 replace b9 := b9.ext x20
 replace b15 := b15.ext x20
 have q23 := Ext.refl W19
 have r24 := hb
 have r25 := b3
 have r26 := b9
 have r27 := b15
 refine tk 0 rfl (by kernel_rfl) q23 (pv (fun _ y28 => rldb4 rfl ag48 (r24.ext y28) rfl rfl rfl rfl )) ?_
 refine tk 1 rfl (by kernel_rfl) q23 (pv (fun _ y29 => rldb4 rfl ag48 (r25.ext y29) rfl rfl rfl rfl )) ?_
 refine tk 3 rfl (by kernel_rfl) q23 (pv (fun _ y30 => rldb4 rfl ag48 (r26.ext y30) rfl rfl rfl rfl )) ?_
 refine ef 2 (by kernel_rfl) rfl ?_
 refine xcall e71 (fMul_ok _ _ _ _ _ _ _ _ _ _ (h3.ext z22) (h1.ext z22) (by omega) (by omega) (by omega) (hu2 _ (by omega))) rfl rfl ?_
 rintro _ W32 ⟨_, rfl, x33, hq31⟩
 have s34 := x33.sz
 have z35 := z22.trans x33
 replace hb := hb.ext x33
 replace b15 := b15.ext x33
 have q36 := q23.trans x33
 obtain ⟨_, _, _, _, _, _, _, _, rfl⟩ := hq31.form
 refine ⟨_, rfl, ?_⟩
 refine ⟨fun _ => q36, ?_⟩
 refine ef 4 (by kernel_rfl) rfl ?_
 have hm := (hq31).qa (sz_mul (h3.sz' hl3) (h1.sz' hl1))
 refine xcall e142 (fAdd_ok _ _ _ _ _ _ _ _ _ _ hm (h2.ext z35) (by omega) (by omega) (by omega) (hu2 _ (by omega))) rfl rfl ?_
 rintro _ W39 ⟨_, rfl, x40, hq38⟩
 have s41 := x40.sz
 have z42 := z35.trans x40
 replace hb := hb.ext x40
 replace b15 := b15.ext x40
 have q44 := q36.trans x40
 obtain ⟨_, _, _, _, _, _, _, _, rfl⟩ := hq38.form
 refine ⟨_, rfl, ?_⟩
 refine ⟨fun _ => q44, ?_⟩
 refine ef 5 (by kernel_rfl) rfl ?_
 refine sta (cs' := [_, _, _, _]) b15 rfl rfl sz48 rfl rfl rfl ?_
 intro W45 y46 b15
 have z47 := z42.below (y46.below (by omega))
 replace hb := hb.wr y46 (by omega)
 have s48 := y46.size
 refine lastT (by kernel_rfl) ?_
 refine dn (by kernel_rfl) ?_
 refine V.ret ?_
 refine ⟨[_], ⟨⟨_, rfl, lvb ag48 b15 rfl⟩, trivial⟩, ?_⟩
 exact ⟨_, rfl, z47, ((hq38.ck (y46.ck (by intro hh; first | (simp [SX] at hh <;> omega) | omega)))).un⟩
set_option maxHeartbeats 400000 in
theorem vScl_ok (q : List Value) (r : Rat) (L3 : Nat) (S3 : Nat → Prop) (a1 a2 : Option Addr) (n c m d : Nat) (L1 L2 : Nat) (xs ys : List Rat) (S S1 S2 : Nat → Prop) (w : World) (hx : GA L1 S1 w a1 n c xs) (hy : GA L2 S2 w a2 m d ys) (h3 : QA L3 S3 w q r) (hL : L1 + L2 + L3 < LY) (hl3 : 1 ≤ L3) (hl1 : 1 ≤ L1) (hl2 : 1 ≤ L2) (hn : n ≤ LV) (hm : m ≤ LV) (hu : Up S w) :
    Calls Tryz.prog 68 #[.agg q.toArray, .slice a1 n c, .slice a2 m d] w (fun e w' => ∃ ra rk rc, e = .returned (.slice ra rk rc) ∧ Ext w w' ∧ GC S w' ra rk rc (zipf (fun a b => r * a + b) xs ys (max n m))) := by
 have z0 := Ext.refl w; have hLX : LX = 17592186044416 := rfl; have hLY : LY = 8796093022208 := rfl
 obtain ⟨n5, a5, l5, c5, n6, a6, l6, c6, rfl⟩ := h3.form
 have l1 := hx.len; have l2 := hy.len
 refine enter (args := [.agg #[.bool n5, .slice a5 l5 c5, .bool n6, .slice a6 l6 c6], .slice a1 n c, .slice a2 m d]) Tryz.func68 rfl rfl (Nat.le_of_ble_eq_true rfl) ?_
 refine V.seq (V.reg rfl ?_)
 refine vo ?_
 refine bxa rfl ?_
 intro W1 x2 b3 nn4
 have s5 := x2.sz
 have z6 := x2
 refine ass rfl ?_
 refine vnil ?_
 refine V.seq (V.reg rfl ?_)
 refine mvs rfl ?_
 refine mvs rfl ?_
 refine vv (rmk1 (v := .pointer (some ⟨_, _, none⟩)) rfl) ?_
 refine vo ?_
 refine xcall e99 (with_ok _ _ _ _ _ _ 141 [.pointer (some ⟨w.heap.size, 0, none⟩)] (fun a b => r * a + b) L1 L2 xs ys S _ _ _ (hx.ext z6) (hy.ext z6) e141 (fun W q1 q2 r1 r2 S' x u h1 h2 => scl_ok q1 q2 _ r1 r2 r L1 L2 L3 S' _ _ _ W _ (b3.ext x) h1 h2 ((h3.ext z6).ext x) hL hl1 hl2 hl3 u) hn hm (hu.mono (by omega))) rfl rfl ?_
 rintro _ W7 ⟨_, _, _, rfl, x8, hv⟩
 have s9 := x8.sz
 have z10 := z6.trans x8
 refine ⟨_, rfl, ?_⟩
 refine ass rfl ?_
 refine vnil ?_
 refine V.ret ?_
 refine ⟨[.slice _ _ _], ⟨rfl, trivial⟩, ?_⟩
 exact ⟨_, _, _, rfl, z10, hv⟩
end Go.Proofs.YtknbjfefeeojlaaGreat
/- Package vec: Compare, Equal. -/
namespace Go.Proofs.YtknbjfefeeojlaaGreat
open Go.RowKit
attribute [local irreducible] RV VH V OpF Calls
/-- The comparison up to M elements. -/
def LexP (xs ys : List Rat) (M : Nat) (s : Int) : Prop := (∃ i, i < M ∧ s = cq (vat xs i) (vat ys i) ∧ s ≠ 0 ∧ ∀ j, j < i → vat xs j = vat ys j) ∨ (s = 0 ∧ ∀ j, j < M → vat xs j = vat ys j)
structure CJ (w : World) (b4 b1 b2 : Nat) (v1 v2 : Value) (s : Int) (X : World) : Prop where
  ext : Ext w X
  x4 : BoxAt X b4 [.int .i64 s] 3
  x1 : BoxAt X b1 [v1] 23
  x2 : BoxAt X b2 [v2] 23
theorem CJ.tn {w X Y : World} {B b4 b1 b2 : Nat} {v1 v2 : Value} {s : Int} (h : CJ w b4 b1 b2 v1 v2 s X) (t : Tn B X Y) (hB : w.heap.size ≤ B) : CJ w b4 b1 b2 v1 v2 s Y := ⟨t.ext h.ext hB, h.x4.tn t, h.x1.tn t, h.x2.tn t⟩
theorem CJ.xt {w X Y : World} {b4 b1 b2 : Nat} {v1 v2 : Value} {s : Int} (h : CJ w b4 b1 b2 v1 v2 s X) (x : Ext X Y) : CJ w b4 b1 b2 v1 v2 s Y := ⟨h.ext.trans x, h.x4.ext x, h.x1.ext x, h.x2.ext x⟩

set_option maxHeartbeats 400000 in
theorem vCompare_ok (a1 a2 : Option Addr) (n c m d : Nat) (L1 L2 : Nat) (xs ys : List Rat) (S1 S2 : Nat → Prop) (w : World) (hx : GA L1 S1 w a1 n c xs) (hy : GA L2 S2 w a2 m d ys) (hL : L1 + L2 < LY) (hl1 : 1 ≤ L1) (hl2 : 1 ≤ L2) (hn : n ≤ LV) (hm : m ≤ LV) :
    Calls Tryz.prog 97 #[.slice a1 n c, .slice a2 m d] w (fun e w' => ∃ s, e = .returned (.int .i64 s) ∧ Ext w w' ∧ LexP xs ys (max n m) s) := by
 have z0 := Ext.refl w; have hLX : LX = 17592186044416 := rfl; have hLY : LY = 8796093022208 := rfl
 have hLV : LV = 1099511627776 := rfl
 have l1 := hx.len; have l2 := hy.len
 obtain ⟨qs1, rx, ax⟩ := hx; obtain ⟨qs2, ry, ay⟩ := hy
 have f1 := ax.form; have f2 := ay.form
 refine enter (args := [.slice a1 n c, .slice a2 m d]) Tryz.func97 rfl rfl (Nat.le_of_ble_eq_true rfl) ?_
 refine V.seq (V.reg rfl ?_)
 refine vo ?_
 refine xal zc3 ?_
 intro W1 x2 b3 nn4
 have s5 := x2.sz
 have z6 := x2
 refine vnil ?_
 refine V.seq ?_
 refine V.seq (V.reg rfl ?_)
 refine mvs rfl ?_
 refine mvs rfl ?_
 refine vo ?_
 refine xcall e156 (both_ok _ _ _ _ _ _ _) rfl rfl ?_
 rintro _ W7 ⟨b1, b2, eb1, eb2, rfl, x8, hb1, hb2⟩
 have s9 := x8.sz
 have z10 := z6.trans x8
 replace b3 := b3.ext x8
 have lb1 := hb1.lt; have lb2 := hb2.lt
 refine ⟨_, rfl, ?_⟩
 refine vnil ?_
 refine V.block ?_
 have lb4 := b3.lt
 refine V.rf (gf := 189) rfl e189 (both_iter hb1 hb2 ((rx.sub (S' := fun q => q < w.heap.size ∨ q = b1 ∨ q = b2) (fun b hb _ => .inl hb)).ext z10) ((ry.sub (S' := fun q => q < w.heap.size ∨ q = b1 ∨ q = b2) (fun b hb _ => .inl hb)).ext z10) f1 f2 (.inr (.inl rfl)) (.inr (.inr rfl))) (Ext.refl _) (by rintro k (h | rfl | rfl) <;> omega) rfl (fun i X => CJ w (w.heap.size) b1 b2 (.slice a1 n c) (.slice a2 m d) 0 X ∧ ∀ j, j < i → vat xs j = vat ys j) (fun cd i X => cd = .ret ∧ CJ w (w.heap.size) b1 b2 (.slice a1 n c) (.slice a2 m d) (cq (vat xs i) (vat ys i)) X ∧ cq (vat xs i) (vat ys i) ≠ 0 ∧ ∀ j, j < i → vat xs j = vat ys j) (fun i X Y ⟨hA, h⟩ t => ⟨hA.tn t (by omega), h⟩) (fun cd i X Y ⟨h0, hA, h⟩ t => ⟨h0, hA.tn t (by omega), h⟩) (⟨⟨z10, b3, hb1, hb2⟩, fun j hj => absurd hj (Nat.not_lt_zero _)⟩) ?_ ?_ ?_
 ·intro l11 i12 X13 hi14 hM15 hk16 hs17
  obtain ⟨m1, d1, e1, g1, m2, d2, e2, g2, p1⟩ := qat_form f1 i12; obtain ⟨m3, d3, e3, g3, m4, d4, e4, g4, p2⟩ := qat_form f2 i12
  have ev2 : (Value.agg (qat qs1 i12 ++ qat qs2 i12).toArray) = .agg #[.bool m1, .slice d1 e1 g1, .bool m2, .slice d2 e2 g2, .bool m3, .slice d3 e3 g3, .bool m4, .slice d4 e4 g4] := by rw [p1, p2]; rfl
  show V _ _ _ _ _ _ (up (up _ _ _) _ (Value.agg (qat qs1 i12 ++ qat qs2 i12).toArray)) _
  rw [ev2]
  have zX := Ext.refl X13
  refine V.reg rfl ?_
  refine vo ?_
  refine xal zc161 ?_
  intro W18 x19 b20 nn21
  have s22 := x19.sz
  have z23 := x19
  refine vo ?_
  refine sta (cs' := [_, _, _, _, _, _, _, _]) b20 rfl rfl sz161 rfl rfl rfl ?_
  intro W24 y25 b20
  have z26 := z23.below (y25.below (by omega))
  have s27 := y25.size
  refine vnil ?_
  obtain ⟨hA, hQ⟩ := hi14
  replace hA := hA.xt z26
  have l8 := b20.lt; have lA4 := hA.x4.lt; have sX := z26.sz
  refine ⟨rfl, Kf.ext z26, ?_⟩
  intro Z28 t29
  replace hA := hA.tn t29 (by omega); have x8 := b20.tn t29; have st8 := t29.size; have x4 := hA.x4
  have zZ := Ext.refl Z28
  have hqx := ((ax.qat i12).sub (S' := fun _ => True) (fun _ _ _ => trivial)).ext hA.ext; have hqy := ((ay.qat i12).sub (S' := fun _ => True) (fun _ _ _ => trivial)).ext hA.ext; rw [p1] at hqx; rw [p2] at hqy
  refine V.block ?_
  refine V.seq (V.reg rfl ?_)
  refine vv (rixa (i := 0) Tryz.underlying161 sz48 rfl rfl (by decide)) ?_
  refine vv (rldb4 rfl ag48 x8 rfl rfl rfl rfl ) ?_
  refine vv (rixa (i := 1) Tryz.underlying161 sz48 rfl rfl (by decide)) ?_
  refine vv (rldb4 rfl ag48 x8 rfl rfl rfl rfl ) ?_
  refine vo ?_
  refine xcall e140 (fCmp_ok _ _ _ _ _ _ _ _ _ hqx hqy (by omega) (by omega) (by omega)) rfl rfl ?_
  rintro _ W30 ⟨rfl, x31⟩
  have s32 := x31.sz
  replace x4 := x4.ext x31
  replace x8 := x8.ext x31
  refine ⟨_, rfl, ?_⟩
  refine asi rfl ?_
  refine vnil ?_
  refine V.seq (V.reg rfl ?_)
  refine mvi rfl ?_
  refine vne rfl rfl ?_ ?_
  ·intro c1
   refine vnil ?_
   refine V.condT rfl ?_
   refine V.seq (V.reg rfl ?_)
   refine mvi rfl ?_
   refine vo ?_
   refine st1 (v := .int _ _) (cs' := [_]) x4 rfl rfl sz3 rfl rfl rfl rfl ?_
   intro W34 y35 x4
   replace x8 := x8.wr y35 (by omega)
   have s36 := y35.size
   refine vnil ?_
   refine V.ret ?_
   exact ⟨(Kf.ext x31).trans (Kf.wr y35 (hA.xt x31).x4 (by rintro (h | h | h) <;> omega)), rfl, ⟨(hA.xt x31).ext.below (y35.below (by omega)), x4, (hA.xt x31).x1.wr y35 (by omega), (hA.xt x31).x2.wr y35 (by omega)⟩, c1, hQ⟩
  ·intro c1
   refine vnil ?_
   refine V.condF rfl ?_
   refine V.skip ?_
   exact ⟨Kf.ext x31, hA.xt x31, fun j hj => by rcases Nat.lt_succ_iff_lt_or_eq.1 hj with h | rfl; exact hQ j h; exact cq_eq.1 c1⟩
 ·intro D37 X38 hD39 hI40 hdf41 hs42
  obtain ⟨hA, hQ⟩ := hI40
  have x4 := hA.x4
  refine V.seq (V.reg rfl ?_)
  refine vo ?_
  refine st1 (v := .int _ _) (cs' := [_]) x4 rfl rfl sz3 rfl rfl rfl rfl ?_
  intro W43 y44 x4
  have z45 := hA.ext.below (y44.below (by omega))
  have hd46 := y44.obj hdf41 (by omega)
  have s47 := y44.size
  refine vnil ?_
  refine V.ret ?_
  refine ⟨D37, rfl, hd46, ?_⟩
  have tp := Tn.putObj (B := w.heap.size) (.deferred none) hd46 (by omega) rfl
  have x4 := x4.tn tp
  have z48 := tp.ext z45 (Nat.le_refl _)
  refine ⟨[.int _ _], ⟨⟨_, rfl, lv1 sc3 x4 rfl⟩, trivial⟩, ?_⟩
  exact ⟨_, rfl, z48, .inr ⟨rfl, hQ⟩⟩
 ·rintro D' cd i X hD' hi ⟨rfl, hA, hne, hQ⟩ hdf hs
  have x4 := hA.x4
  refine V.ret ?_
  refine ⟨D', rfl, hdf, ?_⟩
  have tp := Tn.putObj (B := w.heap.size) (.deferred none) hdf (by omega) rfl
  have x4 := x4.tn tp
  have z49 := tp.ext hA.ext (Nat.le_refl _)
  refine ⟨[.int _ _], ⟨⟨_, rfl, lv1 sc3 x4 rfl⟩, trivial⟩, ?_⟩
  exact ⟨_, rfl, z49, .inl ⟨i, hi, rfl, hne, hQ⟩⟩

def eqv (xs ys : List Rat) (M : Nat) : Prop := ∀ j, j < M → vat xs j = vat ys j
theorem LexP.zero {xs ys : List Rat} {M : Nat} {s : Int} (h : LexP xs ys M s) : s = 0 ↔ eqv xs ys M := by
  rcases h with ⟨i, hi, rfl, hne, hj⟩ | ⟨rfl, h⟩
  · exact ⟨fun h => absurd h hne, fun h => cq_eq.2 (h i hi)⟩
  · exact ⟨fun _ => h, fun _ => rfl⟩

set_option maxHeartbeats 400000 in
theorem vEqual_ok (a1 a2 : Option Addr) (n c m d : Nat) (L1 L2 : Nat) (xs ys : List Rat) (S1 S2 : Nat → Prop) (w : World) (hx : GA L1 S1 w a1 n c xs) (hy : GA L2 S2 w a2 m d ys) (hL : L1 + L2 < LY) (hl1 : 1 ≤ L1) (hl2 : 1 ≤ L2) (hn : n ≤ LV) (hm : m ≤ LV) :
    Calls Tryz.prog 21 #[.slice a1 n c, .slice a2 m d] w (fun e w' => ∃ b, e = .returned (.bool b) ∧ Ext w w' ∧ (b = true ↔ eqv xs ys (max n m))) := by
 have z0 := Ext.refl w; have hLX : LX = 17592186044416 := rfl; have hLY : LY = 8796093022208 := rfl
 have hLV : LV = 1099511627776 := rfl
 have l1 := hx.len; have l2 := hy.len
 refine enter (args := [.slice a1 n c, .slice a2 m d]) Tryz.func21 rfl rfl (Nat.le_of_ble_eq_true rfl) ?_
 refine V.seq (V.reg rfl ?_)
 refine asb rfl ?_
 refine vnil ?_
 refine V.seq (V.reg rfl ?_)
 refine mvs rfl ?_
 refine mvs rfl ?_
 refine vo ?_
 refine xcall e97 (vCompare_ok _ _ _ _ _ _ _ _ _ _ _ _ _ hx hy (by omega) (by omega) (by omega) (by omega) (by omega)) rfl rfl ?_
 rintro _ W3 ⟨s1, rfl, x4, hl2⟩
 have s5 := x4.sz
 have z6 := x4
 refine ⟨_, rfl, ?_⟩
 refine veq rfl rfl ?_ ?_
 ·intro c7
  refine asb rfl ?_
  refine vnil ?_
  refine V.ret ?_
  refine ⟨[.bool true], ⟨rfl, trivial⟩, ?_⟩
  refine ⟨_, rfl, z6, ?_⟩
  have hh := hl2.zero
  first | exact ⟨fun _ => hh.1 (by assumption), fun _ => rfl⟩ | exact ⟨fun h => (by cases h), fun h => absurd (hh.2 h) (by assumption)⟩
 ·intro c7
  refine asb rfl ?_
  refine vnil ?_
  refine V.ret ?_
  refine ⟨[.bool false], ⟨rfl, trivial⟩, ?_⟩
  refine ⟨_, rfl, z6, ?_⟩
  have hh := hl2.zero
  first | exact ⟨fun _ => hh.1 (by assumption), fun _ => rfl⟩ | exact ⟨fun h => (by cases h), fun h => absurd (hh.2 h) (by assumption)⟩
end Go.Proofs.YtknbjfefeeojlaaGreat
/- A slice that a loop appends to, with what its elements read as. -/
namespace Go.Proofs.YtknbjfefeeojlaaGreat
open Go.RowKit
def SO (S : Nat → Prop) (v : Value) : Nat → Prop := fun b => S b ∧ v.ownBlock ≠ some b
structure ElOK {ρ : Type} (El : (Nat → Prop) → World → List Value → ρ → Prop) : Prop where
  ck : ∀ {S : Nat → Prop} {W W' : World} {q : List Value} {r : ρ}, El S W q r → CK S W W' → El S W' q r
  sub : ∀ {S S' : Nat → Prop} {W : World} {q : List Value} {r : ρ}, El S W q r → (∀ b, b < W.heap.size → S b → S' b) → El S' W q r
theorem okQC : ElOK QC := ⟨fun h k => h.ck k, fun h k => h.sub k⟩
/-- A row of a matrix. -/
def RowOf {ρ : Type} (G : (Nat → Prop) → World → Option Addr → Nat → Nat → ρ → Prop) (S : Nat → Prop) (W : World) (q : List Value) (r : ρ) : Prop := ∃ a n c, q = [.slice a n c] ∧ G S W a n c r
theorem okRowC : ElOK (RowOf GC) := ⟨fun ⟨a, n, c, e, h⟩ k => ⟨a, n, c, e, h.ck k⟩, fun ⟨a, n, c, e, h⟩ k => ⟨a, n, c, e, h.sub k⟩⟩
theorem okRowX : ElOK (RowOf GX) := ⟨fun ⟨a, n, c, e, h⟩ k => ⟨a, n, c, e, h.ck k⟩, fun ⟨a, n, c, e, h⟩ k => ⟨a, n, c, e, h.sub k⟩⟩
theorem okRowA (L : Nat) : ElOK (RowOf (GA L)) := ⟨fun ⟨a, n, c, e, h⟩ k => ⟨a, n, c, e, h.ck k⟩, fun ⟨a, n, c, e, h⟩ k => ⟨a, n, c, e, h.sub k⟩⟩
def GO {ρ : Type} (s : Nat) (El : (Nat → Prop) → World → List Value → ρ → Prop) (S : Nat → Prop) (B : Nat) (W : World) (e : TypeId) (v : Value) (rs : List ρ) : Prop := ∃ qs, OS s B W e v qs ∧ All2 (El (SO S v) W) qs rs
section
variable {ρt : Type} {El : (Nat → Prop) → World → List Value → ρt → Prop} {S : Nat → Prop} {s B : Nat} {W W' : World} {e : TypeId} {v : Value} {rs : List ρt}
theorem GO.nil (W : World) (e : TypeId) : GO s El S B W e (.slice none 0 0) [] := ⟨[], OS.nil _ _ _ _, trivial⟩
theorem GO.ext (ok : ElOK El) (h : GO s El S B W e v rs) (x : Ext W W') : GO s El S B W' e v rs := by
  obtain ⟨qs, h1, h2⟩ := h; exact ⟨qs, h1.ext x, h2.imp fun _ _ h => ok.ck h (x.ck _)⟩
theorem GO.up (h : GO s El S B W e v rs) {w : World} (hu : Up S w) (hw : w.heap.size ≤ W.heap.size) : Up (SO S v) W := fun b hb => by
  obtain ⟨qs, h1, h2⟩ := h
  exact ⟨hu b (by omega), fun e => by have := (h1.low b e).2; omega⟩
theorem GO.form (h : GO s El S B W e v rs) : ∃ a c, v = .slice a rs.length c := by
  obtain ⟨qs, h1, h2⟩ := h
  obtain ⟨a, c, e⟩ := h1.form
  exact ⟨a, c, by rw [e, h2.len]⟩
theorem GO.fin (ok : ElOK El) {a : Option Addr} {n c : Nat} (h : GO s El S B W e (.slice a n c) rs) (hS : ∀ b, B ≤ b → b < W.heap.size → S b) : ∃ qs, RS s S W a n c qs ∧ All2 (El S W) qs rs := by
  obtain ⟨qs, h1, h2⟩ := h
  exact ⟨qs, h1.rs hS, h2.imp fun _ _ h => ok.sub h fun _ _ h => h.1⟩
end
section
variable {r : Option Nat} {P : Program} {ρ : Operand → Value} {W W' : World} {d : Option Tmp} {ty T e : TypeId} {pos : String} {af : Array Edge} {g : Option (Nat × Bool)} {x y : Operand} {v : Value} {K : Value → World → Prop} {s B : Nat} {ρt : Type} {El : (Nat → Prop) → World → List Value → ρt → Prop} {S : Nat → Prop} {rs : List ρt} {rr : ρt}
theorem xappG {t1 : TypeId} {b c1 bytes : Nat} {z : Value} {q : List Value} (ok : ElOK El) (hS : Sl P t1 e) (hi : ∃ i, P.info? e = some i ∧ i.size = s ∧ i.bytes = bytes ∧ i.zero = some z) (hzs : Nat.beq z.cells.size s = true) (hs0 : Nat.blt 0 s = true) (hO : GO s El S B W e v rs) (hx : ρ x = v) (hy : ρ y = .slice (some ⟨b, 0, none⟩) 1 c1) (hb : BoxAt W b q e) (hq : Nat.beq q.length s = true) (ho : (q.all Value.oneCell') = true) (hel : El (SO S v) W q rr)
    (hlen : (rs.length + 1) * bytes ≤ 140737488355328) (hbp : 0 < bytes) (hB : B ≤ W.heap.size)
    (hk2 : ∀ v' W', GO s El S B W' e v' (rs ++ [rr]) → KB B W W' → K v' W') :
    OpF r P ρ ⟨d, .call ⟨.builtin .append, #[x, y], #[t1, t1]⟩, ty, pos, af, g⟩ W K := by
  obtain ⟨qs, h1, h2⟩ := hO
  have hl := h2.len
  refine xappS hS hi hzs hs0 h1 hx hy hb hq ho (by rw [hl]; exact hlen) hbp hB ?_
  intro v' W' hO' hg hown
  refine hk2 v' W' ⟨_, hO', ?_⟩ (KB.grownS h1 hg (Nat.le_refl _) hB)
  have := h2.snoc hel
  refine this.imp fun q r hq => ?_
  have g1 := ok.sub (S' := fun b => SO S v b ∧ v'.ownBlock ≠ some b) hq (fun b hb hs => ⟨hs, fun e => by
      rcases hown with h | h
      · rw [h] at e; exact hs.2 e
      · rw [h] at e; injection e with e; omega⟩)
  exact ok.sub (ok.ck g1 (grown_ck hg fun b e hs => hs.1.2 e)) fun b _ hs => ⟨hs.1.1, hs.2⟩
end
theorem flat_len {s : Nat} : ∀ {qs : List (List Value)}, (∀ q ∈ qs, q.length = s) → qs.flatten.length = qs.length * s
  | [], _ => by simp
  | p :: qs, hw => by rw [List.flatten_cons, List.length_append, flat_len (fun q hq => hw q (by simp [hq])), hw p (by simp), List.length_cons, Nat.succ_mul]; omega
theorem flat_set {s : Nat} : ∀ {qs : List (List Value)} (hw : ∀ q ∈ qs, q.length = s) {i : Nat} (hi : i < qs.length) {q : List Value} (hq : q.length = s), (qs.set i q).flatten = qs.flatten.take (i * s) ++ q ++ qs.flatten.drop (i * s + s)
  | p :: qs, hw, 0, _, q, hq => by
    have hp := hw p (by simp)
    simp only [List.set_cons_zero, List.flatten_cons, Nat.zero_mul, List.take_zero, List.nil_append, Nat.zero_add]
    rw [← hp, List.drop_left]
  | p :: qs, hw, i + 1, hi, q, hq => by
    have hp := hw p (by simp)
    have ih := flat_set (s := s) (qs := qs) (fun q hq => hw q (List.mem_cons_of_mem _ hq)) (i := i) (by simpa using hi) hq
    have e1 : (i + 1) * s = p.length + i * s := by rw [hp, Nat.succ_mul, Nat.add_comm]
    have e2 : (i + 1) * s + s = p.length + (i * s + s) := by rw [e1, Nat.add_assoc]
    simp only [List.set_cons_succ, List.flatten_cons]
    rw [ih, e2, e1, List.take_length_add_append, List.drop_length_add_append]
    simp only [List.append_assoc]
/-! ### An array of such elements that was made at once -/
structure AQ (s : Nat) (W : World) (b : Nat) (e : TypeId) (n : Nat) (qs : List (List Value)) : Prop where
  box : BoxAt W b qs.flatten e
  wd : ∀ q ∈ qs, q.length = s
  len : qs.length = n
  max : n ≤ 9223372036854775807
section
variable {r : Option Nat} {P : Program} {ρ : Operand → Value} {W W' : World} {d : Option Tmp} {ty T e : TypeId} {pos : String} {af : Array Edge} {g : Option (Nat × Bool)} {x y : Operand} {v : Value} {K : Value → World → Prop} {s b n : Nat} {qs : List (List Value)}
theorem AQ.ext (h : AQ s W b e n qs) (x : Ext W W') : AQ s W' b e n qs := ⟨h.box.ext x, h.wd, h.len, h.max⟩
theorem AQ.ck {S : Nat → Prop} (h : AQ s W b e n qs) (x : CK S W W') (hb : S b) : AQ s W' b e n qs := ⟨h.box.ck x hb, h.wd, h.len, h.max⟩
theorem AQ.wr {b' : Nat} (h : AQ s W b e n qs) (x : Wr b' W W') (hb : b ≠ b') : AQ s W' b e n qs := ⟨h.box.wr x hb, h.wd, h.len, h.max⟩
theorem AQ.bl {B : Nat} (h : AQ s W b e n qs) (x : Below B W W') (hb : b < B) : AQ s W' b e n qs := ⟨h.box.bl x hb, h.wd, h.len, h.max⟩
theorem AQ.tn {B : Nat} (h : AQ s W b e n qs) (x : Tn B W W') : AQ s W' b e n qs := ⟨h.box.tn x, h.wd, h.len, h.max⟩
theorem AQ.rs {S : Nat → Prop} (h : AQ s W b e n qs) (hS : S b) : RS s S W (some ⟨b, 0, none⟩) n n qs :=
  ⟨h.len, Nat.le_refl _, h.max, h.wd, fun hn => ⟨b, 0, _, e, (0,0), rfl, hS, h.box, fun k q hk j u hj => by
    have hq := h.wd q (List.mem_of_getElem? hk)
    have hj2 : j < s := by rw [← hq]; exact (List.getElem?_eq_some_iff.1 hj).1
    have := flat_get h.wd hk hj2
    rw [hj] at this
    simpa using this⟩⟩
/-- make([]T, n) -/
theorem xmkS {t1 : TypeId} {bytes : Nat} {z : Int} {zv : Value} {zs : List Value} (n : Nat) (hS : Sl P t1 e) (hi : ∃ i, P.info? e = some i ∧ i.size = s ∧ i.bytes = bytes ∧ i.zero = some zv) (hzs : zv.cells = zs.toArray) (hss : Nat.beq zs.length s = true) (hs0 : Nat.blt 0 s = true) (hx : ρ x = .int .i64 z) (hy : ρ y = .int .i64 z) (hz : z = (n : Int)) (hn : bytes * n ≤ 281474976710656) (h63 : n ≤ 9223372036854775807)
    (hk2 : ∀ W', Ext W W' → AQ s W' W.heap.size e n (List.replicate n zs) → W'.heap.size = W.heap.size + 1 → K (.slice (some ⟨W.heap.size, 0, none⟩) n n) W') :
    OpF r P ρ ⟨d, .makeSlice t1 x y, ty, pos, af, g⟩ W K := by
  subst hz
  obtain ⟨i, h1, h2, h3, h4⟩ := hi
  have hs1 : zs.length = s := Nat.eq_of_beq_eq_true hss
  have hs2 : 0 < s := by have := Nat.le_of_ble_eq_true hs0; omega
  have hr := run_make (P := P) W t1 e i zv hS h1 h4 .i64 .i64 n n (by omega) (Int.le_refl _) (by rw [h3, ← Int.natCast_mul]; omega) (by omega)
  unfold OpF execOp
  simp only [hx, hy, Sem.run_bind, hr, Result.andThen_ok, Sem.run_pure, Int.toNat_natCast]
  refine hk2 _ ((Ext.refl _).alloc _) ⟨?_, by intro q hq; rw [(List.mem_replicate.1 hq).2]; exact hs1, by simp, h63⟩ (by simp)
  unfold BoxAt
  rw [heap_alloc_new]
  congr 2
  have hsz : zv.cells.size = s := by rw [hzs]; simpa using hs1
  have := rep_cells zv.cells n (by omega)
  rw [hsz] at this
  rw [h2]
  unfold madeCells
  rw [hsz, this, hzs]
/-- a[i] = q -/
theorem xstq {i : Int} {q : List Value} (h : AQ s W b e n qs) (hx : ρ x = .pointer (some (adr (some ⟨b, 0, none⟩) i s))) (hy : ρ y = v) (hv : v.cells = q.toArray) (hT : Sz P T q.length) (hq : Nat.beq q.length s = true) (ho : (q.all Value.oneCell') = true) (h0 : 0 ≤ i) (h1 : i < n)
    (hk2 : ∀ W', Wr b W W' → AQ s W' b e n (qs.set i.toNat q) → K undef W') : OpF r P ρ ⟨d, .store T x y, ty, pos, af, g⟩ W K := by
  have hl := h.len
  have hw := h.wd
  have hm := h.max
  have hqs : q.length = s := Nat.eq_of_beq_eq_true hq
  have hfl := flat_len hw
  have hlt : i.toNat < qs.length := by omega
  have hle : i.toNat * s + s ≤ qs.length * s := by rw [← Nat.succ_mul]; exact Nat.mul_le_mul_right _ hlt
  refine xst (o := i.toNat * s) (vs := q) (cs' := (qs.set i.toNat q).flatten) ?_ hy hT hv ho h.box (by rw [hfl, hqs]; exact hle) ?_ ?_
  · rw [hx]; simp [adr, addO]
  · rw [flat_set hw hlt hqs, hqs]
  · intro W' y' hb
    exact hk2 W' y' ⟨hb, fun p hp => by
      rcases List.mem_or_eq_of_mem_set hp with h | h
      · exact hw p h
      · subst h; exact hqs, by rw [List.length_set]; exact hl, hm⟩
end
end Go.Proofs.YtknbjfefeeojlaaGreat

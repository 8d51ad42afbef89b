/- Package frac: the operations. -/
import Derived.Test.YtknbjfefeeojlaaFa
namespace Go.Proofs.Ytknbjfefeeojlaa
open Go.RowKit
attribute [local irreducible] RV VH V OpF Calls

set_option maxHeartbeats 400000 in
theorem addP_ok (q1 q2 : List Value) (x1 y1 x2 y2 : Int) (L1 L2 : Nat) (S S1 S2 : Nat → Prop) (w : World) (h1 : PA L1 S1 w q1 x1 y1) (h2 : PA L2 S2 w q2 x2 y2) (hL : L1 + L2 < LY) (hl1 : 1 ≤ L1) (hl2 : 1 ≤ L2) (hu : Up S w) :
    Calls Try.prog 105 #[.agg q1.toArray, .agg q2.toArray] w (fun e w' => ∃ p, e = .returned (.agg p.toArray) ∧ Ext w w' ∧ PA (L1 + L2 + 1) S w' p (x1 * y2 + x2 * y1) (y1 * y2)) := by
  have z0 := Ext.refl w; have hLX : LX = 17592186044416 := rfl; have hLY : LY = 8796093022208 := rfl
  obtain ⟨n1, a1, l1, c1, n2, a2, l2, c2, rfl⟩ := h1.form; obtain ⟨n3, a3, l3, c3, n4, a4, l4, c4, rfl⟩ := h2.form
  obtain ⟨hx1, hy1⟩ := h1.one; obtain ⟨hx2, hy2⟩ := h2.one
  have hu2 : ∀ W : World, w.heap.size + 3 ≤ W.heap.size → Up (SX S [w.heap.size + 2]) W := fun W hW => SX.up (hu.mono (by omega)) (by simp <;> omega)
  refine enter (args := [.agg #[.bool n1, .slice a1 l1 c1, .bool n2, .slice a2 l2 c2], .agg #[.bool n3, .slice a3 l3 c3, .bool n4, .slice a4 l4 c4]]) Try.func105 rfl rfl (Nat.le_of_ble_eq_true rfl) ?_
  refine V.seq (V.reg rfl ?_)
  refine vo ?_
  refine bxa rfl ?_
  intro W1 x2 b3 nn4
  have s5 := x2.sz
  have z6 := x2
  refine vo ?_
  refine bxa rfl ?_
  intro W7 x8 b9 nn10
  have s11 := x8.sz
  have z12 := z6.trans x8
  replace b3 := b3.ext x8
  refine vo ?_
  refine xal zc89 ?_
  intro W13 x14 b15 nn16
  have s17 := x14.sz
  have z18 := z12.trans x14
  replace b3 := b3.ext x14
  replace b9 := b9.ext x14
  refine vnil ?_
  refine V.seq (V.regD mixed rfl ?_)
  intro W19 x20
  have s21 := x20.sz
  have z22 := z18.trans x20
  replace b3 := b3.ext x20
  replace b9 := b9.ext x20
  replace b15 := b15.ext x20
  have q23 := Ext.refl W19
  have r24 := b3
  have r25 := b9
  have r26 := b15
  refine tk 0 rfl (by kernel_rfl) q23 (pv (fun _ y27 => rfa rfl fd89_0)) ?_
  refine tk 1 rfl (by kernel_rfl) q23 (pv (fun _ y28 => rldb2 rfl ag41 (r24.ext y28) rfl rfl )) ?_
  refine tk 2 rfl (by kernel_rfl) q23 (pv (fun _ y29 => rfa rfl fd89_1)) ?_
  refine tk 3 rfl (by kernel_rfl) q23 (pv (fun _ y30 => rldb2 rfl ag41 (r25.ext y30) rfl rfl )) ?_
  refine tk 5 rfl (by kernel_rfl) q23 (pv (fun _ y31 => rfa rfl fd89_0)) ?_
  refine tk 6 rfl (by kernel_rfl) q23 (pv (fun _ y32 => rldb2 rfl ag41 (r25.ext y32) rfl rfl )) ?_
  refine tk 7 rfl (by kernel_rfl) q23 (pv (fun _ y33 => rfa rfl fd89_1)) ?_
  refine tk 8 rfl (by kernel_rfl) q23 (pv (fun _ y34 => rldb2 rfl ag41 (r24.ext y34) rfl rfl )) ?_
  refine tk 11 rfl (by kernel_rfl) q23 (pv (fun _ y35 => rfa rfl fd89_1)) ?_
  refine tk 12 rfl (by kernel_rfl) q23 (pv (fun _ y36 => rldb2 rfl ag41 (r24.ext y36) rfl rfl )) ?_
  refine tk 13 rfl (by kernel_rfl) q23 (pv (fun _ y37 => rfa rfl fd89_1)) ?_
  refine tk 14 rfl (by kernel_rfl) q23 (pv (fun _ y38 => rldb2 rfl ag41 (r25.ext y38) rfl rfl )) ?_
  refine ef 4 (by kernel_rfl) rfl ?_
  refine xcall e64 (wMul_ok _ _ _ _ _ _ _ _ _ _ _ _ _ _ _ _ (hx1.ext z22) (hy2.ext z22) (by omega) (by omega) (hu2 _ (by omega))) rfl rfl ?_
  rintro _ W40 ⟨_, _, _, _, rfl, x41, hz39⟩
  have s42 := x41.sz
  have z43 := z22.trans x41
  replace b3 := b3.ext x41
  replace b9 := b9.ext x41
  replace b15 := b15.ext x41
  have q44 := q23.trans x41
  refine ⟨_, rfl, ?_⟩
  refine ⟨fun _ => q44, ?_⟩
  refine ef 9 (by kernel_rfl) rfl ?_
  have hm1 := (hz39).za_mul hx1 hy2
  refine xcall e64 (wMul_ok _ _ _ _ _ _ _ _ _ _ _ _ _ _ _ _ (hx2.ext z43) (hy1.ext z43) (by omega) (by omega) (hu2 _ (by omega))) rfl rfl ?_
  rintro _ W46 ⟨_, _, _, _, rfl, x47, hz45⟩
  have s48 := x47.sz
  have z49 := z43.trans x47
  replace b3 := b3.ext x47
  replace b9 := b9.ext x47
  replace b15 := b15.ext x47
  have q50 := q44.trans x47
  refine ⟨_, rfl, ?_⟩
  refine ⟨fun _ => q50, ?_⟩
  refine ef 10 (by kernel_rfl) rfl ?_
  have hm2 := (hz45).za_mul hx2 hy1
  refine xcall e106 (wAdd_ok _ _ _ _ _ _ _ _ _ _ _ _ _ _ _ _ (hm1.ext x47) hm2 (by omega) (by omega) (hu2 _ (by omega))) rfl rfl ?_
  rintro _ W52 ⟨_, _, _, _, rfl, x53, hz51⟩
  have s54 := x53.sz
  have z55 := z49.trans x53
  replace b3 := b3.ext x53
  replace b9 := b9.ext x53
  replace b15 := b15.ext x53
  have q56 := q50.trans x53
  refine ⟨_, rfl, ?_⟩
  refine ⟨fun _ => q56, ?_⟩
  refine ef 15 (by kernel_rfl) rfl ?_
  have hs := ((hz51).za_add (L := L1 + L2) (hm1.lt) (by rw [Nat.add_comm]; exact hm2.lt) (.inl rfl))
  refine xcall e64 (wMul_ok _ _ _ _ _ _ _ _ _ _ _ _ _ _ _ _ (hy1.ext z55) (hy2.ext z55) (by omega) (by omega) (hu2 _ (by omega))) rfl rfl ?_
  rintro _ W58 ⟨_, _, _, _, rfl, x59, hz57⟩
  have s60 := x59.sz
  have z61 := z55.trans x59
  replace b3 := b3.ext x59
  replace b9 := b9.ext x59
  replace b15 := b15.ext x59
  have q62 := q56.trans x59
  refine ⟨_, rfl, ?_⟩
  refine ⟨fun _ => q62, ?_⟩
  refine tk 16 rfl (by kernel_rfl) q62 (pv (fun _ y63 => rbd (ps := [(0, .agg #[_, _]), (1, .agg #[_, _])]) (cs := [.bool _, .slice _ _ _, .bool _, .slice _ _ _]) pl89 rfl rfl)) ?_
  refine ef 17 (by kernel_rfl) rfl ?_
  have hm3 := ((hz57).za_mul hy1 hy2).mono (L' := L1 + L2 + 1) (by omega)
  refine sta (cs' := [_, _, _, _]) b15 rfl rfl sz89 rfl rfl rfl ?_
  intro W64 y65 b15
  have z66 := z61.below (y65.below (by omega))
  replace b3 := b3.wr y65 (by omega)
  replace b9 := b9.wr y65 (by omega)
  have s67 := y65.size
  refine lastT (by kernel_rfl) ?_
  refine dn (by kernel_rfl) ?_
  refine V.ret ?_
  refine ⟨[_], ⟨⟨_, rfl, lvb ag89 b15 rfl⟩, trivial⟩, ?_⟩
  exact ⟨_, rfl, z66, (PA.mk' ((hs.ck ((x59.ck _).trans (y65.ck (by intro hh; simp [SX] at hh <;> omega))))) ((hm3.ck (y65.ck (by intro hh; simp [SX] at hh <;> omega))))).un⟩
set_option maxHeartbeats 400000 in
theorem subP_ok (q1 q2 : List Value) (x1 y1 x2 y2 : Int) (L1 L2 : Nat) (S S1 S2 : Nat → Prop) (w : World) (h1 : PA L1 S1 w q1 x1 y1) (h2 : PA L2 S2 w q2 x2 y2) (hL : L1 + L2 < LY) (hl1 : 1 ≤ L1) (hl2 : 1 ≤ L2) (hu : Up S w) :
    Calls Try.prog 107 #[.agg q1.toArray, .agg q2.toArray] w (fun e w' => ∃ p, e = .returned (.agg p.toArray) ∧ Ext w w' ∧ PA (L1 + L2 + 1) S w' p (x1 * y2 - x2 * y1) (y1 * y2)) := by
  have z0 := Ext.refl w; have hLX : LX = 17592186044416 := rfl; have hLY : LY = 8796093022208 := rfl
  obtain ⟨n1, a1, l1, c1, n2, a2, l2, c2, rfl⟩ := h1.form; obtain ⟨n3, a3, l3, c3, n4, a4, l4, c4, rfl⟩ := h2.form
  obtain ⟨hx1, hy1⟩ := h1.one; obtain ⟨hx2, hy2⟩ := h2.one
  have hu2 : ∀ W : World, w.heap.size + 3 ≤ W.heap.size → Up (SX S [w.heap.size + 2]) W := fun W hW => SX.up (hu.mono (by omega)) (by simp <;> omega)
  refine enter (args := [.agg #[.bool n1, .slice a1 l1 c1, .bool n2, .slice a2 l2 c2], .agg #[.bool n3, .slice a3 l3 c3, .bool n4, .slice a4 l4 c4]]) Try.func107 rfl rfl (Nat.le_of_ble_eq_true rfl) ?_
  refine V.seq (V.reg rfl ?_)
  refine vo ?_
  refine bxa rfl ?_
  intro W1 x2 b3 nn4
  have s5 := x2.sz
  have z6 := x2
  refine vo ?_
  refine bxa rfl ?_
  intro W7 x8 b9 nn10
  have s11 := x8.sz
  have z12 := z6.trans x8
  replace b3 := b3.ext x8
  refine vo ?_
  refine xal zc89 ?_
  intro W13 x14 b15 nn16
  have s17 := x14.sz
  have z18 := z12.trans x14
  replace b3 := b3.ext x14
  replace b9 := b9.ext x14
  refine vnil ?_
  refine V.seq (V.regD mixed rfl ?_)
  intro W19 x20
  have s21 := x20.sz
  have z22 := z18.trans x20
  replace b3 := b3.ext x20
  replace b9 := b9.ext x20
  replace b15 := b15.ext x20
  have q23 := Ext.refl W19
  have r24 := b3
  have r25 := b9
  have r26 := b15
  refine tk 0 rfl (by kernel_rfl) q23 (pv (fun _ y27 => rfa rfl fd89_0)) ?_
  refine tk 1 rfl (by kernel_rfl) q23 (pv (fun _ y28 => rldb2 rfl ag41 (r24.ext y28) rfl rfl )) ?_
  refine tk 2 rfl (by kernel_rfl) q23 (pv (fun _ y29 => rfa rfl fd89_1)) ?_
  refine tk 3 rfl (by kernel_rfl) q23 (pv (fun _ y30 => rldb2 rfl ag41 (r25.ext y30) rfl rfl )) ?_
  refine tk 5 rfl (by kernel_rfl) q23 (pv (fun _ y31 => rfa rfl fd89_0)) ?_
  refine tk 6 rfl (by kernel_rfl) q23 (pv (fun _ y32 => rldb2 rfl ag41 (r25.ext y32) rfl rfl )) ?_
  refine tk 7 rfl (by kernel_rfl) q23 (pv (fun _ y33 => rfa rfl fd89_1)) ?_
  refine tk 8 rfl (by kernel_rfl) q23 (pv (fun _ y34 => rldb2 rfl ag41 (r24.ext y34) rfl rfl )) ?_
  refine tk 11 rfl (by kernel_rfl) q23 (pv (fun _ y35 => rfa rfl fd89_1)) ?_
  refine tk 12 rfl (by kernel_rfl) q23 (pv (fun _ y36 => rldb2 rfl ag41 (r24.ext y36) rfl rfl )) ?_
  refine tk 13 rfl (by kernel_rfl) q23 (pv (fun _ y37 => rfa rfl fd89_1)) ?_
  refine tk 14 rfl (by kernel_rfl) q23 (pv (fun _ y38 => rldb2 rfl ag41 (r25.ext y38) rfl rfl )) ?_
  refine ef 4 (by kernel_rfl) rfl ?_
  refine xcall e64 (wMul_ok _ _ _ _ _ _ _ _ _ _ _ _ _ _ _ _ (hx1.ext z22) (hy2.ext z22) (by omega) (by omega) (hu2 _ (by omega))) rfl rfl ?_
  rintro _ W40 ⟨_, _, _, _, rfl, x41, hz39⟩
  have s42 := x41.sz
  have z43 := z22.trans x41
  replace b3 := b3.ext x41
  replace b9 := b9.ext x41
  replace b15 := b15.ext x41
  have q44 := q23.trans x41
  refine ⟨_, rfl, ?_⟩
  refine ⟨fun _ => q44, ?_⟩
  refine ef 9 (by kernel_rfl) rfl ?_
  have hm1 := (hz39).za_mul hx1 hy2
  refine xcall e64 (wMul_ok _ _ _ _ _ _ _ _ _ _ _ _ _ _ _ _ (hx2.ext z43) (hy1.ext z43) (by omega) (by omega) (hu2 _ (by omega))) rfl rfl ?_
  rintro _ W46 ⟨_, _, _, _, rfl, x47, hz45⟩
  have s48 := x47.sz
  have z49 := z43.trans x47
  replace b3 := b3.ext x47
  replace b9 := b9.ext x47
  replace b15 := b15.ext x47
  have q50 := q44.trans x47
  refine ⟨_, rfl, ?_⟩
  refine ⟨fun _ => q50, ?_⟩
  refine ef 10 (by kernel_rfl) rfl ?_
  have hm2 := (hz45).za_mul hx2 hy1
  refine xcall e94 (wSub_ok _ _ _ _ _ _ _ _ _ _ _ _ _ _ _ _ (hm1.ext x47) hm2 (by omega) (by omega) (hu2 _ (by omega))) rfl rfl ?_
  rintro _ W52 ⟨_, _, _, _, rfl, x53, hz51⟩
  have s54 := x53.sz
  have z55 := z49.trans x53
  replace b3 := b3.ext x53
  replace b9 := b9.ext x53
  replace b15 := b15.ext x53
  have q56 := q50.trans x53
  refine ⟨_, rfl, ?_⟩
  refine ⟨fun _ => q56, ?_⟩
  refine ef 15 (by kernel_rfl) rfl ?_
  have hs := ((hz51).za_add (L := L1 + L2) (hm1.lt) (by rw [Nat.add_comm]; exact hm2.lt) (.inr rfl))
  refine xcall e64 (wMul_ok _ _ _ _ _ _ _ _ _ _ _ _ _ _ _ _ (hy1.ext z55) (hy2.ext z55) (by omega) (by omega) (hu2 _ (by omega))) rfl rfl ?_
  rintro _ W58 ⟨_, _, _, _, rfl, x59, hz57⟩
  have s60 := x59.sz
  have z61 := z55.trans x59
  replace b3 := b3.ext x59
  replace b9 := b9.ext x59
  replace b15 := b15.ext x59
  have q62 := q56.trans x59
  refine ⟨_, rfl, ?_⟩
  refine ⟨fun _ => q62, ?_⟩
  refine tk 16 rfl (by kernel_rfl) q62 (pv (fun _ y63 => rbd (ps := [(0, .agg #[_, _]), (1, .agg #[_, _])]) (cs := [.bool _, .slice _ _ _, .bool _, .slice _ _ _]) pl89 rfl rfl)) ?_
  refine ef 17 (by kernel_rfl) rfl ?_
  have hm3 := ((hz57).za_mul hy1 hy2).mono (L' := L1 + L2 + 1) (by omega)
  refine sta (cs' := [_, _, _, _]) b15 rfl rfl sz89 rfl rfl rfl ?_
  intro W64 y65 b15
  have z66 := z61.below (y65.below (by omega))
  replace b3 := b3.wr y65 (by omega)
  replace b9 := b9.wr y65 (by omega)
  have s67 := y65.size
  refine lastT (by kernel_rfl) ?_
  refine dn (by kernel_rfl) ?_
  refine V.ret ?_
  refine ⟨[_], ⟨⟨_, rfl, lvb ag89 b15 rfl⟩, trivial⟩, ?_⟩
  exact ⟨_, rfl, z66, (PA.mk' ((hs.ck ((x59.ck _).trans (y65.ck (by intro hh; simp [SX] at hh <;> omega))))) ((hm3.ck (y65.ck (by intro hh; simp [SX] at hh <;> omega))))).un⟩
set_option maxHeartbeats 400000 in
theorem mulP_ok (q1 q2 : List Value) (x1 y1 x2 y2 : Int) (L1 L2 : Nat) (S S1 S2 : Nat → Prop) (w : World) (h1 : PA L1 S1 w q1 x1 y1) (h2 : PA L2 S2 w q2 x2 y2) (hL : L1 + L2 < LY) (hl1 : 1 ≤ L1) (hl2 : 1 ≤ L2) (hu : Up S w) :
    Calls Try.prog 108 #[.agg q1.toArray, .agg q2.toArray] w (fun e w' => ∃ p, e = .returned (.agg p.toArray) ∧ Ext w w' ∧ PA (L1 + L2 + 1) S w' p (x1 * x2) (y1 * y2)) := by
  have z0 := Ext.refl w; have hLX : LX = 17592186044416 := rfl; have hLY : LY = 8796093022208 := rfl
  obtain ⟨n1, a1, l1, c1, n2, a2, l2, c2, rfl⟩ := h1.form; obtain ⟨n3, a3, l3, c3, n4, a4, l4, c4, rfl⟩ := h2.form
  obtain ⟨hx1, hy1⟩ := h1.one; obtain ⟨hx2, hy2⟩ := h2.one
  have hu2 : ∀ W : World, w.heap.size + 3 ≤ W.heap.size → Up (SX S [w.heap.size + 2]) W := fun W hW => SX.up (hu.mono (by omega)) (by simp <;> omega)
  refine enter (args := [.agg #[.bool n1, .slice a1 l1 c1, .bool n2, .slice a2 l2 c2], .agg #[.bool n3, .slice a3 l3 c3, .bool n4, .slice a4 l4 c4]]) Try.func108 rfl rfl (Nat.le_of_ble_eq_true rfl) ?_
  refine V.seq (V.reg rfl ?_)
  refine vo ?_
  refine bxa rfl ?_
  intro W1 x2 b3 nn4
  have s5 := x2.sz
  have z6 := x2
  refine vo ?_
  refine bxa rfl ?_
  intro W7 x8 b9 nn10
  have s11 := x8.sz
  have z12 := z6.trans x8
  replace b3 := b3.ext x8
  refine vo ?_
  refine xal zc89 ?_
  intro W13 x14 b15 nn16
  have s17 := x14.sz
  have z18 := z12.trans x14
  replace b3 := b3.ext x14
  replace b9 := b9.ext x14
  refine vnil ?_
  refine V.seq (V.regD mixed rfl ?_)
  intro W19 x20
  have s21 := x20.sz
  have z22 := z18.trans x20
  replace b3 := b3.ext x20
  replace b9 := b9.ext x20
  replace b15 := b15.ext x20
  have q23 := Ext.refl W19
  have r24 := b3
  have r25 := b9
  have r26 := b15
  refine tk 0 rfl (by kernel_rfl) q23 (pv (fun _ y27 => rfa rfl fd89_0)) ?_
  refine tk 1 rfl (by kernel_rfl) q23 (pv (fun _ y28 => rldb2 rfl ag41 (r24.ext y28) rfl rfl )) ?_
  refine tk 2 rfl (by kernel_rfl) q23 (pv (fun _ y29 => rfa rfl fd89_0)) ?_
  refine tk 3 rfl (by kernel_rfl) q23 (pv (fun _ y30 => rldb2 rfl ag41 (r25.ext y30) rfl rfl )) ?_
  refine tk 5 rfl (by kernel_rfl) q23 (pv (fun _ y31 => rfa rfl fd89_1)) ?_
  refine tk 6 rfl (by kernel_rfl) q23 (pv (fun _ y32 => rldb2 rfl ag41 (r24.ext y32) rfl rfl )) ?_
  refine tk 7 rfl (by kernel_rfl) q23 (pv (fun _ y33 => rfa rfl fd89_1)) ?_
  refine tk 8 rfl (by kernel_rfl) q23 (pv (fun _ y34 => rldb2 rfl ag41 (r25.ext y34) rfl rfl )) ?_
  refine ef 4 (by kernel_rfl) rfl ?_
  refine xcall e64 (wMul_ok _ _ _ _ _ _ _ _ _ _ _ _ _ _ _ _ (hx1.ext z22) (hx2.ext z22) (by omega) (by omega) (hu2 _ (by omega))) rfl rfl ?_
  rintro _ W36 ⟨_, _, _, _, rfl, x37, hz35⟩
  have s38 := x37.sz
  have z39 := z22.trans x37
  replace b3 := b3.ext x37
  replace b9 := b9.ext x37
  replace b15 := b15.ext x37
  have q40 := q23.trans x37
  refine ⟨_, rfl, ?_⟩
  refine ⟨fun _ => q40, ?_⟩
  refine ef 9 (by kernel_rfl) rfl ?_
  have hm1 := ((hz35).za_mul hx1 hx2).mono (L' := L1 + L2 + 1) (by omega)
  refine xcall e64 (wMul_ok _ _ _ _ _ _ _ _ _ _ _ _ _ _ _ _ (hy1.ext z39) (hy2.ext z39) (by omega) (by omega) (hu2 _ (by omega))) rfl rfl ?_
  rintro _ W42 ⟨_, _, _, _, rfl, x43, hz41⟩
  have s44 := x43.sz
  have z45 := z39.trans x43
  replace b3 := b3.ext x43
  replace b9 := b9.ext x43
  replace b15 := b15.ext x43
  have q46 := q40.trans x43
  refine ⟨_, rfl, ?_⟩
  refine ⟨fun _ => q46, ?_⟩
  refine tk 10 rfl (by kernel_rfl) q46 (pv (fun _ y47 => rbd (ps := [(0, .agg #[_, _]), (1, .agg #[_, _])]) (cs := [.bool _, .slice _ _ _, .bool _, .slice _ _ _]) pl89 rfl rfl)) ?_
  refine ef 11 (by kernel_rfl) rfl ?_
  have hm3 := ((hz41).za_mul hy1 hy2).mono (L' := L1 + L2 + 1) (by omega)
  refine sta (cs' := [_, _, _, _]) b15 rfl rfl sz89 rfl rfl rfl ?_
  intro W48 y49 b15
  have z50 := z45.below (y49.below (by omega))
  replace b3 := b3.wr y49 (by omega)
  replace b9 := b9.wr y49 (by omega)
  have s51 := y49.size
  refine lastT (by kernel_rfl) ?_
  refine dn (by kernel_rfl) ?_
  refine V.ret ?_
  refine ⟨[_], ⟨⟨_, rfl, lvb ag89 b15 rfl⟩, trivial⟩, ?_⟩
  exact ⟨_, rfl, z50, (PA.mk' ((hm1.ck ((x43.ck _).trans (y49.ck (by intro hh; simp [SX] at hh <;> omega))))) ((hm3.ck (y49.ck (by intro hh; simp [SX] at hh <;> omega))))).un⟩
set_option maxHeartbeats 400000 in
theorem divP_ok (q1 q2 : List Value) (x1 y1 x2 y2 : Int) (L1 L2 : Nat) (S S1 S2 : Nat → Prop) (w : World) (h1 : PA L1 S1 w q1 x1 y1) (h2 : PA L2 S2 w q2 x2 y2) (hL : L1 + L2 < LY) (hl1 : 1 ≤ L1) (hl2 : 1 ≤ L2) (hu : Up S w) :
    Calls Try.prog 109 #[.agg q1.toArray, .agg q2.toArray] w (fun e w' => ∃ p, e = .returned (.agg p.toArray) ∧ Ext w w' ∧ ∃ x y, PA (L1 + L2) S w' p x y ∧ 0 < y ∧ qv (x1 * y2) (y1 * x2) = Rat.divInt x y) := by
  have z0 := Ext.refl w; have hLX : LX = 17592186044416 := rfl; have hLY : LY = 8796093022208 := rfl
  obtain ⟨n1, a1, l1, c1, n2, a2, l2, c2, rfl⟩ := h1.form; obtain ⟨n3, a3, l3, c3, n4, a4, l4, c4, rfl⟩ := h2.form
  obtain ⟨hx1, hy1⟩ := h1.one; obtain ⟨hx2, hy2⟩ := h2.one
  have hu2 : ∀ W : World, w.heap.size + 3 ≤ W.heap.size → Up (SX S [w.heap.size + 2]) W := fun W hW => SX.up (hu.mono (by omega)) (by simp <;> omega)
  refine enter (args := [.agg #[.bool n1, .slice a1 l1 c1, .bool n2, .slice a2 l2 c2], .agg #[.bool n3, .slice a3 l3 c3, .bool n4, .slice a4 l4 c4]]) Try.func109 rfl rfl (Nat.le_of_ble_eq_true rfl) ?_
  refine V.seq (V.reg rfl ?_)
  refine vo ?_
  refine bxa rfl ?_
  intro W1 x2 b3 nn4
  have s5 := x2.sz
  have z6 := x2
  refine vo ?_
  refine bxa rfl ?_
  intro W7 x8 b9 nn10
  have s11 := x8.sz
  have z12 := z6.trans x8
  replace b3 := b3.ext x8
  refine vo ?_
  refine xal zc89 ?_
  intro W13 x14 b15 nn16
  have s17 := x14.sz
  have z18 := z12.trans x14
  replace b3 := b3.ext x14
  replace b9 := b9.ext x14
  refine vnil ?_
  refine V.seq (V.regD mixed rfl ?_)
  intro W19 x20
  have s21 := x20.sz
  have z22 := z18.trans x20
  replace b3 := b3.ext x20
  replace b9 := b9.ext x20
  replace b15 := b15.ext x20
  have q23 := Ext.refl W19
  have r24 := b3
  have r25 := b9
  have r26 := b15
  refine tk 0 rfl (by kernel_rfl) q23 (pv (fun _ y27 => rfa rfl fd89_0)) ?_
  refine tk 1 rfl (by kernel_rfl) q23 (pv (fun _ y28 => rldb2 rfl ag41 (r24.ext y28) rfl rfl )) ?_
  refine tk 2 rfl (by kernel_rfl) q23 (pv (fun _ y29 => rfa rfl fd89_1)) ?_
  refine tk 3 rfl (by kernel_rfl) q23 (pv (fun _ y30 => rldb2 rfl ag41 (r25.ext y30) rfl rfl )) ?_
  refine tk 5 rfl (by kernel_rfl) q23 (pv (fun _ y31 => rfa rfl fd89_1)) ?_
  refine tk 6 rfl (by kernel_rfl) q23 (pv (fun _ y32 => rldb2 rfl ag41 (r24.ext y32) rfl rfl )) ?_
  refine tk 7 rfl (by kernel_rfl) q23 (pv (fun _ y33 => rfa rfl fd89_0)) ?_
  refine tk 8 rfl (by kernel_rfl) q23 (pv (fun _ y34 => rldb2 rfl ag41 (r25.ext y34) rfl rfl )) ?_
  refine ef 4 (by kernel_rfl) rfl ?_
  refine xcall e64 (wMul_ok _ _ _ _ _ _ _ _ _ _ _ _ _ _ _ _ (hx1.ext z22) (hy2.ext z22) (by omega) (by omega) (hu2 _ (by omega))) rfl rfl ?_
  rintro _ W36 ⟨_, _, _, _, rfl, x37, hz35⟩
  have s38 := x37.sz
  have z39 := z22.trans x37
  replace b3 := b3.ext x37
  replace b9 := b9.ext x37
  replace b15 := b15.ext x37
  have q40 := q23.trans x37
  refine ⟨_, rfl, ?_⟩
  refine ⟨fun _ => q40, ?_⟩
  refine ef 9 (by kernel_rfl) rfl ?_
  have hm1 := (hz35).za_mul hx1 hy2
  refine xcall e64 (wMul_ok _ _ _ _ _ _ _ _ _ _ _ _ _ _ _ _ (hy1.ext z39) (hx2.ext z39) (by omega) (by omega) (hu2 _ (by omega))) rfl rfl ?_
  rintro _ W42 ⟨_, _, _, _, rfl, x43, hz41⟩
  have s44 := x43.sz
  have z45 := z39.trans x43
  replace b3 := b3.ext x43
  replace b9 := b9.ext x43
  replace b15 := b15.ext x43
  have q46 := q40.trans x43
  refine ⟨_, rfl, ?_⟩
  refine ⟨fun _ => q46, ?_⟩
  refine tk 10 rfl (by kernel_rfl) q46 (pv (fun _ y47 => rbd (ps := [(0, .agg #[_, _]), (1, .agg #[_, _])]) (cs := [.bool _, .slice _ _ _, .bool _, .slice _ _ _]) pl43 rfl rfl)) ?_
  refine ef 11 (by kernel_rfl) rfl ?_
  have hm3 := (hz41).za_mul hy1 hx2
  have hqd := QA.mk2 (hm1.ext x43) hm3
  refine xcall e62 (of_ok _ _ _ _ _ hqd (by omega) (by omega) (hu2 _ (by omega))) rfl rfl ?_
  rintro _ W55 ⟨_, rfl, x56, px49, py50, hp48, pp51, pe52⟩
  have s57 := x56.sz
  have z58 := z45.trans x56
  replace b3 := b3.ext x56
  replace b9 := b9.ext x56
  replace b15 := b15.ext x56
  have q59 := q46.trans x56
  obtain ⟨_, _, _, _, _, _, _, _, rfl⟩ := hp48.form
  obtain ⟨zx53, zy54⟩ := hp48.one
  refine ⟨_, rfl, ?_⟩
  refine ⟨fun _ => q59, ?_⟩
  refine ef 12 (by kernel_rfl) rfl ?_
  refine sta (cs' := [_, _, _, _]) b15 rfl rfl sz89 rfl rfl rfl ?_
  intro W60 y61 b15
  have z62 := z58.below (y61.below (by omega))
  replace b3 := b3.wr y61 (by omega)
  replace b9 := b9.wr y61 (by omega)
  have s63 := y61.size
  refine lastT (by kernel_rfl) ?_
  refine dn (by kernel_rfl) ?_
  refine V.ret ?_
  refine ⟨[_], ⟨⟨_, rfl, lvb ag89 b15 rfl⟩, trivial⟩, ?_⟩
  exact ⟨_, rfl, z62, _, _, ((hp48.ck (y61.ck (by intro hh; simp [SX] at hh <;> omega)))).un, pp51, pe52⟩
set_option maxHeartbeats 400000 in
theorem dAdd_ok (q1 q2 : List Value) (r1 r2 : Rat) (L1 L2 : Nat) (S S1 S2 : Nat → Prop) (w : World) (h1 : QA L1 S1 w q1 r1) (h2 : QA L2 S2 w q2 r2) (hL : L1 + L2 < LY) (hl1 : 1 ≤ L1) (hl2 : 1 ≤ L2) (hu : Up S w) :
    Calls Try.prog 90 #[.string ⟨#[97, 100, 100]⟩, .agg q1.toArray, .agg q2.toArray] w (PQ S (r1 + r2) w) := by
  have z0 := Ext.refl w; have hLX : LX = 17592186044416 := rfl; have hLY : LY = 8796093022208 := rfl
  obtain ⟨n1, a1, l1, c1, n2, a2, l2, c2, rfl⟩ := h1.form; obtain ⟨n3, a3, l3, c3, n4, a4, l4, c4, rfl⟩ := h2.form
  have h1n := h1.sub (S' := fun b => b ≠ w.heap.size + 2) (fun b hb _ => by omega); have h2n := h2.sub (S' := fun b => b ≠ w.heap.size + 2) (fun b hb _ => by omega)
  have hu2 : ∀ W : World, w.heap.size + 3 ≤ W.heap.size → Up (SX S [w.heap.size + 2]) W := fun W hW => SX.up (hu.mono (by omega)) (by simp <;> omega)
  refine enter (args := [.string ⟨#[97, 100, 100]⟩, .agg #[.bool n1, .slice a1 l1 c1, .bool n2, .slice a2 l2 c2], .agg #[.bool n3, .slice a3 l3 c3, .bool n4, .slice a4 l4 c4]]) Try.func90 rfl rfl (Nat.le_of_ble_eq_true rfl) ?_
  refine V.seq (V.reg rfl ?_)
  refine vo ?_
  refine bxa rfl ?_
  intro W1 x2 b3 nn4
  have s5 := x2.sz
  have z6 := x2
  refine vo ?_
  refine bxa rfl ?_
  intro W7 x8 b9 nn10
  have s11 := x8.sz
  have z12 := z6.trans x8
  replace b3 := b3.ext x8
  refine vo ?_
  refine xal zc43 ?_
  intro W13 x14 b15 nn16
  have s17 := x14.sz
  have z18 := z12.trans x14
  replace b3 := b3.ext x14
  replace b9 := b9.ext x14
  refine vnil ?_
  refine V.seq (V.reg rfl ?_)
  refine vo ?_
  refine xmm ?_
  intro W19 x20 m21 n22
  have s23 := x20.sz
  have z24 := z18.trans x20
  replace b3 := b3.ext x20
  replace b9 := b9.ext x20
  replace b15 := b15.ext x20
  refine vv (rbd (ps := [(0, .func _ _ _)]) (cs := [.func _ _ _]) pl140 rfl rfl) ?_
  refine vo ?_
  refine xins (v := .agg #[_]) m21 rfl rfl rfl Try.underlying141 Try.underlying9 rfl ?_
  intro W25 n26 t27 M28 n29
  have z30 := t27.ext z24 (by omega)
  replace b3 := b3.tn t27
  replace b9 := b9.tn t27
  replace b15 := b15.tn t27
  refine vv (rbd (ps := [(0, .func _ _ _)]) (cs := [.func _ _ _]) pl140 rfl rfl) ?_
  refine vo ?_
  refine xins (v := .agg #[_]) M28 rfl rfl rfl Try.underlying141 Try.underlying9 rfl ?_
  intro W31 n32 t33 M34 n35
  have z36 := t33.ext z30 (by omega)
  replace b3 := b3.tn t33
  replace b9 := b9.tn t33
  replace b15 := b15.tn t33
  refine vv (rbd (ps := [(0, .func _ _ _)]) (cs := [.func _ _ _]) pl140 rfl rfl) ?_
  refine vo ?_
  refine xins (v := .agg #[_]) M34 rfl rfl rfl Try.underlying141 Try.underlying9 rfl ?_
  intro W37 n38 t39 M40 n41
  have z42 := t39.ext z36 (by omega)
  replace b3 := b3.tn t39
  replace b9 := b9.tn t39
  replace b15 := b15.tn t39
  refine vv (rbd (ps := [(0, .func _ _ _)]) (cs := [.func _ _ _]) pl140 rfl rfl) ?_
  refine vo ?_
  refine xins (v := .agg #[_]) M40 rfl rfl rfl Try.underlying141 Try.underlying9 rfl ?_
  intro W43 n44 t45 M46 n47
  have z48 := t45.ext z42 (by omega)
  replace b3 := b3.tn t45
  replace b9 := b9.tn t45
  replace b15 := b15.tn t45
  refine vv (rmv (v := .map (some _)) rfl) ?_
  refine vv (ras (v := .map (some _)) rfl) ?_
  refine vnil ?_
  refine V.seq (V.regD mixed rfl ?_)
  intro W49 x50
  have s51 := x50.sz
  have z52 := z48.trans x50
  replace b3 := b3.ext x50
  replace b9 := b9.ext x50
  replace b15 := b15.ext x50
  have M46' := M46.ext x50
  have q53 := Ext.refl W49
  have r54 := b3
  have r55 := b9
  have r56 := b15
  refine tk 0 rfl (by kernel_rfl) q53 (pv (fun _ y57 => rmv (v := .map (some _)) rfl)) ?_
  refine tk 1 rfl (by kernel_rfl) q53 (pv (fun _ y58 => rmv (v := .string _) rfl)) ?_
  refine tk 2 rfl (by kernel_rfl) q53 (pv (fun _ y59 => rlk (v := .agg #[.func _ _ _]) (M46'.ext y59) rfl rfl Try.underlying141 Try.underlying9 rfl)) ?_
  refine tk 3 rfl (by kernel_rfl) q53 (pv (fun _ y60 => rfl1 (l := [_]) (v := .func _ _ _) rfl fd140_0 ⟨_, _, Try.underlying140, rfl, sc138⟩ rfl)) ?_
  refine tk 4 rfl (by kernel_rfl) q53 (pv (fun _ y61 => rldb4 rfl ag43 (r54.ext y61) rfl rfl rfl rfl )) ?_
  refine tk 6 rfl (by kernel_rfl) q53 (pv (fun _ y62 => rldb4 rfl ag43 (r55.ext y62) rfl rfl rfl rfl )) ?_
  refine ef 5 (by kernel_rfl) rfl ?_
  refine xcall e62 (of_ok _ _ _ _ _ (h1n.ext z52) (by omega) (by omega) (fun b hb => by omega)) rfl rfl ?_
  rintro _ W70 ⟨_, rfl, x71, px64, py65, hp63, pp66, pe67⟩
  have s72 := x71.sz
  have z73 := z52.trans x71
  replace b3 := b3.ext x71
  replace b9 := b9.ext x71
  replace b15 := b15.ext x71
  have M46'' := M46'.ext x71
  have q74 := q53.trans x71
  obtain ⟨_, _, _, _, _, _, _, _, rfl⟩ := hp63.form
  obtain ⟨zx68, zy69⟩ := hp63.one
  refine ⟨_, rfl, ?_⟩
  refine ⟨fun _ => q74, ?_⟩
  refine ef 7 (by kernel_rfl) rfl ?_
  refine xcall e62 (of_ok _ _ _ _ _ (h2n.ext z73) (by omega) (by omega) (fun b hb => by omega)) rfl rfl ?_
  rintro _ W82 ⟨_, rfl, x83, px76, py77, hp75, pp78, pe79⟩
  have s84 := x83.sz
  have z85 := z73.trans x83
  replace b3 := b3.ext x83
  replace b9 := b9.ext x83
  replace b15 := b15.ext x83
  have M46''' := M46''.ext x83
  have q86 := q74.trans x83
  obtain ⟨_, _, _, _, _, _, _, _, rfl⟩ := hp75.form
  obtain ⟨zx80, zy81⟩ := hp75.one
  refine ⟨_, rfl, ?_⟩
  refine ⟨fun _ => q86, ?_⟩
  refine ef 8 (by kernel_rfl) rfl ?_
  refine xcall e105 (addP_ok _ _ _ _ _ _ _ _ _ _ _ _ (hp63.ext x83) hp75 (by omega) (by omega) (by omega) (hu2 _ (by omega))) rfl rfl ?_
  rintro _ W88 ⟨_, rfl, x89, hp87⟩
  have s90 := x89.sz
  have z91 := z85.trans x89
  replace b3 := b3.ext x89
  replace b9 := b9.ext x89
  replace b15 := b15.ext x89
  have M46'''' := M46'''.ext x89
  have q92 := q86.trans x89
  obtain ⟨_, _, _, _, _, _, _, _, rfl⟩ := hp87.form
  refine ⟨_, rfl, ?_⟩
  refine ⟨fun _ => q92, ?_⟩
  refine ef 9 (by kernel_rfl) rfl ?_
  refine xcall e65 (least_ok _ _ _ _ _ _ _ hp87 (Int.mul_pos pp66 pp78) (by omega) (by omega) (hu2 _ (by omega))) rfl rfl ?_
  rintro _ W94 ⟨_, rfl, x95, hq93⟩
  have s96 := x95.sz
  have z97 := z91.trans x95
  replace b3 := b3.ext x95
  replace b9 := b9.ext x95
  replace b15 := b15.ext x95
  have M46''''' := M46''''.ext x95
  have q98 := q92.trans x95
  obtain ⟨_, _, _, _, _, _, _, _, rfl⟩ := hq93.form
  refine ⟨_, rfl, ?_⟩
  refine ⟨fun _ => q98, ?_⟩
  refine ef 10 (by kernel_rfl) rfl ?_
  refine sta (cs' := [_, _, _, _]) b15 rfl rfl sz43 rfl rfl rfl ?_
  intro W99 y100 b15
  have z101 := z97.below (y100.below (by omega))
  replace b3 := b3.wr y100 (by omega)
  replace b9 := b9.wr y100 (by omega)
  have s102 := y100.size
  refine lastT (by kernel_rfl) ?_
  refine dn (by kernel_rfl) ?_
  refine V.ret ?_
  refine ⟨[_], ⟨⟨_, rfl, lvb ag43 b15 rfl⟩, trivial⟩, ?_⟩
  refine ⟨_, rfl, z101, ((hq93.ck (y100.ck (by intro hh; simp [SX] at hh <;> omega)))).un.cast ?_⟩
  rw [pe67, pe79, Rat.divInt_add_divInt _ _ (by have := pp66; omega) (by have := pp78; omega)]
set_option maxHeartbeats 400000 in
theorem dSub_ok (q1 q2 : List Value) (r1 r2 : Rat) (L1 L2 : Nat) (S S1 S2 : Nat → Prop) (w : World) (h1 : QA L1 S1 w q1 r1) (h2 : QA L2 S2 w q2 r2) (hL : L1 + L2 < LY) (hl1 : 1 ≤ L1) (hl2 : 1 ≤ L2) (hu : Up S w) :
    Calls Try.prog 90 #[.string ⟨#[115, 117, 98]⟩, .agg q1.toArray, .agg q2.toArray] w (PQ S (r1 - r2) w) := by
  have z0 := Ext.refl w; have hLX : LX = 17592186044416 := rfl; have hLY : LY = 8796093022208 := rfl
  obtain ⟨n1, a1, l1, c1, n2, a2, l2, c2, rfl⟩ := h1.form; obtain ⟨n3, a3, l3, c3, n4, a4, l4, c4, rfl⟩ := h2.form
  have h1n := h1.sub (S' := fun b => b ≠ w.heap.size + 2) (fun b hb _ => by omega); have h2n := h2.sub (S' := fun b => b ≠ w.heap.size + 2) (fun b hb _ => by omega)
  have hu2 : ∀ W : World, w.heap.size + 3 ≤ W.heap.size → Up (SX S [w.heap.size + 2]) W := fun W hW => SX.up (hu.mono (by omega)) (by simp <;> omega)
  refine enter (args := [.string ⟨#[115, 117, 98]⟩, .agg #[.bool n1, .slice a1 l1 c1, .bool n2, .slice a2 l2 c2], .agg #[.bool n3, .slice a3 l3 c3, .bool n4, .slice a4 l4 c4]]) Try.func90 rfl rfl (Nat.le_of_ble_eq_true rfl) ?_
  refine V.seq (V.reg rfl ?_)
  refine vo ?_
  refine bxa rfl ?_
  intro W1 x2 b3 nn4
  have s5 := x2.sz
  have z6 := x2
  refine vo ?_
  refine bxa rfl ?_
  intro W7 x8 b9 nn10
  have s11 := x8.sz
  have z12 := z6.trans x8
  replace b3 := b3.ext x8
  refine vo ?_
  refine xal zc43 ?_
  intro W13 x14 b15 nn16
  have s17 := x14.sz
  have z18 := z12.trans x14
  replace b3 := b3.ext x14
  replace b9 := b9.ext x14
  refine vnil ?_
  refine V.seq (V.reg rfl ?_)
  refine vo ?_
  refine xmm ?_
  intro W19 x20 m21 n22
  have s23 := x20.sz
  have z24 := z18.trans x20
  replace b3 := b3.ext x20
  replace b9 := b9.ext x20
  replace b15 := b15.ext x20
  refine vv (rbd (ps := [(0, .func _ _ _)]) (cs := [.func _ _ _]) pl140 rfl rfl) ?_
  refine vo ?_
  refine xins (v := .agg #[_]) m21 rfl rfl rfl Try.underlying141 Try.underlying9 rfl ?_
  intro W25 n26 t27 M28 n29
  have z30 := t27.ext z24 (by omega)
  replace b3 := b3.tn t27
  replace b9 := b9.tn t27
  replace b15 := b15.tn t27
  refine vv (rbd (ps := [(0, .func _ _ _)]) (cs := [.func _ _ _]) pl140 rfl rfl) ?_
  refine vo ?_
  refine xins (v := .agg #[_]) M28 rfl rfl rfl Try.underlying141 Try.underlying9 rfl ?_
  intro W31 n32 t33 M34 n35
  have z36 := t33.ext z30 (by omega)
  replace b3 := b3.tn t33
  replace b9 := b9.tn t33
  replace b15 := b15.tn t33
  refine vv (rbd (ps := [(0, .func _ _ _)]) (cs := [.func _ _ _]) pl140 rfl rfl) ?_
  refine vo ?_
  refine xins (v := .agg #[_]) M34 rfl rfl rfl Try.underlying141 Try.underlying9 rfl ?_
  intro W37 n38 t39 M40 n41
  have z42 := t39.ext z36 (by omega)
  replace b3 := b3.tn t39
  replace b9 := b9.tn t39
  replace b15 := b15.tn t39
  refine vv (rbd (ps := [(0, .func _ _ _)]) (cs := [.func _ _ _]) pl140 rfl rfl) ?_
  refine vo ?_
  refine xins (v := .agg #[_]) M40 rfl rfl rfl Try.underlying141 Try.underlying9 rfl ?_
  intro W43 n44 t45 M46 n47
  have z48 := t45.ext z42 (by omega)
  replace b3 := b3.tn t45
  replace b9 := b9.tn t45
  replace b15 := b15.tn t45
  refine vv (rmv (v := .map (some _)) rfl) ?_
  refine vv (ras (v := .map (some _)) rfl) ?_
  refine vnil ?_
  refine V.seq (V.regD mixed rfl ?_)
  intro W49 x50
  have s51 := x50.sz
  have z52 := z48.trans x50
  replace b3 := b3.ext x50
  replace b9 := b9.ext x50
  replace b15 := b15.ext x50
  have M46' := M46.ext x50
  have q53 := Ext.refl W49
  have r54 := b3
  have r55 := b9
  have r56 := b15
  refine tk 0 rfl (by kernel_rfl) q53 (pv (fun _ y57 => rmv (v := .map (some _)) rfl)) ?_
  refine tk 1 rfl (by kernel_rfl) q53 (pv (fun _ y58 => rmv (v := .string _) rfl)) ?_
  refine tk 2 rfl (by kernel_rfl) q53 (pv (fun _ y59 => rlk (v := .agg #[.func _ _ _]) (M46'.ext y59) rfl rfl Try.underlying141 Try.underlying9 rfl)) ?_
  refine tk 3 rfl (by kernel_rfl) q53 (pv (fun _ y60 => rfl1 (l := [_]) (v := .func _ _ _) rfl fd140_0 ⟨_, _, Try.underlying140, rfl, sc138⟩ rfl)) ?_
  refine tk 4 rfl (by kernel_rfl) q53 (pv (fun _ y61 => rldb4 rfl ag43 (r54.ext y61) rfl rfl rfl rfl )) ?_
  refine tk 6 rfl (by kernel_rfl) q53 (pv (fun _ y62 => rldb4 rfl ag43 (r55.ext y62) rfl rfl rfl rfl )) ?_
  refine ef 5 (by kernel_rfl) rfl ?_
  refine xcall e62 (of_ok _ _ _ _ _ (h1n.ext z52) (by omega) (by omega) (fun b hb => by omega)) rfl rfl ?_
  rintro _ W70 ⟨_, rfl, x71, px64, py65, hp63, pp66, pe67⟩
  have s72 := x71.sz
  have z73 := z52.trans x71
  replace b3 := b3.ext x71
  replace b9 := b9.ext x71
  replace b15 := b15.ext x71
  have M46'' := M46'.ext x71
  have q74 := q53.trans x71
  obtain ⟨_, _, _, _, _, _, _, _, rfl⟩ := hp63.form
  obtain ⟨zx68, zy69⟩ := hp63.one
  refine ⟨_, rfl, ?_⟩
  refine ⟨fun _ => q74, ?_⟩
  refine ef 7 (by kernel_rfl) rfl ?_
  refine xcall e62 (of_ok _ _ _ _ _ (h2n.ext z73) (by omega) (by omega) (fun b hb => by omega)) rfl rfl ?_
  rintro _ W82 ⟨_, rfl, x83, px76, py77, hp75, pp78, pe79⟩
  have s84 := x83.sz
  have z85 := z73.trans x83
  replace b3 := b3.ext x83
  replace b9 := b9.ext x83
  replace b15 := b15.ext x83
  have M46''' := M46''.ext x83
  have q86 := q74.trans x83
  obtain ⟨_, _, _, _, _, _, _, _, rfl⟩ := hp75.form
  obtain ⟨zx80, zy81⟩ := hp75.one
  refine ⟨_, rfl, ?_⟩
  refine ⟨fun _ => q86, ?_⟩
  refine ef 8 (by kernel_rfl) rfl ?_
  refine xcall e107 (subP_ok _ _ _ _ _ _ _ _ _ _ _ _ (hp63.ext x83) hp75 (by omega) (by omega) (by omega) (hu2 _ (by omega))) rfl rfl ?_
  rintro _ W88 ⟨_, rfl, x89, hp87⟩
  have s90 := x89.sz
  have z91 := z85.trans x89
  replace b3 := b3.ext x89
  replace b9 := b9.ext x89
  replace b15 := b15.ext x89
  have M46'''' := M46'''.ext x89
  have q92 := q86.trans x89
  obtain ⟨_, _, _, _, _, _, _, _, rfl⟩ := hp87.form
  refine ⟨_, rfl, ?_⟩
  refine ⟨fun _ => q92, ?_⟩
  refine ef 9 (by kernel_rfl) rfl ?_
  refine xcall e65 (least_ok _ _ _ _ _ _ _ hp87 (Int.mul_pos pp66 pp78) (by omega) (by omega) (hu2 _ (by omega))) rfl rfl ?_
  rintro _ W94 ⟨_, rfl, x95, hq93⟩
  have s96 := x95.sz
  have z97 := z91.trans x95
  replace b3 := b3.ext x95
  replace b9 := b9.ext x95
  replace b15 := b15.ext x95
  have M46''''' := M46''''.ext x95
  have q98 := q92.trans x95
  obtain ⟨_, _, _, _, _, _, _, _, rfl⟩ := hq93.form
  refine ⟨_, rfl, ?_⟩
  refine ⟨fun _ => q98, ?_⟩
  refine ef 10 (by kernel_rfl) rfl ?_
  refine sta (cs' := [_, _, _, _]) b15 rfl rfl sz43 rfl rfl rfl ?_
  intro W99 y100 b15
  have z101 := z97.below (y100.below (by omega))
  replace b3 := b3.wr y100 (by omega)
  replace b9 := b9.wr y100 (by omega)
  have s102 := y100.size
  refine lastT (by kernel_rfl) ?_
  refine dn (by kernel_rfl) ?_
  refine V.ret ?_
  refine ⟨[_], ⟨⟨_, rfl, lvb ag43 b15 rfl⟩, trivial⟩, ?_⟩
  refine ⟨_, rfl, z101, ((hq93.ck (y100.ck (by intro hh; simp [SX] at hh <;> omega)))).un.cast ?_⟩
  rw [pe67, pe79, Rat.divInt_sub_divInt _ _ (by have := pp66; omega) (by have := pp78; omega)]
set_option maxHeartbeats 400000 in
theorem dMul_ok (q1 q2 : List Value) (r1 r2 : Rat) (L1 L2 : Nat) (S S1 S2 : Nat → Prop) (w : World) (h1 : QA L1 S1 w q1 r1) (h2 : QA L2 S2 w q2 r2) (hL : L1 + L2 < LY) (hl1 : 1 ≤ L1) (hl2 : 1 ≤ L2) (hu : Up S w) :
    Calls Try.prog 90 #[.string ⟨#[109, 117, 108]⟩, .agg q1.toArray, .agg q2.toArray] w (PQ S (r1 * r2) w) := by
  have z0 := Ext.refl w; have hLX : LX = 17592186044416 := rfl; have hLY : LY = 8796093022208 := rfl
  obtain ⟨n1, a1, l1, c1, n2, a2, l2, c2, rfl⟩ := h1.form; obtain ⟨n3, a3, l3, c3, n4, a4, l4, c4, rfl⟩ := h2.form
  have h1n := h1.sub (S' := fun b => b ≠ w.heap.size + 2) (fun b hb _ => by omega); have h2n := h2.sub (S' := fun b => b ≠ w.heap.size + 2) (fun b hb _ => by omega)
  have hu2 : ∀ W : World, w.heap.size + 3 ≤ W.heap.size → Up (SX S [w.heap.size + 2]) W := fun W hW => SX.up (hu.mono (by omega)) (by simp <;> omega)
  refine enter (args := [.string ⟨#[109, 117, 108]⟩, .agg #[.bool n1, .slice a1 l1 c1, .bool n2, .slice a2 l2 c2], .agg #[.bool n3, .slice a3 l3 c3, .bool n4, .slice a4 l4 c4]]) Try.func90 rfl rfl (Nat.le_of_ble_eq_true rfl) ?_
  refine V.seq (V.reg rfl ?_)
  refine vo ?_
  refine bxa rfl ?_
  intro W1 x2 b3 nn4
  have s5 := x2.sz
  have z6 := x2
  refine vo ?_
  refine bxa rfl ?_
  intro W7 x8 b9 nn10
  have s11 := x8.sz
  have z12 := z6.trans x8
  replace b3 := b3.ext x8
  refine vo ?_
  refine xal zc43 ?_
  intro W13 x14 b15 nn16
  have s17 := x14.sz
  have z18 := z12.trans x14
  replace b3 := b3.ext x14
  replace b9 := b9.ext x14
  refine vnil ?_
  refine V.seq (V.reg rfl ?_)
  refine vo ?_
  refine xmm ?_
  intro W19 x20 m21 n22
  have s23 := x20.sz
  have z24 := z18.trans x20
  replace b3 := b3.ext x20
  replace b9 := b9.ext x20
  replace b15 := b15.ext x20
  refine vv (rbd (ps := [(0, .func _ _ _)]) (cs := [.func _ _ _]) pl140 rfl rfl) ?_
  refine vo ?_
  refine xins (v := .agg #[_]) m21 rfl rfl rfl Try.underlying141 Try.underlying9 rfl ?_
  intro W25 n26 t27 M28 n29
  have z30 := t27.ext z24 (by omega)
  replace b3 := b3.tn t27
  replace b9 := b9.tn t27
  replace b15 := b15.tn t27
  refine vv (rbd (ps := [(0, .func _ _ _)]) (cs := [.func _ _ _]) pl140 rfl rfl) ?_
  refine vo ?_
  refine xins (v := .agg #[_]) M28 rfl rfl rfl Try.underlying141 Try.underlying9 rfl ?_
  intro W31 n32 t33 M34 n35
  have z36 := t33.ext z30 (by omega)
  replace b3 := b3.tn t33
  replace b9 := b9.tn t33
  replace b15 := b15.tn t33
  refine vv (rbd (ps := [(0, .func _ _ _)]) (cs := [.func _ _ _]) pl140 rfl rfl) ?_
  refine vo ?_
  refine xins (v := .agg #[_]) M34 rfl rfl rfl Try.underlying141 Try.underlying9 rfl ?_
  intro W37 n38 t39 M40 n41
  have z42 := t39.ext z36 (by omega)
  replace b3 := b3.tn t39
  replace b9 := b9.tn t39
  replace b15 := b15.tn t39
  refine vv (rbd (ps := [(0, .func _ _ _)]) (cs := [.func _ _ _]) pl140 rfl rfl) ?_
  refine vo ?_
  refine xins (v := .agg #[_]) M40 rfl rfl rfl Try.underlying141 Try.underlying9 rfl ?_
  intro W43 n44 t45 M46 n47
  have z48 := t45.ext z42 (by omega)
  replace b3 := b3.tn t45
  replace b9 := b9.tn t45
  replace b15 := b15.tn t45
  refine vv (rmv (v := .map (some _)) rfl) ?_
  refine vv (ras (v := .map (some _)) rfl) ?_
  refine vnil ?_
  refine V.seq (V.regD mixed rfl ?_)
  intro W49 x50
  have s51 := x50.sz
  have z52 := z48.trans x50
  replace b3 := b3.ext x50
  replace b9 := b9.ext x50
  replace b15 := b15.ext x50
  have M46' := M46.ext x50
  have q53 := Ext.refl W49
  have r54 := b3
  have r55 := b9
  have r56 := b15
  refine tk 0 rfl (by kernel_rfl) q53 (pv (fun _ y57 => rmv (v := .map (some _)) rfl)) ?_
  refine tk 1 rfl (by kernel_rfl) q53 (pv (fun _ y58 => rmv (v := .string _) rfl)) ?_
  refine tk 2 rfl (by kernel_rfl) q53 (pv (fun _ y59 => rlk (v := .agg #[.func _ _ _]) (M46'.ext y59) rfl rfl Try.underlying141 Try.underlying9 rfl)) ?_
  refine tk 3 rfl (by kernel_rfl) q53 (pv (fun _ y60 => rfl1 (l := [_]) (v := .func _ _ _) rfl fd140_0 ⟨_, _, Try.underlying140, rfl, sc138⟩ rfl)) ?_
  refine tk 4 rfl (by kernel_rfl) q53 (pv (fun _ y61 => rldb4 rfl ag43 (r54.ext y61) rfl rfl rfl rfl )) ?_
  refine tk 6 rfl (by kernel_rfl) q53 (pv (fun _ y62 => rldb4 rfl ag43 (r55.ext y62) rfl rfl rfl rfl )) ?_
  refine ef 5 (by kernel_rfl) rfl ?_
  refine xcall e62 (of_ok _ _ _ _ _ (h1n.ext z52) (by omega) (by omega) (fun b hb => by omega)) rfl rfl ?_
  rintro _ W70 ⟨_, rfl, x71, px64, py65, hp63, pp66, pe67⟩
  have s72 := x71.sz
  have z73 := z52.trans x71
  replace b3 := b3.ext x71
  replace b9 := b9.ext x71
  replace b15 := b15.ext x71
  have M46'' := M46'.ext x71
  have q74 := q53.trans x71
  obtain ⟨_, _, _, _, _, _, _, _, rfl⟩ := hp63.form
  obtain ⟨zx68, zy69⟩ := hp63.one
  refine ⟨_, rfl, ?_⟩
  refine ⟨fun _ => q74, ?_⟩
  refine ef 7 (by kernel_rfl) rfl ?_
  refine xcall e62 (of_ok _ _ _ _ _ (h2n.ext z73) (by omega) (by omega) (fun b hb => by omega)) rfl rfl ?_
  rintro _ W82 ⟨_, rfl, x83, px76, py77, hp75, pp78, pe79⟩
  have s84 := x83.sz
  have z85 := z73.trans x83
  replace b3 := b3.ext x83
  replace b9 := b9.ext x83
  replace b15 := b15.ext x83
  have M46''' := M46''.ext x83
  have q86 := q74.trans x83
  obtain ⟨_, _, _, _, _, _, _, _, rfl⟩ := hp75.form
  obtain ⟨zx80, zy81⟩ := hp75.one
  refine ⟨_, rfl, ?_⟩
  refine ⟨fun _ => q86, ?_⟩
  refine ef 8 (by kernel_rfl) rfl ?_
  refine xcall e108 (mulP_ok _ _ _ _ _ _ _ _ _ _ _ _ (hp63.ext x83) hp75 (by omega) (by omega) (by omega) (hu2 _ (by omega))) rfl rfl ?_
  rintro _ W88 ⟨_, rfl, x89, hp87⟩
  have s90 := x89.sz
  have z91 := z85.trans x89
  replace b3 := b3.ext x89
  replace b9 := b9.ext x89
  replace b15 := b15.ext x89
  have M46'''' := M46'''.ext x89
  have q92 := q86.trans x89
  obtain ⟨_, _, _, _, _, _, _, _, rfl⟩ := hp87.form
  refine ⟨_, rfl, ?_⟩
  refine ⟨fun _ => q92, ?_⟩
  refine ef 9 (by kernel_rfl) rfl ?_
  refine xcall e65 (least_ok _ _ _ _ _ _ _ hp87 (Int.mul_pos pp66 pp78) (by omega) (by omega) (hu2 _ (by omega))) rfl rfl ?_
  rintro _ W94 ⟨_, rfl, x95, hq93⟩
  have s96 := x95.sz
  have z97 := z91.trans x95
  replace b3 := b3.ext x95
  replace b9 := b9.ext x95
  replace b15 := b15.ext x95
  have M46''''' := M46''''.ext x95
  have q98 := q92.trans x95
  obtain ⟨_, _, _, _, _, _, _, _, rfl⟩ := hq93.form
  refine ⟨_, rfl, ?_⟩
  refine ⟨fun _ => q98, ?_⟩
  refine ef 10 (by kernel_rfl) rfl ?_
  refine sta (cs' := [_, _, _, _]) b15 rfl rfl sz43 rfl rfl rfl ?_
  intro W99 y100 b15
  have z101 := z97.below (y100.below (by omega))
  replace b3 := b3.wr y100 (by omega)
  replace b9 := b9.wr y100 (by omega)
  have s102 := y100.size
  refine lastT (by kernel_rfl) ?_
  refine dn (by kernel_rfl) ?_
  refine V.ret ?_
  refine ⟨[_], ⟨⟨_, rfl, lvb ag43 b15 rfl⟩, trivial⟩, ?_⟩
  refine ⟨_, rfl, z101, ((hq93.ck (y100.ck (by intro hh; simp [SX] at hh <;> omega)))).un.cast ?_⟩
  rw [pe67, pe79, Rat.divInt_mul_divInt _ _]

theorem div_dv {x1 y1 x2 y2 : Int} (h1 : 0 < y1) (h2 : 0 < y2) (hn : Rat.divInt x2 y2 ≠ 0) : Rat.divInt x1 y1 / Rat.divInt x2 y2 = qv (x1 * y2) (y1 * x2) := by
  have hx : x2 ≠ 0 := by rintro rfl; exact hn (Rat.zero_divInt _)
  rw [qvn (Int.mul_ne_zero (by omega) hx), Rat.div_def, Rat.inv_divInt, Rat.divInt_mul_divInt]

set_option maxHeartbeats 400000 in
theorem dDiv_ok (q1 q2 : List Value) (r1 r2 : Rat) (L1 L2 : Nat) (S S1 S2 : Nat → Prop) (w : World) (h1 : QA L1 S1 w q1 r1) (h2 : QA L2 S2 w q2 r2) (hL : L1 + L2 < LY) (hl1 : 1 ≤ L1) (hl2 : 1 ≤ L2) (hu : Up S w) (hnz : r2 ≠ 0) :
    Calls Try.prog 90 #[.string ⟨#[100, 105, 118]⟩, .agg q1.toArray, .agg q2.toArray] w (PQ S (r1 / r2) w) := by
  have z0 := Ext.refl w; have hLX : LX = 17592186044416 := rfl; have hLY : LY = 8796093022208 := rfl
  obtain ⟨n1, a1, l1, c1, n2, a2, l2, c2, rfl⟩ := h1.form; obtain ⟨n3, a3, l3, c3, n4, a4, l4, c4, rfl⟩ := h2.form
  have h1n := h1.sub (S' := fun b => b ≠ w.heap.size + 2) (fun b hb _ => by omega); have h2n := h2.sub (S' := fun b => b ≠ w.heap.size + 2) (fun b hb _ => by omega)
  have hu2 : ∀ W : World, w.heap.size + 3 ≤ W.heap.size → Up (SX S [w.heap.size + 2]) W := fun W hW => SX.up (hu.mono (by omega)) (by simp <;> omega)
  refine enter (args := [.string ⟨#[100, 105, 118]⟩, .agg #[.bool n1, .slice a1 l1 c1, .bool n2, .slice a2 l2 c2], .agg #[.bool n3, .slice a3 l3 c3, .bool n4, .slice a4 l4 c4]]) Try.func90 rfl rfl (Nat.le_of_ble_eq_true rfl) ?_
  refine V.seq (V.reg rfl ?_)
  refine vo ?_
  refine bxa rfl ?_
  intro W1 x2 b3 nn4
  have s5 := x2.sz
  have z6 := x2
  refine vo ?_
  refine bxa rfl ?_
  intro W7 x8 b9 nn10
  have s11 := x8.sz
  have z12 := z6.trans x8
  replace b3 := b3.ext x8
  refine vo ?_
  refine xal zc43 ?_
  intro W13 x14 b15 nn16
  have s17 := x14.sz
  have z18 := z12.trans x14
  replace b3 := b3.ext x14
  replace b9 := b9.ext x14
  refine vnil ?_
  refine V.seq (V.reg rfl ?_)
  refine vo ?_
  refine xmm ?_
  intro W19 x20 m21 n22
  have s23 := x20.sz
  have z24 := z18.trans x20
  replace b3 := b3.ext x20
  replace b9 := b9.ext x20
  replace b15 := b15.ext x20
  refine vv (rbd (ps := [(0, .func _ _ _)]) (cs := [.func _ _ _]) pl140 rfl rfl) ?_
  refine vo ?_
  refine xins (v := .agg #[_]) m21 rfl rfl rfl Try.underlying141 Try.underlying9 rfl ?_
  intro W25 n26 t27 M28 n29
  have z30 := t27.ext z24 (by omega)
  replace b3 := b3.tn t27
  replace b9 := b9.tn t27
  replace b15 := b15.tn t27
  refine vv (rbd (ps := [(0, .func _ _ _)]) (cs := [.func _ _ _]) pl140 rfl rfl) ?_
  refine vo ?_
  refine xins (v := .agg #[_]) M28 rfl rfl rfl Try.underlying141 Try.underlying9 rfl ?_
  intro W31 n32 t33 M34 n35
  have z36 := t33.ext z30 (by omega)
  replace b3 := b3.tn t33
  replace b9 := b9.tn t33
  replace b15 := b15.tn t33
  refine vv (rbd (ps := [(0, .func _ _ _)]) (cs := [.func _ _ _]) pl140 rfl rfl) ?_
  refine vo ?_
  refine xins (v := .agg #[_]) M34 rfl rfl rfl Try.underlying141 Try.underlying9 rfl ?_
  intro W37 n38 t39 M40 n41
  have z42 := t39.ext z36 (by omega)
  replace b3 := b3.tn t39
  replace b9 := b9.tn t39
  replace b15 := b15.tn t39
  refine vv (rbd (ps := [(0, .func _ _ _)]) (cs := [.func _ _ _]) pl140 rfl rfl) ?_
  refine vo ?_
  refine xins (v := .agg #[_]) M40 rfl rfl rfl Try.underlying141 Try.underlying9 rfl ?_
  intro W43 n44 t45 M46 n47
  have z48 := t45.ext z42 (by omega)
  replace b3 := b3.tn t45
  replace b9 := b9.tn t45
  replace b15 := b15.tn t45
  refine vv (rmv (v := .map (some _)) rfl) ?_
  refine vv (ras (v := .map (some _)) rfl) ?_
  refine vnil ?_
  refine V.seq (V.regD mixed rfl ?_)
  intro W49 x50
  have s51 := x50.sz
  have z52 := z48.trans x50
  replace b3 := b3.ext x50
  replace b9 := b9.ext x50
  replace b15 := b15.ext x50
  have M46' := M46.ext x50
  have q53 := Ext.refl W49
  have r54 := b3
  have r55 := b9
  have r56 := b15
  refine tk 0 rfl (by kernel_rfl) q53 (pv (fun _ y57 => rmv (v := .map (some _)) rfl)) ?_
  refine tk 1 rfl (by kernel_rfl) q53 (pv (fun _ y58 => rmv (v := .string _) rfl)) ?_
  refine tk 2 rfl (by kernel_rfl) q53 (pv (fun _ y59 => rlk (v := .agg #[.func _ _ _]) (M46'.ext y59) rfl rfl Try.underlying141 Try.underlying9 rfl)) ?_
  refine tk 3 rfl (by kernel_rfl) q53 (pv (fun _ y60 => rfl1 (l := [_]) (v := .func _ _ _) rfl fd140_0 ⟨_, _, Try.underlying140, rfl, sc138⟩ rfl)) ?_
  refine tk 4 rfl (by kernel_rfl) q53 (pv (fun _ y61 => rldb4 rfl ag43 (r54.ext y61) rfl rfl rfl rfl )) ?_
  refine tk 6 rfl (by kernel_rfl) q53 (pv (fun _ y62 => rldb4 rfl ag43 (r55.ext y62) rfl rfl rfl rfl )) ?_
  refine ef 5 (by kernel_rfl) rfl ?_
  refine xcall e62 (of_ok _ _ _ _ _ (h1n.ext z52) (by omega) (by omega) (fun b hb => by omega)) rfl rfl ?_
  rintro _ W70 ⟨_, rfl, x71, px64, py65, hp63, pp66, pe67⟩
  have s72 := x71.sz
  have z73 := z52.trans x71
  replace b3 := b3.ext x71
  replace b9 := b9.ext x71
  replace b15 := b15.ext x71
  have M46'' := M46'.ext x71
  have q74 := q53.trans x71
  obtain ⟨_, _, _, _, _, _, _, _, rfl⟩ := hp63.form
  obtain ⟨zx68, zy69⟩ := hp63.one
  refine ⟨_, rfl, ?_⟩
  refine ⟨fun _ => q74, ?_⟩
  refine ef 7 (by kernel_rfl) rfl ?_
  refine xcall e62 (of_ok _ _ _ _ _ (h2n.ext z73) (by omega) (by omega) (fun b hb => by omega)) rfl rfl ?_
  rintro _ W82 ⟨_, rfl, x83, px76, py77, hp75, pp78, pe79⟩
  have s84 := x83.sz
  have z85 := z73.trans x83
  replace b3 := b3.ext x83
  replace b9 := b9.ext x83
  replace b15 := b15.ext x83
  have M46''' := M46''.ext x83
  have q86 := q74.trans x83
  obtain ⟨_, _, _, _, _, _, _, _, rfl⟩ := hp75.form
  obtain ⟨zx80, zy81⟩ := hp75.one
  refine ⟨_, rfl, ?_⟩
  refine ⟨fun _ => q86, ?_⟩
  refine ef 8 (by kernel_rfl) rfl ?_
  refine xcall e109 (divP_ok _ _ _ _ _ _ _ _ _ _ _ _ (hp63.ext x83) hp75 (by omega) (by omega) (by omega) (hu2 _ (by omega))) rfl rfl ?_
  rintro _ W94 ⟨_, rfl, x95, px88, py89, hp87, pp90, pe91⟩
  have s96 := x95.sz
  have z97 := z85.trans x95
  replace b3 := b3.ext x95
  replace b9 := b9.ext x95
  replace b15 := b15.ext x95
  have M46'''' := M46'''.ext x95
  have q98 := q86.trans x95
  obtain ⟨_, _, _, _, _, _, _, _, rfl⟩ := hp87.form
  obtain ⟨zx92, zy93⟩ := hp87.one
  refine ⟨_, rfl, ?_⟩
  refine ⟨fun _ => q98, ?_⟩
  refine ef 9 (by kernel_rfl) rfl ?_
  refine xcall e65 (least_ok _ _ _ _ _ _ _ hp87 pp90 (by omega) (by omega) (hu2 _ (by omega))) rfl rfl ?_
  rintro _ W100 ⟨_, rfl, x101, hq99⟩
  have s102 := x101.sz
  have z103 := z97.trans x101
  replace b3 := b3.ext x101
  replace b9 := b9.ext x101
  replace b15 := b15.ext x101
  have M46''''' := M46''''.ext x101
  have q104 := q98.trans x101
  obtain ⟨_, _, _, _, _, _, _, _, rfl⟩ := hq99.form
  refine ⟨_, rfl, ?_⟩
  refine ⟨fun _ => q104, ?_⟩
  refine ef 10 (by kernel_rfl) rfl ?_
  refine sta (cs' := [_, _, _, _]) b15 rfl rfl sz43 rfl rfl rfl ?_
  intro W105 y106 b15
  have z107 := z103.below (y106.below (by omega))
  replace b3 := b3.wr y106 (by omega)
  replace b9 := b9.wr y106 (by omega)
  have s108 := y106.size
  refine lastT (by kernel_rfl) ?_
  refine dn (by kernel_rfl) ?_
  refine V.ret ?_
  refine ⟨[_], ⟨⟨_, rfl, lvb ag43 b15 rfl⟩, trivial⟩, ?_⟩
  refine ⟨_, rfl, z107, ((hq99.ck (y106.ck (by intro hh; simp [SX] at hh <;> omega)))).un.cast ?_⟩
  rw [← pe91, pe67, pe79]
  have hp1 := pp66
  have hp2 := pp78
  rw [pe79] at hnz
  exact (div_dv hp1 hp2 hnz).symm
end Go.Proofs.Ytknbjfefeeojlaa

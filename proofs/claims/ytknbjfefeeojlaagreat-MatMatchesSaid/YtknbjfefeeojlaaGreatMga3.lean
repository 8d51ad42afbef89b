/- Package whole: the exported operations. -/
import Derived.Test.YtknbjfefeeojlaaGreatMga2
namespace Go.Proofs.YtknbjfefeeojlaaGreat
open Go.RowKit
attribute [local irreducible] RV VH V OpF Calls
theorem RN.top {k : IntKind} {S : Nat → Prop} {W : World} {a : Option Addr} {n c : Nat} {xs : List Int} (h : RN k S W a n c xs) : RN k (fun _ => True) W a n c xs := h.sub fun _ _ _ => trivial

set_option maxHeartbeats 400000 in
theorem wAdd_ok (n1 n2 : Bool) (a1 a2 : Option Addr) (l1 c1 l2 c2 : Nat) (z1 z2 : Int) (L1 L2 : Nat) (S S1 S2 : Nat → Prop) (w : World) (h1 : ZA L1 S1 w n1 a1 l1 c1 z1) (h2 : ZA L2 S2 w n2 a2 l2 c2 z2) (hL1 : L1 ≤ LY) (hL2 : L2 ≤ LY) (hu : Up S w) :
    Calls Tryz.prog 181 #[.agg #[.bool n1, .slice a1 l1 c1], .agg #[.bool n2, .slice a2 l2 c2]] w (PZ S (z1 + z2) w) := by
  have z0 := Ext.refl w; have hLX : LX = 17592186044416 := rfl; have hLY : LY = 8796093022208 := rfl
  obtain ⟨xs, hx, q1, rfl⟩ := h1; obtain ⟨ys, hy, q2, rfl⟩ := h2
  have hvx := vl_nonneg (B := b32) (by decide) hx.dg32; have hvy := vl_nonneg (B := b32) (by decide) hy.dg32
  have lx := hx.len; have ly := hy.len
  have hu2 : ∀ W : World, w.heap.size + 3 ≤ W.heap.size → Up (SX S [w.heap.size + 2]) W := fun W hW => SX.up (hu.mono (by omega)) (by simp <;> omega)
  refine enter (args := [.agg #[.bool n1, .slice a1 l1 c1], .agg #[.bool n2, .slice a2 l2 c2]]) Tryz.func181 rfl rfl (Nat.le_of_ble_eq_true rfl) ?_
  refine V.seq (V.reg rfl ?_)
  refine vo ?_
  refine bxa rfl ?_
  intro W1 x2 b3 nn4
  have s5 := x2.sz
  have z6 := x2
  refine vo ?_
  refine bxa rfl ?_
  intro W7 x8 b9 nn10
  have s11 := x8.sz
  have z12 := z6.trans x8
  replace b3 := b3.ext x8
  refine vo ?_
  refine xal zc46 ?_
  intro W13 x14 b15 nn16
  have s17 := x14.sz
  have z18 := z12.trans x14
  replace b3 := b3.ext x14
  replace b9 := b9.ext x14
  refine vnil ?_
  refine V.seq (V.regD mixed rfl ?_)
  intro W19 x20
  have s21 := x20.sz
  have z22 := z18.trans x20
  replace b3 := b3.ext x20
  replace b9 := b9.ext x20
  replace b15 := b15.ext x20
  have q23 := Ext.refl W19
  have r24 := b3
  have r25 := b9
  have r26 := b15
  refine tk 0 rfl (by kernel_rfl) q23 (pv (fun _ y27 => rfa rfl fd46_1)) ?_
  refine tk 1 rfl (by kernel_rfl) q23 (pv (fun _ y28 => rldb (v := .slice _ _ _) rfl sc44 (r24.ext y28) rfl)) ?_
  refine tk 3 rfl (by kernel_rfl) q23 (pv (fun _ y29 => rfa rfl fd46_1)) ?_
  refine tk 4 rfl (by kernel_rfl) q23 (pv (fun _ y30 => rldb (v := .slice _ _ _) rfl sc44 (r25.ext y30) rfl)) ?_
  refine ef 2 (by kernel_rfl) rfl ?_
  refine xcall e176 (trim_ok _ _ _ _ _ _ (hx.ext z22)) rfl rfl ?_
  rintro _ _ ⟨m32, rfl, hr31, hm33, rfl⟩
  refine ⟨_, rfl, ?_⟩
  refine ⟨fun _ => q23, ?_⟩
  refine ef 5 (by kernel_rfl) rfl ?_
  refine xcall e176 (trim_ok _ _ _ _ _ _ (hy.ext z22)) rfl rfl ?_
  rintro _ _ ⟨m36, rfl, hr35, hm37, rfl⟩
  refine ⟨_, rfl, ?_⟩
  refine ⟨fun _ => q23, ?_⟩
  refine tk 6 rfl (by kernel_rfl) q23 (pv (fun _ y39 => ras (v := .slice _ _ _) rfl)) ?_
  refine tk 7 rfl (by kernel_rfl) q23 (pv (fun _ y40 => ras (v := .slice _ _ _) rfl)) ?_
  refine dn (by kernel_rfl) ?_
  refine V.seq ?_
  refine V.block ?_
  refine V.seq (V.reg rfl ?_)
  have l25 := hr31.len
  have l26 := hr35.len
  refine vv (rfa rfl fd46_0) ?_
  refine vv (rldb (v := .bool _) rfl sc4 b3 rfl) ?_
  refine vv (rfa rfl fd46_0) ?_
  refine vv (rldb (v := .bool _) rfl sc4 b9 rfl) ?_
  refine vv (rbeq Tryz.underlying4 rfl rfl rfl) ?_
  refine asb rfl ?_
  refine vnil ?_
  refine V.condB rfl ?_ ?_
  · intro c41
    refine V.seq (V.regD mixed rfl ?_)
    intro W42 x43
    have s44 := x43.sz
    have z45 := z22.trans x43
    replace b3 := b3.ext x43
    replace b9 := b9.ext x43
    replace b15 := b15.ext x43
    have q46 := Ext.refl W42
    have r47 := b3
    have r48 := b9
    have r49 := b15
    refine tk 0 rfl (by kernel_rfl) q46 (pv (fun _ y50 => rfa rfl fd46_0)) ?_
    refine tk 1 rfl (by kernel_rfl) q46 (pv (fun _ y51 => rldb (v := .bool _) rfl sc4 (r47.ext y51) rfl)) ?_
    refine tk 2 rfl (by kernel_rfl) q46 (pv (fun _ y52 => rmv (v := .slice _ _ _) rfl)) ?_
    refine tk 3 rfl (by kernel_rfl) q46 (pv (fun _ y53 => rmv (v := .slice _ _ _) rfl)) ?_
    refine ef 4 (by kernel_rfl) rfl ?_
    refine xcall e206 (add_ok _ _ _ _ _ _ _ _ _ _ _ _ (hr31.ext x43) (hr35.ext x43) (by omega) (by omega) (hu2 _ (by omega))) rfl rfl ?_
    rintro _ W58 ⟨zs55, ⟨_, _, _, rfl, x59, hw54⟩, hv56, hl57⟩
    have s60 := x59.sz
    have z61 := z45.trans x59
    replace b3 := b3.ext x59
    replace b9 := b9.ext x59
    replace b15 := b15.ext x59
    have q62 := q46.trans x59
    have hw54l := hw54.len
    refine ⟨_, rfl, ?_⟩
    refine ⟨fun _ => q62, ?_⟩
    refine ef 5 (by kernel_rfl) rfl ?_
    refine xcall e157 (made_ok _ _ _ _ _ _ _ hw54) rfl rfl ?_
    rintro _ W64 ⟨_, _, _, _, rfl, x65, hz63⟩
    have s66 := x65.sz
    have z67 := z61.trans x65
    replace b3 := b3.ext x65
    replace b9 := b9.ext x65
    replace b15 := b15.ext x65
    have q68 := q62.trans x65
    refine ⟨_, rfl, ?_⟩
    refine ⟨fun _ => q68, ?_⟩
    refine ef 6 (by kernel_rfl) rfl ?_
    refine sta (cs' := [_, _]) b15 rfl rfl sz46 rfl rfl rfl ?_
    intro W69 y70 b15
    have z71 := z67.below (y70.below (by omega))
    replace b3 := b3.wr y70 (by omega)
    replace b9 := b9.wr y70 (by omega)
    have s72 := y70.size
    refine lastT (by kernel_rfl) ?_
    refine dn (by kernel_rfl) ?_
    refine V.ret ?_
    refine ⟨[_], ⟨⟨_, rfl, lvb ag46 b15 rfl⟩, trivial⟩, ?_⟩
    refine ⟨_, _, _, _, rfl, z71, ((hz63.ck (y70.ck (by intro hh; simp [SX] at hh <;> omega)))).un.cast ?_⟩
    rw [hv56, vl_dg (by decide) hvx, vl_dg (by decide) hvy]
    cases n1 <;> cases n2 <;> simp_all <;> omega
  · intro c41
    refine V.seq (V.reg rfl ?_)
    refine mvs rfl ?_
    refine mvs rfl ?_
    refine vo ?_
    refine xcall e207 (cmp_ok _ _ _ _ _ _ _ _ _ _ _ hr31 hr35 (hvx) (hvy)) rfl rfl ?_
    rintro _ W75 ⟨s74, rfl, x76, hc73⟩
    have s77 := x76.sz
    have z78 := z22.trans x76
    replace b3 := b3.ext x76
    replace b9 := b9.ext x76
    replace b15 := b15.ext x76
    refine ⟨_, rfl, ?_⟩
    have hc := hc73
    refine vge rfl rfl ?_ ?_
    · intro c79
      have hle : vl b32 ys ≤ vl b32 xs := by omega
      have hlm := dg_len_mono hvy hle; have e1 := vl_dg (B := b32) (by decide) hvx; have e2 := vl_dg (B := b32) (by decide) hvy
      refine asb rfl ?_
      refine vnil ?_
      refine V.condT rfl ?_
      refine V.seq (V.regD mixed rfl ?_)
      intro W80 x81
      have s82 := x81.sz
      have z83 := z78.trans x81
      replace b3 := b3.ext x81
      replace b9 := b9.ext x81
      replace b15 := b15.ext x81
      have q84 := Ext.refl W80
      have r85 := b3
      have r86 := b9
      have r87 := b15
      refine tk 0 rfl (by kernel_rfl) q84 (pv (fun _ y88 => rfa rfl fd46_0)) ?_
      refine tk 1 rfl (by kernel_rfl) q84 (pv (fun _ y89 => rldb (v := .bool _) rfl sc4 (r85.ext y89) rfl)) ?_
      refine tk 2 rfl (by kernel_rfl) q84 (pv (fun _ y90 => rmv (v := .slice _ _ _) rfl)) ?_
      refine tk 3 rfl (by kernel_rfl) q84 (pv (fun _ y91 => rmv (v := .slice _ _ _) rfl)) ?_
      refine ef 4 (by kernel_rfl) rfl ?_
      refine xcall e208 (sub_ok _ _ _ _ _ _ _ _ _ _ _ _ (hr31.ext (x76.trans x81)) (hr35.ext (x76.trans x81)) (by omega) (by omega) (by rw [e1, e2]; exact hle) (hu2 _ (by omega))) rfl rfl ?_
      rintro _ W96 ⟨zs93, ⟨_, _, _, rfl, x97, hw92⟩, hv94, hl95⟩
      have s98 := x97.sz
      have z99 := z83.trans x97
      replace b3 := b3.ext x97
      replace b9 := b9.ext x97
      replace b15 := b15.ext x97
      have q100 := q84.trans x97
      have hw92l := hw92.len
      refine ⟨_, rfl, ?_⟩
      refine ⟨fun _ => q100, ?_⟩
      refine ef 5 (by kernel_rfl) rfl ?_
      refine xcall e157 (made_ok _ _ _ _ _ _ _ hw92) rfl rfl ?_
      rintro _ W102 ⟨_, _, _, _, rfl, x103, hz101⟩
      have s104 := x103.sz
      have z105 := z99.trans x103
      replace b3 := b3.ext x103
      replace b9 := b9.ext x103
      replace b15 := b15.ext x103
      have q106 := q100.trans x103
      refine ⟨_, rfl, ?_⟩
      refine ⟨fun _ => q106, ?_⟩
      refine ef 6 (by kernel_rfl) rfl ?_
      refine sta (cs' := [_, _]) b15 rfl rfl sz46 rfl rfl rfl ?_
      intro W107 y108 b15
      have z109 := z105.below (y108.below (by omega))
      replace b3 := b3.wr y108 (by omega)
      replace b9 := b9.wr y108 (by omega)
      have s110 := y108.size
      refine lastT (by kernel_rfl) ?_
      refine dn (by kernel_rfl) ?_
      refine V.ret ?_
      refine ⟨[_], ⟨⟨_, rfl, lvb ag46 b15 rfl⟩, trivial⟩, ?_⟩
      refine ⟨_, _, _, _, rfl, z109, ((hz101.ck (y108.ck (by intro hh; simp [SX] at hh <;> omega)))).un.cast ?_⟩
      rw [hv94, vl_dg (by decide) hvx, vl_dg (by decide) hvy]
      cases n1 <;> cases n2 <;> simp_all <;> omega
    · intro c79
      have hle : vl b32 xs ≤ vl b32 ys := by omega
      have hlm := dg_len_mono hvx hle; have e1 := vl_dg (B := b32) (by decide) hvx; have e2 := vl_dg (B := b32) (by decide) hvy
      refine asb rfl ?_
      refine vnil ?_
      refine V.condF rfl ?_
      refine V.skip ?_
      refine V.seq (V.regD mixed rfl ?_)
      intro W111 x112
      have s113 := x112.sz
      have z114 := z78.trans x112
      replace b3 := b3.ext x112
      replace b9 := b9.ext x112
      replace b15 := b15.ext x112
      have q115 := Ext.refl W111
      have r116 := b3
      have r117 := b9
      have r118 := b15
      refine tk 0 rfl (by kernel_rfl) q115 (pv (fun _ y119 => rfa rfl fd46_0)) ?_
      refine tk 1 rfl (by kernel_rfl) q115 (pv (fun _ y120 => rldb (v := .bool _) rfl sc4 (r117.ext y120) rfl)) ?_
      refine tk 2 rfl (by kernel_rfl) q115 (pv (fun _ y121 => rmv (v := .slice _ _ _) rfl)) ?_
      refine tk 3 rfl (by kernel_rfl) q115 (pv (fun _ y122 => rmv (v := .slice _ _ _) rfl)) ?_
      refine ef 4 (by kernel_rfl) rfl ?_
      refine xcall e208 (sub_ok _ _ _ _ _ _ _ _ _ _ _ _ (hr35.ext (x76.trans x112)) (hr31.ext (x76.trans x112)) (by omega) (by omega) (by rw [e1, e2]; exact hle) (hu2 _ (by omega))) rfl rfl ?_
      rintro _ W127 ⟨zs124, ⟨_, _, _, rfl, x128, hw123⟩, hv125, hl126⟩
      have s129 := x128.sz
      have z130 := z114.trans x128
      replace b3 := b3.ext x128
      replace b9 := b9.ext x128
      replace b15 := b15.ext x128
      have q131 := q115.trans x128
      have hw123l := hw123.len
      refine ⟨_, rfl, ?_⟩
      refine ⟨fun _ => q131, ?_⟩
      refine ef 5 (by kernel_rfl) rfl ?_
      refine xcall e157 (made_ok _ _ _ _ _ _ _ hw123) rfl rfl ?_
      rintro _ W133 ⟨_, _, _, _, rfl, x134, hz132⟩
      have s135 := x134.sz
      have z136 := z130.trans x134
      replace b3 := b3.ext x134
      replace b9 := b9.ext x134
      replace b15 := b15.ext x134
      have q137 := q131.trans x134
      refine ⟨_, rfl, ?_⟩
      refine ⟨fun _ => q137, ?_⟩
      refine ef 6 (by kernel_rfl) rfl ?_
      refine sta (cs' := [_, _]) b15 rfl rfl sz46 rfl rfl rfl ?_
      intro W138 y139 b15
      have z140 := z136.below (y139.below (by omega))
      replace b3 := b3.wr y139 (by omega)
      replace b9 := b9.wr y139 (by omega)
      have s141 := y139.size
      refine lastT (by kernel_rfl) ?_
      refine dn (by kernel_rfl) ?_
      refine V.ret ?_
      refine ⟨[_], ⟨⟨_, rfl, lvb ag46 b15 rfl⟩, trivial⟩, ?_⟩
      refine ⟨_, _, _, _, rfl, z140, ((hz132.ck (y139.ck (by intro hh; simp [SX] at hh <;> omega)))).un.cast ?_⟩
      rw [hv125, vl_dg (by decide) hvx, vl_dg (by decide) hvy]
      cases n1 <;> cases n2 <;> simp_all <;> omega
set_option maxHeartbeats 400000 in
theorem wSub_ok (n1 n2 : Bool) (a1 a2 : Option Addr) (l1 c1 l2 c2 : Nat) (z1 z2 : Int) (L1 L2 : Nat) (S S1 S2 : Nat → Prop) (w : World) (h1 : ZA L1 S1 w n1 a1 l1 c1 z1) (h2 : ZA L2 S2 w n2 a2 l2 c2 z2) (hL1 : L1 ≤ LY) (hL2 : L2 ≤ LY) (hu : Up S w) :
    Calls Tryz.prog 183 #[.agg #[.bool n1, .slice a1 l1 c1], .agg #[.bool n2, .slice a2 l2 c2]] w (PZ S (z1 - z2) w) := by
  have z0 := Ext.refl w; have hLX : LX = 17592186044416 := rfl; have hLY : LY = 8796093022208 := rfl
  have h2n := h2.ng
  have hu2 : ∀ W : World, w.heap.size + 3 ≤ W.heap.size → Up (SX S [w.heap.size + 2]) W := fun W hW => SX.up (hu.mono (by omega)) (by simp <;> omega)
  refine enter (args := [.agg #[.bool n1, .slice a1 l1 c1], .agg #[.bool n2, .slice a2 l2 c2]]) Tryz.func183 rfl rfl (Nat.le_of_ble_eq_true rfl) ?_
  refine V.seq (V.reg rfl ?_)
  refine vo ?_
  refine bxa rfl ?_
  intro W1 x2 b3 nn4
  have s5 := x2.sz
  have z6 := x2
  refine vo ?_
  refine bxa rfl ?_
  intro W7 x8 b9 nn10
  have s11 := x8.sz
  have z12 := z6.trans x8
  replace b3 := b3.ext x8
  refine vo ?_
  refine xal zc46 ?_
  intro W13 x14 b15 nn16
  have s17 := x14.sz
  have z18 := z12.trans x14
  replace b3 := b3.ext x14
  replace b9 := b9.ext x14
  refine vnil ?_
  refine V.seq (V.reg rfl ?_)
  refine vv (rldb2 rfl ag46 b3 rfl rfl ) ?_
  refine vv (rfa rfl fd46_0) ?_
  refine vv (rldb (v := .bool _) rfl sc4 b9 rfl) ?_
  refine vv (rnot (q := _) rfl rfl) ?_
  refine vv (rfa rfl fd46_1) ?_
  refine vv (rldb (v := .slice _ _ _) rfl sc44 b9 rfl) ?_
  refine vv (rbd (ps := [(0, .bool _), (1, .slice _ _ _)]) (cs := [.bool _, .slice _ _ _]) pl46 rfl rfl) ?_
  refine vo ?_
  refine xcall e181 (wAdd_ok _ _ _ _ _ _ _ _ _ _ _ _ _ _ _ _ (h1.ext z18) (h2n.ext z18) (by omega) (by omega) (hu2 _ (by omega))) rfl rfl ?_
  rintro _ W19 ⟨_, _, _, _, rfl, x20, hz⟩
  have s21 := x20.sz
  have z22 := z18.trans x20
  replace b3 := b3.ext x20
  replace b9 := b9.ext x20
  replace b15 := b15.ext x20
  refine ⟨_, rfl, ?_⟩
  refine vo ?_
  refine sta (cs' := [_, _]) b15 rfl rfl sz46 rfl rfl rfl ?_
  intro W23 y24 b15
  have z25 := z22.below (y24.below (by omega))
  replace b3 := b3.wr y24 (by omega)
  replace b9 := b9.wr y24 (by omega)
  have s26 := y24.size
  refine vnil ?_
  refine V.ret ?_
  refine ⟨[_], ⟨⟨_, rfl, lvb ag46 b15 rfl⟩, trivial⟩, ?_⟩
  exact ⟨_, _, _, _, rfl, z25, ((hz.ck (y24.ck (by intro hh; simp [SX] at hh <;> omega)))).un.cast (by omega)⟩
set_option maxHeartbeats 400000 in
theorem wMul_ok (n1 n2 : Bool) (a1 a2 : Option Addr) (l1 c1 l2 c2 : Nat) (z1 z2 : Int) (L1 L2 : Nat) (S S1 S2 : Nat → Prop) (w : World) (h1 : ZA L1 S1 w n1 a1 l1 c1 z1) (h2 : ZA L2 S2 w n2 a2 l2 c2 z2) (hL1 : L1 ≤ LY) (hL2 : L2 ≤ LY) (hu : Up S w) :
    Calls Tryz.prog 179 #[.agg #[.bool n1, .slice a1 l1 c1], .agg #[.bool n2, .slice a2 l2 c2]] w (PZ S (z1 * z2) w) := by
  have z0 := Ext.refl w; have hLX : LX = 17592186044416 := rfl; have hLY : LY = 8796093022208 := rfl
  obtain ⟨xs, hx, q1, rfl⟩ := h1; obtain ⟨ys, hy, q2, rfl⟩ := h2
  have hvx := vl_nonneg (B := b32) (by decide) hx.dg32; have hvy := vl_nonneg (B := b32) (by decide) hy.dg32
  have lx := hx.len; have ly := hy.len
  have hu2 : ∀ W : World, w.heap.size + 3 ≤ W.heap.size → Up (SX S [w.heap.size + 2]) W := fun W hW => SX.up (hu.mono (by omega)) (by simp <;> omega)
  refine enter (args := [.agg #[.bool n1, .slice a1 l1 c1], .agg #[.bool n2, .slice a2 l2 c2]]) Tryz.func179 rfl rfl (Nat.le_of_ble_eq_true rfl) ?_
  refine V.seq (V.reg rfl ?_)
  refine vo ?_
  refine bxa rfl ?_
  intro W1 x2 b3 nn4
  have s5 := x2.sz
  have z6 := x2
  refine vo ?_
  refine bxa rfl ?_
  intro W7 x8 b9 nn10
  have s11 := x8.sz
  have z12 := z6.trans x8
  replace b3 := b3.ext x8
  refine vo ?_
  refine xal zc46 ?_
  intro W13 x14 b15 nn16
  have s17 := x14.sz
  have z18 := z12.trans x14
  replace b3 := b3.ext x14
  replace b9 := b9.ext x14
  refine vnil ?_
  refine V.seq (V.regD mixed rfl ?_)
  intro W19 x20
  have s21 := x20.sz
  have z22 := z18.trans x20
  replace b3 := b3.ext x20
  replace b9 := b9.ext x20
  replace b15 := b15.ext x20
  have q23 := Ext.refl W19
  have r24 := b3
  have r25 := b9
  have r26 := b15
  refine tk 0 rfl (by kernel_rfl) q23 (pv (fun _ y27 => rfa rfl fd46_0)) ?_
  refine tk 1 rfl (by kernel_rfl) q23 (pv (fun _ y28 => rldb (v := .bool _) rfl sc4 (r24.ext y28) rfl)) ?_
  refine tk 2 rfl (by kernel_rfl) q23 (pv (fun _ y29 => rfa rfl fd46_0)) ?_
  refine tk 3 rfl (by kernel_rfl) q23 (pv (fun _ y30 => rldb (v := .bool _) rfl sc4 (r25.ext y30) rfl)) ?_
  refine tk 4 rfl (by kernel_rfl) q23 (pv (fun _ y31 => rbne Tryz.underlying4 rfl rfl rfl)) ?_
  refine tk 5 rfl (by kernel_rfl) q23 (pv (fun _ y32 => rfa rfl fd46_1)) ?_
  refine tk 6 rfl (by kernel_rfl) q23 (pv (fun _ y33 => rldb (v := .slice _ _ _) rfl sc44 (r24.ext y33) rfl)) ?_
  refine tk 8 rfl (by kernel_rfl) q23 (pv (fun _ y34 => rfa rfl fd46_1)) ?_
  refine tk 9 rfl (by kernel_rfl) q23 (pv (fun _ y35 => rldb (v := .slice _ _ _) rfl sc44 (r25.ext y35) rfl)) ?_
  refine ef 7 (by kernel_rfl) rfl ?_
  refine xcall e176 (trim_ok _ _ _ _ _ _ (hx.ext z22)) rfl rfl ?_
  rintro _ _ ⟨m37, rfl, hr36, hm38, rfl⟩
  refine ⟨_, rfl, ?_⟩
  refine ⟨fun _ => q23, ?_⟩
  refine ef 10 (by kernel_rfl) rfl ?_
  refine xcall e176 (trim_ok _ _ _ _ _ _ (hy.ext z22)) rfl rfl ?_
  rintro _ _ ⟨m41, rfl, hr40, hm42, rfl⟩
  refine ⟨_, rfl, ?_⟩
  refine ⟨fun _ => q23, ?_⟩
  refine ef 11 (by kernel_rfl) rfl ?_
  have l32 := hr36.len
  have l35 := hr40.len
  refine xcall e205 (mul_ok _ _ _ _ _ _ _ _ _ _ _ _ hr36 hr40 (by omega) (by omega) (hu2 _ (by omega))) rfl rfl ?_
  rintro _ W48 ⟨zs45, ⟨_, _, _, rfl, x49, hw44⟩, hv46, hl47⟩
  have s50 := x49.sz
  have z51 := z22.trans x49
  replace b3 := b3.ext x49
  replace b9 := b9.ext x49
  replace b15 := b15.ext x49
  have q52 := q23.trans x49
  have hw44l := hw44.len
  refine ⟨_, rfl, ?_⟩
  refine ⟨fun _ => q52, ?_⟩
  refine ef 12 (by kernel_rfl) rfl ?_
  refine xcall e157 (made_ok _ _ _ _ _ _ _ hw44) rfl rfl ?_
  rintro _ W54 ⟨_, _, _, _, rfl, x55, hz53⟩
  have s56 := x55.sz
  have z57 := z51.trans x55
  replace b3 := b3.ext x55
  replace b9 := b9.ext x55
  replace b15 := b15.ext x55
  have q58 := q52.trans x55
  refine ⟨_, rfl, ?_⟩
  refine ⟨fun _ => q58, ?_⟩
  refine ef 13 (by kernel_rfl) rfl ?_
  refine sta (cs' := [_, _]) b15 rfl rfl sz46 rfl rfl rfl ?_
  intro W59 y60 b15
  have z61 := z57.below (y60.below (by omega))
  replace b3 := b3.wr y60 (by omega)
  replace b9 := b9.wr y60 (by omega)
  have s62 := y60.size
  refine lastT (by kernel_rfl) ?_
  refine dn (by kernel_rfl) ?_
  refine V.ret ?_
  refine ⟨[_], ⟨⟨_, rfl, lvb ag46 b15 rfl⟩, trivial⟩, ?_⟩
  refine ⟨_, _, _, _, rfl, z61, ((hz53.ck (y60.ck (by intro hh; simp [SX] at hh <;> omega)))).un.cast ?_⟩
  rw [hv46, vl_dg (by decide) hvx, vl_dg (by decide) hvy]
  cases n1 <;> cases n2 <;> simp [Int.neg_mul, Int.mul_neg]
set_option maxHeartbeats 400000 in
theorem wCmp_ok (n1 n2 : Bool) (a1 a2 : Option Addr) (l1 c1 l2 c2 : Nat) (z1 z2 : Int) (L1 L2 : Nat) (S1 S2 : Nat → Prop) (w : World) (h1 : ZA L1 S1 w n1 a1 l1 c1 z1) (h2 : ZA L2 S2 w n2 a2 l2 c2 z2) (hL1 : L1 ≤ LY) (hL2 : L2 ≤ LY) :
    Calls Tryz.prog 178 #[.agg #[.bool n1, .slice a1 l1 c1], .agg #[.bool n2, .slice a2 l2 c2]] w (fun e w' => ∃ s, e = .returned (.int .i64 s) ∧ Ext w w' ∧ s = sg (z1 - z2)) := by
  have z0 := Ext.refl w; have hLX : LX = 17592186044416 := rfl; have hLY : LY = 8796093022208 := rfl
  have hu2 : ∀ W : World, w.heap.size ≤ W.heap.size → Up (fun q => w.heap.size ≤ q) W := fun W hW b hb => by omega
  refine enter (args := [.agg #[.bool n1, .slice a1 l1 c1], .agg #[.bool n2, .slice a2 l2 c2]]) Tryz.func178 rfl rfl (Nat.le_of_ble_eq_true rfl) ?_
  refine V.seq (V.reg rfl ?_)
  refine vo ?_
  refine bxa rfl ?_
  intro W1 x2 b3 nn4
  have s5 := x2.sz
  have z6 := x2
  refine vo ?_
  refine bxa rfl ?_
  intro W7 x8 b9 nn10
  have s11 := x8.sz
  have z12 := z6.trans x8
  replace b3 := b3.ext x8
  refine asi rfl ?_
  refine vnil ?_
  refine V.seq (V.reg rfl ?_)
  refine vv (rldb2 rfl ag46 b3 rfl rfl ) ?_
  refine vv (rldb2 rfl ag46 b9 rfl rfl ) ?_
  refine vo ?_
  refine xcall e183 (wSub_ok _ _ _ _ _ _ _ _ _ _ _ _ _ _ _ _ (h1.ext z12) (h2.ext z12) (by omega) (by omega) (hu2 _ (by omega))) rfl rfl ?_
  rintro _ W14 ⟨_, _, _, _, rfl, x15, hz13⟩
  have s16 := x15.sz
  have z17 := z12.trans x15
  replace b3 := b3.ext x15
  replace b9 := b9.ext x15
  refine ⟨_, rfl, ?_⟩
  refine vo ?_
  refine xcall e138 (wSign_ok _ _ _ _ _ _ _ _ ((hz13).za (Nat.le_refl _))) rfl rfl ?_
  rintro _ W18 ⟨_, rfl, x19, hsg⟩
  have s20 := x19.sz
  have z21 := z17.trans x19
  replace b3 := b3.ext x19
  replace b9 := b9.ext x19
  refine ⟨_, rfl, ?_⟩
  refine asi rfl ?_
  refine vnil ?_
  refine V.ret ?_
  refine ⟨[.int _ _], ⟨rfl, trivial⟩, ?_⟩
  exact ⟨_, rfl, z21, hsg⟩

theorem ediv_nn {u v : Int} (hu : 0 ≤ u) (hv : 0 < v) : 0 ≤ u / v ∧ 0 ≤ u % v ∧ u % v < v ∧ u = v * (u / v) + u % v := ⟨Int.ediv_nonneg hu (by omega), Int.emod_nonneg _ (by omega), Int.emod_lt_of_pos _ hv, (Int.mul_ediv_add_emod u v).symm⟩
theorem dm_pos {u v : Int} (n2 : Bool) : (if (!(false == n2)) then -(u / v) else u / v) = u / (if n2 then -v else v) ∧ u % v = u % (if n2 then -v else v) := by
  cases n2 <;> simp [Int.ediv_neg, Int.emod_neg]
theorem dm_neg0 {u v : Int} (hv : 0 < v) (h : u % v = 0) (n2 : Bool) : (if (!(true == n2)) then -(u / v) else u / v) = (-u) / (if n2 then -v else v) ∧ u % v = (-u) % (if n2 then -v else v) := by
  have e := Int.mul_ediv_add_emod u v
  have hq := divmod_of (u := -u) (v := v) (q := -(u / v)) (r := 0) (by rw [Int.neg_mul, Int.mul_comm]; omega) (by omega) hv
  cases n2 <;> simp [Int.ediv_neg, Int.emod_neg] <;> omega
theorem dm_neg1 {u v : Int} (hv : 0 < v) (h : 0 < u % v) (n2 : Bool) : (if (!(true == n2)) then -(u / v + 1) else u / v + 1) = (-u) / (if n2 then -v else v) ∧ v - u % v = (-u) % (if n2 then -v else v) := by
  have e := Int.mul_ediv_add_emod u v
  have h1 := Int.emod_lt_of_pos u hv
  have hq := divmod_of (u := -u) (v := v) (q := -(u / v + 1)) (r := v - u % v) (by rw [Int.neg_mul, Int.add_mul, Int.mul_comm]; omega) (by omega) (by omega)
  cases n2 <;> simp [Int.ediv_neg, Int.emod_neg] <;> omega

set_option maxHeartbeats 400000 in
theorem wDivMod_ok (n1 n2 : Bool) (a1 a2 : Option Addr) (l1 c1 l2 c2 : Nat) (z1 z2 : Int) (L1 L2 : Nat) (S S1 S2 : Nat → Prop) (w : World) (h1 : ZA L1 S1 w n1 a1 l1 c1 z1) (h2 : ZA L2 S2 w n2 a2 l2 c2 z2) (hL1 : L1 ≤ LY) (hL2 : L2 ≤ LY) (hu : Up S w) (hz : z2 ≠ 0) :
    Calls Tryz.prog 187 #[.agg #[.bool n1, .slice a1 l1 c1], .agg #[.bool n2, .slice a2 l2 c2]] w (fun e w' => ∃ b1 a3 n3 c3 b2 a4 n4 c4, e = .returned (.tuple #[.agg #[.bool b1, .slice a3 n3 c3], .agg #[.bool b2, .slice a4 n4 c4], .int .i64 0]) ∧ Ext w w' ∧ ZC S w' b1 a3 n3 c3 (z1 / z2) ∧ ZC S w' b2 a4 n4 c4 (z1 % z2)) := by
  have z0 := Ext.refl w; have hLX : LX = 17592186044416 := rfl; have hLY : LY = 8796093022208 := rfl
  obtain ⟨xs, hx, q1, rfl⟩ := h1; obtain ⟨ys, hy, q2, rfl⟩ := h2
  have hvx := vl_nonneg (B := b32) (by decide) hx.dg32; have hvy := vl_nonneg (B := b32) (by decide) hy.dg32
  have lx := hx.len; have ly := hy.len
  have hu2 : ∀ W : World, w.heap.size + 4 ≤ W.heap.size → Up (SX S [w.heap.size + 2, w.heap.size + 3]) W := fun W hW => SX.up (hu.mono (by omega)) (by simp <;> omega)
  have hyz : vl b32 ys ≠ 0 := by intro h; rw [h] at hz; simp at hz
  cases n1
  · skip
    refine enter (args := [.agg #[.bool false, .slice a1 l1 c1], .agg #[.bool n2, .slice a2 l2 c2]]) Tryz.func187 rfl rfl (Nat.le_of_ble_eq_true rfl) ?_
    refine V.seq (V.reg rfl ?_)
    refine vo ?_
    refine bxa rfl ?_
    intro W1 x2 b3 nn4
    have s5 := x2.sz
    have z6 := x2
    refine vo ?_
    refine bxa rfl ?_
    intro W7 x8 b9 nn10
    have s11 := x8.sz
    have z12 := z6.trans x8
    replace b3 := b3.ext x8
    refine vo ?_
    refine xal zc46 ?_
    intro W13 x14 b15 nn16
    have s17 := x14.sz
    have z18 := z12.trans x14
    replace b3 := b3.ext x14
    replace b9 := b9.ext x14
    refine vo ?_
    refine xal zc46 ?_
    intro W19 x20 b21 nn22
    have s23 := x20.sz
    have z24 := z18.trans x20
    replace b3 := b3.ext x20
    replace b9 := b9.ext x20
    replace b15 := b15.ext x20
    refine asi rfl ?_
    refine vnil ?_
    refine V.seq (V.regD mixed rfl ?_)
    intro W25 x26
    have s27 := x26.sz
    have z28 := z24.trans x26
    replace b3 := b3.ext x26
    replace b9 := b9.ext x26
    replace b15 := b15.ext x26
    replace b21 := b21.ext x26
    have q29 := Ext.refl W25
    have r30 := b3
    have r31 := b9
    have r32 := b15
    have r33 := b21
    refine tk 0 rfl (by kernel_rfl) q29 (pv (fun _ y34 => rfa rfl fd46_1)) ?_
    refine tk 1 rfl (by kernel_rfl) q29 (pv (fun _ y35 => rldb (v := .slice _ _ _) rfl sc44 (r30.ext y35) rfl)) ?_
    refine tk 3 rfl (by kernel_rfl) q29 (pv (fun _ y36 => rfa rfl fd46_1)) ?_
    refine tk 4 rfl (by kernel_rfl) q29 (pv (fun _ y37 => rldb (v := .slice _ _ _) rfl sc44 (r31.ext y37) rfl)) ?_
    refine ef 2 (by kernel_rfl) rfl ?_
    refine xcall e176 (trim_ok _ _ _ _ _ _ (hx.ext z28)) rfl rfl ?_
    rintro _ _ ⟨m39, rfl, hr38, hm40, rfl⟩
    refine ⟨_, rfl, ?_⟩
    refine ⟨fun _ => q29, ?_⟩
    refine ef 5 (by kernel_rfl) rfl ?_
    refine xcall e176 (trim_ok _ _ _ _ _ _ (hy.ext z28)) rfl rfl ?_
    rintro _ _ ⟨m43, rfl, hr42, hm44, rfl⟩
    refine ⟨_, rfl, ?_⟩
    refine ⟨fun _ => q29, ?_⟩
    refine tk 6 rfl (by kernel_rfl) q29 (pv (fun _ y46 => ras (v := .slice _ _ _) rfl)) ?_
    refine tk 7 rfl (by kernel_rfl) q29 (pv (fun _ y47 => ras (v := .slice _ _ _) rfl)) ?_
    refine dn (by kernel_rfl) ?_
    refine V.seq ?_
    refine V.seq (V.reg rfl ?_)
    refine mvs rfl ?_
    refine vv (rlen sl44 rfl) ?_
    refine veq rfl rfl ?_ ?_
    · intro c48
      exact absurd ((dg_natAbs_len hvy (hr42).len).2 (by omega)) hyz
    · intro c48
      refine vnil ?_
      refine V.condF rfl ?_
      refine V.skip ?_
      refine V.seq (V.reg rfl ?_)
      have l27 := hr38.len; have l28 := hr42.len; have hyp : 0 < vl b32 ys := by have := dg_natAbs_len hvy l28; omega
      have dm := ediv_nn hvx hyp
      refine mvs rfl ?_
      refine mvs rfl ?_
      refine vo ?_
      refine xcall e209 (div_ok _ _ _ _ _ _ _ _ _ _ _ _ hr38 hr42 (hvx) (hyp) (by omega) (by omega) (hu2 _ (by omega))) rfl rfl ?_
      rintro _ W51 ⟨_, _, _, _, _, _, rfl, x52, hd49, he50⟩
      have s53 := x52.sz
      have z54 := z28.trans x52
      replace b3 := b3.ext x52
      replace b9 := b9.ext x52
      replace b15 := b15.ext x52
      replace b21 := b21.ext x52
      refine ⟨_, rfl, ?_⟩
      refine mvt rfl ?_
      refine vv (rext (v := .slice _ _ _) rfl rfl) ?_
      refine vv (rext (v := .slice _ _ _) rfl rfl) ?_
      refine ass rfl ?_
      refine ass rfl ?_
      refine vnil ?_
      refine V.seq ?_
      refine V.seq (V.reg rfl ?_)
      refine vv (rfa rfl fd46_0) ?_
      refine vv (rldb (v := .bool false) rfl sc4 b3 rfl) ?_
      refine mvb rfl ?_
      refine vgn (b := false) rfl rfl ?_
      refine vgn (b := false) rfl rfl ?_
      refine vgn (b := false) rfl rfl ?_
      refine vv (rpk (v := .bool false) rfl rfl) ?_
      refine vnil ?_
      refine V.condF rfl ?_
      refine V.skip ?_
      refine V.seq (V.reg rfl ?_)
      refine vv (rfa rfl fd46_0) ?_
      refine vv (rldb (v := .bool false) rfl sc4 b3 rfl) ?_
      refine vv (rfa rfl fd46_0) ?_
      refine vv (rldb (v := .bool _) rfl sc4 b9 rfl) ?_
      refine vv (rbne Tryz.underlying4 rfl rfl rfl) ?_
      refine mvs rfl ?_
      refine vo ?_
      refine xcall e157 (made_ok _ _ _ _ _ _ _ hd49) rfl rfl ?_
      rintro _ W56 ⟨_, _, _, _, rfl, x57, hz55⟩
      have s58 := x57.sz
      have z59 := z54.trans x57
      replace b3 := b3.ext x57
      replace b9 := b9.ext x57
      replace b15 := b15.ext x57
      replace b21 := b21.ext x57
      refine ⟨_, rfl, ?_⟩
      refine mvs rfl ?_
      refine vo ?_
      refine xcall e157 (made_ok false _ _ _ _ _ _ (he50.ext x57)) rfl rfl ?_
      rintro _ W61 ⟨_, _, _, _, rfl, x62, hz60⟩
      have s63 := x62.sz
      have z64 := z59.trans x62
      replace b3 := b3.ext x62
      replace b9 := b9.ext x62
      replace b15 := b15.ext x62
      replace b21 := b21.ext x62
      refine ⟨_, rfl, ?_⟩
      refine vo ?_
      refine sta (cs' := [_, _]) b15 rfl rfl sz46 rfl rfl rfl ?_
      intro W65 y66 b15
      have z67 := z64.below (y66.below (by omega))
      replace b3 := b3.wr y66 (by omega)
      replace b9 := b9.wr y66 (by omega)
      replace b21 := b21.wr y66 (by omega)
      have s68 := y66.size
      refine vo ?_
      refine sta (cs' := [_, _]) b21 rfl rfl sz46 rfl rfl rfl ?_
      intro W69 y70 b21
      have z71 := z67.below (y70.below (by omega))
      replace b3 := b3.wr y70 (by omega)
      replace b9 := b9.wr y70 (by omega)
      replace b15 := b15.wr y70 (by omega)
      have s72 := y70.size
      refine asi rfl ?_
      refine vnil ?_
      refine V.ret ?_
      refine ⟨[_, _, .int _ _], ⟨⟨_, rfl, lvb ag46 b15 rfl⟩, ⟨_, rfl, lvb ag46 b21 rfl⟩, rfl, trivial⟩, ?_⟩
      refine ⟨_, _, _, _, _, _, _, _, rfl, z71, ((hz55.ck (((x62.ck _).trans (y66.ck (by intro hh; simp [SX] at hh <;> omega))).trans (y70.ck (by intro hh; simp [SX] at hh <;> omega))))).un.cast ?_, ((hz60.ck ((y66.ck (by intro hh; simp [SX] at hh <;> omega)).trans (y70.ck (by intro hh; simp [SX] at hh <;> omega))))).un.cast ?_⟩
      · rw [vl_dg (by decide) dm.1]; exact (dm_pos n2).1
      · rw [vl_dg (by decide) dm.2.1]; exact (dm_pos n2).2
  · skip
    refine enter (args := [.agg #[.bool true, .slice a1 l1 c1], .agg #[.bool n2, .slice a2 l2 c2]]) Tryz.func187 rfl rfl (Nat.le_of_ble_eq_true rfl) ?_
    refine V.seq (V.reg rfl ?_)
    refine vo ?_
    refine bxa rfl ?_
    intro W73 x74 b75 nn76
    have s77 := x74.sz
    have z78 := x74
    refine vo ?_
    refine bxa rfl ?_
    intro W79 x80 b81 nn82
    have s83 := x80.sz
    have z84 := z78.trans x80
    replace b75 := b75.ext x80
    refine vo ?_
    refine xal zc46 ?_
    intro W85 x86 b87 nn88
    have s89 := x86.sz
    have z90 := z84.trans x86
    replace b75 := b75.ext x86
    replace b81 := b81.ext x86
    refine vo ?_
    refine xal zc46 ?_
    intro W91 x92 b93 nn94
    have s95 := x92.sz
    have z96 := z90.trans x92
    replace b75 := b75.ext x92
    replace b81 := b81.ext x92
    replace b87 := b87.ext x92
    refine asi rfl ?_
    refine vnil ?_
    refine V.seq (V.regD mixed rfl ?_)
    intro W97 x98
    have s99 := x98.sz
    have z100 := z96.trans x98
    replace b75 := b75.ext x98
    replace b81 := b81.ext x98
    replace b87 := b87.ext x98
    replace b93 := b93.ext x98
    have q101 := Ext.refl W97
    have r102 := b75
    have r103 := b81
    have r104 := b87
    have r105 := b93
    refine tk 0 rfl (by kernel_rfl) q101 (pv (fun _ y106 => rfa rfl fd46_1)) ?_
    refine tk 1 rfl (by kernel_rfl) q101 (pv (fun _ y107 => rldb (v := .slice _ _ _) rfl sc44 (r102.ext y107) rfl)) ?_
    refine tk 3 rfl (by kernel_rfl) q101 (pv (fun _ y108 => rfa rfl fd46_1)) ?_
    refine tk 4 rfl (by kernel_rfl) q101 (pv (fun _ y109 => rldb (v := .slice _ _ _) rfl sc44 (r103.ext y109) rfl)) ?_
    refine ef 2 (by kernel_rfl) rfl ?_
    refine xcall e176 (trim_ok _ _ _ _ _ _ (hx.ext z100)) rfl rfl ?_
    rintro _ _ ⟨m111, rfl, hr110, hm112, rfl⟩
    refine ⟨_, rfl, ?_⟩
    refine ⟨fun _ => q101, ?_⟩
    refine ef 5 (by kernel_rfl) rfl ?_
    refine xcall e176 (trim_ok _ _ _ _ _ _ (hy.ext z100)) rfl rfl ?_
    rintro _ _ ⟨m115, rfl, hr114, hm116, rfl⟩
    refine ⟨_, rfl, ?_⟩
    refine ⟨fun _ => q101, ?_⟩
    refine tk 6 rfl (by kernel_rfl) q101 (pv (fun _ y118 => ras (v := .slice _ _ _) rfl)) ?_
    refine tk 7 rfl (by kernel_rfl) q101 (pv (fun _ y119 => ras (v := .slice _ _ _) rfl)) ?_
    refine dn (by kernel_rfl) ?_
    refine V.seq ?_
    refine V.seq (V.reg rfl ?_)
    refine mvs rfl ?_
    refine vv (rlen sl44 rfl) ?_
    refine veq rfl rfl ?_ ?_
    · intro c120
      exact absurd ((dg_natAbs_len hvy (hr114).len).2 (by omega)) hyz
    · intro c120
      refine vnil ?_
      refine V.condF rfl ?_
      refine V.skip ?_
      refine V.seq (V.reg rfl ?_)
      have l27 := hr110.len; have l28 := hr114.len; have hyp : 0 < vl b32 ys := by have := dg_natAbs_len hvy l28; omega
      have dm := ediv_nn hvx hyp
      refine mvs rfl ?_
      refine mvs rfl ?_
      refine vo ?_
      refine xcall e209 (div_ok _ _ _ _ _ _ _ _ _ _ _ _ hr110 hr114 (hvx) (hyp) (by omega) (by omega) (hu2 _ (by omega))) rfl rfl ?_
      rintro _ W123 ⟨_, _, _, _, _, _, rfl, x124, hd121, he122⟩
      have s125 := x124.sz
      have z126 := z100.trans x124
      replace b75 := b75.ext x124
      replace b81 := b81.ext x124
      replace b87 := b87.ext x124
      replace b93 := b93.ext x124
      refine ⟨_, rfl, ?_⟩
      refine mvt rfl ?_
      refine vv (rext (v := .slice _ _ _) rfl rfl) ?_
      refine vv (rext (v := .slice _ _ _) rfl rfl) ?_
      refine ass rfl ?_
      refine ass rfl ?_
      refine vnil ?_
      refine V.seq ?_
      refine V.seq (V.reg rfl ?_)
      refine vv (rfa rfl fd46_0) ?_
      refine vv (rldb (v := .bool true) rfl sc4 b75 rfl) ?_
      refine mvb rfl ?_
      refine vg rfl ?_
      refine mvs rfl ?_
      refine vg rfl ?_
      refine vv (rlen sl44 rfl) ?_
      refine vg rfl ?_
      refine vgt rfl rfl ?_ ?_
      · intro c127
        refine vv (rpk (v := .bool true) rfl rfl) ?_
        refine vnil ?_
        refine V.condT rfl ?_
        refine V.reg rfl ?_
        have l29 := hd121.len; have l30 := he122.len; have m1 := dg_len_mono (u := vl b32 xs / vl b32 ys) (v := vl b32 xs) dm.1 (by have := Int.ediv_le_self (b := vl b32 ys) hvx; exact this); have m2 := dg_len_mono dm.2.1 (Int.le_of_lt dm.2.2.1); have m3 := hr110.len; have m4 := hr114.len
        refine mvs rfl ?_
        refine vo ?_
        refine xbs (ps := [(0, .int _ _)]) (cs := [.int _ _]) sl44 zr164 sz164 rfl rfl rfl rfl rfl rfl ?_
        intro W128 x129 b130 nn131
        have s132 := x129.sz
        have z133 := z126.trans x129
        replace b75 := b75.ext x129
        replace b81 := b81.ext x129
        replace b87 := b87.ext x129
        replace b93 := b93.ext x129
        have hl134 := RN.lit (k := .u32) (xs := [_]) 1 b130 (by intro q hq; simp only [List.mem_cons, List.not_mem_nil, or_false] at hq; simp only [kb]; omega) (hu2 W123 (by omega) _ (Nat.le_refl _))
        refine vo ?_
        refine xcall e206 (add_ok _ _ _ _ _ _ _ _ _ _ _ _ (hd121.ext x129) hl134 (by omega) (by omega) (hu2 _ (by omega))) rfl rfl ?_
        rintro _ W139 ⟨zs136, ⟨_, _, _, rfl, x140, hw135⟩, hv137, hl138⟩
        have s141 := x140.sz
        have z142 := z133.trans x140
        replace b75 := b75.ext x140
        replace b81 := b81.ext x140
        replace b87 := b87.ext x140
        replace b93 := b93.ext x140
        replace b130 := b130.ext x140
        have hw135l := hw135.len
        refine ⟨_, rfl, ?_⟩
        refine mvs rfl ?_
        refine mvs rfl ?_
        refine vo ?_
        refine xcall e208 (sub_ok _ _ _ _ _ _ _ _ _ _ _ _ (hr114.ext ((x124.trans x129).trans x140)) (he122.ext (x129.trans x140)) (by omega) (by omega) (by rw [vl_dg (by decide) dm.2.1, vl_dg (by decide) hvy]; omega) (hu2 _ (by omega))) rfl rfl ?_
        rintro _ W147 ⟨zs144, ⟨_, _, _, rfl, x148, hw143⟩, hv145, hl146⟩
        have s149 := x148.sz
        have z150 := z142.trans x148
        replace b75 := b75.ext x148
        replace b81 := b81.ext x148
        replace b87 := b87.ext x148
        replace b93 := b93.ext x148
        replace b130 := b130.ext x148
        have hw143l := hw143.len
        refine ⟨_, rfl, ?_⟩
        refine ass rfl ?_
        refine ass rfl ?_
        refine vnil ?_
        refine V.seq (V.reg rfl ?_)
        refine vv (rfa rfl fd46_0) ?_
        refine vv (rldb (v := .bool true) rfl sc4 b75 rfl) ?_
        refine vv (rfa rfl fd46_0) ?_
        refine vv (rldb (v := .bool _) rfl sc4 b81 rfl) ?_
        refine vv (rbne Tryz.underlying4 rfl rfl rfl) ?_
        refine mvs rfl ?_
        refine vo ?_
        refine xcall e157 (made_ok _ _ _ _ _ _ _ (hw135.ext x148)) rfl rfl ?_
        rintro _ W152 ⟨_, _, _, _, rfl, x153, hz151⟩
        have s154 := x153.sz
        have z155 := z150.trans x153
        replace b75 := b75.ext x153
        replace b81 := b81.ext x153
        replace b87 := b87.ext x153
        replace b93 := b93.ext x153
        replace b130 := b130.ext x153
        refine ⟨_, rfl, ?_⟩
        refine mvs rfl ?_
        refine vo ?_
        refine xcall e157 (made_ok false _ _ _ _ _ _ (hw143.ext x153)) rfl rfl ?_
        rintro _ W157 ⟨_, _, _, _, rfl, x158, hz156⟩
        have s159 := x158.sz
        have z160 := z155.trans x158
        replace b75 := b75.ext x158
        replace b81 := b81.ext x158
        replace b87 := b87.ext x158
        replace b93 := b93.ext x158
        replace b130 := b130.ext x158
        refine ⟨_, rfl, ?_⟩
        refine vo ?_
        refine sta (cs' := [_, _]) b87 rfl rfl sz46 rfl rfl rfl ?_
        intro W161 y162 b87
        have z163 := z160.below (y162.below (by omega))
        replace b75 := b75.wr y162 (by omega)
        replace b81 := b81.wr y162 (by omega)
        replace b93 := b93.wr y162 (by omega)
        replace b130 := b130.wr y162 (by omega)
        have s164 := y162.size
        refine vo ?_
        refine sta (cs' := [_, _]) b93 rfl rfl sz46 rfl rfl rfl ?_
        intro W165 y166 b93
        have z167 := z163.below (y166.below (by omega))
        replace b75 := b75.wr y166 (by omega)
        replace b81 := b81.wr y166 (by omega)
        replace b87 := b87.wr y166 (by omega)
        replace b130 := b130.wr y166 (by omega)
        have s168 := y166.size
        refine asi rfl ?_
        refine vnil ?_
        refine V.ret ?_
        refine ⟨[_, _, .int _ _], ⟨⟨_, rfl, lvb ag46 b87 rfl⟩, ⟨_, rfl, lvb ag46 b93 rfl⟩, rfl, trivial⟩, ?_⟩
        have hm1 : 0 < vl b32 xs % vl b32 ys := by have := dg_natAbs_len dm.2.1 l30; omega
        refine ⟨_, _, _, _, _, _, _, _, rfl, z167, ((hz151.ck (((x158.ck _).trans (y162.ck (by intro hh; simp [SX] at hh <;> omega))).trans (y166.ck (by intro hh; simp [SX] at hh <;> omega))))).un.cast ?_, ((hz156.ck ((y162.ck (by intro hh; simp [SX] at hh <;> omega)).trans (y166.ck (by intro hh; simp [SX] at hh <;> omega))))).un.cast ?_⟩
        · rw [hv137, vl_dg (by decide) dm.1]; simp only [vl, Int.mul_zero, Int.add_zero]; exact (dm_neg1 hyp hm1 n2).1
        · rw [hv145, vl_dg (by decide) dm.2.1, vl_dg (by decide) hvy]; exact (dm_neg1 hyp hm1 n2).2
      · intro c127
        refine vv (rpk (v := .bool false) rfl rfl) ?_
        refine vnil ?_
        refine V.condF rfl ?_
        refine V.skip ?_
        refine V.seq (V.reg rfl ?_)
        refine vv (rfa rfl fd46_0) ?_
        refine vv (rldb (v := .bool true) rfl sc4 b75 rfl) ?_
        refine vv (rfa rfl fd46_0) ?_
        refine vv (rldb (v := .bool _) rfl sc4 b81 rfl) ?_
        refine vv (rbne Tryz.underlying4 rfl rfl rfl) ?_
        refine mvs rfl ?_
        refine vo ?_
        refine xcall e157 (made_ok _ _ _ _ _ _ _ hd121) rfl rfl ?_
        rintro _ W170 ⟨_, _, _, _, rfl, x171, hz169⟩
        have s172 := x171.sz
        have z173 := z126.trans x171
        replace b75 := b75.ext x171
        replace b81 := b81.ext x171
        replace b87 := b87.ext x171
        replace b93 := b93.ext x171
        refine ⟨_, rfl, ?_⟩
        refine mvs rfl ?_
        refine vo ?_
        refine xcall e157 (made_ok false _ _ _ _ _ _ (he122.ext x171)) rfl rfl ?_
        rintro _ W175 ⟨_, _, _, _, rfl, x176, hz174⟩
        have s177 := x176.sz
        have z178 := z173.trans x176
        replace b75 := b75.ext x176
        replace b81 := b81.ext x176
        replace b87 := b87.ext x176
        replace b93 := b93.ext x176
        refine ⟨_, rfl, ?_⟩
        refine vo ?_
        refine sta (cs' := [_, _]) b87 rfl rfl sz46 rfl rfl rfl ?_
        intro W179 y180 b87
        have z181 := z178.below (y180.below (by omega))
        replace b75 := b75.wr y180 (by omega)
        replace b81 := b81.wr y180 (by omega)
        replace b93 := b93.wr y180 (by omega)
        have s182 := y180.size
        refine vo ?_
        refine sta (cs' := [_, _]) b93 rfl rfl sz46 rfl rfl rfl ?_
        intro W183 y184 b93
        have z185 := z181.below (y184.below (by omega))
        replace b75 := b75.wr y184 (by omega)
        replace b81 := b81.wr y184 (by omega)
        replace b87 := b87.wr y184 (by omega)
        have s186 := y184.size
        refine asi rfl ?_
        refine vnil ?_
        refine V.ret ?_
        refine ⟨[_, _, .int _ _], ⟨⟨_, rfl, lvb ag46 b87 rfl⟩, ⟨_, rfl, lvb ag46 b93 rfl⟩, rfl, trivial⟩, ?_⟩
        have hm0 : vl b32 xs % vl b32 ys = 0 := (dg_natAbs_len dm.2.1 ((he122.ck ((((x171.ck _).trans (x176.ck _)).trans (y180.ck (by intro hh; simp [SX] at hh <;> omega))).trans (y184.ck (by intro hh; simp [SX] at hh <;> omega))))).len).2 (by omega)
        refine ⟨_, _, _, _, _, _, _, _, rfl, z185, ((hz169.ck (((x176.ck _).trans (y180.ck (by intro hh; simp [SX] at hh <;> omega))).trans (y184.ck (by intro hh; simp [SX] at hh <;> omega))))).un.cast ?_, ((hz174.ck ((y180.ck (by intro hh; simp [SX] at hh <;> omega)).trans (y184.ck (by intro hh; simp [SX] at hh <;> omega))))).un.cast ?_⟩
        · rw [vl_dg (by decide) dm.1]; exact (dm_neg0 hyp hm0 n2).1
        · rw [vl_dg (by decide) dm.2.1]; exact (dm_neg0 hyp hm0 n2).2

theorem gcd_step (u v : Int) : Int.gcd v (u % v) = Int.gcd u v := by
  have h := Int.gcd_add_mul_left_right v (u % v) (u / v)
  rw [Int.add_comm, Int.mul_ediv_add_emod] at h
  rw [← h, Int.gcd_comm]
theorem gcd_if (n1 n2 : Bool) (x y : Int) : Int.gcd (if n1 then -x else x) (if n2 then -y else y) = Int.gcd x y := by
  cases n1 <;> cases n2 <;> simp

set_option maxHeartbeats 400000 in
theorem wGCD_ok (n1 n2 : Bool) (a1 a2 : Option Addr) (l1 c1 l2 c2 : Nat) (z1 z2 : Int) (L1 L2 : Nat) (S S1 S2 : Nat → Prop) (w : World) (h1 : ZA L1 S1 w n1 a1 l1 c1 z1) (h2 : ZA L2 S2 w n2 a2 l2 c2 z2) (hL1 : L1 ≤ LY) (hL2 : L2 ≤ LY) (hu : Up S w) :
    Calls Tryz.prog 186 #[.agg #[.bool n1, .slice a1 l1 c1], .agg #[.bool n2, .slice a2 l2 c2]] w (PZ S (Int.gcd z1 z2 : Int) w) := by
  have z0 := Ext.refl w; have hLX : LX = 17592186044416 := rfl; have hLY : LY = 8796093022208 := rfl
  obtain ⟨xs, hx, q1, rfl⟩ := h1; obtain ⟨ys, hy, q2, rfl⟩ := h2
  have hvx := vl_nonneg (B := b32) (by decide) hx.dg32; have hvy := vl_nonneg (B := b32) (by decide) hy.dg32
  have lx := hx.len; have ly := hy.len
  have hu2 : ∀ W : World, w.heap.size + 3 ≤ W.heap.size → Up (SX S [w.heap.size + 2]) W := fun W hW => SX.up (hu.mono (by omega)) (by simp <;> omega)
  refine enter (args := [.agg #[.bool n1, .slice a1 l1 c1], .agg #[.bool n2, .slice a2 l2 c2]]) Tryz.func186 rfl rfl (Nat.le_of_ble_eq_true rfl) ?_
  refine V.seq (V.reg rfl ?_)
  refine vo ?_
  refine bxa rfl ?_
  intro W1 x2 b3 nn4
  have s5 := x2.sz
  have z6 := x2
  refine vo ?_
  refine bxa rfl ?_
  intro W7 x8 b9 nn10
  have s11 := x8.sz
  have z12 := z6.trans x8
  replace b3 := b3.ext x8
  refine vo ?_
  refine xal zc46 ?_
  intro W13 x14 b15 nn16
  have s17 := x14.sz
  have z18 := z12.trans x14
  replace b3 := b3.ext x14
  replace b9 := b9.ext x14
  refine vnil ?_
  refine V.seq (V.regD mixed rfl ?_)
  intro W19 x20
  have s21 := x20.sz
  have z22 := z18.trans x20
  replace b3 := b3.ext x20
  replace b9 := b9.ext x20
  replace b15 := b15.ext x20
  have q23 := Ext.refl W19
  have r24 := b3
  have r25 := b9
  have r26 := b15
  refine tk 0 rfl (by kernel_rfl) q23 (pv (fun _ y27 => rfa rfl fd46_1)) ?_
  refine tk 1 rfl (by kernel_rfl) q23 (pv (fun _ y28 => rldb (v := .slice _ _ _) rfl sc44 (r24.ext y28) rfl)) ?_
  refine tk 3 rfl (by kernel_rfl) q23 (pv (fun _ y29 => rfa rfl fd46_1)) ?_
  refine tk 4 rfl (by kernel_rfl) q23 (pv (fun _ y30 => rldb (v := .slice _ _ _) rfl sc44 (r25.ext y30) rfl)) ?_
  refine ef 2 (by kernel_rfl) rfl ?_
  refine xcall e176 (trim_ok _ _ _ _ _ _ (hx.ext z22)) rfl rfl ?_
  rintro _ _ ⟨m32, rfl, hr31, hm33, rfl⟩
  refine ⟨_, rfl, ?_⟩
  refine ⟨fun _ => q23, ?_⟩
  refine ef 5 (by kernel_rfl) rfl ?_
  refine xcall e176 (trim_ok _ _ _ _ _ _ (hy.ext z22)) rfl rfl ?_
  rintro _ _ ⟨m36, rfl, hr35, hm37, rfl⟩
  refine ⟨_, rfl, ?_⟩
  refine ⟨fun _ => q23, ?_⟩
  refine tk 6 rfl (by kernel_rfl) q23 (pv (fun _ y39 => ras (v := .slice _ _ _) rfl)) ?_
  refine tk 7 rfl (by kernel_rfl) q23 (pv (fun _ y40 => ras (v := .slice _ _ _) rfl)) ?_
  refine dn (by kernel_rfl) ?_
  refine V.seq ?_
  refine V.block ?_
  refine V.loopK (ι := Int × Int × Option Addr × Nat × Nat × Option Addr × Nat × Nat) [(4, .pointer (some ⟨_, _, none⟩))] (fun ⟨u, v, ax, nx, cx, ay, ny, cy⟩ => [(5, .slice ax nx cx), (6, .slice ay ny cy)]) (fun ⟨u, v, ax, nx, cx, ay, ny, cy⟩ W => Ext W19 W ∧ 0 ≤ u ∧ 0 ≤ v ∧ RN .u32 (fun _ => True) W ax nx cx (dg b32 u) ∧ RN .u32 (fun _ => True) W ay ny cy (dg b32 v) ∧ nx ≤ LY ∧ ny ≤ LY ∧ Int.gcd u v = Int.gcd (vl b32 xs) (vl b32 ys)) (fun ⟨u, v, ax, nx, cx, ay, ny, cy⟩ => v.toNat) ((_, _, _, _, _, _, _, _)) ⟨rfl, trivial⟩ ⟨rfl, rfl, trivial⟩ ⟨Ext.refl _, hvx, hvy, (hr31).top, (hr35).top, by omega, by omega, rfl⟩ ?_
  intro i42 E43 W41 h44
  obtain ⟨u, v, ax, nx, cx, ay, ny, cy⟩ := i42
  simp only at h44
  show V _ _ _ _ _ _ (ups (ups _ _) [(5, .slice ax nx cx), (6, .slice ay ny cy)]) _
  obtain ⟨x45, g1, g2, hX, hY, g5, g6, g7⟩ := h44
  have s46 := x45.sz
  have z47 := z22.trans x45
  have z48 := x45
  replace b3 := b3.ext x45
  replace b9 := b9.ext x45
  replace b15 := b15.ext x45
  have lX := hX.len; have lY := hY.len
  have z49 := Ext.refl W41
  refine V.seq ?_
  refine V.seq (V.reg rfl ?_)
  refine mvs rfl ?_
  refine vv (rlen sl44 rfl) ?_
  refine vgt rfl rfl ?_ ?_
  · intro c50
    refine vnil ?_
    refine V.condT rfl ?_
    refine V.skip ?_
    refine V.block ?_
    refine V.seq (V.reg rfl ?_)
    refine mvs rfl ?_
    refine mvs rfl ?_
    have dm := ediv_nn g1 (show 0 < v by have := dg_natAbs_len g2 lY; omega)
    refine vo ?_
    refine xcall e209 (div_ok _ _ _ _ _ _ _ _ _ _ _ _ hX hY (g1) (by have := dg_natAbs_len g2 lY; omega) (by omega) (by omega) (hu2 _ (by omega))) rfl rfl ?_
    rintro _ W53 ⟨_, _, _, _, _, _, rfl, x54, hd51, he52⟩
    have s55 := x54.sz
    have z56 := z47.trans x54
    have z57 := z48.trans x54
    have z58 := x54
    replace b3 := b3.ext x54
    replace b9 := b9.ext x54
    replace b15 := b15.ext x54
    refine ⟨_, rfl, ?_⟩
    refine mvt rfl ?_
    refine vv (rext (v := .slice _ _ _) rfl rfl) ?_
    refine vv (rext (v := .slice _ _ _) rfl rfl) ?_
    refine ass rfl ?_
    refine ass rfl ?_
    refine vnil ?_
    refine V.reg rfl ?_
    refine mvs rfl ?_
    refine mvs rfl ?_
    refine ass rfl ?_
    refine ass rfl ?_
    refine vnil ?_
    refine ⟨rfl, (v, u % v, _, _, _, _, _, _), ⟨rfl, trivial⟩, ⟨rfl, rfl, trivial⟩, ⟨z57, g2, dm.2.1, (hY.ext z58), (he52).top, by omega, by have := dg_len_mono dm.2.1 (Int.le_of_lt dm.2.2.1); have := (he52).len; omega, by rw [← g7, gcd_step]⟩, ?_⟩
    show (u % v).toNat < v.toNat
    omega
  · intro c50
    refine vnil ?_
    refine V.condF rfl ?_
    refine V.exit ?_
    refine V.seq (V.reg rfl ?_)
    refine mvs rfl ?_
    refine vo ?_
    refine xcall e204 (clone_ok _ _ _ _ _ _ _ hX (by omega) (hu2 _ (by omega))) rfl rfl ?_
    rintro _ W60 ⟨_, _, _, rfl, x61, hw59⟩
    have s62 := x61.sz
    have z63 := z47.trans x61
    have z64 := z48.trans x61
    have z65 := x61
    replace b3 := b3.ext x61
    replace b9 := b9.ext x61
    replace b15 := b15.ext x61
    have hw59l := hw59.len
    refine ⟨_, rfl, ?_⟩
    refine vo ?_
    refine xcall e157 (made_ok false _ _ _ _ _ _ hw59) rfl rfl ?_
    rintro _ W67 ⟨_, _, _, _, rfl, x68, hz66⟩
    have s69 := x68.sz
    have z70 := z63.trans x68
    have z71 := z64.trans x68
    have z72 := z65.trans x68
    replace b3 := b3.ext x68
    replace b9 := b9.ext x68
    replace b15 := b15.ext x68
    refine ⟨_, rfl, ?_⟩
    refine vo ?_
    refine sta (cs' := [_, _]) b15 rfl rfl sz46 rfl rfl rfl ?_
    intro W73 y74 b15
    have z75 := z70.below (y74.below (by omega))
    replace b3 := b3.wr y74 (by omega)
    replace b9 := b9.wr y74 (by omega)
    have s76 := y74.size
    refine vnil ?_
    refine V.ret ?_
    refine ⟨[_], ⟨⟨_, rfl, lvb ag46 b15 rfl⟩, trivial⟩, ?_⟩
    refine ⟨_, _, _, _, rfl, z75, ((hz66.ck (y74.ck (by intro hh; simp [SX] at hh <;> omega)))).un.cast ?_⟩
    have hv0 : v = 0 := by have := dg_natAbs_len g2 lY; omega
    subst hv0
    rw [gcd_if, ← g7, Int.gcd_zero_right, vl_dg (by decide) g1]
    show u = _
    omega
end Go.Proofs.YtknbjfefeeojlaaGreat
/- Rationals of the program. -/
namespace Go.Proofs.YtknbjfefeeojlaaGreat
open Go.RowKit
/-- A rational as it is written down. -/
structure RawQ where
  n1 : Bool
  xs : List Int
  n2 : Bool
  ys : List Int
deriving DecidableEq
def zval (n : Bool) (xs : List Int) : Int := if n then -(vl b32 xs) else vl b32 xs
def qv (x y : Int) : Rat := if y = 0 then (x : Rat) else Rat.divInt x y
def qval (ρ : RawQ) : Rat := qv (zval ρ.n1 ρ.xs) (zval ρ.n2 ρ.ys)
def canon (r : Rat) : RawQ := ⟨decide (r.num < 0), dg b32 r.num.natAbs, false, if r.den = 1 then [] else dg b32 r.den⟩
def QX (S : Nat → Prop) (W : World) (q : List Value) (ρ : RawQ) : Prop := ∃ a1 l1 c1 a2 l2 c2, q = [.bool ρ.n1, .slice a1 l1 c1, .bool ρ.n2, .slice a2 l2 c2] ∧ RN .u32 S W a1 l1 c1 ρ.xs ∧ RN .u32 S W a2 l2 c2 ρ.ys
/-- At most L words each. -/
def szQ (L : Nat) (ρ : RawQ) : Prop := ρ.xs.length ≤ L ∧ ρ.ys.length ≤ L
def QA (L : Nat) (S : Nat → Prop) (W : World) (q : List Value) (r : Rat) : Prop := ∃ ρ, QX S W q ρ ∧ szQ L ρ ∧ r = qval ρ
def QC (S : Nat → Prop) (W : World) (q : List Value) (r : Rat) : Prop := QX S W q (canon r)
/-- A numerator and a positive denominator. -/
def PA (L : Nat) (S : Nat → Prop) (W : World) (q : List Value) (x y : Int) : Prop := ∃ n1 a1 l1 c1 n2 a2 l2 c2, q = [.bool n1, .slice a1 l1 c1, .bool n2, .slice a2 l2 c2] ∧ ZA L S W n1 a1 l1 c1 x ∧ ZA L S W n2 a2 l2 c2 y
/-- Its numbers fit into L words. -/
def sz (L : Nat) (r : Rat) : Prop := (r.num.natAbs : Int) < b32 ^ L ∧ (r.den : Int) < b32 ^ L
def PQ (S : Nat → Prop) (r : Rat) (w : World) (e : Ending) (w' : World) : Prop := ∃ q, e = .returned (.agg q.toArray) ∧ Ext w w' ∧ QC S w' q r
section
variable {L : Nat} {S S' : Nat → Prop} {W W' : World} {q : List Value} {ρ : RawQ} {r : Rat} {x y : Int} {bs : List Nat}
theorem QX.ck (h : QX S W q ρ) (k : CK S W W') : QX S W' q ρ := by
  obtain ⟨a1, l1, c1, a2, l2, c2, e, h1, h2⟩ := h; exact ⟨a1, l1, c1, a2, l2, c2, e, h1.ck k, h2.ck k⟩
theorem QX.ext (h : QX S W q ρ) (k : Ext W W') : QX S W' q ρ := h.ck (k.ck S)
theorem QX.sub (h : QX S W q ρ) (hs : ∀ b, b < W.heap.size → S b → S' b) : QX S' W q ρ := by
  obtain ⟨a1, l1, c1, a2, l2, c2, e, h1, h2⟩ := h; exact ⟨a1, l1, c1, a2, l2, c2, e, h1.sub hs, h2.sub hs⟩
theorem QX.form (h : QX S W q ρ) : ∃ n1 a1 l1 c1 n2 a2 l2 c2, q = [.bool n1, .slice a1 l1 c1, .bool n2, .slice a2 l2 c2] := by
  obtain ⟨a1, l1, c1, a2, l2, c2, e, h1, h2⟩ := h; exact ⟨_, _, _, _, _, _, _, _, e⟩
theorem QA.ck (h : QA L S W q r) (k : CK S W W') : QA L S W' q r := by obtain ⟨ρ, h1, h2⟩ := h; exact ⟨ρ, h1.ck k, h2⟩
theorem QA.ext (h : QA L S W q r) (k : Ext W W') : QA L S W' q r := h.ck (k.ck S)
theorem QA.sub (h : QA L S W q r) (hs : ∀ b, b < W.heap.size → S b → S' b) : QA L S' W q r := by obtain ⟨ρ, h1, h2⟩ := h; exact ⟨ρ, h1.sub hs, h2⟩
theorem QA.un (h : QA L (SX S bs) W q r) : QA L S W q r := h.sub fun _ _ h => h.1
theorem QA.form (h : QA L S W q r) : ∃ n1 a1 l1 c1 n2 a2 l2 c2, q = [.bool n1, .slice a1 l1 c1, .bool n2, .slice a2 l2 c2] := by obtain ⟨ρ, h1, h2⟩ := h; exact h1.form
theorem QA.mono {L' : Nat} (h : QA L S W q r) (hL : L ≤ L') : QA L' S W q r := by obtain ⟨ρ, h1, h2, h3⟩ := h; exact ⟨ρ, h1, ⟨Nat.le_trans h2.1 hL, Nat.le_trans h2.2 hL⟩, h3⟩
theorem QC.ck (h : QC S W q r) (k : CK S W W') : QC S W' q r := QX.ck h k
theorem QC.ext (h : QC S W q r) (k : Ext W W') : QC S W' q r := QX.ext h k
theorem QC.sub (h : QC S W q r) (hs : ∀ b, b < W.heap.size → S b → S' b) : QC S' W q r := QX.sub h hs
theorem QC.un (h : QC (SX S bs) W q r) : QC S W q r := QX.sub h fun _ _ h => h.1
theorem QC.form (h : QC S W q r) : ∃ n1 a1 l1 c1 n2 a2 l2 c2, q = [.bool n1, .slice a1 l1 c1, .bool n2, .slice a2 l2 c2] := QX.form h
theorem QC.cast {r' : Rat} (h : QC S W q r) (e : r = r') : QC S W q r' := e ▸ h
theorem PA.ck (h : PA L S W q x y) (k : CK S W W') : PA L S W' q x y := by
  obtain ⟨n1, a1, l1, c1, n2, a2, l2, c2, e, h1, h2⟩ := h; exact ⟨n1, a1, l1, c1, n2, a2, l2, c2, e, h1.ck k, h2.ck k⟩
theorem PA.ext (h : PA L S W q x y) (k : Ext W W') : PA L S W' q x y := h.ck (k.ck S)
theorem PA.sub (h : PA L S W q x y) (hs : ∀ b, b < W.heap.size → S b → S' b) : PA L S' W q x y := by
  obtain ⟨n1, a1, l1, c1, n2, a2, l2, c2, e, h1, h2⟩ := h; exact ⟨n1, a1, l1, c1, n2, a2, l2, c2, e, h1.sub hs, h2.sub hs⟩
theorem PA.un (h : PA L (SX S bs) W q x y) : PA L S W q x y := h.sub fun _ _ h => h.1
theorem PA.form (h : PA L S W q x y) : ∃ n1 a1 l1 c1 n2 a2 l2 c2, q = [.bool n1, .slice a1 l1 c1, .bool n2, .slice a2 l2 c2] := by
  obtain ⟨n1, a1, l1, c1, n2, a2, l2, c2, e, h1, h2⟩ := h; exact ⟨n1, a1, l1, c1, n2, a2, l2, c2, e⟩
theorem PA.mk' {n1 n2 : Bool} {a1 a2 : Option Addr} {l1 c1 l2 c2 : Nat} (h1 : ZA L S W n1 a1 l1 c1 x) (h2 : ZA L S W n2 a2 l2 c2 y) : PA L S W [.bool n1, .slice a1 l1 c1, .bool n2, .slice a2 l2 c2] x y := ⟨_, _, _, _, _, _, _, _, rfl, h1, h2⟩
theorem PA.one {n1 n2 : Bool} {a1 a2 : Option Addr} {l1 c1 l2 c2 : Nat} (h : PA L S W [.bool n1, .slice a1 l1 c1, .bool n2, .slice a2 l2 c2] x y) : ZA L S W n1 a1 l1 c1 x ∧ ZA L S W n2 a2 l2 c2 y := by
  obtain ⟨_, _, _, _, _, _, _, _, e, h1, h2⟩ := h
  simp only [List.cons.injEq, Value.bool.injEq, Value.slice.injEq, and_true] at e
  obtain ⟨rfl, ⟨rfl, rfl, rfl⟩, rfl, rfl, rfl, rfl⟩ := e
  exact ⟨h1, h2⟩
theorem QA.two {n1 n2 : Bool} {a1 a2 : Option Addr} {l1 c1 l2 c2 : Nat} (h : QA L S W [.bool n1, .slice a1 l1 c1, .bool n2, .slice a2 l2 c2] r) : ∃ x y, ZA L S W n1 a1 l1 c1 x ∧ ZA L S W n2 a2 l2 c2 y ∧ r = qv x y := by
  obtain ⟨ρ, ⟨_, _, _, _, _, _, e, h1, h2⟩, hs, rfl⟩ := h
  simp only [List.cons.injEq, Value.bool.injEq, Value.slice.injEq, and_true] at e
  obtain ⟨rfl, ⟨rfl, rfl, rfl⟩, rfl, rfl, rfl, rfl⟩ := e
  exact ⟨_, _, ⟨_, h1, by have := h1.len; have := hs.1; omega, rfl⟩, ⟨_, h2, by have := h2.len; have := hs.2; omega, rfl⟩, rfl⟩
theorem QA.mk2 {n1 n2 : Bool} {a1 a2 : Option Addr} {l1 c1 l2 c2 : Nat} (h1 : ZA L S W n1 a1 l1 c1 x) (h2 : ZA L S W n2 a2 l2 c2 y) : QA L S W [.bool n1, .slice a1 l1 c1, .bool n2, .slice a2 l2 c2] (qv x y) := by
  obtain ⟨xs, h1, h3, rfl⟩ := h1
  obtain ⟨ys, h2, h4, rfl⟩ := h2
  exact ⟨⟨n1, xs, n2, ys⟩, ⟨_, _, _, _, _, _, rfl, h1, h2⟩, ⟨by show xs.length ≤ L; have := h1.len; omega, by show ys.length ≤ L; have := h2.len; omega⟩, rfl⟩
theorem pow_mono {n m : Nat} (h : n ≤ m) : b32 ^ n ≤ b32 ^ m := by
  obtain ⟨k, rfl⟩ : ∃ k, m = n + k := ⟨m - n, by omega⟩
  rw [Int.pow_add]
  have h1 := pow_pos' (B := b32) (by decide) n
  have h2 := pow_pos' (B := b32) (by decide) k
  have := Int.mul_le_mul_of_nonneg_left (show 1 ≤ b32 ^ k by omega) (Int.le_of_lt h1)
  omega
theorem ZC.za_mul {L1 L2 : Nat} {S1 S2 : Nat → Prop} {W1 W2 : World} {n n1 n2 : Bool} {a a1 a2 : Option Addr} {l c l1 c1 l2 c2 : Nat} (h : ZC S W n a l c (x * y)) (h1 : ZA L1 S1 W1 n1 a1 l1 c1 x) (h2 : ZA L2 S2 W2 n2 a2 l2 c2 y) : ZA (L1 + L2) S W n a l c (x * y) := by
  obtain ⟨xs, g1, g2, g3⟩ := h1
  obtain ⟨ys, g4, g5, g6⟩ := h2
  have e1 := ZA.abs g1 g3
  have e2 := ZA.abs g4 g6
  have b1 := vl_lt (B := b32) (by decide) g1.dg32
  have b2 := vl_lt (B := b32) (by decide) g4.dg32
  have p1 := vl_nonneg (B := b32) (by decide) g1.dg32
  have p2 := vl_nonneg (B := b32) (by decide) g4.dg32
  have hl1 := g1.len
  have hl2 := g4.len
  refine h.zaH ?_
  rw [Int.natAbs_mul, Int.natCast_mul, e1, e2]
  have m1 : vl b32 xs * vl b32 ys ≤ vl b32 xs * (b32 ^ ys.length) := Int.mul_le_mul_of_nonneg_left (Int.le_of_lt b2) p1
  have q2 : 0 < b32 ^ ys.length := pow_pos' (by decide) _
  have m2 : vl b32 xs * (b32 ^ ys.length) < b32 ^ xs.length * b32 ^ ys.length := Int.mul_lt_mul_of_pos_right b1 q2
  rw [← Int.pow_add] at m2
  have m3 : b32 ^ (xs.length + ys.length) ≤ b32 ^ (L1 + L2) := pow_mono (by omega)
  omega
theorem ZA.lt {n : Bool} {a : Option Addr} {l c : Nat} (h : ZA L S W n a l c x) : (x.natAbs : Int) < b32 ^ L := by
  obtain ⟨xs, g1, g2, g3⟩ := h
  rw [ZA.abs g1 g3]
  have b1 := vl_lt (B := b32) (by decide) g1.dg32
  have := pow_mono (show xs.length ≤ L by have := g1.len; omega)
  omega
theorem pow_succ' (n : Nat) : b32 ^ (n + 1) = 4294967296 * b32 ^ n := by rw [Int.pow_succ, Int.mul_comm]
theorem ZC.za_add {L : Nat} {z : Int} {n : Bool} {a : Option Addr} {l c : Nat} (h : ZC S W n a l c z) (h1 : (x.natAbs : Int) < b32 ^ L) (h2 : (y.natAbs : Int) < b32 ^ L) (hz : z = x + y ∨ z = x - y) : ZA (L + 1) S W n a l c z := by
  refine h.zaH ?_
  have := pow_succ' L
  have := pow_pos' (B := b32) (by decide) L
  omega

/-! ### Sizes -/
theorem sz.mono {L' : Nat} (h : sz L r) (hL : L ≤ L') : sz L' r := ⟨Int.lt_of_lt_of_le h.1 (pow_mono hL), Int.lt_of_lt_of_le h.2 (pow_mono hL)⟩
theorem canon_sz (h : sz L r) : szQ L (canon r) := by
  refine ⟨dg_length_le (by decide) h.1, ?_⟩
  show (if r.den = 1 then [] else dg b32 (r.den : Int)).length ≤ L
  split
  · simp
  · exact dg_length_le (by decide) h.2
theorem zval_canon (r : Rat) : zval (decide (r.num < 0)) (dg b32 r.num.natAbs) = r.num := by
  unfold zval
  rw [vl_dg (by decide) (by omega)]
  by_cases h : r.num < 0 <;> simp [h] <;> omega
theorem qval_canon (r : Rat) : qval (canon r) = r := by
  unfold qval canon
  simp only [zval_canon]
  by_cases h : r.den = 1
  · simp only [h, if_true]
    simp only [zval, vl_nil, qv, Bool.false_eq_true, if_false, if_true]
    apply Rat.ext <;> simp [h]
  · simp only [h, if_false]
    have : zval false (dg b32 (r.den : Int)) = r.den := by unfold zval; rw [vl_dg (by decide) (by omega)]; simp
    rw [this, qv, if_neg (by have := r.den_nz; omega), Rat.num_divInt_den]
theorem QC.qa (h : QC S W q r) (hs : sz L r) : QA L S W q r := ⟨_, h, canon_sz hs, (qval_canon r).symm⟩
theorem sz_divInt (hx : (x.natAbs : Int) < b32 ^ L) (hy : 0 < y) (hy2 : y < b32 ^ L) : sz L (Rat.divInt x y) := by
  have hg : 0 < Int.gcd y x := Int.gcd_pos_iff.2 (.inl (by omega))
  refine ⟨?_, ?_⟩
  · rw [Rat.num_divInt, Int.sign_eq_one_of_pos hy, Int.one_mul]
    have : (x / (Int.gcd y x : Int)).natAbs ≤ x.natAbs := Int.natAbs_ediv_le_natAbs _ _
    omega
  · rw [Rat.den_divInt, if_neg (by omega)]
    have : y.natAbs / Int.gcd y x ≤ y.natAbs := Nat.div_le_self _ _
    omega
theorem QA.sz' (h : QA L S W q r) (hL : 1 ≤ L) : sz L r := by
  obtain ⟨n1, a1, l1, c1, n2, a2, l2, c2, rfl⟩ := h.form
  obtain ⟨x, y, h1, h2, rfl⟩ := h.two
  have b1 := h1.lt
  have b2 := h2.lt
  unfold qv
  split
  · refine ⟨b1, ?_⟩
    have := pow_mono hL
    simp; unfold b32 at *; omega
  · rename_i hy
    rcases Int.lt_or_le 0 y with h0 | h0
    · exact sz_divInt b1 h0 (by omega)
    · rw [← Rat.neg_divInt_neg]; exact sz_divInt (by omega) (by omega) (by omega)
end
theorem Ext.obj {W W' : World} {D : Nat} {o : Obj} (x : Ext W W') (h : W.heap[D]? = some o) : W'.heap[D]? = some o := (x.block D (Array.getElem?_eq_some_iff.1 h).1).trans h
theorem Wr.obj {W W' : World} {D b : Nat} {o : Obj} (y : Wr b W W') (h : W.heap[D]? = some o) (hb : D ≠ b) : W'.heap[D]? = some o := (y.block D hb).trans h
/-! ### Effects in any order -/
def allP (p : Nat → Prop) : List Nat → Prop
  | [] => True
  | i :: l => p i ∧ allP p l
section
variable {r : Option Nat} {P : Program} {N : Nat} {ops : Array Oper} {S : World → Prop} {R : Env → World → Prop} {fuel : Nat} {listed : Array Bool} {E : Env} {W : World} {d : Option Tmp} {op : Op} {ty : TypeId} {pos : String} {af : Array Edge} {ds : List Deferred} {Q : EQ}
theorem allP_mem {p : Nat → Prop} : ∀ {l : List Nat}, allP p l → ∀ i ∈ l, p i
  | _ :: _, h, i, hi => by
    rcases List.mem_cons.1 hi with rfl | hi
    · exact h.1
    · exact allP_mem h.2 i hi
theorem efs (i : Nat) (l : List Nat) (hr : Region.ready .any ops listed = i :: l) (h : allP (fun i => opI r P ops i (fun E' W' => (lastOp ops i = false → S W') ∧ VH r P ops S R fuel (listed.setIfInBounds i true) E' W') E W) (i :: l)) : VH r P ops S R (fuel + 1) listed E W :=
  ⟨fun h0 => (by rw [hr] at h0; cases h0), fun j hj => allP_mem h j (by rw [← hr]; exact hj)⟩
theorem efI {i : Nat} {K : Env → World → Prop} (hi : ops[i]? = some ⟨d, op, ty, pos, af, none⟩) (h : OpF r P (ev E) ⟨d, op, ty, pos, af, none⟩ W fun v W' => K (puto E d v) W') : opI r P ops i K E W := by
  unfold opI
  simp only [hi]
  rw [if_pos (by rfl)]; exact h
theorem VA.mono {R R' : Env → World → Prop} (hR : ∀ E W, R E W → R' E W) : ∀ (fuel : Nat) (listed : Array Bool) (E : Env) (W : World), VA r P ops R fuel listed E W → VA r P ops R' fuel listed E W
  | 0, _, _, _, h => ⟨h.1, hR _ _ h.2⟩
  | fuel + 1, _, _, _, h => ⟨fun hr => hR _ _ (h.1 hr), fun i hi => (h.2 i hi).mono fun E' W' h' => VA.mono hR fuel _ E' W' h'⟩
theorem V.regS {id : Nat} (S : World → World → Prop) (hm : P.follows .mixedOrders = true) (hl : dstsOK N ops.toList = true)
    (h : ∀ W1, Ext W W1 → VH r P ops (S W1) (fun E W => Q .normal E ds W) ops.size (Array.replicate ops.size false) E W1) : V r P N ds (.region id ops true) Q E W := fun a hrep hd =>
  wpIn_region_any hm (VA.wp (ds := ds) hl (fun a E W hr hd h => ⟨E, hr, by rw [hd]; exact h⟩) _ _ a E _ hrep hd (VH.va _ _ _ _ (h _ ((Ext.refl W).drew))))
theorem V.regJ {id : Nat} {ι : Type} (F : List (Nat × Value)) (L : ι → List (Nat × Value)) (I : ι → World → Prop) (hm : P.follows .mixedOrders = true) (hl : dstsOK N ops.toList = true) (_hF : agree E F)
    (h : ∀ W1, Ext W W1 → VH r P ops (Ext W1) (fun E' W' => ∃ i, agree E' F ∧ agree E' (L i) ∧ I i W') ops.size (Array.replicate ops.size false) E W1)
    (k : ∀ i E0 W', I i W' → Q .normal (ups (ups E0 F) (L i)) ds W') : V r P N ds (.region id ops true) Q E W := fun a hrep hd =>
  wpIn_region_any hm (VA.wp (ds := ds) (R := fun E' W' => Q .normal E' ds W') hl (fun a E W hr hd h => ⟨E, hr, by rw [hd]; exact h⟩) _ _ a E _ hrep hd (VA.mono (fun E' W' ⟨i, h1, h2, h3⟩ => by
    have := k i E' W' h3
    rwa [ups_agree h1, ups_agree h2] at this) _ _ _ _ (VH.va _ _ _ _ (h _ ((Ext.refl W).drew)))))
end
/-! ### A map with texts for keys -/
def MpAt (W : World) (b : Nat) (es : List MapEntry) : Prop := ∃ n, W.heap[b]? = some (.map es.toArray n)
section
variable {r : Option Nat} {P : Program} {ρ : Operand → Value} {W W' : World} {d : Option Tmp} {ty T kt et : TypeId} {pos : String} {af : Array Edge} {g : Option (Nat × Bool)} {x y m : Operand} {v : Value} {K : Value → World → Prop} {b : Nat} {es : List MapEntry} {s : ByteArray}
theorem MpAt.ext (h : MpAt W b es) (x : Ext W W') : MpAt W' b es := by
  obtain ⟨n, h⟩ := h; exact ⟨n, (x.block b (Array.getElem?_eq_some_iff.1 h).1).trans h⟩
theorem xmm (hk2 : ∀ W', Ext W W' → MpAt W' W.heap.size [] → W'.heap.size = W.heap.size + 1 → K (.map (some W.heap.size)) W') : OpF r P ρ ⟨d, .makeMap T none, ty, pos, af, g⟩ W K := by
  refine xv (v := .map (some W.heap.size)) (W' := W.alloc (.map #[] 0)) ?_ (hk2 _ ((Ext.refl _).alloc _) ⟨0, by simpa using World.alloc_heap_new W (.map #[] 0)⟩ (by simp))
  unfold execOp; simp [Instr.makeMap, go_sem]
theorem ck_str {e : Bool} (n : Nat) (hkt : P.underlying kt = some .string) : (Instr.checkKey e (n + 1) kt (.string s)).run P W = .ok () W := by
  unfold Instr.checkKey
  simp only [Sem.run_bind, run_underlying hkt, Result.andThen_ok, Sem.run_pure]
theorem fk_str {res : Option (Nat × Value)} (hkt : P.underlying kt = some .string) (hn : Instr.findNow .string (.string s) es 0 = some res) : (Instr.findKey kt (.string s) es).run P W = .ok res W := by
  unfold Instr.findKey
  simp only [Sem.run_bind, run_underlying hkt, Result.andThen_ok, hn, Sem.run_pure]
theorem xins (h : MpAt W b es) (hm : ρ m = .map (some b)) (hy : ρ y = .string s) (hx : ρ x = v) (hT : P.underlying T = some (.map kt et)) (hkt : P.underlying kt = some .string) (hn : Instr.findNow .string (.string s) es 0 = some none)
    (hk2 : ∀ W' n, Tn b W W' → MpAt W' b (es ++ [⟨.string s, v, n⟩]) → W'.heap.size = W.heap.size → K undef W') : OpF r P ρ ⟨d, .insert T m y x, ty, pos, af, g⟩ W K := by
  obtain ⟨n, h⟩ := h
  have hgo : (getObj b).run P W = .ok (.map es.toArray n) W := by simp [getObj, Sem.run, h]
  have hse : ∀ o : Obj, (setObj b o).run P W = .ok () (W.putObj b o) := fun o => by simp [setObj, Sem.run, h, World.putObj]
  refine xu (W' := W.putObj b (.map (es.toArray.push ⟨.string s, v, n⟩) (n + 1))) ?_ (hk2 _ n (Tn.putObj _ h (Nat.le_refl _) rfl) ⟨n + 1, by rw [World.putObj_heap_same (Array.getElem?_eq_some_iff.1 h).1]; simp⟩ (by simp))
  unfold execOp
  simp only [Instr.mapUpdate, hm, hy, hx, Sem.run_bind, run_underlying hT, Result.andThen_ok, hgo, ck_str 9999 hkt, fk_str hkt hn, Sem.run_pure]
  simp [hse]
theorem rlk {i : Nat} {v : Value} (h : MpAt W b es) (hm : ρ m = .map (some b)) (hy : ρ y = .string s) (hT : P.underlying T = some (.map kt et)) (hkt : P.underlying kt = some .string) (hn : Instr.findNow .string (.string s) es 0 = some (some (i, v))) :
    (execOp ρ ⟨d, .lookup T m y false, ty, pos, af, g⟩).run P W = .ok (.value v) W := by
  obtain ⟨n, h⟩ := h
  have hgo : (getObj b).run P W = .ok (.map es.toArray n) W := by simp [getObj, Sem.run, h]
  unfold execOp
  simp only [Instr.lookup, hm, hy, Sem.run_bind, run_underlying hT, Result.andThen_ok, hgo, ck_str 9999 hkt, fk_str hkt hn, Sem.run_pure]
  simp
end
end Go.Proofs.YtknbjfefeeojlaaGreat
/- Package frac. -/
namespace Go.Proofs.YtknbjfefeeojlaaGreat
open Go.RowKit
attribute [local irreducible] RV VH V OpF Calls
theorem qv0 (x : Int) : qv x 0 = Rat.divInt x 1 := by
  rw [Rat.divInt_eq_div]; simp [qv, Rat.div_def]
  rw [show (1 : Rat)⁻¹ = 1 from Rat.inv_eq_of_mul_eq_one (Rat.mul_one 1), Rat.mul_one]
theorem qvn {x y : Int} (h : y ≠ 0) : qv x y = Rat.divInt x y := by simp [qv, h]
section
variable {L : Nat} {S S' : Nat → Prop} {W W' : World} {n : Bool} {a : Option Addr} {l c : Nat} {x : Int}
theorem ZC.za1 (h : ZC S W n a l c 1) (hL : 1 ≤ L) : ZA L S W n a l c 1 := (h.zaH (L := 1) (by decide)).mono hL
theorem ZC.za_neg {W1 : World} {S1 : Nat → Prop} {n1 : Bool} {a1 : Option Addr} {l1 c1 : Nat} (h : ZC S W n a l c (-x)) (h1 : ZA L S1 W1 n1 a1 l1 c1 x) : ZA L S W n a l c (-x) := h.zaH (by have := h1.lt; omega)
end


theorem sg_eq0 {y : Int} (h : sg y = 0) : y = 0 := by unfold sg at h; split at h <;> (try split at h) <;> omega
theorem sg_neg {y : Int} (h : sg y = -1) : y < 0 := by unfold sg at h; split at h <;> (try split at h) <;> omega
theorem sg_pos {y : Int} (h : sg y ≠ 0) (h2 : sg y ≠ -1) : 0 < y := by unfold sg at h h2; split at h <;> (try split at h) <;> simp_all <;> omega

set_option maxHeartbeats 400000 in
theorem of_ok (q : List Value) (r : Rat) (L : Nat) (S : Nat → Prop) (w : World) (h : QA L S w q r) (hL : 1 ≤ L) (hL2 : L ≤ LY) (hu : Up S w) :
    Calls Tryz.prog 139 #[.agg q.toArray] w (fun e w' => ∃ p, e = .returned (.agg p.toArray) ∧ Ext w w' ∧ ∃ x y, PA L S w' p x y ∧ 0 < y ∧ r = Rat.divInt x y) := by
  have z0 := Ext.refl w; have hLX : LX = 17592186044416 := rfl; have hLY : LY = 8796093022208 := rfl
  obtain ⟨n1, a1, l1, c1, n2, a2, l2, c2, rfl⟩ := h.form
  obtain ⟨x, y, hx0, hy0, rfl⟩ := h.two
  have hx := hx0.sub (S' := SX S [w.heap.size + 1]) (SX.old (by simp <;> omega)); have hy := hy0.sub (S' := SX S [w.heap.size + 1]) (SX.old (by simp <;> omega))
  have hu2 : ∀ W : World, w.heap.size + 2 ≤ W.heap.size → Up (SX S [w.heap.size + 1]) W := fun W hW => SX.up (hu.mono (by omega)) (by simp <;> omega)
  refine enter (args := [.agg #[.bool n1, .slice a1 l1 c1, .bool n2, .slice a2 l2 c2]]) Tryz.func139 rfl rfl (Nat.le_of_ble_eq_true rfl) ?_
  refine V.seq (V.reg rfl ?_)
  refine vo ?_
  refine bxa rfl ?_
  intro W1 x2 b3 nn4
  have s5 := x2.sz
  have z6 := x2
  refine vo ?_
  refine xal zc144 ?_
  intro W7 x8 b9 nn10
  have s11 := x8.sz
  have z12 := z6.trans x8
  replace b3 := b3.ext x8
  refine vnil ?_
  refine V.seq ?_
  refine V.seq (V.reg rfl ?_)
  refine vv (rfa rfl fd48_1) ?_
  refine vv (rldb2 rfl ag46 b3 rfl rfl ) ?_
  refine vo ?_
  refine xcall e138 (wSign_ok _ _ _ _ _ _ _ _ (hy.ext z12)) rfl rfl ?_
  rintro _ W14 ⟨_, rfl, x15, hs13⟩
  have s16 := x15.sz
  have z17 := z12.trans x15
  replace b3 := b3.ext x15
  replace b9 := b9.ext x15
  refine ⟨_, rfl, ?_⟩
  refine vnil ?_
  refine V.block ?_
  refine V.seq (V.reg rfl ?_)
  have hs_ := hs13
  refine veq rfl rfl ?_ ?_
  · intro c1
    refine asb rfl ?_
    refine vnil ?_
    refine V.condT rfl ?_
    refine V.seq (V.regD mixed rfl ?_)
    intro W18 x19
    have s20 := x19.sz
    have z21 := z17.trans x19
    replace b3 := b3.ext x19
    replace b9 := b9.ext x19
    have q22 := Ext.refl W18
    have r23 := b3
    have r24 := b9
    refine tk 0 rfl (by kernel_rfl) q22 (pv (fun _ y25 => rfa rfl fd48_0)) ?_
    refine tk 1 rfl (by kernel_rfl) q22 (pv (fun _ y26 => rldb2 rfl ag46 (r23.ext y26) rfl rfl )) ?_
    refine ef 2 (by kernel_rfl) rfl ?_
    refine xcall e98 (wFrom_ok _ _ _ (by omega) (hu2 _ (by omega))) rfl rfl ?_
    rintro _ W28 ⟨_, _, _, _, rfl, x29, hz27⟩
    have s30 := x29.sz
    have z31 := z21.trans x29
    replace b3 := b3.ext x29
    replace b9 := b9.ext x29
    have q32 := q22.trans x29
    refine ⟨_, rfl, ?_⟩
    refine ⟨fun _ => q32, ?_⟩
    refine tk 3 rfl (by kernel_rfl) q32 (pv (fun _ y33 => rbd (ps := [(0, .agg #[_, _]), (1, .agg #[_, _])]) (cs := [.bool _, .slice _ _ _, .bool _, .slice _ _ _]) pl144 rfl rfl)) ?_
    refine ef 4 (by kernel_rfl) rfl ?_
    refine sta (cs' := [_, _, _, _]) b9 rfl rfl sz144 rfl rfl rfl ?_
    intro W34 y35 b9
    have z36 := z31.below (y35.below (by omega))
    replace b3 := b3.wr y35 (by omega)
    have s37 := y35.size
    refine lastT (by kernel_rfl) ?_
    refine dn (by kernel_rfl) ?_
    refine V.ret ?_
    refine ⟨[_], ⟨⟨_, rfl, lvb ag144 b9 rfl⟩, trivial⟩, ?_⟩
    have hy00 : y = 0 := sg_eq0 (hs_.symm.trans c1)
    subst hy00
    exact ⟨_, rfl, z36, x, 1, PA.mk' ((hx.ext z36)).un (((hz27.ck (y35.ck (by intro hh; simp [SX] at hh <;> omega)))).un.za1 hL), by omega, qv0 x⟩
  · intro c1
    refine asb rfl ?_
    refine vnil ?_
    refine V.condF rfl ?_
    refine V.seq (V.reg rfl ?_)
    refine veq rfl rfl ?_ ?_
    · intro c2
      refine asb rfl ?_
      refine vnil ?_
      refine V.condT rfl ?_
      refine V.seq (V.regD mixed rfl ?_)
      intro W38 x39
      have s40 := x39.sz
      have z41 := z17.trans x39
      replace b3 := b3.ext x39
      replace b9 := b9.ext x39
      have q42 := Ext.refl W38
      have r43 := b3
      have r44 := b9
      refine tk 0 rfl (by kernel_rfl) q42 (pv (fun _ y45 => rfa rfl fd48_0)) ?_
      refine tk 1 rfl (by kernel_rfl) q42 (pv (fun _ y46 => rldb2 rfl ag46 (r43.ext y46) rfl rfl )) ?_
      refine tk 3 rfl (by kernel_rfl) q42 (pv (fun _ y47 => rfa rfl fd48_1)) ?_
      refine tk 4 rfl (by kernel_rfl) q42 (pv (fun _ y48 => rldb2 rfl ag46 (r43.ext y48) rfl rfl )) ?_
      refine ef 2 (by kernel_rfl) rfl ?_
      refine xcall e177 (wNeg_ok _ _ _ _ _ _ _ _ (((hx.ext z41)).mono (by omega)) (hu2 _ (by omega))) rfl rfl ?_
      rintro _ W50 ⟨_, _, _, _, rfl, x51, hz49⟩
      have s52 := x51.sz
      have z53 := z41.trans x51
      replace b3 := b3.ext x51
      replace b9 := b9.ext x51
      have q54 := q42.trans x51
      refine ⟨_, rfl, ?_⟩
      refine ⟨fun _ => q54, ?_⟩
      refine ef 5 (by kernel_rfl) rfl ?_
      refine xcall e177 (wNeg_ok _ _ _ _ _ _ _ _ (((hy.ext z53)).mono (by omega)) (hu2 _ (by omega))) rfl rfl ?_
      rintro _ W56 ⟨_, _, _, _, rfl, x57, hz55⟩
      have s58 := x57.sz
      have z59 := z53.trans x57
      replace b3 := b3.ext x57
      replace b9 := b9.ext x57
      have q60 := q54.trans x57
      refine ⟨_, rfl, ?_⟩
      refine ⟨fun _ => q60, ?_⟩
      refine tk 6 rfl (by kernel_rfl) q60 (pv (fun _ y61 => rbd (ps := [(0, .agg #[_, _]), (1, .agg #[_, _])]) (cs := [.bool _, .slice _ _ _, .bool _, .slice _ _ _]) pl144 rfl rfl)) ?_
      refine ef 7 (by kernel_rfl) rfl ?_
      refine sta (cs' := [_, _, _, _]) b9 rfl rfl sz144 rfl rfl rfl ?_
      intro W62 y63 b9
      have z64 := z59.below (y63.below (by omega))
      replace b3 := b3.wr y63 (by omega)
      have s65 := y63.size
      refine lastT (by kernel_rfl) ?_
      refine dn (by kernel_rfl) ?_
      refine V.ret ?_
      refine ⟨[_], ⟨⟨_, rfl, lvb ag144 b9 rfl⟩, trivial⟩, ?_⟩
      have hyn := sg_neg (hs_.symm.trans c2)
      exact ⟨_, rfl, z64, -x, -y, PA.mk' (((hz49.ck ((x57.ck _).trans (y63.ck (by intro hh; simp [SX] at hh <;> omega))))).un.za_neg hx) (((hz55.ck (y63.ck (by intro hh; simp [SX] at hh <;> omega)))).un.za_neg hy), by omega, by rw [qvn (by omega), Rat.neg_divInt_neg]⟩
    · intro c2
      refine asb rfl ?_
      refine vnil ?_
      refine V.condF rfl ?_
      refine V.skip ?_
      refine V.seq (V.reg rfl ?_)
      refine vv (rfa rfl fd48_0) ?_
      refine vv (rldb2 rfl ag46 b3 rfl rfl ) ?_
      refine vv (rfa rfl fd48_1) ?_
      refine vv (rldb2 rfl ag46 b3 rfl rfl ) ?_
      refine vv (rbd (ps := [(0, .agg #[_, _]), (1, .agg #[_, _])]) (cs := [.bool _, .slice _ _ _, .bool _, .slice _ _ _]) pl144 rfl rfl) ?_
      refine vo ?_
      refine sta (cs' := [_, _, _, _]) b9 rfl rfl sz144 rfl rfl rfl ?_
      intro W66 y67 b9
      have z68 := z17.below (y67.below (by omega))
      replace b3 := b3.wr y67 (by omega)
      have s69 := y67.size
      refine vnil ?_
      refine V.ret ?_
      refine ⟨[_], ⟨⟨_, rfl, lvb ag144 b9 rfl⟩, trivial⟩, ?_⟩
      have hyp := sg_pos (y := y) (fun h => c1 (hs_.trans h)) (fun h => c2 (hs_.trans h))
      exact ⟨_, rfl, z68, x, y, PA.mk' ((hx.ext z68)).un ((hy.ext z68)).un, hyp, qvn (by omega)⟩

section
variable {L : Nat} {S S' : Nat → Prop} {W W' : World} {n1 n2 : Bool} {a1 a2 : Option Addr} {l1 c1 l2 c2 : Nat} {x y : Int} {r : Rat}
theorem ZC.za_le {z : Int} {W1 : World} {S1 : Nat → Prop} (h : ZC S W n1 a1 l1 c1 z) (h1 : ZA L S1 W1 n2 a2 l2 c2 y) (hz : z.natAbs ≤ y.natAbs) : ZA L S W n1 a1 l1 c1 z := h.zaH (by have := h1.lt; omega)
theorem QC.mk1 (h : ZC S W n1 a1 l1 c1 r.num) (hd : r.den = 1) : QC S W [.bool n1, .slice a1 l1 c1, .bool false, .slice none 0 0] r := by
  obtain ⟨h1, rfl⟩ := h
  refine ⟨_, _, _, _, _, _, rfl, h1, ?_⟩
  show RN .u32 S W none 0 0 (if r.den = 1 then [] else dg b32 r.den)
  rw [if_pos hd]; exact RN.nil _ _ _ _ _ (by omega)
theorem QC.mk2 (h : ZC S W n1 a1 l1 c1 r.num) (h2 : ZC S W n2 a2 l2 c2 (r.den : Int)) (hd : r.den ≠ 1) : QC S W [.bool n1, .slice a1 l1 c1, .bool n2, .slice a2 l2 c2] r := by
  obtain ⟨h1, rfl⟩ := h
  obtain ⟨h2, h3⟩ := h2
  have e : n2 = false := by rw [h3]; simp
  subst e
  refine ⟨_, _, _, _, _, _, rfl, h1, ?_⟩
  show RN .u32 S W a2 l2 c2 (if r.den = 1 then [] else dg b32 r.den)
  rw [if_neg hd]; simpa using h2
theorem num_dv (hy : 0 < y) : (Rat.divInt x y).num = x / (Int.gcd x y : Int) := by
  rw [Rat.num_divInt, Int.sign_eq_one_of_pos hy, Int.one_mul, Int.gcd_comm]
theorem den_dv (hy : 0 < y) : ((Rat.divInt x y).den : Int) = y / (Int.gcd x y : Int) := by
  rw [Rat.den_divInt, if_neg (by omega), Int.gcd_comm]
  have : (y.natAbs : Int) = y := by omega
  rw [Int.natCast_ediv, this]
theorem gcd_le (hy : 0 < y) : ((Int.gcd x y : Int)).natAbs ≤ y.natAbs ∧ (Int.gcd x y : Int) ≠ 0 := by
  have h1 : 0 < Int.gcd x y := Int.gcd_pos_iff.2 (.inr (by omega))
  have h2 : Int.gcd x y ≤ y.natAbs := Int.gcd_le_natAbs_right x (by omega)
  omega
end

set_option maxHeartbeats 400000 in
theorem least_ok (q : List Value) (x y : Int) (L : Nat) (S S1 : Nat → Prop) (w : World) (h : PA L S1 w q x y) (hp : 0 < y) (hL : 1 ≤ L) (hL2 : L ≤ LY) (hu : Up S w) :
    Calls Tryz.prog 153 #[.agg q.toArray] w (PQ S (Rat.divInt x y) w) := by
  have z0 := Ext.refl w; have hLX : LX = 17592186044416 := rfl; have hLY : LY = 8796093022208 := rfl
  obtain ⟨n1, a1, l1, c1, n2, a2, l2, c2, rfl⟩ := h.form
  obtain ⟨hx, hy⟩ := h.one
  have hu2 : ∀ W : World, w.heap.size + 2 ≤ W.heap.size → Up (SX S [w.heap.size + 1]) W := fun W hW => SX.up (hu.mono (by omega)) (by simp <;> omega)
  refine enter (args := [.agg #[.bool n1, .slice a1 l1 c1, .bool n2, .slice a2 l2 c2]]) Tryz.func153 rfl rfl (Nat.le_of_ble_eq_true rfl) ?_
  refine V.seq (V.reg rfl ?_)
  refine vo ?_
  refine bxa rfl ?_
  intro W1 x2 b3 nn4
  have s5 := x2.sz
  have z6 := x2
  refine vo ?_
  refine xal zc48 ?_
  intro W7 x8 b9 nn10
  have s11 := x8.sz
  have z12 := z6.trans x8
  replace b3 := b3.ext x8
  refine vnil ?_
  refine V.seq (V.reg rfl ?_)
  refine vv (rfa rfl fd144_0) ?_
  refine vv (rldb2 rfl ag46 b3 rfl rfl ) ?_
  refine vv (rfa rfl fd144_1) ?_
  refine vv (rldb2 rfl ag46 b3 rfl rfl ) ?_
  refine vo ?_
  refine xcall e186 (wGCD_ok _ _ _ _ _ _ _ _ _ _ _ _ _ _ _ _ (hx.ext z12) (hy.ext z12) (by omega) (by omega) (hu2 _ (by omega))) rfl rfl ?_
  rintro _ W14 ⟨_, _, _, _, rfl, x15, hz13⟩
  have s16 := x15.sz
  have z17 := z12.trans x15
  replace b3 := b3.ext x15
  replace b9 := b9.ext x15
  have z18 := Ext.refl W14
  refine ⟨_, rfl, ?_⟩
  have hg := (hz13).za_le hy (gcd_le hp).1
  refine vo ?_
  refine xal zc46 ?_
  intro W19 x20 b21 nn22
  have s23 := x20.sz
  have z24 := z17.trans x20
  have z25 := x20
  replace b3 := b3.ext x20
  replace b9 := b9.ext x20
  refine vo ?_
  refine sta (cs' := [_, _]) b21 rfl rfl sz46 rfl rfl rfl ?_
  intro W26 y27 b21
  have z28 := z24.below (y27.below (by omega))
  have z29 := z25.below (y27.below (by omega))
  replace b3 := b3.wr y27 (by omega)
  replace b9 := b9.wr y27 (by omega)
  have s30 := y27.size
  refine vnil ?_
  refine V.seq (V.reg rfl ?_)
  refine vv (rfa rfl fd144_0) ?_
  refine vv (rldb2 rfl ag46 b3 rfl rfl ) ?_
  refine vv (rldb2 rfl ag46 b21 rfl rfl ) ?_
  refine vo ?_
  refine xcall e187 (wDivMod_ok _ _ _ _ _ _ _ _ _ _ _ _ _ _ _ _ (hx.ext z28) (hg.ext z29) (by omega) (by omega) (hu2 _ (by omega)) ((gcd_le hp).2)) rfl rfl ?_
  rintro _ W33 ⟨_, _, _, _, _, _, _, _, rfl, x34, hq31, hr32⟩
  have s35 := x34.sz
  have z36 := z28.trans x34
  have z37 := z29.trans x34
  replace b3 := b3.ext x34
  replace b9 := b9.ext x34
  replace b21 := b21.ext x34
  have z38 := Ext.refl W33
  refine ⟨_, rfl, ?_⟩
  refine mvt rfl ?_
  refine vv (rext (v := .agg #[_, _]) rfl rfl) ?_
  refine vv (rext (v := .agg #[_, _]) rfl rfl) ?_
  refine vv (rext (v := .int _ _) rfl rfl) ?_
  refine vo ?_
  refine xal zc46 ?_
  intro W39 x40 b41 nn42
  have s43 := x40.sz
  have z44 := z36.trans x40
  have z45 := z37.trans x40
  have z46 := x40
  replace b3 := b3.ext x40
  replace b9 := b9.ext x40
  replace b21 := b21.ext x40
  refine vo ?_
  refine xal zc46 ?_
  intro W47 x48 b49 nn50
  have s51 := x48.sz
  have z52 := z44.trans x48
  have z53 := z45.trans x48
  have z54 := z46.trans x48
  replace b3 := b3.ext x48
  replace b9 := b9.ext x48
  replace b21 := b21.ext x48
  replace b41 := b41.ext x48
  refine vo ?_
  refine sta (cs' := [_, _]) b41 rfl rfl sz46 rfl rfl rfl ?_
  intro W55 y56 b41
  have z57 := z52.below (y56.below (by omega))
  have z58 := z53.below (y56.below (by omega))
  have z59 := z54.below (y56.below (by omega))
  replace b3 := b3.wr y56 (by omega)
  replace b9 := b9.wr y56 (by omega)
  replace b21 := b21.wr y56 (by omega)
  replace b49 := b49.wr y56 (by omega)
  have s60 := y56.size
  refine vo ?_
  refine sta (cs' := [_, _]) b49 rfl rfl sz46 rfl rfl rfl ?_
  intro W61 y62 b49
  have z63 := z57.below (y62.below (by omega))
  have z64 := z58.below (y62.below (by omega))
  have z65 := z59.below (y62.below (by omega))
  replace b3 := b3.wr y62 (by omega)
  replace b9 := b9.wr y62 (by omega)
  replace b21 := b21.wr y62 (by omega)
  replace b41 := b41.wr y62 (by omega)
  have s66 := y62.size
  refine asi rfl ?_
  refine vnil ?_
  refine V.seq (V.reg rfl ?_)
  refine vv (rfa rfl fd144_1) ?_
  refine vv (rldb2 rfl ag46 b3 rfl rfl ) ?_
  refine vv (rldb2 rfl ag46 b21 rfl rfl ) ?_
  refine vo ?_
  refine xcall e187 (wDivMod_ok _ _ _ _ _ _ _ _ _ _ _ _ _ _ _ _ (hy.ext z63) (hg.ext z64) (by omega) (by omega) (hu2 _ (by omega)) ((gcd_le hp).2)) rfl rfl ?_
  rintro _ W69 ⟨_, _, _, _, _, _, _, _, rfl, x70, hq67, hr68⟩
  have s71 := x70.sz
  have z72 := z63.trans x70
  have z73 := z64.trans x70
  have z74 := z65.trans x70
  replace b3 := b3.ext x70
  replace b9 := b9.ext x70
  replace b21 := b21.ext x70
  replace b41 := b41.ext x70
  replace b49 := b49.ext x70
  have z75 := Ext.refl W69
  refine ⟨_, rfl, ?_⟩
  refine mvt rfl ?_
  refine vv (rext (v := .agg #[_, _]) rfl rfl) ?_
  refine vv (rext (v := .agg #[_, _]) rfl rfl) ?_
  refine vv (rext (v := .int _ _) rfl rfl) ?_
  refine vo ?_
  refine xal zc46 ?_
  intro W76 x77 b78 nn79
  have s80 := x77.sz
  have z81 := z72.trans x77
  have z82 := z73.trans x77
  have z83 := z74.trans x77
  have z84 := x77
  replace b3 := b3.ext x77
  replace b9 := b9.ext x77
  replace b21 := b21.ext x77
  replace b41 := b41.ext x77
  replace b49 := b49.ext x77
  refine vo ?_
  refine xal zc46 ?_
  intro W85 x86 b87 nn88
  have s89 := x86.sz
  have z90 := z81.trans x86
  have z91 := z82.trans x86
  have z92 := z83.trans x86
  have z93 := z84.trans x86
  replace b3 := b3.ext x86
  replace b9 := b9.ext x86
  replace b21 := b21.ext x86
  replace b41 := b41.ext x86
  replace b49 := b49.ext x86
  replace b78 := b78.ext x86
  refine vo ?_
  refine sta (cs' := [_, _]) b78 rfl rfl sz46 rfl rfl rfl ?_
  intro W94 y95 b78
  have z96 := z90.below (y95.below (by omega))
  have z97 := z91.below (y95.below (by omega))
  have z98 := z92.below (y95.below (by omega))
  have z99 := z93.below (y95.below (by omega))
  replace b3 := b3.wr y95 (by omega)
  replace b9 := b9.wr y95 (by omega)
  replace b21 := b21.wr y95 (by omega)
  replace b41 := b41.wr y95 (by omega)
  replace b49 := b49.wr y95 (by omega)
  replace b87 := b87.wr y95 (by omega)
  have s100 := y95.size
  refine vo ?_
  refine sta (cs' := [_, _]) b87 rfl rfl sz46 rfl rfl rfl ?_
  intro W101 y102 b87
  have z103 := z96.below (y102.below (by omega))
  have z104 := z97.below (y102.below (by omega))
  have z105 := z98.below (y102.below (by omega))
  have z106 := z99.below (y102.below (by omega))
  replace b3 := b3.wr y102 (by omega)
  replace b9 := b9.wr y102 (by omega)
  replace b21 := b21.wr y102 (by omega)
  replace b41 := b41.wr y102 (by omega)
  replace b49 := b49.wr y102 (by omega)
  replace b78 := b78.wr y102 (by omega)
  have s107 := y102.size
  have hd := ((hq67.ext z106)).za_le hy (Int.natAbs_ediv_le_natAbs _ _)
  have z108 := Ext.refl W101
  refine asi rfl ?_
  refine vnil ?_
  refine V.seq ?_
  refine V.seq (V.regD mixed rfl ?_)
  intro W109 x110
  have s111 := x110.sz
  have z112 := z103.trans x110
  have z113 := z104.trans x110
  have z114 := z105.trans x110
  have z115 := z106.trans x110
  have z116 := x110
  replace b3 := b3.ext x110
  replace b9 := b9.ext x110
  replace b21 := b21.ext x110
  replace b41 := b41.ext x110
  replace b49 := b49.ext x110
  replace b78 := b78.ext x110
  replace b87 := b87.ext x110
  have q117 := Ext.refl W109
  have r118 := b3
  have r119 := b9
  have r120 := b21
  have r121 := b41
  have r122 := b49
  have r123 := b78
  have r124 := b87
  refine tk 0 rfl (by kernel_rfl) q117 (pv (fun _ y125 => rldb2 rfl ag46 (r123.ext y125) rfl rfl )) ?_
  refine ef 1 (by kernel_rfl) rfl ?_
  refine xcall e98 (wFrom_ok _ _ _ (by omega) (hu2 _ (by omega))) rfl rfl ?_
  rintro _ W127 ⟨_, _, _, _, rfl, x128, hz126⟩
  have s129 := x128.sz
  have z130 := z112.trans x128
  have z131 := z113.trans x128
  have z132 := z114.trans x128
  have z133 := z115.trans x128
  have z134 := z116.trans x128
  replace b3 := b3.ext x128
  replace b9 := b9.ext x128
  replace b21 := b21.ext x128
  replace b41 := b41.ext x128
  replace b49 := b49.ext x128
  replace b78 := b78.ext x128
  replace b87 := b87.ext x128
  have q135 := q117.trans x128
  have z136 := Ext.refl W127
  refine ⟨_, rfl, ?_⟩
  refine ⟨fun _ => q135, ?_⟩
  refine ef 2 (by kernel_rfl) rfl ?_
  have ho := (hz126).za1 (L := L) hL
  refine xcall e178 (wCmp_ok _ _ _ _ _ _ _ _ _ _ _ _ _ _ _ (hd.ext z134) ho (by omega) (by omega)) rfl rfl ?_
  rintro _ W138 ⟨_, rfl, x139, hs137⟩
  have s140 := x139.sz
  have z141 := z130.trans x139
  have z142 := z131.trans x139
  have z143 := z132.trans x139
  have z144 := z133.trans x139
  have z145 := z134.trans x139
  have z146 := x139
  replace b3 := b3.ext x139
  replace b9 := b9.ext x139
  replace b21 := b21.ext x139
  replace b41 := b41.ext x139
  replace b49 := b49.ext x139
  replace b78 := b78.ext x139
  replace b87 := b87.ext x139
  have q147 := q135.trans x139
  refine ⟨_, rfl, ?_⟩
  refine ⟨fun _ => q147, ?_⟩
  refine tk 3 rfl (by kernel_rfl) q147 (pv (fun _ y148 => rcmp (cEq rfl) rfl rfl rfl)) ?_
  refine dn (by kernel_rfl) ?_
  refine V.condB rfl ?_ ?_
  · intro c1
    refine V.seq (V.reg rfl ?_)
    refine vv (rldb2 rfl ag46 b41 rfl rfl ) ?_
    refine vv (rbd (ps := [(0, .agg #[_, _])]) (cs := [.bool _, .slice _ _ _, .bool false, .slice _ _ _]) pl48 rfl rfl) ?_
    refine vo ?_
    refine sta (cs' := [_, _, _, _]) b9 rfl rfl sz48 rfl rfl rfl ?_
    intro W149 y150 b9
    have z151 := z141.below (y150.below (by omega))
    replace b3 := b3.wr y150 (by omega)
    replace b21 := b21.wr y150 (by omega)
    replace b41 := b41.wr y150 (by omega)
    replace b49 := b49.wr y150 (by omega)
    replace b78 := b78.wr y150 (by omega)
    replace b87 := b87.wr y150 (by omega)
    have s152 := y150.size
    refine vnil ?_
    refine V.ret ?_
    refine ⟨[_], ⟨⟨_, rfl, lvb ag48 b9 rfl⟩, trivial⟩, ?_⟩
    have hd1 := sg_eq0 (hs137.symm.trans (of_decide_eq_true c1))
    exact ⟨_, rfl, z151, QC.mk1 (((((hq31.ext z143).ck (y150.ck (by intro hh; simp [SX] at hh <;> omega)))).un).cast (num_dv hp).symm) (by have := den_dv (x := x) hp; omega)⟩
  · intro c1
    refine V.skip ?_
    refine V.seq (V.reg rfl ?_)
    refine vv (rldb2 rfl ag46 b41 rfl rfl ) ?_
    refine vv (rldb2 rfl ag46 b78 rfl rfl ) ?_
    refine vv (rbd (ps := [(0, .agg #[_, _]), (1, .agg #[_, _])]) (cs := [.bool _, .slice _ _ _, .bool _, .slice _ _ _]) pl48 rfl rfl) ?_
    refine vo ?_
    refine sta (cs' := [_, _, _, _]) b9 rfl rfl sz48 rfl rfl rfl ?_
    intro W153 y154 b9
    have z155 := z141.below (y154.below (by omega))
    replace b3 := b3.wr y154 (by omega)
    replace b21 := b21.wr y154 (by omega)
    replace b41 := b41.wr y154 (by omega)
    replace b49 := b49.wr y154 (by omega)
    replace b78 := b78.wr y154 (by omega)
    replace b87 := b87.wr y154 (by omega)
    have s156 := y154.size
    refine vnil ?_
    refine V.ret ?_
    refine ⟨[_], ⟨⟨_, rfl, lvb ag48 b9 rfl⟩, trivial⟩, ?_⟩
    have hd1 : y / (Int.gcd x y : Int) ≠ 1 := fun h => of_decide_eq_false c1 (by rw [hs137, h]; rfl)
    exact ⟨_, rfl, z155, QC.mk2 (((((hq31.ext z143).ck (y154.ck (by intro hh; simp [SX] at hh <;> omega)))).un).cast (num_dv hp).symm) (((((hq67.ext z144).ck (y154.ck (by intro hh; simp [SX] at hh <;> omega)))).un).cast (den_dv hp).symm) (by have := den_dv (x := x) hp; omega)⟩
end Go.Proofs.YtknbjfefeeojlaaGreat
/- Package frac: the operations. -/
namespace Go.Proofs.YtknbjfefeeojlaaGreat
open Go.RowKit
attribute [local irreducible] RV VH V OpF Calls

set_option maxHeartbeats 400000 in
theorem addP_ok (q1 q2 : List Value) (x1 y1 x2 y2 : Int) (L1 L2 : Nat) (S S1 S2 : Nat → Prop) (w : World) (h1 : PA L1 S1 w q1 x1 y1) (h2 : PA L2 S2 w q2 x2 y2) (hL : L1 + L2 < LY) (hl1 : 1 ≤ L1) (hl2 : 1 ≤ L2) (hu : Up S w) :
    Calls Tryz.prog 180 #[.agg q1.toArray, .agg q2.toArray] w (fun e w' => ∃ p, e = .returned (.agg p.toArray) ∧ Ext w w' ∧ PA (L1 + L2 + 1) S w' p (x1 * y2 + x2 * y1) (y1 * y2)) := by
  have z0 := Ext.refl w; have hLX : LX = 17592186044416 := rfl; have hLY : LY = 8796093022208 := rfl
  obtain ⟨n1, a1, l1, c1, n2, a2, l2, c2, rfl⟩ := h1.form; obtain ⟨n3, a3, l3, c3, n4, a4, l4, c4, rfl⟩ := h2.form
  obtain ⟨hx1, hy1⟩ := h1.one; obtain ⟨hx2, hy2⟩ := h2.one
  have hu2 : ∀ W : World, w.heap.size + 3 ≤ W.heap.size → Up (SX S [w.heap.size + 2]) W := fun W hW => SX.up (hu.mono (by omega)) (by simp <;> omega)
  refine enter (args := [.agg #[.bool n1, .slice a1 l1 c1, .bool n2, .slice a2 l2 c2], .agg #[.bool n3, .slice a3 l3 c3, .bool n4, .slice a4 l4 c4]]) Tryz.func180 rfl rfl (Nat.le_of_ble_eq_true rfl) ?_
  refine V.seq (V.reg rfl ?_)
  refine vo ?_
  refine bxa rfl ?_
  intro W1 x2 b3 nn4
  have s5 := x2.sz
  have z6 := x2
  refine vo ?_
  refine bxa rfl ?_
  intro W7 x8 b9 nn10
  have s11 := x8.sz
  have z12 := z6.trans x8
  replace b3 := b3.ext x8
  refine vo ?_
  refine xal zc144 ?_
  intro W13 x14 b15 nn16
  have s17 := x14.sz
  have z18 := z12.trans x14
  replace b3 := b3.ext x14
  replace b9 := b9.ext x14
  refine vnil ?_
  refine V.seq (V.regD mixed rfl ?_)
  intro W19 x20
  have s21 := x20.sz
  have z22 := z18.trans x20
  replace b3 := b3.ext x20
  replace b9 := b9.ext x20
  replace b15 := b15.ext x20
  have q23 := Ext.refl W19
  have r24 := b3
  have r25 := b9
  have r26 := b15
  refine tk 0 rfl (by kernel_rfl) q23 (pv (fun _ y27 => rfa rfl fd144_0)) ?_
  refine tk 1 rfl (by kernel_rfl) q23 (pv (fun _ y28 => rldb2 rfl ag46 (r24.ext y28) rfl rfl )) ?_
  refine tk 2 rfl (by kernel_rfl) q23 (pv (fun _ y29 => rfa rfl fd144_1)) ?_
  refine tk 3 rfl (by kernel_rfl) q23 (pv (fun _ y30 => rldb2 rfl ag46 (r25.ext y30) rfl rfl )) ?_
  refine tk 5 rfl (by kernel_rfl) q23 (pv (fun _ y31 => rfa rfl fd144_0)) ?_
  refine tk 6 rfl (by kernel_rfl) q23 (pv (fun _ y32 => rldb2 rfl ag46 (r25.ext y32) rfl rfl )) ?_
  refine tk 7 rfl (by kernel_rfl) q23 (pv (fun _ y33 => rfa rfl fd144_1)) ?_
  refine tk 8 rfl (by kernel_rfl) q23 (pv (fun _ y34 => rldb2 rfl ag46 (r24.ext y34) rfl rfl )) ?_
  refine tk 11 rfl (by kernel_rfl) q23 (pv (fun _ y35 => rfa rfl fd144_1)) ?_
  refine tk 12 rfl (by kernel_rfl) q23 (pv (fun _ y36 => rldb2 rfl ag46 (r24.ext y36) rfl rfl )) ?_
  refine tk 13 rfl (by kernel_rfl) q23 (pv (fun _ y37 => rfa rfl fd144_1)) ?_
  refine tk 14 rfl (by kernel_rfl) q23 (pv (fun _ y38 => rldb2 rfl ag46 (r25.ext y38) rfl rfl )) ?_
  refine ef 4 (by kernel_rfl) rfl ?_
  refine xcall e179 (wMul_ok _ _ _ _ _ _ _ _ _ _ _ _ _ _ _ _ (hx1.ext z22) (hy2.ext z22) (by omega) (by omega) (hu2 _ (by omega))) rfl rfl ?_
  rintro _ W40 ⟨_, _, _, _, rfl, x41, hz39⟩
  have s42 := x41.sz
  have z43 := z22.trans x41
  replace b3 := b3.ext x41
  replace b9 := b9.ext x41
  replace b15 := b15.ext x41
  have q44 := q23.trans x41
  refine ⟨_, rfl, ?_⟩
  refine ⟨fun _ => q44, ?_⟩
  refine ef 9 (by kernel_rfl) rfl ?_
  have hm1 := (hz39).za_mul hx1 hy2
  refine xcall e179 (wMul_ok _ _ _ _ _ _ _ _ _ _ _ _ _ _ _ _ (hx2.ext z43) (hy1.ext z43) (by omega) (by omega) (hu2 _ (by omega))) rfl rfl ?_
  rintro _ W46 ⟨_, _, _, _, rfl, x47, hz45⟩
  have s48 := x47.sz
  have z49 := z43.trans x47
  replace b3 := b3.ext x47
  replace b9 := b9.ext x47
  replace b15 := b15.ext x47
  have q50 := q44.trans x47
  refine ⟨_, rfl, ?_⟩
  refine ⟨fun _ => q50, ?_⟩
  refine ef 10 (by kernel_rfl) rfl ?_
  have hm2 := (hz45).za_mul hx2 hy1
  refine xcall e181 (wAdd_ok _ _ _ _ _ _ _ _ _ _ _ _ _ _ _ _ (hm1.ext x47) hm2 (by omega) (by omega) (hu2 _ (by omega))) rfl rfl ?_
  rintro _ W52 ⟨_, _, _, _, rfl, x53, hz51⟩
  have s54 := x53.sz
  have z55 := z49.trans x53
  replace b3 := b3.ext x53
  replace b9 := b9.ext x53
  replace b15 := b15.ext x53
  have q56 := q50.trans x53
  refine ⟨_, rfl, ?_⟩
  refine ⟨fun _ => q56, ?_⟩
  refine ef 15 (by kernel_rfl) rfl ?_
  have hs := ((hz51).za_add (L := L1 + L2) (hm1.lt) (by rw [Nat.add_comm]; exact hm2.lt) (.inl rfl))
  refine xcall e179 (wMul_ok _ _ _ _ _ _ _ _ _ _ _ _ _ _ _ _ (hy1.ext z55) (hy2.ext z55) (by omega) (by omega) (hu2 _ (by omega))) rfl rfl ?_
  rintro _ W58 ⟨_, _, _, _, rfl, x59, hz57⟩
  have s60 := x59.sz
  have z61 := z55.trans x59
  replace b3 := b3.ext x59
  replace b9 := b9.ext x59
  replace b15 := b15.ext x59
  have q62 := q56.trans x59
  refine ⟨_, rfl, ?_⟩
  refine ⟨fun _ => q62, ?_⟩
  refine tk 16 rfl (by kernel_rfl) q62 (pv (fun _ y63 => rbd (ps := [(0, .agg #[_, _]), (1, .agg #[_, _])]) (cs := [.bool _, .slice _ _ _, .bool _, .slice _ _ _]) pl144 rfl rfl)) ?_
  refine ef 17 (by kernel_rfl) rfl ?_
  have hm3 := ((hz57).za_mul hy1 hy2).mono (L' := L1 + L2 + 1) (by omega)
  refine sta (cs' := [_, _, _, _]) b15 rfl rfl sz144 rfl rfl rfl ?_
  intro W64 y65 b15
  have z66 := z61.below (y65.below (by omega))
  replace b3 := b3.wr y65 (by omega)
  replace b9 := b9.wr y65 (by omega)
  have s67 := y65.size
  refine lastT (by kernel_rfl) ?_
  refine dn (by kernel_rfl) ?_
  refine V.ret ?_
  refine ⟨[_], ⟨⟨_, rfl, lvb ag144 b15 rfl⟩, trivial⟩, ?_⟩
  exact ⟨_, rfl, z66, (PA.mk' ((hs.ck ((x59.ck _).trans (y65.ck (by intro hh; simp [SX] at hh <;> omega))))) ((hm3.ck (y65.ck (by intro hh; simp [SX] at hh <;> omega))))).un⟩
set_option maxHeartbeats 400000 in
theorem subP_ok (q1 q2 : List Value) (x1 y1 x2 y2 : Int) (L1 L2 : Nat) (S S1 S2 : Nat → Prop) (w : World) (h1 : PA L1 S1 w q1 x1 y1) (h2 : PA L2 S2 w q2 x2 y2) (hL : L1 + L2 < LY) (hl1 : 1 ≤ L1) (hl2 : 1 ≤ L2) (hu : Up S w) :
    Calls Tryz.prog 182 #[.agg q1.toArray, .agg q2.toArray] w (fun e w' => ∃ p, e = .returned (.agg p.toArray) ∧ Ext w w' ∧ PA (L1 + L2 + 1) S w' p (x1 * y2 - x2 * y1) (y1 * y2)) := by
  have z0 := Ext.refl w; have hLX : LX = 17592186044416 := rfl; have hLY : LY = 8796093022208 := rfl
  obtain ⟨n1, a1, l1, c1, n2, a2, l2, c2, rfl⟩ := h1.form; obtain ⟨n3, a3, l3, c3, n4, a4, l4, c4, rfl⟩ := h2.form
  obtain ⟨hx1, hy1⟩ := h1.one; obtain ⟨hx2, hy2⟩ := h2.one
  have hu2 : ∀ W : World, w.heap.size + 3 ≤ W.heap.size → Up (SX S [w.heap.size + 2]) W := fun W hW => SX.up (hu.mono (by omega)) (by simp <;> omega)
  refine enter (args := [.agg #[.bool n1, .slice a1 l1 c1, .bool n2, .slice a2 l2 c2], .agg #[.bool n3, .slice a3 l3 c3, .bool n4, .slice a4 l4 c4]]) Tryz.func182 rfl rfl (Nat.le_of_ble_eq_true rfl) ?_
  refine V.seq (V.reg rfl ?_)
  refine vo ?_
  refine bxa rfl ?_
  intro W1 x2 b3 nn4
  have s5 := x2.sz
  have z6 := x2
  refine vo ?_
  refine bxa rfl ?_
  intro W7 x8 b9 nn10
  have s11 := x8.sz
  have z12 := z6.trans x8
  replace b3 := b3.ext x8
  refine vo ?_
  refine xal zc144 ?_
  intro W13 x14 b15 nn16
  have s17 := x14.sz
  have z18 := z12.trans x14
  replace b3 := b3.ext x14
  replace b9 := b9.ext x14
  refine vnil ?_
  refine V.seq (V.regD mixed rfl ?_)
  intro W19 x20
  have s21 := x20.sz
  have z22 := z18.trans x20
  replace b3 := b3.ext x20
  replace b9 := b9.ext x20
  replace b15 := b15.ext x20
  have q23 := Ext.refl W19
  have r24 := b3
  have r25 := b9
  have r26 := b15
  refine tk 0 rfl (by kernel_rfl) q23 (pv (fun _ y27 => rfa rfl fd144_0)) ?_
  refine tk 1 rfl (by kernel_rfl) q23 (pv (fun _ y28 => rldb2 rfl ag46 (r24.ext y28) rfl rfl )) ?_
  refine tk 2 rfl (by kernel_rfl) q23 (pv (fun _ y29 => rfa rfl fd144_1)) ?_
  refine tk 3 rfl (by kernel_rfl) q23 (pv (fun _ y30 => rldb2 rfl ag46 (r25.ext y30) rfl rfl )) ?_
  refine tk 5 rfl (by kernel_rfl) q23 (pv (fun _ y31 => rfa rfl fd144_0)) ?_
  refine tk 6 rfl (by kernel_rfl) q23 (pv (fun _ y32 => rldb2 rfl ag46 (r25.ext y32) rfl rfl )) ?_
  refine tk 7 rfl (by kernel_rfl) q23 (pv (fun _ y33 => rfa rfl fd144_1)) ?_
  refine tk 8 rfl (by kernel_rfl) q23 (pv (fun _ y34 => rldb2 rfl ag46 (r24.ext y34) rfl rfl )) ?_
  refine tk 11 rfl (by kernel_rfl) q23 (pv (fun _ y35 => rfa rfl fd144_1)) ?_
  refine tk 12 rfl (by kernel_rfl) q23 (pv (fun _ y36 => rldb2 rfl ag46 (r24.ext y36) rfl rfl )) ?_
  refine tk 13 rfl (by kernel_rfl) q23 (pv (fun _ y37 => rfa rfl fd144_1)) ?_
  refine tk 14 rfl (by kernel_rfl) q23 (pv (fun _ y38 => rldb2 rfl ag46 (r25.ext y38) rfl rfl )) ?_
  refine ef 4 (by kernel_rfl) rfl ?_
  refine xcall e179 (wMul_ok _ _ _ _ _ _ _ _ _ _ _ _ _ _ _ _ (hx1.ext z22) (hy2.ext z22) (by omega) (by omega) (hu2 _ (by omega))) rfl rfl ?_
  rintro _ W40 ⟨_, _, _, _, rfl, x41, hz39⟩
  have s42 := x41.sz
  have z43 := z22.trans x41
  replace b3 := b3.ext x41
  replace b9 := b9.ext x41
  replace b15 := b15.ext x41
  have q44 := q23.trans x41
  refine ⟨_, rfl, ?_⟩
  refine ⟨fun _ => q44, ?_⟩
  refine ef 9 (by kernel_rfl) rfl ?_
  have hm1 := (hz39).za_mul hx1 hy2
  refine xcall e179 (wMul_ok _ _ _ _ _ _ _ _ _ _ _ _ _ _ _ _ (hx2.ext z43) (hy1.ext z43) (by omega) (by omega) (hu2 _ (by omega))) rfl rfl ?_
  rintro _ W46 ⟨_, _, _, _, rfl, x47, hz45⟩
  have s48 := x47.sz
  have z49 := z43.trans x47
  replace b3 := b3.ext x47
  replace b9 := b9.ext x47
  replace b15 := b15.ext x47
  have q50 := q44.trans x47
  refine ⟨_, rfl, ?_⟩
  refine ⟨fun _ => q50, ?_⟩
  refine ef 10 (by kernel_rfl) rfl ?_
  have hm2 := (hz45).za_mul hx2 hy1
  refine xcall e183 (wSub_ok _ _ _ _ _ _ _ _ _ _ _ _ _ _ _ _ (hm1.ext x47) hm2 (by omega) (by omega) (hu2 _ (by omega))) rfl rfl ?_
  rintro _ W52 ⟨_, _, _, _, rfl, x53, hz51⟩
  have s54 := x53.sz
  have z55 := z49.trans x53
  replace b3 := b3.ext x53
  replace b9 := b9.ext x53
  replace b15 := b15.ext x53
  have q56 := q50.trans x53
  refine ⟨_, rfl, ?_⟩
  refine ⟨fun _ => q56, ?_⟩
  refine ef 15 (by kernel_rfl) rfl ?_
  have hs := ((hz51).za_add (L := L1 + L2) (hm1.lt) (by rw [Nat.add_comm]; exact hm2.lt) (.inr rfl))
  refine xcall e179 (wMul_ok _ _ _ _ _ _ _ _ _ _ _ _ _ _ _ _ (hy1.ext z55) (hy2.ext z55) (by omega) (by omega) (hu2 _ (by omega))) rfl rfl ?_
  rintro _ W58 ⟨_, _, _, _, rfl, x59, hz57⟩
  have s60 := x59.sz
  have z61 := z55.trans x59
  replace b3 := b3.ext x59
  replace b9 := b9.ext x59
  replace b15 := b15.ext x59
  have q62 := q56.trans x59
  refine ⟨_, rfl, ?_⟩
  refine ⟨fun _ => q62, ?_⟩
  refine tk 16 rfl (by kernel_rfl) q62 (pv (fun _ y63 => rbd (ps := [(0, .agg #[_, _]), (1, .agg #[_, _])]) (cs := [.bool _, .slice _ _ _, .bool _, .slice _ _ _]) pl144 rfl rfl)) ?_
  refine ef 17 (by kernel_rfl) rfl ?_
  have hm3 := ((hz57).za_mul hy1 hy2).mono (L' := L1 + L2 + 1) (by omega)
  refine sta (cs' := [_, _, _, _]) b15 rfl rfl sz144 rfl rfl rfl ?_
  intro W64 y65 b15
  have z66 := z61.below (y65.below (by omega))
  replace b3 := b3.wr y65 (by omega)
  replace b9 := b9.wr y65 (by omega)
  have s67 := y65.size
  refine lastT (by kernel_rfl) ?_
  refine dn (by kernel_rfl) ?_
  refine V.ret ?_
  refine ⟨[_], ⟨⟨_, rfl, lvb ag144 b15 rfl⟩, trivial⟩, ?_⟩
  exact ⟨_, rfl, z66, (PA.mk' ((hs.ck ((x59.ck _).trans (y65.ck (by intro hh; simp [SX] at hh <;> omega))))) ((hm3.ck (y65.ck (by intro hh; simp [SX] at hh <;> omega))))).un⟩
set_option maxHeartbeats 400000 in
theorem mulP_ok (q1 q2 : List Value) (x1 y1 x2 y2 : Int) (L1 L2 : Nat) (S S1 S2 : Nat → Prop) (w : World) (h1 : PA L1 S1 w q1 x1 y1) (h2 : PA L2 S2 w q2 x2 y2) (hL : L1 + L2 < LY) (hl1 : 1 ≤ L1) (hl2 : 1 ≤ L2) (hu : Up S w) :
    Calls Tryz.prog 184 #[.agg q1.toArray, .agg q2.toArray] w (fun e w' => ∃ p, e = .returned (.agg p.toArray) ∧ Ext w w' ∧ PA (L1 + L2 + 1) S w' p (x1 * x2) (y1 * y2)) := by
  have z0 := Ext.refl w; have hLX : LX = 17592186044416 := rfl; have hLY : LY = 8796093022208 := rfl
  obtain ⟨n1, a1, l1, c1, n2, a2, l2, c2, rfl⟩ := h1.form; obtain ⟨n3, a3, l3, c3, n4, a4, l4, c4, rfl⟩ := h2.form
  obtain ⟨hx1, hy1⟩ := h1.one; obtain ⟨hx2, hy2⟩ := h2.one
  have hu2 : ∀ W : World, w.heap.size + 3 ≤ W.heap.size → Up (SX S [w.heap.size + 2]) W := fun W hW => SX.up (hu.mono (by omega)) (by simp <;> omega)
  refine enter (args := [.agg #[.bool n1, .slice a1 l1 c1, .bool n2, .slice a2 l2 c2], .agg #[.bool n3, .slice a3 l3 c3, .bool n4, .slice a4 l4 c4]]) Tryz.func184 rfl rfl (Nat.le_of_ble_eq_true rfl) ?_
  refine V.seq (V.reg rfl ?_)
  refine vo ?_
  refine bxa rfl ?_
  intro W1 x2 b3 nn4
  have s5 := x2.sz
  have z6 := x2
  refine vo ?_
  refine bxa rfl ?_
  intro W7 x8 b9 nn10
  have s11 := x8.sz
  have z12 := z6.trans x8
  replace b3 := b3.ext x8
  refine vo ?_
  refine xal zc144 ?_
  intro W13 x14 b15 nn16
  have s17 := x14.sz
  have z18 := z12.trans x14
  replace b3 := b3.ext x14
  replace b9 := b9.ext x14
  refine vnil ?_
  refine V.seq (V.regD mixed rfl ?_)
  intro W19 x20
  have s21 := x20.sz
  have z22 := z18.trans x20
  replace b3 := b3.ext x20
  replace b9 := b9.ext x20
  replace b15 := b15.ext x20
  have q23 := Ext.refl W19
  have r24 := b3
  have r25 := b9
  have r26 := b15
  refine tk 0 rfl (by kernel_rfl) q23 (pv (fun _ y27 => rfa rfl fd144_0)) ?_
  refine tk 1 rfl (by kernel_rfl) q23 (pv (fun _ y28 => rldb2 rfl ag46 (r24.ext y28) rfl rfl )) ?_
  refine tk 2 rfl (by kernel_rfl) q23 (pv (fun _ y29 => rfa rfl fd144_0)) ?_
  refine tk 3 rfl (by kernel_rfl) q23 (pv (fun _ y30 => rldb2 rfl ag46 (r25.ext y30) rfl rfl )) ?_
  refine tk 5 rfl (by kernel_rfl) q23 (pv (fun _ y31 => rfa rfl fd144_1)) ?_
  refine tk 6 rfl (by kernel_rfl) q23 (pv (fun _ y32 => rldb2 rfl ag46 (r24.ext y32) rfl rfl )) ?_
  refine tk 7 rfl (by kernel_rfl) q23 (pv (fun _ y33 => rfa rfl fd144_1)) ?_
  refine tk 8 rfl (by kernel_rfl) q23 (pv (fun _ y34 => rldb2 rfl ag46 (r25.ext y34) rfl rfl )) ?_
  refine ef 4 (by kernel_rfl) rfl ?_
  refine xcall e179 (wMul_ok _ _ _ _ _ _ _ _ _ _ _ _ _ _ _ _ (hx1.ext z22) (hx2.ext z22) (by omega) (by omega) (hu2 _ (by omega))) rfl rfl ?_
  rintro _ W36 ⟨_, _, _, _, rfl, x37, hz35⟩
  have s38 := x37.sz
  have z39 := z22.trans x37
  replace b3 := b3.ext x37
  replace b9 := b9.ext x37
  replace b15 := b15.ext x37
  have q40 := q23.trans x37
  refine ⟨_, rfl, ?_⟩
  refine ⟨fun _ => q40, ?_⟩
  refine ef 9 (by kernel_rfl) rfl ?_
  have hm1 := ((hz35).za_mul hx1 hx2).mono (L' := L1 + L2 + 1) (by omega)
  refine xcall e179 (wMul_ok _ _ _ _ _ _ _ _ _ _ _ _ _ _ _ _ (hy1.ext z39) (hy2.ext z39) (by omega) (by omega) (hu2 _ (by omega))) rfl rfl ?_
  rintro _ W42 ⟨_, _, _, _, rfl, x43, hz41⟩
  have s44 := x43.sz
  have z45 := z39.trans x43
  replace b3 := b3.ext x43
  replace b9 := b9.ext x43
  replace b15 := b15.ext x43
  have q46 := q40.trans x43
  refine ⟨_, rfl, ?_⟩
  refine ⟨fun _ => q46, ?_⟩
  refine tk 10 rfl (by kernel_rfl) q46 (pv (fun _ y47 => rbd (ps := [(0, .agg #[_, _]), (1, .agg #[_, _])]) (cs := [.bool _, .slice _ _ _, .bool _, .slice _ _ _]) pl144 rfl rfl)) ?_
  refine ef 11 (by kernel_rfl) rfl ?_
  have hm3 := ((hz41).za_mul hy1 hy2).mono (L' := L1 + L2 + 1) (by omega)
  refine sta (cs' := [_, _, _, _]) b15 rfl rfl sz144 rfl rfl rfl ?_
  intro W48 y49 b15
  have z50 := z45.below (y49.below (by omega))
  replace b3 := b3.wr y49 (by omega)
  replace b9 := b9.wr y49 (by omega)
  have s51 := y49.size
  refine lastT (by kernel_rfl) ?_
  refine dn (by kernel_rfl) ?_
  refine V.ret ?_
  refine ⟨[_], ⟨⟨_, rfl, lvb ag144 b15 rfl⟩, trivial⟩, ?_⟩
  exact ⟨_, rfl, z50, (PA.mk' ((hm1.ck ((x43.ck _).trans (y49.ck (by intro hh; simp [SX] at hh <;> omega))))) ((hm3.ck (y49.ck (by intro hh; simp [SX] at hh <;> omega))))).un⟩
set_option maxHeartbeats 400000 in
theorem divP_ok (q1 q2 : List Value) (x1 y1 x2 y2 : Int) (L1 L2 : Nat) (S S1 S2 : Nat → Prop) (w : World) (h1 : PA L1 S1 w q1 x1 y1) (h2 : PA L2 S2 w q2 x2 y2) (hL : L1 + L2 < LY) (hl1 : 1 ≤ L1) (hl2 : 1 ≤ L2) (hu : Up S w) :
    Calls Tryz.prog 185 #[.agg q1.toArray, .agg q2.toArray] w (fun e w' => ∃ p, e = .returned (.agg p.toArray) ∧ Ext w w' ∧ ∃ x y, PA (L1 + L2) S w' p x y ∧ 0 < y ∧ qv (x1 * y2) (y1 * x2) = Rat.divInt x y) := by
  have z0 := Ext.refl w; have hLX : LX = 17592186044416 := rfl; have hLY : LY = 8796093022208 := rfl
  obtain ⟨n1, a1, l1, c1, n2, a2, l2, c2, rfl⟩ := h1.form; obtain ⟨n3, a3, l3, c3, n4, a4, l4, c4, rfl⟩ := h2.form
  obtain ⟨hx1, hy1⟩ := h1.one; obtain ⟨hx2, hy2⟩ := h2.one
  have hu2 : ∀ W : World, w.heap.size + 3 ≤ W.heap.size → Up (SX S [w.heap.size + 2]) W := fun W hW => SX.up (hu.mono (by omega)) (by simp <;> omega)
  refine enter (args := [.agg #[.bool n1, .slice a1 l1 c1, .bool n2, .slice a2 l2 c2], .agg #[.bool n3, .slice a3 l3 c3, .bool n4, .slice a4 l4 c4]]) Tryz.func185 rfl rfl (Nat.le_of_ble_eq_true rfl) ?_
  refine V.seq (V.reg rfl ?_)
  refine vo ?_
  refine bxa rfl ?_
  intro W1 x2 b3 nn4
  have s5 := x2.sz
  have z6 := x2
  refine vo ?_
  refine bxa rfl ?_
  intro W7 x8 b9 nn10
  have s11 := x8.sz
  have z12 := z6.trans x8
  replace b3 := b3.ext x8
  refine vo ?_
  refine xal zc144 ?_
  intro W13 x14 b15 nn16
  have s17 := x14.sz
  have z18 := z12.trans x14
  replace b3 := b3.ext x14
  replace b9 := b9.ext x14
  refine vnil ?_
  refine V.seq (V.regD mixed rfl ?_)
  intro W19 x20
  have s21 := x20.sz
  have z22 := z18.trans x20
  replace b3 := b3.ext x20
  replace b9 := b9.ext x20
  replace b15 := b15.ext x20
  have q23 := Ext.refl W19
  have r24 := b3
  have r25 := b9
  have r26 := b15
  refine tk 0 rfl (by kernel_rfl) q23 (pv (fun _ y27 => rfa rfl fd144_0)) ?_
  refine tk 1 rfl (by kernel_rfl) q23 (pv (fun _ y28 => rldb2 rfl ag46 (r24.ext y28) rfl rfl )) ?_
  refine tk 2 rfl (by kernel_rfl) q23 (pv (fun _ y29 => rfa rfl fd144_1)) ?_
  refine tk 3 rfl (by kernel_rfl) q23 (pv (fun _ y30 => rldb2 rfl ag46 (r25.ext y30) rfl rfl )) ?_
  refine tk 5 rfl (by kernel_rfl) q23 (pv (fun _ y31 => rfa rfl fd144_1)) ?_
  refine tk 6 rfl (by kernel_rfl) q23 (pv (fun _ y32 => rldb2 rfl ag46 (r24.ext y32) rfl rfl )) ?_
  refine tk 7 rfl (by kernel_rfl) q23 (pv (fun _ y33 => rfa rfl fd144_0)) ?_
  refine tk 8 rfl (by kernel_rfl) q23 (pv (fun _ y34 => rldb2 rfl ag46 (r25.ext y34) rfl rfl )) ?_
  refine ef 4 (by kernel_rfl) rfl ?_
  refine xcall e179 (wMul_ok _ _ _ _ _ _ _ _ _ _ _ _ _ _ _ _ (hx1.ext z22) (hy2.ext z22) (by omega) (by omega) (hu2 _ (by omega))) rfl rfl ?_
  rintro _ W36 ⟨_, _, _, _, rfl, x37, hz35⟩
  have s38 := x37.sz
  have z39 := z22.trans x37
  replace b3 := b3.ext x37
  replace b9 := b9.ext x37
  replace b15 := b15.ext x37
  have q40 := q23.trans x37
  refine ⟨_, rfl, ?_⟩
  refine ⟨fun _ => q40, ?_⟩
  refine ef 9 (by kernel_rfl) rfl ?_
  have hm1 := (hz35).za_mul hx1 hy2
  refine xcall e179 (wMul_ok _ _ _ _ _ _ _ _ _ _ _ _ _ _ _ _ (hy1.ext z39) (hx2.ext z39) (by omega) (by omega) (hu2 _ (by omega))) rfl rfl ?_
  rintro _ W42 ⟨_, _, _, _, rfl, x43, hz41⟩
  have s44 := x43.sz
  have z45 := z39.trans x43
  replace b3 := b3.ext x43
  replace b9 := b9.ext x43
  replace b15 := b15.ext x43
  have q46 := q40.trans x43
  refine ⟨_, rfl, ?_⟩
  refine ⟨fun _ => q46, ?_⟩
  refine tk 10 rfl (by kernel_rfl) q46 (pv (fun _ y47 => rbd (ps := [(0, .agg #[_, _]), (1, .agg #[_, _])]) (cs := [.bool _, .slice _ _ _, .bool _, .slice _ _ _]) pl48 rfl rfl)) ?_
  refine ef 11 (by kernel_rfl) rfl ?_
  have hm3 := (hz41).za_mul hy1 hx2
  have hqd := QA.mk2 (hm1.ext x43) hm3
  refine xcall e139 (of_ok _ _ _ _ _ hqd (by omega) (by omega) (hu2 _ (by omega))) rfl rfl ?_
  rintro _ W55 ⟨_, rfl, x56, px49, py50, hp48, pp51, pe52⟩
  have s57 := x56.sz
  have z58 := z45.trans x56
  replace b3 := b3.ext x56
  replace b9 := b9.ext x56
  replace b15 := b15.ext x56
  have q59 := q46.trans x56
  obtain ⟨_, _, _, _, _, _, _, _, rfl⟩ := hp48.form
  obtain ⟨zx53, zy54⟩ := hp48.one
  refine ⟨_, rfl, ?_⟩
  refine ⟨fun _ => q59, ?_⟩
  refine ef 12 (by kernel_rfl) rfl ?_
  refine sta (cs' := [_, _, _, _]) b15 rfl rfl sz144 rfl rfl rfl ?_
  intro W60 y61 b15
  have z62 := z58.below (y61.below (by omega))
  replace b3 := b3.wr y61 (by omega)
  replace b9 := b9.wr y61 (by omega)
  have s63 := y61.size
  refine lastT (by kernel_rfl) ?_
  refine dn (by kernel_rfl) ?_
  refine V.ret ?_
  refine ⟨[_], ⟨⟨_, rfl, lvb ag144 b15 rfl⟩, trivial⟩, ?_⟩
  exact ⟨_, rfl, z62, _, _, ((hp48.ck (y61.ck (by intro hh; simp [SX] at hh <;> omega)))).un, pp51, pe52⟩
set_option maxHeartbeats 400000 in
theorem dAdd_ok (q1 q2 : List Value) (r1 r2 : Rat) (L1 L2 : Nat) (S S1 S2 : Nat → Prop) (w : World) (h1 : QA L1 S1 w q1 r1) (h2 : QA L2 S2 w q2 r2) (hL : L1 + L2 < LY) (hl1 : 1 ≤ L1) (hl2 : 1 ≤ L2) (hu : Up S w) :
    Calls Tryz.prog 144 #[.string ⟨#[97, 100, 100]⟩, .agg q1.toArray, .agg q2.toArray] w (PQ S (r1 + r2) w) := by
  have z0 := Ext.refl w; have hLX : LX = 17592186044416 := rfl; have hLY : LY = 8796093022208 := rfl
  obtain ⟨n1, a1, l1, c1, n2, a2, l2, c2, rfl⟩ := h1.form; obtain ⟨n3, a3, l3, c3, n4, a4, l4, c4, rfl⟩ := h2.form
  have h1n := h1.sub (S' := fun b => b ≠ w.heap.size + 2) (fun b hb _ => by omega); have h2n := h2.sub (S' := fun b => b ≠ w.heap.size + 2) (fun b hb _ => by omega)
  have hu2 : ∀ W : World, w.heap.size + 3 ≤ W.heap.size → Up (SX S [w.heap.size + 2]) W := fun W hW => SX.up (hu.mono (by omega)) (by simp <;> omega)
  refine enter (args := [.string ⟨#[97, 100, 100]⟩, .agg #[.bool n1, .slice a1 l1 c1, .bool n2, .slice a2 l2 c2], .agg #[.bool n3, .slice a3 l3 c3, .bool n4, .slice a4 l4 c4]]) Tryz.func144 rfl rfl (Nat.le_of_ble_eq_true rfl) ?_
  refine V.seq (V.reg rfl ?_)
  refine vo ?_
  refine bxa rfl ?_
  intro W1 x2 b3 nn4
  have s5 := x2.sz
  have z6 := x2
  refine vo ?_
  refine bxa rfl ?_
  intro W7 x8 b9 nn10
  have s11 := x8.sz
  have z12 := z6.trans x8
  replace b3 := b3.ext x8
  refine vo ?_
  refine xal zc48 ?_
  intro W13 x14 b15 nn16
  have s17 := x14.sz
  have z18 := z12.trans x14
  replace b3 := b3.ext x14
  replace b9 := b9.ext x14
  refine vnil ?_
  refine V.seq (V.reg rfl ?_)
  refine vo ?_
  refine xmm ?_
  intro W19 x20 m21 n22
  have s23 := x20.sz
  have z24 := z18.trans x20
  replace b3 := b3.ext x20
  replace b9 := b9.ext x20
  replace b15 := b15.ext x20
  refine vv (rbd (ps := [(0, .func _ _ _)]) (cs := [.func _ _ _]) pl179 rfl rfl) ?_
  refine vo ?_
  refine xins (v := .agg #[_]) m21 rfl rfl rfl Tryz.underlying180 Tryz.underlying9 rfl ?_
  intro W25 n26 t27 M28 n29
  have z30 := t27.ext z24 (by omega)
  replace b3 := b3.tn t27
  replace b9 := b9.tn t27
  replace b15 := b15.tn t27
  refine vv (rbd (ps := [(0, .func _ _ _)]) (cs := [.func _ _ _]) pl179 rfl rfl) ?_
  refine vo ?_
  refine xins (v := .agg #[_]) M28 rfl rfl rfl Tryz.underlying180 Tryz.underlying9 rfl ?_
  intro W31 n32 t33 M34 n35
  have z36 := t33.ext z30 (by omega)
  replace b3 := b3.tn t33
  replace b9 := b9.tn t33
  replace b15 := b15.tn t33
  refine vv (rbd (ps := [(0, .func _ _ _)]) (cs := [.func _ _ _]) pl179 rfl rfl) ?_
  refine vo ?_
  refine xins (v := .agg #[_]) M34 rfl rfl rfl Tryz.underlying180 Tryz.underlying9 rfl ?_
  intro W37 n38 t39 M40 n41
  have z42 := t39.ext z36 (by omega)
  replace b3 := b3.tn t39
  replace b9 := b9.tn t39
  replace b15 := b15.tn t39
  refine vv (rbd (ps := [(0, .func _ _ _)]) (cs := [.func _ _ _]) pl179 rfl rfl) ?_
  refine vo ?_
  refine xins (v := .agg #[_]) M40 rfl rfl rfl Tryz.underlying180 Tryz.underlying9 rfl ?_
  intro W43 n44 t45 M46 n47
  have z48 := t45.ext z42 (by omega)
  replace b3 := b3.tn t45
  replace b9 := b9.tn t45
  replace b15 := b15.tn t45
  refine vv (rmv (v := .map (some _)) rfl) ?_
  refine vv (ras (v := .map (some _)) rfl) ?_
  refine vnil ?_
  refine V.seq (V.regD mixed rfl ?_)
  intro W49 x50
  have s51 := x50.sz
  have z52 := z48.trans x50
  replace b3 := b3.ext x50
  replace b9 := b9.ext x50
  replace b15 := b15.ext x50
  have M46' := M46.ext x50
  have q53 := Ext.refl W49
  have r54 := b3
  have r55 := b9
  have r56 := b15
  refine tk 0 rfl (by kernel_rfl) q53 (pv (fun _ y57 => rmv (v := .map (some _)) rfl)) ?_
  refine tk 1 rfl (by kernel_rfl) q53 (pv (fun _ y58 => rmv (v := .string _) rfl)) ?_
  refine tk 2 rfl (by kernel_rfl) q53 (pv (fun _ y59 => rlk (v := .agg #[.func _ _ _]) (M46'.ext y59) rfl rfl Tryz.underlying180 Tryz.underlying9 rfl)) ?_
  refine tk 3 rfl (by kernel_rfl) q53 (pv (fun _ y60 => rfl1 (l := [_]) (v := .func _ _ _) rfl fd179_0 ⟨_, _, Tryz.underlying179, rfl, sc177⟩ rfl)) ?_
  refine tk 4 rfl (by kernel_rfl) q53 (pv (fun _ y61 => rldb4 rfl ag48 (r54.ext y61) rfl rfl rfl rfl )) ?_
  refine tk 6 rfl (by kernel_rfl) q53 (pv (fun _ y62 => rldb4 rfl ag48 (r55.ext y62) rfl rfl rfl rfl )) ?_
  refine ef 5 (by kernel_rfl) rfl ?_
  refine xcall e139 (of_ok _ _ _ _ _ (h1n.ext z52) (by omega) (by omega) (fun b hb => by omega)) rfl rfl ?_
  rintro _ W70 ⟨_, rfl, x71, px64, py65, hp63, pp66, pe67⟩
  have s72 := x71.sz
  have z73 := z52.trans x71
  replace b3 := b3.ext x71
  replace b9 := b9.ext x71
  replace b15 := b15.ext x71
  have M46'' := M46'.ext x71
  have q74 := q53.trans x71
  obtain ⟨_, _, _, _, _, _, _, _, rfl⟩ := hp63.form
  obtain ⟨zx68, zy69⟩ := hp63.one
  refine ⟨_, rfl, ?_⟩
  refine ⟨fun _ => q74, ?_⟩
  refine ef 7 (by kernel_rfl) rfl ?_
  refine xcall e139 (of_ok _ _ _ _ _ (h2n.ext z73) (by omega) (by omega) (fun b hb => by omega)) rfl rfl ?_
  rintro _ W82 ⟨_, rfl, x83, px76, py77, hp75, pp78, pe79⟩
  have s84 := x83.sz
  have z85 := z73.trans x83
  replace b3 := b3.ext x83
  replace b9 := b9.ext x83
  replace b15 := b15.ext x83
  have M46''' := M46''.ext x83
  have q86 := q74.trans x83
  obtain ⟨_, _, _, _, _, _, _, _, rfl⟩ := hp75.form
  obtain ⟨zx80, zy81⟩ := hp75.one
  refine ⟨_, rfl, ?_⟩
  refine ⟨fun _ => q86, ?_⟩
  refine ef 8 (by kernel_rfl) rfl ?_
  refine xcall e180 (addP_ok _ _ _ _ _ _ _ _ _ _ _ _ (hp63.ext x83) hp75 (by omega) (by omega) (by omega) (hu2 _ (by omega))) rfl rfl ?_
  rintro _ W88 ⟨_, rfl, x89, hp87⟩
  have s90 := x89.sz
  have z91 := z85.trans x89
  replace b3 := b3.ext x89
  replace b9 := b9.ext x89
  replace b15 := b15.ext x89
  have M46'''' := M46'''.ext x89
  have q92 := q86.trans x89
  obtain ⟨_, _, _, _, _, _, _, _, rfl⟩ := hp87.form
  refine ⟨_, rfl, ?_⟩
  refine ⟨fun _ => q92, ?_⟩
  refine ef 9 (by kernel_rfl) rfl ?_
  refine xcall e153 (least_ok _ _ _ _ _ _ _ hp87 (Int.mul_pos pp66 pp78) (by omega) (by omega) (hu2 _ (by omega))) rfl rfl ?_
  rintro _ W94 ⟨_, rfl, x95, hq93⟩
  have s96 := x95.sz
  have z97 := z91.trans x95
  replace b3 := b3.ext x95
  replace b9 := b9.ext x95
  replace b15 := b15.ext x95
  have M46''''' := M46''''.ext x95
  have q98 := q92.trans x95
  obtain ⟨_, _, _, _, _, _, _, _, rfl⟩ := hq93.form
  refine ⟨_, rfl, ?_⟩
  refine ⟨fun _ => q98, ?_⟩
  refine ef 10 (by kernel_rfl) rfl ?_
  refine sta (cs' := [_, _, _, _]) b15 rfl rfl sz48 rfl rfl rfl ?_
  intro W99 y100 b15
  have z101 := z97.below (y100.below (by omega))
  replace b3 := b3.wr y100 (by omega)
  replace b9 := b9.wr y100 (by omega)
  have s102 := y100.size
  refine lastT (by kernel_rfl) ?_
  refine dn (by kernel_rfl) ?_
  refine V.ret ?_
  refine ⟨[_], ⟨⟨_, rfl, lvb ag48 b15 rfl⟩, trivial⟩, ?_⟩
  refine ⟨_, rfl, z101, ((hq93.ck (y100.ck (by intro hh; simp [SX] at hh <;> omega)))).un.cast ?_⟩
  rw [pe67, pe79, Rat.divInt_add_divInt _ _ (by have := pp66; omega) (by have := pp78; omega)]
set_option maxHeartbeats 400000 in
theorem dSub_ok (q1 q2 : List Value) (r1 r2 : Rat) (L1 L2 : Nat) (S S1 S2 : Nat → Prop) (w : World) (h1 : QA L1 S1 w q1 r1) (h2 : QA L2 S2 w q2 r2) (hL : L1 + L2 < LY) (hl1 : 1 ≤ L1) (hl2 : 1 ≤ L2) (hu : Up S w) :
    Calls Tryz.prog 144 #[.string ⟨#[115, 117, 98]⟩, .agg q1.toArray, .agg q2.toArray] w (PQ S (r1 - r2) w) := by
  have z0 := Ext.refl w; have hLX : LX = 17592186044416 := rfl; have hLY : LY = 8796093022208 := rfl
  obtain ⟨n1, a1, l1, c1, n2, a2, l2, c2, rfl⟩ := h1.form; obtain ⟨n3, a3, l3, c3, n4, a4, l4, c4, rfl⟩ := h2.form
  have h1n := h1.sub (S' := fun b => b ≠ w.heap.size + 2) (fun b hb _ => by omega); have h2n := h2.sub (S' := fun b => b ≠ w.heap.size + 2) (fun b hb _ => by omega)
  have hu2 : ∀ W : World, w.heap.size + 3 ≤ W.heap.size → Up (SX S [w.heap.size + 2]) W := fun W hW => SX.up (hu.mono (by omega)) (by simp <;> omega)
  refine enter (args := [.string ⟨#[115, 117, 98]⟩, .agg #[.bool n1, .slice a1 l1 c1, .bool n2, .slice a2 l2 c2], .agg #[.bool n3, .slice a3 l3 c3, .bool n4, .slice a4 l4 c4]]) Tryz.func144 rfl rfl (Nat.le_of_ble_eq_true rfl) ?_
  refine V.seq (V.reg rfl ?_)
  refine vo ?_
  refine bxa rfl ?_
  intro W1 x2 b3 nn4
  have s5 := x2.sz
  have z6 := x2
  refine vo ?_
  refine bxa rfl ?_
  intro W7 x8 b9 nn10
  have s11 := x8.sz
  have z12 := z6.trans x8
  replace b3 := b3.ext x8
  refine vo ?_
  refine xal zc48 ?_
  intro W13 x14 b15 nn16
  have s17 := x14.sz
  have z18 := z12.trans x14
  replace b3 := b3.ext x14
  replace b9 := b9.ext x14
  refine vnil ?_
  refine V.seq (V.reg rfl ?_)
  refine vo ?_
  refine xmm ?_
  intro W19 x20 m21 n22
  have s23 := x20.sz
  have z24 := z18.trans x20
  replace b3 := b3.ext x20
  replace b9 := b9.ext x20
  replace b15 := b15.ext x20
  refine vv (rbd (ps := [(0, .func _ _ _)]) (cs := [.func _ _ _]) pl179 rfl rfl) ?_
  refine vo ?_
  refine xins (v := .agg #[_]) m21 rfl rfl rfl Tryz.underlying180 Tryz.underlying9 rfl ?_
  intro W25 n26 t27 M28 n29
  have z30 := t27.ext z24 (by omega)
  replace b3 := b3.tn t27
  replace b9 := b9.tn t27
  replace b15 := b15.tn t27
  refine vv (rbd (ps := [(0, .func _ _ _)]) (cs := [.func _ _ _]) pl179 rfl rfl) ?_
  refine vo ?_
  refine xins (v := .agg #[_]) M28 rfl rfl rfl Tryz.underlying180 Tryz.underlying9 rfl ?_
  intro W31 n32 t33 M34 n35
  have z36 := t33.ext z30 (by omega)
  replace b3 := b3.tn t33
  replace b9 := b9.tn t33
  replace b15 := b15.tn t33
  refine vv (rbd (ps := [(0, .func _ _ _)]) (cs := [.func _ _ _]) pl179 rfl rfl) ?_
  refine vo ?_
  refine xins (v := .agg #[_]) M34 rfl rfl rfl Tryz.underlying180 Tryz.underlying9 rfl ?_
  intro W37 n38 t39 M40 n41
  have z42 := t39.ext z36 (by omega)
  replace b3 := b3.tn t39
  replace b9 := b9.tn t39
  replace b15 := b15.tn t39
  refine vv (rbd (ps := [(0, .func _ _ _)]) (cs := [.func _ _ _]) pl179 rfl rfl) ?_
  refine vo ?_
  refine xins (v := .agg #[_]) M40 rfl rfl rfl Tryz.underlying180 Tryz.underlying9 rfl ?_
  intro W43 n44 t45 M46 n47
  have z48 := t45.ext z42 (by omega)
  replace b3 := b3.tn t45
  replace b9 := b9.tn t45
  replace b15 := b15.tn t45
  refine vv (rmv (v := .map (some _)) rfl) ?_
  refine vv (ras (v := .map (some _)) rfl) ?_
  refine vnil ?_
  refine V.seq (V.regD mixed rfl ?_)
  intro W49 x50
  have s51 := x50.sz
  have z52 := z48.trans x50
  replace b3 := b3.ext x50
  replace b9 := b9.ext x50
  replace b15 := b15.ext x50
  have M46' := M46.ext x50
  have q53 := Ext.refl W49
  have r54 := b3
  have r55 := b9
  have r56 := b15
  refine tk 0 rfl (by kernel_rfl) q53 (pv (fun _ y57 => rmv (v := .map (some _)) rfl)) ?_
  refine tk 1 rfl (by kernel_rfl) q53 (pv (fun _ y58 => rmv (v := .string _) rfl)) ?_
  refine tk 2 rfl (by kernel_rfl) q53 (pv (fun _ y59 => rlk (v := .agg #[.func _ _ _]) (M46'.ext y59) rfl rfl Tryz.underlying180 Tryz.underlying9 rfl)) ?_
  refine tk 3 rfl (by kernel_rfl) q53 (pv (fun _ y60 => rfl1 (l := [_]) (v := .func _ _ _) rfl fd179_0 ⟨_, _, Tryz.underlying179, rfl, sc177⟩ rfl)) ?_
  refine tk 4 rfl (by kernel_rfl) q53 (pv (fun _ y61 => rldb4 rfl ag48 (r54.ext y61) rfl rfl rfl rfl )) ?_
  refine tk 6 rfl (by kernel_rfl) q53 (pv (fun _ y62 => rldb4 rfl ag48 (r55.ext y62) rfl rfl rfl rfl )) ?_
  refine ef 5 (by kernel_rfl) rfl ?_
  refine xcall e139 (of_ok _ _ _ _ _ (h1n.ext z52) (by omega) (by omega) (fun b hb => by omega)) rfl rfl ?_
  rintro _ W70 ⟨_, rfl, x71, px64, py65, hp63, pp66, pe67⟩
  have s72 := x71.sz
  have z73 := z52.trans x71
  replace b3 := b3.ext x71
  replace b9 := b9.ext x71
  replace b15 := b15.ext x71
  have M46'' := M46'.ext x71
  have q74 := q53.trans x71
  obtain ⟨_, _, _, _, _, _, _, _, rfl⟩ := hp63.form
  obtain ⟨zx68, zy69⟩ := hp63.one
  refine ⟨_, rfl, ?_⟩
  refine ⟨fun _ => q74, ?_⟩
  refine ef 7 (by kernel_rfl) rfl ?_
  refine xcall e139 (of_ok _ _ _ _ _ (h2n.ext z73) (by omega) (by omega) (fun b hb => by omega)) rfl rfl ?_
  rintro _ W82 ⟨_, rfl, x83, px76, py77, hp75, pp78, pe79⟩
  have s84 := x83.sz
  have z85 := z73.trans x83
  replace b3 := b3.ext x83
  replace b9 := b9.ext x83
  replace b15 := b15.ext x83
  have M46''' := M46''.ext x83
  have q86 := q74.trans x83
  obtain ⟨_, _, _, _, _, _, _, _, rfl⟩ := hp75.form
  obtain ⟨zx80, zy81⟩ := hp75.one
  refine ⟨_, rfl, ?_⟩
  refine ⟨fun _ => q86, ?_⟩
  refine ef 8 (by kernel_rfl) rfl ?_
  refine xcall e182 (subP_ok _ _ _ _ _ _ _ _ _ _ _ _ (hp63.ext x83) hp75 (by omega) (by omega) (by omega) (hu2 _ (by omega))) rfl rfl ?_
  rintro _ W88 ⟨_, rfl, x89, hp87⟩
  have s90 := x89.sz
  have z91 := z85.trans x89
  replace b3 := b3.ext x89
  replace b9 := b9.ext x89
  replace b15 := b15.ext x89
  have M46'''' := M46'''.ext x89
  have q92 := q86.trans x89
  obtain ⟨_, _, _, _, _, _, _, _, rfl⟩ := hp87.form
  refine ⟨_, rfl, ?_⟩
  refine ⟨fun _ => q92, ?_⟩
  refine ef 9 (by kernel_rfl) rfl ?_
  refine xcall e153 (least_ok _ _ _ _ _ _ _ hp87 (Int.mul_pos pp66 pp78) (by omega) (by omega) (hu2 _ (by omega))) rfl rfl ?_
  rintro _ W94 ⟨_, rfl, x95, hq93⟩
  have s96 := x95.sz
  have z97 := z91.trans x95
  replace b3 := b3.ext x95
  replace b9 := b9.ext x95
  replace b15 := b15.ext x95
  have M46''''' := M46''''.ext x95
  have q98 := q92.trans x95
  obtain ⟨_, _, _, _, _, _, _, _, rfl⟩ := hq93.form
  refine ⟨_, rfl, ?_⟩
  refine ⟨fun _ => q98, ?_⟩
  refine ef 10 (by kernel_rfl) rfl ?_
  refine sta (cs' := [_, _, _, _]) b15 rfl rfl sz48 rfl rfl rfl ?_
  intro W99 y100 b15
  have z101 := z97.below (y100.below (by omega))
  replace b3 := b3.wr y100 (by omega)
  replace b9 := b9.wr y100 (by omega)
  have s102 := y100.size
  refine lastT (by kernel_rfl) ?_
  refine dn (by kernel_rfl) ?_
  refine V.ret ?_
  refine ⟨[_], ⟨⟨_, rfl, lvb ag48 b15 rfl⟩, trivial⟩, ?_⟩
  refine ⟨_, rfl, z101, ((hq93.ck (y100.ck (by intro hh; simp [SX] at hh <;> omega)))).un.cast ?_⟩
  rw [pe67, pe79, Rat.divInt_sub_divInt _ _ (by have := pp66; omega) (by have := pp78; omega)]
set_option maxHeartbeats 400000 in
theorem dMul_ok (q1 q2 : List Value) (r1 r2 : Rat) (L1 L2 : Nat) (S S1 S2 : Nat → Prop) (w : World) (h1 : QA L1 S1 w q1 r1) (h2 : QA L2 S2 w q2 r2) (hL : L1 + L2 < LY) (hl1 : 1 ≤ L1) (hl2 : 1 ≤ L2) (hu : Up S w) :
    Calls Tryz.prog 144 #[.string ⟨#[109, 117, 108]⟩, .agg q1.toArray, .agg q2.toArray] w (PQ S (r1 * r2) w) := by
  have z0 := Ext.refl w; have hLX : LX = 17592186044416 := rfl; have hLY : LY = 8796093022208 := rfl
  obtain ⟨n1, a1, l1, c1, n2, a2, l2, c2, rfl⟩ := h1.form; obtain ⟨n3, a3, l3, c3, n4, a4, l4, c4, rfl⟩ := h2.form
  have h1n := h1.sub (S' := fun b => b ≠ w.heap.size + 2) (fun b hb _ => by omega); have h2n := h2.sub (S' := fun b => b ≠ w.heap.size + 2) (fun b hb _ => by omega)
  have hu2 : ∀ W : World, w.heap.size + 3 ≤ W.heap.size → Up (SX S [w.heap.size + 2]) W := fun W hW => SX.up (hu.mono (by omega)) (by simp <;> omega)
  refine enter (args := [.string ⟨#[109, 117, 108]⟩, .agg #[.bool n1, .slice a1 l1 c1, .bool n2, .slice a2 l2 c2], .agg #[.bool n3, .slice a3 l3 c3, .bool n4, .slice a4 l4 c4]]) Tryz.func144 rfl rfl (Nat.le_of_ble_eq_true rfl) ?_
  refine V.seq (V.reg rfl ?_)
  refine vo ?_
  refine bxa rfl ?_
  intro W1 x2 b3 nn4
  have s5 := x2.sz
  have z6 := x2
  refine vo ?_
  refine bxa rfl ?_
  intro W7 x8 b9 nn10
  have s11 := x8.sz
  have z12 := z6.trans x8
  replace b3 := b3.ext x8
  refine vo ?_
  refine xal zc48 ?_
  intro W13 x14 b15 nn16
  have s17 := x14.sz
  have z18 := z12.trans x14
  replace b3 := b3.ext x14
  replace b9 := b9.ext x14
  refine vnil ?_
  refine V.seq (V.reg rfl ?_)
  refine vo ?_
  refine xmm ?_
  intro W19 x20 m21 n22
  have s23 := x20.sz
  have z24 := z18.trans x20
  replace b3 := b3.ext x20
  replace b9 := b9.ext x20
  replace b15 := b15.ext x20
  refine vv (rbd (ps := [(0, .func _ _ _)]) (cs := [.func _ _ _]) pl179 rfl rfl) ?_
  refine vo ?_
  refine xins (v := .agg #[_]) m21 rfl rfl rfl Tryz.underlying180 Tryz.underlying9 rfl ?_
  intro W25 n26 t27 M28 n29
  have z30 := t27.ext z24 (by omega)
  replace b3 := b3.tn t27
  replace b9 := b9.tn t27
  replace b15 := b15.tn t27
  refine vv (rbd (ps := [(0, .func _ _ _)]) (cs := [.func _ _ _]) pl179 rfl rfl) ?_
  refine vo ?_
  refine xins (v := .agg #[_]) M28 rfl rfl rfl Tryz.underlying180 Tryz.underlying9 rfl ?_
  intro W31 n32 t33 M34 n35
  have z36 := t33.ext z30 (by omega)
  replace b3 := b3.tn t33
  replace b9 := b9.tn t33
  replace b15 := b15.tn t33
  refine vv (rbd (ps := [(0, .func _ _ _)]) (cs := [.func _ _ _]) pl179 rfl rfl) ?_
  refine vo ?_
  refine xins (v := .agg #[_]) M34 rfl rfl rfl Tryz.underlying180 Tryz.underlying9 rfl ?_
  intro W37 n38 t39 M40 n41
  have z42 := t39.ext z36 (by omega)
  replace b3 := b3.tn t39
  replace b9 := b9.tn t39
  replace b15 := b15.tn t39
  refine vv (rbd (ps := [(0, .func _ _ _)]) (cs := [.func _ _ _]) pl179 rfl rfl) ?_
  refine vo ?_
  refine xins (v := .agg #[_]) M40 rfl rfl rfl Tryz.underlying180 Tryz.underlying9 rfl ?_
  intro W43 n44 t45 M46 n47
  have z48 := t45.ext z42 (by omega)
  replace b3 := b3.tn t45
  replace b9 := b9.tn t45
  replace b15 := b15.tn t45
  refine vv (rmv (v := .map (some _)) rfl) ?_
  refine vv (ras (v := .map (some _)) rfl) ?_
  refine vnil ?_
  refine V.seq (V.regD mixed rfl ?_)
  intro W49 x50
  have s51 := x50.sz
  have z52 := z48.trans x50
  replace b3 := b3.ext x50
  replace b9 := b9.ext x50
  replace b15 := b15.ext x50
  have M46' := M46.ext x50
  have q53 := Ext.refl W49
  have r54 := b3
  have r55 := b9
  have r56 := b15
  refine tk 0 rfl (by kernel_rfl) q53 (pv (fun _ y57 => rmv (v := .map (some _)) rfl)) ?_
  refine tk 1 rfl (by kernel_rfl) q53 (pv (fun _ y58 => rmv (v := .string _) rfl)) ?_
  refine tk 2 rfl (by kernel_rfl) q53 (pv (fun _ y59 => rlk (v := .agg #[.func _ _ _]) (M46'.ext y59) rfl rfl Tryz.underlying180 Tryz.underlying9 rfl)) ?_
  refine tk 3 rfl (by kernel_rfl) q53 (pv (fun _ y60 => rfl1 (l := [_]) (v := .func _ _ _) rfl fd179_0 ⟨_, _, Tryz.underlying179, rfl, sc177⟩ rfl)) ?_
  refine tk 4 rfl (by kernel_rfl) q53 (pv (fun _ y61 => rldb4 rfl ag48 (r54.ext y61) rfl rfl rfl rfl )) ?_
  refine tk 6 rfl (by kernel_rfl) q53 (pv (fun _ y62 => rldb4 rfl ag48 (r55.ext y62) rfl rfl rfl rfl )) ?_
  refine ef 5 (by kernel_rfl) rfl ?_
  refine xcall e139 (of_ok _ _ _ _ _ (h1n.ext z52) (by omega) (by omega) (fun b hb => by omega)) rfl rfl ?_
  rintro _ W70 ⟨_, rfl, x71, px64, py65, hp63, pp66, pe67⟩
  have s72 := x71.sz
  have z73 := z52.trans x71
  replace b3 := b3.ext x71
  replace b9 := b9.ext x71
  replace b15 := b15.ext x71
  have M46'' := M46'.ext x71
  have q74 := q53.trans x71
  obtain ⟨_, _, _, _, _, _, _, _, rfl⟩ := hp63.form
  obtain ⟨zx68, zy69⟩ := hp63.one
  refine ⟨_, rfl, ?_⟩
  refine ⟨fun _ => q74, ?_⟩
  refine ef 7 (by kernel_rfl) rfl ?_
  refine xcall e139 (of_ok _ _ _ _ _ (h2n.ext z73) (by omega) (by omega) (fun b hb => by omega)) rfl rfl ?_
  rintro _ W82 ⟨_, rfl, x83, px76, py77, hp75, pp78, pe79⟩
  have s84 := x83.sz
  have z85 := z73.trans x83
  replace b3 := b3.ext x83
  replace b9 := b9.ext x83
  replace b15 := b15.ext x83
  have M46''' := M46''.ext x83
  have q86 := q74.trans x83
  obtain ⟨_, _, _, _, _, _, _, _, rfl⟩ := hp75.form
  obtain ⟨zx80, zy81⟩ := hp75.one
  refine ⟨_, rfl, ?_⟩
  refine ⟨fun _ => q86, ?_⟩
  refine ef 8 (by kernel_rfl) rfl ?_
  refine xcall e184 (mulP_ok _ _ _ _ _ _ _ _ _ _ _ _ (hp63.ext x83) hp75 (by omega) (by omega) (by omega) (hu2 _ (by omega))) rfl rfl ?_
  rintro _ W88 ⟨_, rfl, x89, hp87⟩
  have s90 := x89.sz
  have z91 := z85.trans x89
  replace b3 := b3.ext x89
  replace b9 := b9.ext x89
  replace b15 := b15.ext x89
  have M46'''' := M46'''.ext x89
  have q92 := q86.trans x89
  obtain ⟨_, _, _, _, _, _, _, _, rfl⟩ := hp87.form
  refine ⟨_, rfl, ?_⟩
  refine ⟨fun _ => q92, ?_⟩
  refine ef 9 (by kernel_rfl) rfl ?_
  refine xcall e153 (least_ok _ _ _ _ _ _ _ hp87 (Int.mul_pos pp66 pp78) (by omega) (by omega) (hu2 _ (by omega))) rfl rfl ?_
  rintro _ W94 ⟨_, rfl, x95, hq93⟩
  have s96 := x95.sz
  have z97 := z91.trans x95
  replace b3 := b3.ext x95
  replace b9 := b9.ext x95
  replace b15 := b15.ext x95
  have M46''''' := M46''''.ext x95
  have q98 := q92.trans x95
  obtain ⟨_, _, _, _, _, _, _, _, rfl⟩ := hq93.form
  refine ⟨_, rfl, ?_⟩
  refine ⟨fun _ => q98, ?_⟩
  refine ef 10 (by kernel_rfl) rfl ?_
  refine sta (cs' := [_, _, _, _]) b15 rfl rfl sz48 rfl rfl rfl ?_
  intro W99 y100 b15
  have z101 := z97.below (y100.below (by omega))
  replace b3 := b3.wr y100 (by omega)
  replace b9 := b9.wr y100 (by omega)
  have s102 := y100.size
  refine lastT (by kernel_rfl) ?_
  refine dn (by kernel_rfl) ?_
  refine V.ret ?_
  refine ⟨[_], ⟨⟨_, rfl, lvb ag48 b15 rfl⟩, trivial⟩, ?_⟩
  refine ⟨_, rfl, z101, ((hq93.ck (y100.ck (by intro hh; simp [SX] at hh <;> omega)))).un.cast ?_⟩
  rw [pe67, pe79, Rat.divInt_mul_divInt _ _]

theorem div_dv {x1 y1 x2 y2 : Int} (h1 : 0 < y1) (h2 : 0 < y2) (hn : Rat.divInt x2 y2 ≠ 0) : Rat.divInt x1 y1 / Rat.divInt x2 y2 = qv (x1 * y2) (y1 * x2) := by
  have hx : x2 ≠ 0 := by rintro rfl; exact hn (Rat.zero_divInt _)
  rw [qvn (Int.mul_ne_zero (by omega) hx), Rat.div_def, Rat.inv_divInt, Rat.divInt_mul_divInt]

set_option maxHeartbeats 400000 in
theorem dDiv_ok (q1 q2 : List Value) (r1 r2 : Rat) (L1 L2 : Nat) (S S1 S2 : Nat → Prop) (w : World) (h1 : QA L1 S1 w q1 r1) (h2 : QA L2 S2 w q2 r2) (hL : L1 + L2 < LY) (hl1 : 1 ≤ L1) (hl2 : 1 ≤ L2) (hu : Up S w) (hnz : r2 ≠ 0) :
    Calls Tryz.prog 144 #[.string ⟨#[100, 105, 118]⟩, .agg q1.toArray, .agg q2.toArray] w (PQ S (r1 / r2) w) := by
  have z0 := Ext.refl w; have hLX : LX = 17592186044416 := rfl; have hLY : LY = 8796093022208 := rfl
  obtain ⟨n1, a1, l1, c1, n2, a2, l2, c2, rfl⟩ := h1.form; obtain ⟨n3, a3, l3, c3, n4, a4, l4, c4, rfl⟩ := h2.form
  have h1n := h1.sub (S' := fun b => b ≠ w.heap.size + 2) (fun b hb _ => by omega); have h2n := h2.sub (S' := fun b => b ≠ w.heap.size + 2) (fun b hb _ => by omega)
  have hu2 : ∀ W : World, w.heap.size + 3 ≤ W.heap.size → Up (SX S [w.heap.size + 2]) W := fun W hW => SX.up (hu.mono (by omega)) (by simp <;> omega)
  refine enter (args := [.string ⟨#[100, 105, 118]⟩, .agg #[.bool n1, .slice a1 l1 c1, .bool n2, .slice a2 l2 c2], .agg #[.bool n3, .slice a3 l3 c3, .bool n4, .slice a4 l4 c4]]) Tryz.func144 rfl rfl (Nat.le_of_ble_eq_true rfl) ?_
  refine V.seq (V.reg rfl ?_)
  refine vo ?_
  refine bxa rfl ?_
  intro W1 x2 b3 nn4
  have s5 := x2.sz
  have z6 := x2
  refine vo ?_
  refine bxa rfl ?_
  intro W7 x8 b9 nn10
  have s11 := x8.sz
  have z12 := z6.trans x8
  replace b3 := b3.ext x8
  refine vo ?_
  refine xal zc48 ?_
  intro W13 x14 b15 nn16
  have s17 := x14.sz
  have z18 := z12.trans x14
  replace b3 := b3.ext x14
  replace b9 := b9.ext x14
  refine vnil ?_
  refine V.seq (V.reg rfl ?_)
  refine vo ?_
  refine xmm ?_
  intro W19 x20 m21 n22
  have s23 := x20.sz
  have z24 := z18.trans x20
  replace b3 := b3.ext x20
  replace b9 := b9.ext x20
  replace b15 := b15.ext x20
  refine vv (rbd (ps := [(0, .func _ _ _)]) (cs := [.func _ _ _]) pl179 rfl rfl) ?_
  refine vo ?_
  refine xins (v := .agg #[_]) m21 rfl rfl rfl Tryz.underlying180 Tryz.underlying9 rfl ?_
  intro W25 n26 t27 M28 n29
  have z30 := t27.ext z24 (by omega)
  replace b3 := b3.tn t27
  replace b9 := b9.tn t27
  replace b15 := b15.tn t27
  refine vv (rbd (ps := [(0, .func _ _ _)]) (cs := [.func _ _ _]) pl179 rfl rfl) ?_
  refine vo ?_
  refine xins (v := .agg #[_]) M28 rfl rfl rfl Tryz.underlying180 Tryz.underlying9 rfl ?_
  intro W31 n32 t33 M34 n35
  have z36 := t33.ext z30 (by omega)
  replace b3 := b3.tn t33
  replace b9 := b9.tn t33
  replace b15 := b15.tn t33
  refine vv (rbd (ps := [(0, .func _ _ _)]) (cs := [.func _ _ _]) pl179 rfl rfl) ?_
  refine vo ?_
  refine xins (v := .agg #[_]) M34 rfl rfl rfl Tryz.underlying180 Tryz.underlying9 rfl ?_
  intro W37 n38 t39 M40 n41
  have z42 := t39.ext z36 (by omega)
  replace b3 := b3.tn t39
  replace b9 := b9.tn t39
  replace b15 := b15.tn t39
  refine vv (rbd (ps := [(0, .func _ _ _)]) (cs := [.func _ _ _]) pl179 rfl rfl) ?_
  refine vo ?_
  refine xins (v := .agg #[_]) M40 rfl rfl rfl Tryz.underlying180 Tryz.underlying9 rfl ?_
  intro W43 n44 t45 M46 n47
  have z48 := t45.ext z42 (by omega)
  replace b3 := b3.tn t45
  replace b9 := b9.tn t45
  replace b15 := b15.tn t45
  refine vv (rmv (v := .map (some _)) rfl) ?_
  refine vv (ras (v := .map (some _)) rfl) ?_
  refine vnil ?_
  refine V.seq (V.regD mixed rfl ?_)
  intro W49 x50
  have s51 := x50.sz
  have z52 := z48.trans x50
  replace b3 := b3.ext x50
  replace b9 := b9.ext x50
  replace b15 := b15.ext x50
  have M46' := M46.ext x50
  have q53 := Ext.refl W49
  have r54 := b3
  have r55 := b9
  have r56 := b15
  refine tk 0 rfl (by kernel_rfl) q53 (pv (fun _ y57 => rmv (v := .map (some _)) rfl)) ?_
  refine tk 1 rfl (by kernel_rfl) q53 (pv (fun _ y58 => rmv (v := .string _) rfl)) ?_
  refine tk 2 rfl (by kernel_rfl) q53 (pv (fun _ y59 => rlk (v := .agg #[.func _ _ _]) (M46'.ext y59) rfl rfl Tryz.underlying180 Tryz.underlying9 rfl)) ?_
  refine tk 3 rfl (by kernel_rfl) q53 (pv (fun _ y60 => rfl1 (l := [_]) (v := .func _ _ _) rfl fd179_0 ⟨_, _, Tryz.underlying179, rfl, sc177⟩ rfl)) ?_
  refine tk 4 rfl (by kernel_rfl) q53 (pv (fun _ y61 => rldb4 rfl ag48 (r54.ext y61) rfl rfl rfl rfl )) ?_
  refine tk 6 rfl (by kernel_rfl) q53 (pv (fun _ y62 => rldb4 rfl ag48 (r55.ext y62) rfl rfl rfl rfl )) ?_
  refine ef 5 (by kernel_rfl) rfl ?_
  refine xcall e139 (of_ok _ _ _ _ _ (h1n.ext z52) (by omega) (by omega) (fun b hb => by omega)) rfl rfl ?_
  rintro _ W70 ⟨_, rfl, x71, px64, py65, hp63, pp66, pe67⟩
  have s72 := x71.sz
  have z73 := z52.trans x71
  replace b3 := b3.ext x71
  replace b9 := b9.ext x71
  replace b15 := b15.ext x71
  have M46'' := M46'.ext x71
  have q74 := q53.trans x71
  obtain ⟨_, _, _, _, _, _, _, _, rfl⟩ := hp63.form
  obtain ⟨zx68, zy69⟩ := hp63.one
  refine ⟨_, rfl, ?_⟩
  refine ⟨fun _ => q74, ?_⟩
  refine ef 7 (by kernel_rfl) rfl ?_
  refine xcall e139 (of_ok _ _ _ _ _ (h2n.ext z73) (by omega) (by omega) (fun b hb => by omega)) rfl rfl ?_
  rintro _ W82 ⟨_, rfl, x83, px76, py77, hp75, pp78, pe79⟩
  have s84 := x83.sz
  have z85 := z73.trans x83
  replace b3 := b3.ext x83
  replace b9 := b9.ext x83
  replace b15 := b15.ext x83
  have M46''' := M46''.ext x83
  have q86 := q74.trans x83
  obtain ⟨_, _, _, _, _, _, _, _, rfl⟩ := hp75.form
  obtain ⟨zx80, zy81⟩ := hp75.one
  refine ⟨_, rfl, ?_⟩
  refine ⟨fun _ => q86, ?_⟩
  refine ef 8 (by kernel_rfl) rfl ?_
  refine xcall e185 (divP_ok _ _ _ _ _ _ _ _ _ _ _ _ (hp63.ext x83) hp75 (by omega) (by omega) (by omega) (hu2 _ (by omega))) rfl rfl ?_
  rintro _ W94 ⟨_, rfl, x95, px88, py89, hp87, pp90, pe91⟩
  have s96 := x95.sz
  have z97 := z85.trans x95
  replace b3 := b3.ext x95
  replace b9 := b9.ext x95
  replace b15 := b15.ext x95
  have M46'''' := M46'''.ext x95
  have q98 := q86.trans x95
  obtain ⟨_, _, _, _, _, _, _, _, rfl⟩ := hp87.form
  obtain ⟨zx92, zy93⟩ := hp87.one
  refine ⟨_, rfl, ?_⟩
  refine ⟨fun _ => q98, ?_⟩
  refine ef 9 (by kernel_rfl) rfl ?_
  refine xcall e153 (least_ok _ _ _ _ _ _ _ hp87 pp90 (by omega) (by omega) (hu2 _ (by omega))) rfl rfl ?_
  rintro _ W100 ⟨_, rfl, x101, hq99⟩
  have s102 := x101.sz
  have z103 := z97.trans x101
  replace b3 := b3.ext x101
  replace b9 := b9.ext x101
  replace b15 := b15.ext x101
  have M46''''' := M46''''.ext x101
  have q104 := q98.trans x101
  obtain ⟨_, _, _, _, _, _, _, _, rfl⟩ := hq99.form
  refine ⟨_, rfl, ?_⟩
  refine ⟨fun _ => q104, ?_⟩
  refine ef 10 (by kernel_rfl) rfl ?_
  refine sta (cs' := [_, _, _, _]) b15 rfl rfl sz48 rfl rfl rfl ?_
  intro W105 y106 b15
  have z107 := z103.below (y106.below (by omega))
  replace b3 := b3.wr y106 (by omega)
  replace b9 := b9.wr y106 (by omega)
  have s108 := y106.size
  refine lastT (by kernel_rfl) ?_
  refine dn (by kernel_rfl) ?_
  refine V.ret ?_
  refine ⟨[_], ⟨⟨_, rfl, lvb ag48 b15 rfl⟩, trivial⟩, ?_⟩
  refine ⟨_, rfl, z107, ((hq99.ck (y106.ck (by intro hh; simp [SX] at hh <;> omega)))).un.cast ?_⟩
  rw [← pe91, pe67, pe79]
  have hp1 := pp66
  have hp2 := pp78
  rw [pe79] at hnz
  exact (div_dv hp1 hp2 hnz).symm
end Go.Proofs.YtknbjfefeeojlaaGreat

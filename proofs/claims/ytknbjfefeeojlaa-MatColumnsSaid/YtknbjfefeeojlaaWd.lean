/- Package whole: the exported operations. -/
import Derived.Test.YtknbjfefeeojlaaWc
namespace Go.Proofs.Ytknbjfefeeojlaa
open Go.RowKit
attribute [local irreducible] RV VH V OpF Calls
theorem RN.top {k : IntKind} {S : Nat → Prop} {W : World} {a : Option Addr} {n c : Nat} {xs : List Int} (h : RN k S W a n c xs) : RN k (fun _ => True) W a n c xs := h.sub fun _ _ _ => trivial

set_option maxHeartbeats 400000 in
theorem wAdd_ok (n1 n2 : Bool) (a1 a2 : Option Addr) (l1 c1 l2 c2 : Nat) (z1 z2 : Int) (L1 L2 : Nat) (S S1 S2 : Nat → Prop) (w : World) (h1 : ZA L1 S1 w n1 a1 l1 c1 z1) (h2 : ZA L2 S2 w n2 a2 l2 c2 z2) (hL1 : L1 ≤ LY) (hL2 : L2 ≤ LY) (hu : Up S w) :
    Calls Try.prog 106 #[.agg #[.bool n1, .slice a1 l1 c1], .agg #[.bool n2, .slice a2 l2 c2]] w (PZ S (z1 + z2) w) := by
  have z0 := Ext.refl w; have hLX : LX = 17592186044416 := rfl; have hLY : LY = 8796093022208 := rfl
  obtain ⟨xs, hx, q1, rfl⟩ := h1; obtain ⟨ys, hy, q2, rfl⟩ := h2
  have hvx := vl_nonneg (B := b32) (by decide) hx.dg32; have hvy := vl_nonneg (B := b32) (by decide) hy.dg32
  have lx := hx.len; have ly := hy.len
  have hu2 : ∀ W : World, w.heap.size + 3 ≤ W.heap.size → Up (SX S [w.heap.size + 2]) W := fun W hW => SX.up (hu.mono (by omega)) (by simp <;> omega)
  refine enter (args := [.agg #[.bool n1, .slice a1 l1 c1], .agg #[.bool n2, .slice a2 l2 c2]]) Try.func106 rfl rfl (Nat.le_of_ble_eq_true rfl) ?_
  refine V.seq (V.reg rfl ?_)
  refine vo ?_
  refine bxa rfl ?_
  intro W1 x2 b3 nn4
  have s5 := x2.sz
  have z6 := x2
  refine vo ?_
  refine bxa rfl ?_
  intro W7 x8 b9 nn10
  have s11 := x8.sz
  have z12 := z6.trans x8
  replace b3 := b3.ext x8
  refine vo ?_
  refine xal zc41 ?_
  intro W13 x14 b15 nn16
  have s17 := x14.sz
  have z18 := z12.trans x14
  replace b3 := b3.ext x14
  replace b9 := b9.ext x14
  refine vnil ?_
  refine V.seq (V.regD mixed rfl ?_)
  intro W19 x20
  have s21 := x20.sz
  have z22 := z18.trans x20
  replace b3 := b3.ext x20
  replace b9 := b9.ext x20
  replace b15 := b15.ext x20
  have q23 := Ext.refl W19
  have r24 := b3
  have r25 := b9
  have r26 := b15
  refine tk 0 rfl (by kernel_rfl) q23 (pv (fun _ y27 => rfa rfl fd41_1)) ?_
  refine tk 1 rfl (by kernel_rfl) q23 (pv (fun _ y28 => rldb (v := .slice _ _ _) rfl sc39 (r24.ext y28) rfl)) ?_
  refine tk 3 rfl (by kernel_rfl) q23 (pv (fun _ y29 => rfa rfl fd41_1)) ?_
  refine tk 4 rfl (by kernel_rfl) q23 (pv (fun _ y30 => rldb (v := .slice _ _ _) rfl sc39 (r25.ext y30) rfl)) ?_
  refine ef 2 (by kernel_rfl) rfl ?_
  refine xcall e96 (trim_ok _ _ _ _ _ _ (hx.ext z22)) rfl rfl ?_
  rintro _ _ ⟨m32, rfl, hr31, hm33, rfl⟩
  refine ⟨_, rfl, ?_⟩
  refine ⟨fun _ => q23, ?_⟩
  refine ef 5 (by kernel_rfl) rfl ?_
  refine xcall e96 (trim_ok _ _ _ _ _ _ (hy.ext z22)) rfl rfl ?_
  rintro _ _ ⟨m36, rfl, hr35, hm37, rfl⟩
  refine ⟨_, rfl, ?_⟩
  refine ⟨fun _ => q23, ?_⟩
  refine tk 6 rfl (by kernel_rfl) q23 (pv (fun _ y39 => ras (v := .slice _ _ _) rfl)) ?_
  refine tk 7 rfl (by kernel_rfl) q23 (pv (fun _ y40 => ras (v := .slice _ _ _) rfl)) ?_
  refine dn (by kernel_rfl) ?_
  refine V.seq ?_
  refine V.block ?_
  refine V.seq (V.reg rfl ?_)
  have l25 := hr31.len
  have l26 := hr35.len
  refine vv (rfa rfl fd41_0) ?_
  refine vv (rldb (v := .bool _) rfl sc4 b3 rfl) ?_
  refine vv (rfa rfl fd41_0) ?_
  refine vv (rldb (v := .bool _) rfl sc4 b9 rfl) ?_
  refine vv (rbeq Try.underlying4 rfl rfl rfl) ?_
  refine asb rfl ?_
  refine vnil ?_
  refine V.condB rfl ?_ ?_
  · intro c41
    refine V.seq (V.regD mixed rfl ?_)
    intro W42 x43
    have s44 := x43.sz
    have z45 := z22.trans x43
    replace b3 := b3.ext x43
    replace b9 := b9.ext x43
    replace b15 := b15.ext x43
    have q46 := Ext.refl W42
    have r47 := b3
    have r48 := b9
    have r49 := b15
    refine tk 0 rfl (by kernel_rfl) q46 (pv (fun _ y50 => rfa rfl fd41_0)) ?_
    refine tk 1 rfl (by kernel_rfl) q46 (pv (fun _ y51 => rldb (v := .bool _) rfl sc4 (r47.ext y51) rfl)) ?_
    refine tk 2 rfl (by kernel_rfl) q46 (pv (fun _ y52 => rmv (v := .slice _ _ _) rfl)) ?_
    refine tk 3 rfl (by kernel_rfl) q46 (pv (fun _ y53 => rmv (v := .slice _ _ _) rfl)) ?_
    refine ef 4 (by kernel_rfl) rfl ?_
    refine xcall e112 (add_ok _ _ _ _ _ _ _ _ _ _ _ _ (hr31.ext x43) (hr35.ext x43) (by omega) (by omega) (hu2 _ (by omega))) rfl rfl ?_
    rintro _ W58 ⟨zs55, ⟨_, _, _, rfl, x59, hw54⟩, hv56, hl57⟩
    have s60 := x59.sz
    have z61 := z45.trans x59
    replace b3 := b3.ext x59
    replace b9 := b9.ext x59
    replace b15 := b15.ext x59
    have q62 := q46.trans x59
    have hw54l := hw54.len
    refine ⟨_, rfl, ?_⟩
    refine ⟨fun _ => q62, ?_⟩
    refine ef 5 (by kernel_rfl) rfl ?_
    refine xcall e91 (made_ok _ _ _ _ _ _ _ hw54) rfl rfl ?_
    rintro _ W64 ⟨_, _, _, _, rfl, x65, hz63⟩
    have s66 := x65.sz
    have z67 := z61.trans x65
    replace b3 := b3.ext x65
    replace b9 := b9.ext x65
    replace b15 := b15.ext x65
    have q68 := q62.trans x65
    refine ⟨_, rfl, ?_⟩
    refine ⟨fun _ => q68, ?_⟩
    refine ef 6 (by kernel_rfl) rfl ?_
    refine sta (cs' := [_, _]) b15 rfl rfl sz41 rfl rfl rfl ?_
    intro W69 y70 b15
    have z71 := z67.below (y70.below (by omega))
    replace b3 := b3.wr y70 (by omega)
    replace b9 := b9.wr y70 (by omega)
    have s72 := y70.size
    refine lastT (by kernel_rfl) ?_
    refine dn (by kernel_rfl) ?_
    refine V.ret ?_
    refine ⟨[_], ⟨⟨_, rfl, lvb ag41 b15 rfl⟩, trivial⟩, ?_⟩
    refine ⟨_, _, _, _, rfl, z71, ((hz63.ck (y70.ck (by intro hh; simp [SX] at hh <;> omega)))).un.cast ?_⟩
    rw [hv56, vl_dg (by decide) hvx, vl_dg (by decide) hvy]
    cases n1 <;> cases n2 <;> simp_all <;> omega
  · intro c41
    refine V.seq (V.reg rfl ?_)
    refine mvs rfl ?_
    refine mvs rfl ?_
    refine vo ?_
    refine xcall e116 (cmp_ok _ _ _ _ _ _ _ _ _ _ _ hr31 hr35 (hvx) (hvy)) rfl rfl ?_
    rintro _ W75 ⟨s74, rfl, x76, hc73⟩
    have s77 := x76.sz
    have z78 := z22.trans x76
    replace b3 := b3.ext x76
    replace b9 := b9.ext x76
    replace b15 := b15.ext x76
    refine ⟨_, rfl, ?_⟩
    have hc := hc73
    refine vge rfl rfl ?_ ?_
    · intro c79
      have hle : vl b32 ys ≤ vl b32 xs := by omega
      have hlm := dg_len_mono hvy hle; have e1 := vl_dg (B := b32) (by decide) hvx; have e2 := vl_dg (B := b32) (by decide) hvy
      refine asb rfl ?_
      refine vnil ?_
      refine V.condT rfl ?_
      refine V.seq (V.regD mixed rfl ?_)
      intro W80 x81
      have s82 := x81.sz
      have z83 := z78.trans x81
      replace b3 := b3.ext x81
      replace b9 := b9.ext x81
      replace b15 := b15.ext x81
      have q84 := Ext.refl W80
      have r85 := b3
      have r86 := b9
      have r87 := b15
      refine tk 0 rfl (by kernel_rfl) q84 (pv (fun _ y88 => rfa rfl fd41_0)) ?_
      refine tk 1 rfl (by kernel_rfl) q84 (pv (fun _ y89 => rldb (v := .bool _) rfl sc4 (r85.ext y89) rfl)) ?_
      refine tk 2 rfl (by kernel_rfl) q84 (pv (fun _ y90 => rmv (v := .slice _ _ _) rfl)) ?_
      refine tk 3 rfl (by kernel_rfl) q84 (pv (fun _ y91 => rmv (v := .slice _ _ _) rfl)) ?_
      refine ef 4 (by kernel_rfl) rfl ?_
      refine xcall e113 (sub_ok _ _ _ _ _ _ _ _ _ _ _ _ (hr31.ext (x76.trans x81)) (hr35.ext (x76.trans x81)) (by omega) (by omega) (by rw [e1, e2]; exact hle) (hu2 _ (by omega))) rfl rfl ?_
      rintro _ W96 ⟨zs93, ⟨_, _, _, rfl, x97, hw92⟩, hv94, hl95⟩
      have s98 := x97.sz
      have z99 := z83.trans x97
      replace b3 := b3.ext x97
      replace b9 := b9.ext x97
      replace b15 := b15.ext x97
      have q100 := q84.trans x97
      have hw92l := hw92.len
      refine ⟨_, rfl, ?_⟩
      refine ⟨fun _ => q100, ?_⟩
      refine ef 5 (by kernel_rfl) rfl ?_
      refine xcall e91 (made_ok _ _ _ _ _ _ _ hw92) rfl rfl ?_
      rintro _ W102 ⟨_, _, _, _, rfl, x103, hz101⟩
      have s104 := x103.sz
      have z105 := z99.trans x103
      replace b3 := b3.ext x103
      replace b9 := b9.ext x103
      replace b15 := b15.ext x103
      have q106 := q100.trans x103
      refine ⟨_, rfl, ?_⟩
      refine ⟨fun _ => q106, ?_⟩
      refine ef 6 (by kernel_rfl) rfl ?_
      refine sta (cs' := [_, _]) b15 rfl rfl sz41 rfl rfl rfl ?_
      intro W107 y108 b15
      have z109 := z105.below (y108.below (by omega))
      replace b3 := b3.wr y108 (by omega)
      replace b9 := b9.wr y108 (by omega)
      have s110 := y108.size
      refine lastT (by kernel_rfl) ?_
      refine dn (by kernel_rfl) ?_
      refine V.ret ?_
      refine ⟨[_], ⟨⟨_, rfl, lvb ag41 b15 rfl⟩, trivial⟩, ?_⟩
      refine ⟨_, _, _, _, rfl, z109, ((hz101.ck (y108.ck (by intro hh; simp [SX] at hh <;> omega)))).un.cast ?_⟩
      rw [hv94, vl_dg (by decide) hvx, vl_dg (by decide) hvy]
      cases n1 <;> cases n2 <;> simp_all <;> omega
    · intro c79
      have hle : vl b32 xs ≤ vl b32 ys := by omega
      have hlm := dg_len_mono hvx hle; have e1 := vl_dg (B := b32) (by decide) hvx; have e2 := vl_dg (B := b32) (by decide) hvy
      refine asb rfl ?_
      refine vnil ?_
      refine V.condF rfl ?_
      refine V.skip ?_
      refine V.seq (V.regD mixed rfl ?_)
      intro W111 x112
      have s113 := x112.sz
      have z114 := z78.trans x112
      replace b3 := b3.ext x112
      replace b9 := b9.ext x112
      replace b15 := b15.ext x112
      have q115 := Ext.refl W111
      have r116 := b3
      have r117 := b9
      have r118 := b15
      refine tk 0 rfl (by kernel_rfl) q115 (pv (fun _ y119 => rfa rfl fd41_0)) ?_
      refine tk 1 rfl (by kernel_rfl) q115 (pv (fun _ y120 => rldb (v := .bool _) rfl sc4 (r117.ext y120) rfl)) ?_
      refine tk 2 rfl (by kernel_rfl) q115 (pv (fun _ y121 => rmv (v := .slice _ _ _) rfl)) ?_
      refine tk 3 rfl (by kernel_rfl) q115 (pv (fun _ y122 => rmv (v := .slice _ _ _) rfl)) ?_
      refine ef 4 (by kernel_rfl) rfl ?_
      refine xcall e113 (sub_ok _ _ _ _ _ _ _ _ _ _ _ _ (hr35.ext (x76.trans x112)) (hr31.ext (x76.trans x112)) (by omega) (by omega) (by rw [e1, e2]; exact hle) (hu2 _ (by omega))) rfl rfl ?_
      rintro _ W127 ⟨zs124, ⟨_, _, _, rfl, x128, hw123⟩, hv125, hl126⟩
      have s129 := x128.sz
      have z130 := z114.trans x128
      replace b3 := b3.ext x128
      replace b9 := b9.ext x128
      replace b15 := b15.ext x128
      have q131 := q115.trans x128
      have hw123l := hw123.len
      refine ⟨_, rfl, ?_⟩
      refine ⟨fun _ => q131, ?_⟩
      refine ef 5 (by kernel_rfl) rfl ?_
      refine xcall e91 (made_ok _ _ _ _ _ _ _ hw123) rfl rfl ?_
      rintro _ W133 ⟨_, _, _, _, rfl, x134, hz132⟩
      have s135 := x134.sz
      have z136 := z130.trans x134
      replace b3 := b3.ext x134
      replace b9 := b9.ext x134
      replace b15 := b15.ext x134
      have q137 := q131.trans x134
      refine ⟨_, rfl, ?_⟩
      refine ⟨fun _ => q137, ?_⟩
      refine ef 6 (by kernel_rfl) rfl ?_
      refine sta (cs' := [_, _]) b15 rfl rfl sz41 rfl rfl rfl ?_
      intro W138 y139 b15
      have z140 := z136.below (y139.below (by omega))
      replace b3 := b3.wr y139 (by omega)
      replace b9 := b9.wr y139 (by omega)
      have s141 := y139.size
      refine lastT (by kernel_rfl) ?_
      refine dn (by kernel_rfl) ?_
      refine V.ret ?_
      refine ⟨[_], ⟨⟨_, rfl, lvb ag41 b15 rfl⟩, trivial⟩, ?_⟩
      refine ⟨_, _, _, _, rfl, z140, ((hz132.ck (y139.ck (by intro hh; simp [SX] at hh <;> omega)))).un.cast ?_⟩
      rw [hv125, vl_dg (by decide) hvx, vl_dg (by decide) hvy]
      cases n1 <;> cases n2 <;> simp_all <;> omega
set_option maxHeartbeats 400000 in
theorem wSub_ok (n1 n2 : Bool) (a1 a2 : Option Addr) (l1 c1 l2 c2 : Nat) (z1 z2 : Int) (L1 L2 : Nat) (S S1 S2 : Nat → Prop) (w : World) (h1 : ZA L1 S1 w n1 a1 l1 c1 z1) (h2 : ZA L2 S2 w n2 a2 l2 c2 z2) (hL1 : L1 ≤ LY) (hL2 : L2 ≤ LY) (hu : Up S w) :
    Calls Try.prog 94 #[.agg #[.bool n1, .slice a1 l1 c1], .agg #[.bool n2, .slice a2 l2 c2]] w (PZ S (z1 - z2) w) := by
  have z0 := Ext.refl w; have hLX : LX = 17592186044416 := rfl; have hLY : LY = 8796093022208 := rfl
  have h2n := h2.ng
  have hu2 : ∀ W : World, w.heap.size + 3 ≤ W.heap.size → Up (SX S [w.heap.size + 2]) W := fun W hW => SX.up (hu.mono (by omega)) (by simp <;> omega)
  refine enter (args := [.agg #[.bool n1, .slice a1 l1 c1], .agg #[.bool n2, .slice a2 l2 c2]]) Try.func94 rfl rfl (Nat.le_of_ble_eq_true rfl) ?_
  refine V.seq (V.reg rfl ?_)
  refine vo ?_
  refine bxa rfl ?_
  intro W1 x2 b3 nn4
  have s5 := x2.sz
  have z6 := x2
  refine vo ?_
  refine bxa rfl ?_
  intro W7 x8 b9 nn10
  have s11 := x8.sz
  have z12 := z6.trans x8
  replace b3 := b3.ext x8
  refine vo ?_
  refine xal zc41 ?_
  intro W13 x14 b15 nn16
  have s17 := x14.sz
  have z18 := z12.trans x14
  replace b3 := b3.ext x14
  replace b9 := b9.ext x14
  refine vnil ?_
  refine V.seq (V.reg rfl ?_)
  refine vv (rldb2 rfl ag41 b3 rfl rfl ) ?_
  refine vv (rfa rfl fd41_0) ?_
  refine vv (rldb (v := .bool _) rfl sc4 b9 rfl) ?_
  refine vv (rnot (q := _) rfl rfl) ?_
  refine vv (rfa rfl fd41_1) ?_
  refine vv (rldb (v := .slice _ _ _) rfl sc39 b9 rfl) ?_
  refine vv (rbd (ps := [(0, .bool _), (1, .slice _ _ _)]) (cs := [.bool _, .slice _ _ _]) pl41 rfl rfl) ?_
  refine vo ?_
  refine xcall e106 (wAdd_ok _ _ _ _ _ _ _ _ _ _ _ _ _ _ _ _ (h1.ext z18) (h2n.ext z18) (by omega) (by omega) (hu2 _ (by omega))) rfl rfl ?_
  rintro _ W19 ⟨_, _, _, _, rfl, x20, hz⟩
  have s21 := x20.sz
  have z22 := z18.trans x20
  replace b3 := b3.ext x20
  replace b9 := b9.ext x20
  replace b15 := b15.ext x20
  refine ⟨_, rfl, ?_⟩
  refine vo ?_
  refine sta (cs' := [_, _]) b15 rfl rfl sz41 rfl rfl rfl ?_
  intro W23 y24 b15
  have z25 := z22.below (y24.below (by omega))
  replace b3 := b3.wr y24 (by omega)
  replace b9 := b9.wr y24 (by omega)
  have s26 := y24.size
  refine vnil ?_
  refine V.ret ?_
  refine ⟨[_], ⟨⟨_, rfl, lvb ag41 b15 rfl⟩, trivial⟩, ?_⟩
  exact ⟨_, _, _, _, rfl, z25, ((hz.ck (y24.ck (by intro hh; simp [SX] at hh <;> omega)))).un.cast (by omega)⟩
set_option maxHeartbeats 400000 in
theorem wMul_ok (n1 n2 : Bool) (a1 a2 : Option Addr) (l1 c1 l2 c2 : Nat) (z1 z2 : Int) (L1 L2 : Nat) (S S1 S2 : Nat → Prop) (w : World) (h1 : ZA L1 S1 w n1 a1 l1 c1 z1) (h2 : ZA L2 S2 w n2 a2 l2 c2 z2) (hL1 : L1 ≤ LY) (hL2 : L2 ≤ LY) (hu : Up S w) :
    Calls Try.prog 64 #[.agg #[.bool n1, .slice a1 l1 c1], .agg #[.bool n2, .slice a2 l2 c2]] w (PZ S (z1 * z2) w) := by
  have z0 := Ext.refl w; have hLX : LX = 17592186044416 := rfl; have hLY : LY = 8796093022208 := rfl
  obtain ⟨xs, hx, q1, rfl⟩ := h1; obtain ⟨ys, hy, q2, rfl⟩ := h2
  have hvx := vl_nonneg (B := b32) (by decide) hx.dg32; have hvy := vl_nonneg (B := b32) (by decide) hy.dg32
  have lx := hx.len; have ly := hy.len
  have hu2 : ∀ W : World, w.heap.size + 3 ≤ W.heap.size → Up (SX S [w.heap.size + 2]) W := fun W hW => SX.up (hu.mono (by omega)) (by simp <;> omega)
  refine enter (args := [.agg #[.bool n1, .slice a1 l1 c1], .agg #[.bool n2, .slice a2 l2 c2]]) Try.func64 rfl rfl (Nat.le_of_ble_eq_true rfl) ?_
  refine V.seq (V.reg rfl ?_)
  refine vo ?_
  refine bxa rfl ?_
  intro W1 x2 b3 nn4
  have s5 := x2.sz
  have z6 := x2
  refine vo ?_
  refine bxa rfl ?_
  intro W7 x8 b9 nn10
  have s11 := x8.sz
  have z12 := z6.trans x8
  replace b3 := b3.ext x8
  refine vo ?_
  refine xal zc41 ?_
  intro W13 x14 b15 nn16
  have s17 := x14.sz
  have z18 := z12.trans x14
  replace b3 := b3.ext x14
  replace b9 := b9.ext x14
  refine vnil ?_
  refine V.seq (V.regD mixed rfl ?_)
  intro W19 x20
  have s21 := x20.sz
  have z22 := z18.trans x20
  replace b3 := b3.ext x20
  replace b9 := b9.ext x20
  replace b15 := b15.ext x20
  have q23 := Ext.refl W19
  have r24 := b3
  have r25 := b9
  have r26 := b15
  refine tk 0 rfl (by kernel_rfl) q23 (pv (fun _ y27 => rfa rfl fd41_0)) ?_
  refine tk 1 rfl (by kernel_rfl) q23 (pv (fun _ y28 => rldb (v := .bool _) rfl sc4 (r24.ext y28) rfl)) ?_
  refine tk 2 rfl (by kernel_rfl) q23 (pv (fun _ y29 => rfa rfl fd41_0)) ?_
  refine tk 3 rfl (by kernel_rfl) q23 (pv (fun _ y30 => rldb (v := .bool _) rfl sc4 (r25.ext y30) rfl)) ?_
  refine tk 4 rfl (by kernel_rfl) q23 (pv (fun _ y31 => rbne Try.underlying4 rfl rfl rfl)) ?_
  refine tk 5 rfl (by kernel_rfl) q23 (pv (fun _ y32 => rfa rfl fd41_1)) ?_
  refine tk 6 rfl (by kernel_rfl) q23 (pv (fun _ y33 => rldb (v := .slice _ _ _) rfl sc39 (r24.ext y33) rfl)) ?_
  refine tk 8 rfl (by kernel_rfl) q23 (pv (fun _ y34 => rfa rfl fd41_1)) ?_
  refine tk 9 rfl (by kernel_rfl) q23 (pv (fun _ y35 => rldb (v := .slice _ _ _) rfl sc39 (r25.ext y35) rfl)) ?_
  refine ef 7 (by kernel_rfl) rfl ?_
  refine xcall e96 (trim_ok _ _ _ _ _ _ (hx.ext z22)) rfl rfl ?_
  rintro _ _ ⟨m37, rfl, hr36, hm38, rfl⟩
  refine ⟨_, rfl, ?_⟩
  refine ⟨fun _ => q23, ?_⟩
  refine ef 10 (by kernel_rfl) rfl ?_
  refine xcall e96 (trim_ok _ _ _ _ _ _ (hy.ext z22)) rfl rfl ?_
  rintro _ _ ⟨m41, rfl, hr40, hm42, rfl⟩
  refine ⟨_, rfl, ?_⟩
  refine ⟨fun _ => q23, ?_⟩
  refine ef 11 (by kernel_rfl) rfl ?_
  have l32 := hr36.len
  have l35 := hr40.len
  refine xcall e95 (mul_ok _ _ _ _ _ _ _ _ _ _ _ _ hr36 hr40 (by omega) (by omega) (hu2 _ (by omega))) rfl rfl ?_
  rintro _ W48 ⟨zs45, ⟨_, _, _, rfl, x49, hw44⟩, hv46, hl47⟩
  have s50 := x49.sz
  have z51 := z22.trans x49
  replace b3 := b3.ext x49
  replace b9 := b9.ext x49
  replace b15 := b15.ext x49
  have q52 := q23.trans x49
  have hw44l := hw44.len
  refine ⟨_, rfl, ?_⟩
  refine ⟨fun _ => q52, ?_⟩
  refine ef 12 (by kernel_rfl) rfl ?_
  refine xcall e91 (made_ok _ _ _ _ _ _ _ hw44) rfl rfl ?_
  rintro _ W54 ⟨_, _, _, _, rfl, x55, hz53⟩
  have s56 := x55.sz
  have z57 := z51.trans x55
  replace b3 := b3.ext x55
  replace b9 := b9.ext x55
  replace b15 := b15.ext x55
  have q58 := q52.trans x55
  refine ⟨_, rfl, ?_⟩
  refine ⟨fun _ => q58, ?_⟩
  refine ef 13 (by kernel_rfl) rfl ?_
  refine sta (cs' := [_, _]) b15 rfl rfl sz41 rfl rfl rfl ?_
  intro W59 y60 b15
  have z61 := z57.below (y60.below (by omega))
  replace b3 := b3.wr y60 (by omega)
  replace b9 := b9.wr y60 (by omega)
  have s62 := y60.size
  refine lastT (by kernel_rfl) ?_
  refine dn (by kernel_rfl) ?_
  refine V.ret ?_
  refine ⟨[_], ⟨⟨_, rfl, lvb ag41 b15 rfl⟩, trivial⟩, ?_⟩
  refine ⟨_, _, _, _, rfl, z61, ((hz53.ck (y60.ck (by intro hh; simp [SX] at hh <;> omega)))).un.cast ?_⟩
  rw [hv46, vl_dg (by decide) hvx, vl_dg (by decide) hvy]
  cases n1 <;> cases n2 <;> simp [Int.neg_mul, Int.mul_neg]
set_option maxHeartbeats 400000 in
theorem wCmp_ok (n1 n2 : Bool) (a1 a2 : Option Addr) (l1 c1 l2 c2 : Nat) (z1 z2 : Int) (L1 L2 : Nat) (S1 S2 : Nat → Prop) (w : World) (h1 : ZA L1 S1 w n1 a1 l1 c1 z1) (h2 : ZA L2 S2 w n2 a2 l2 c2 z2) (hL1 : L1 ≤ LY) (hL2 : L2 ≤ LY) :
    Calls Try.prog 63 #[.agg #[.bool n1, .slice a1 l1 c1], .agg #[.bool n2, .slice a2 l2 c2]] w (fun e w' => ∃ s, e = .returned (.int .i64 s) ∧ Ext w w' ∧ s = sg (z1 - z2)) := by
  have z0 := Ext.refl w; have hLX : LX = 17592186044416 := rfl; have hLY : LY = 8796093022208 := rfl
  have hu2 : ∀ W : World, w.heap.size ≤ W.heap.size → Up (fun q => w.heap.size ≤ q) W := fun W hW b hb => by omega
  refine enter (args := [.agg #[.bool n1, .slice a1 l1 c1], .agg #[.bool n2, .slice a2 l2 c2]]) Try.func63 rfl rfl (Nat.le_of_ble_eq_true rfl) ?_
  refine V.seq (V.reg rfl ?_)
  refine vo ?_
  refine bxa rfl ?_
  intro W1 x2 b3 nn4
  have s5 := x2.sz
  have z6 := x2
  refine vo ?_
  refine bxa rfl ?_
  intro W7 x8 b9 nn10
  have s11 := x8.sz
  have z12 := z6.trans x8
  replace b3 := b3.ext x8
  refine asi rfl ?_
  refine vnil ?_
  refine V.seq (V.reg rfl ?_)
  refine vv (rldb2 rfl ag41 b3 rfl rfl ) ?_
  refine vv (rldb2 rfl ag41 b9 rfl rfl ) ?_
  refine vo ?_
  refine xcall e94 (wSub_ok _ _ _ _ _ _ _ _ _ _ _ _ _ _ _ _ (h1.ext z12) (h2.ext z12) (by omega) (by omega) (hu2 _ (by omega))) rfl rfl ?_
  rintro _ W14 ⟨_, _, _, _, rfl, x15, hz13⟩
  have s16 := x15.sz
  have z17 := z12.trans x15
  replace b3 := b3.ext x15
  replace b9 := b9.ext x15
  refine ⟨_, rfl, ?_⟩
  refine vo ?_
  refine xcall e92 (wSign_ok _ _ _ _ _ _ _ _ ((hz13).za (Nat.le_refl _))) rfl rfl ?_
  rintro _ W18 ⟨_, rfl, x19, hsg⟩
  have s20 := x19.sz
  have z21 := z17.trans x19
  replace b3 := b3.ext x19
  replace b9 := b9.ext x19
  refine ⟨_, rfl, ?_⟩
  refine asi rfl ?_
  refine vnil ?_
  refine V.ret ?_
  refine ⟨[.int _ _], ⟨rfl, trivial⟩, ?_⟩
  exact ⟨_, rfl, z21, hsg⟩

theorem ediv_nn {u v : Int} (hu : 0 ≤ u) (hv : 0 < v) : 0 ≤ u / v ∧ 0 ≤ u % v ∧ u % v < v ∧ u = v * (u / v) + u % v := ⟨Int.ediv_nonneg hu (by omega), Int.emod_nonneg _ (by omega), Int.emod_lt_of_pos _ hv, (Int.mul_ediv_add_emod u v).symm⟩
theorem dm_pos {u v : Int} (n2 : Bool) : (if (!(false == n2)) then -(u / v) else u / v) = u / (if n2 then -v else v) ∧ u % v = u % (if n2 then -v else v) := by
  cases n2 <;> simp [Int.ediv_neg, Int.emod_neg]
theorem dm_neg0 {u v : Int} (hv : 0 < v) (h : u % v = 0) (n2 : Bool) : (if (!(true == n2)) then -(u / v) else u / v) = (-u) / (if n2 then -v else v) ∧ u % v = (-u) % (if n2 then -v else v) := by
  have e := Int.mul_ediv_add_emod u v
  have hq := divmod_of (u := -u) (v := v) (q := -(u / v)) (r := 0) (by rw [Int.neg_mul, Int.mul_comm]; omega) (by omega) hv
  cases n2 <;> simp [Int.ediv_neg, Int.emod_neg] <;> omega
theorem dm_neg1 {u v : Int} (hv : 0 < v) (h : 0 < u % v) (n2 : Bool) : (if (!(true == n2)) then -(u / v + 1) else u / v + 1) = (-u) / (if n2 then -v else v) ∧ v - u % v = (-u) % (if n2 then -v else v) := by
  have e := Int.mul_ediv_add_emod u v
  have h1 := Int.emod_lt_of_pos u hv
  have hq := divmod_of (u := -u) (v := v) (q := -(u / v + 1)) (r := v - u % v) (by rw [Int.neg_mul, Int.add_mul, Int.mul_comm]; omega) (by omega) (by omega)
  cases n2 <;> simp [Int.ediv_neg, Int.emod_neg] <;> omega

set_option maxHeartbeats 400000 in
theorem wDivMod_ok (n1 n2 : Bool) (a1 a2 : Option Addr) (l1 c1 l2 c2 : Nat) (z1 z2 : Int) (L1 L2 : Nat) (S S1 S2 : Nat → Prop) (w : World) (h1 : ZA L1 S1 w n1 a1 l1 c1 z1) (h2 : ZA L2 S2 w n2 a2 l2 c2 z2) (hL1 : L1 ≤ LY) (hL2 : L2 ≤ LY) (hu : Up S w) (hz : z2 ≠ 0) :
    Calls Try.prog 98 #[.agg #[.bool n1, .slice a1 l1 c1], .agg #[.bool n2, .slice a2 l2 c2]] w (fun e w' => ∃ b1 a3 n3 c3 b2 a4 n4 c4, e = .returned (.tuple #[.agg #[.bool b1, .slice a3 n3 c3], .agg #[.bool b2, .slice a4 n4 c4], .int .i64 0]) ∧ Ext w w' ∧ ZC S w' b1 a3 n3 c3 (z1 / z2) ∧ ZC S w' b2 a4 n4 c4 (z1 % z2)) := by
  have z0 := Ext.refl w; have hLX : LX = 17592186044416 := rfl; have hLY : LY = 8796093022208 := rfl
  obtain ⟨xs, hx, q1, rfl⟩ := h1; obtain ⟨ys, hy, q2, rfl⟩ := h2
  have hvx := vl_nonneg (B := b32) (by decide) hx.dg32; have hvy := vl_nonneg (B := b32) (by decide) hy.dg32
  have lx := hx.len; have ly := hy.len
  have hu2 : ∀ W : World, w.heap.size + 4 ≤ W.heap.size → Up (SX S [w.heap.size + 2, w.heap.size + 3]) W := fun W hW => SX.up (hu.mono (by omega)) (by simp <;> omega)
  have hyz : vl b32 ys ≠ 0 := by intro h; rw [h] at hz; simp at hz
  cases n1
  · skip
    refine enter (args := [.agg #[.bool false, .slice a1 l1 c1], .agg #[.bool n2, .slice a2 l2 c2]]) Try.func98 rfl rfl (Nat.le_of_ble_eq_true rfl) ?_
    refine V.seq (V.reg rfl ?_)
    refine vo ?_
    refine bxa rfl ?_
    intro W1 x2 b3 nn4
    have s5 := x2.sz
    have z6 := x2
    refine vo ?_
    refine bxa rfl ?_
    intro W7 x8 b9 nn10
    have s11 := x8.sz
    have z12 := z6.trans x8
    replace b3 := b3.ext x8
    refine vo ?_
    refine xal zc41 ?_
    intro W13 x14 b15 nn16
    have s17 := x14.sz
    have z18 := z12.trans x14
    replace b3 := b3.ext x14
    replace b9 := b9.ext x14
    refine vo ?_
    refine xal zc41 ?_
    intro W19 x20 b21 nn22
    have s23 := x20.sz
    have z24 := z18.trans x20
    replace b3 := b3.ext x20
    replace b9 := b9.ext x20
    replace b15 := b15.ext x20
    refine asi rfl ?_
    refine vnil ?_
    refine V.seq (V.regD mixed rfl ?_)
    intro W25 x26
    have s27 := x26.sz
    have z28 := z24.trans x26
    replace b3 := b3.ext x26
    replace b9 := b9.ext x26
    replace b15 := b15.ext x26
    replace b21 := b21.ext x26
    have q29 := Ext.refl W25
    have r30 := b3
    have r31 := b9
    have r32 := b15
    have r33 := b21
    refine tk 0 rfl (by kernel_rfl) q29 (pv (fun _ y34 => rfa rfl fd41_1)) ?_
    refine tk 1 rfl (by kernel_rfl) q29 (pv (fun _ y35 => rldb (v := .slice _ _ _) rfl sc39 (r30.ext y35) rfl)) ?_
    refine tk 3 rfl (by kernel_rfl) q29 (pv (fun _ y36 => rfa rfl fd41_1)) ?_
    refine tk 4 rfl (by kernel_rfl) q29 (pv (fun _ y37 => rldb (v := .slice _ _ _) rfl sc39 (r31.ext y37) rfl)) ?_
    refine ef 2 (by kernel_rfl) rfl ?_
    refine xcall e96 (trim_ok _ _ _ _ _ _ (hx.ext z28)) rfl rfl ?_
    rintro _ _ ⟨m39, rfl, hr38, hm40, rfl⟩
    refine ⟨_, rfl, ?_⟩
    refine ⟨fun _ => q29, ?_⟩
    refine ef 5 (by kernel_rfl) rfl ?_
    refine xcall e96 (trim_ok _ _ _ _ _ _ (hy.ext z28)) rfl rfl ?_
    rintro _ _ ⟨m43, rfl, hr42, hm44, rfl⟩
    refine ⟨_, rfl, ?_⟩
    refine ⟨fun _ => q29, ?_⟩
    refine tk 6 rfl (by kernel_rfl) q29 (pv (fun _ y46 => ras (v := .slice _ _ _) rfl)) ?_
    refine tk 7 rfl (by kernel_rfl) q29 (pv (fun _ y47 => ras (v := .slice _ _ _) rfl)) ?_
    refine dn (by kernel_rfl) ?_
    refine V.seq ?_
    refine V.seq (V.reg rfl ?_)
    refine mvs rfl ?_
    refine vv (rlen sl39 rfl) ?_
    refine veq rfl rfl ?_ ?_
    · intro c48
      exact absurd ((dg_natAbs_len hvy (hr42).len).2 (by omega)) hyz
    · intro c48
      refine vnil ?_
      refine V.condF rfl ?_
      refine V.skip ?_
      refine V.seq (V.reg rfl ?_)
      have l27 := hr38.len; have l28 := hr42.len; have hyp : 0 < vl b32 ys := by have := dg_natAbs_len hvy l28; omega
      have dm := ediv_nn hvx hyp
      refine mvs rfl ?_
      refine mvs rfl ?_
      refine vo ?_
      refine xcall e111 (div_ok _ _ _ _ _ _ _ _ _ _ _ _ hr38 hr42 (hvx) (hyp) (by omega) (by omega) (hu2 _ (by omega))) rfl rfl ?_
      rintro _ W51 ⟨_, _, _, _, _, _, rfl, x52, hd49, he50⟩
      have s53 := x52.sz
      have z54 := z28.trans x52
      replace b3 := b3.ext x52
      replace b9 := b9.ext x52
      replace b15 := b15.ext x52
      replace b21 := b21.ext x52
      refine ⟨_, rfl, ?_⟩
      refine mvt rfl ?_
      refine vv (rext (v := .slice _ _ _) rfl rfl) ?_
      refine vv (rext (v := .slice _ _ _) rfl rfl) ?_
      refine ass rfl ?_
      refine ass rfl ?_
      refine vnil ?_
      refine V.seq ?_
      refine V.seq (V.reg rfl ?_)
      refine vv (rfa rfl fd41_0) ?_
      refine vv (rldb (v := .bool false) rfl sc4 b3 rfl) ?_
      refine mvb rfl ?_
      refine vgn (b := false) rfl rfl ?_
      refine vgn (b := false) rfl rfl ?_
      refine vgn (b := false) rfl rfl ?_
      refine vv (rpk (v := .bool false) rfl rfl) ?_
      refine vnil ?_
      refine V.condF rfl ?_
      refine V.skip ?_
      refine V.seq (V.reg rfl ?_)
      refine vv (rfa rfl fd41_0) ?_
      refine vv (rldb (v := .bool false) rfl sc4 b3 rfl) ?_
      refine vv (rfa rfl fd41_0) ?_
      refine vv (rldb (v := .bool _) rfl sc4 b9 rfl) ?_
      refine vv (rbne Try.underlying4 rfl rfl rfl) ?_
      refine mvs rfl ?_
      refine vo ?_
      refine xcall e91 (made_ok _ _ _ _ _ _ _ hd49) rfl rfl ?_
      rintro _ W56 ⟨_, _, _, _, rfl, x57, hz55⟩
      have s58 := x57.sz
      have z59 := z54.trans x57
      replace b3 := b3.ext x57
      replace b9 := b9.ext x57
      replace b15 := b15.ext x57
      replace b21 := b21.ext x57
      refine ⟨_, rfl, ?_⟩
      refine mvs rfl ?_
      refine vo ?_
      refine xcall e91 (made_ok false _ _ _ _ _ _ (he50.ext x57)) rfl rfl ?_
      rintro _ W61 ⟨_, _, _, _, rfl, x62, hz60⟩
      have s63 := x62.sz
      have z64 := z59.trans x62
      replace b3 := b3.ext x62
      replace b9 := b9.ext x62
      replace b15 := b15.ext x62
      replace b21 := b21.ext x62
      refine ⟨_, rfl, ?_⟩
      refine vo ?_
      refine sta (cs' := [_, _]) b15 rfl rfl sz41 rfl rfl rfl ?_
      intro W65 y66 b15
      have z67 := z64.below (y66.below (by omega))
      replace b3 := b3.wr y66 (by omega)
      replace b9 := b9.wr y66 (by omega)
      replace b21 := b21.wr y66 (by omega)
      have s68 := y66.size
      refine vo ?_
      refine sta (cs' := [_, _]) b21 rfl rfl sz41 rfl rfl rfl ?_
      intro W69 y70 b21
      have z71 := z67.below (y70.below (by omega))
      replace b3 := b3.wr y70 (by omega)
      replace b9 := b9.wr y70 (by omega)
      replace b15 := b15.wr y70 (by omega)
      have s72 := y70.size
      refine asi rfl ?_
      refine vnil ?_
      refine V.ret ?_
      refine ⟨[_, _, .int _ _], ⟨⟨_, rfl, lvb ag41 b15 rfl⟩, ⟨_, rfl, lvb ag41 b21 rfl⟩, rfl, trivial⟩, ?_⟩
      refine ⟨_, _, _, _, _, _, _, _, rfl, z71, ((hz55.ck (((x62.ck _).trans (y66.ck (by intro hh; simp [SX] at hh <;> omega))).trans (y70.ck (by intro hh; simp [SX] at hh <;> omega))))).un.cast ?_, ((hz60.ck ((y66.ck (by intro hh; simp [SX] at hh <;> omega)).trans (y70.ck (by intro hh; simp [SX] at hh <;> omega))))).un.cast ?_⟩
      · rw [vl_dg (by decide) dm.1]; exact (dm_pos n2).1
      · rw [vl_dg (by decide) dm.2.1]; exact (dm_pos n2).2
  · skip
    refine enter (args := [.agg #[.bool true, .slice a1 l1 c1], .agg #[.bool n2, .slice a2 l2 c2]]) Try.func98 rfl rfl (Nat.le_of_ble_eq_true rfl) ?_
    refine V.seq (V.reg rfl ?_)
    refine vo ?_
    refine bxa rfl ?_
    intro W73 x74 b75 nn76
    have s77 := x74.sz
    have z78 := x74
    refine vo ?_
    refine bxa rfl ?_
    intro W79 x80 b81 nn82
    have s83 := x80.sz
    have z84 := z78.trans x80
    replace b75 := b75.ext x80
    refine vo ?_
    refine xal zc41 ?_
    intro W85 x86 b87 nn88
    have s89 := x86.sz
    have z90 := z84.trans x86
    replace b75 := b75.ext x86
    replace b81 := b81.ext x86
    refine vo ?_
    refine xal zc41 ?_
    intro W91 x92 b93 nn94
    have s95 := x92.sz
    have z96 := z90.trans x92
    replace b75 := b75.ext x92
    replace b81 := b81.ext x92
    replace b87 := b87.ext x92
    refine asi rfl ?_
    refine vnil ?_
    refine V.seq (V.regD mixed rfl ?_)
    intro W97 x98
    have s99 := x98.sz
    have z100 := z96.trans x98
    replace b75 := b75.ext x98
    replace b81 := b81.ext x98
    replace b87 := b87.ext x98
    replace b93 := b93.ext x98
    have q101 := Ext.refl W97
    have r102 := b75
    have r103 := b81
    have r104 := b87
    have r105 := b93
    refine tk 0 rfl (by kernel_rfl) q101 (pv (fun _ y106 => rfa rfl fd41_1)) ?_
    refine tk 1 rfl (by kernel_rfl) q101 (pv (fun _ y107 => rldb (v := .slice _ _ _) rfl sc39 (r102.ext y107) rfl)) ?_
    refine tk 3 rfl (by kernel_rfl) q101 (pv (fun _ y108 => rfa rfl fd41_1)) ?_
    refine tk 4 rfl (by kernel_rfl) q101 (pv (fun _ y109 => rldb (v := .slice _ _ _) rfl sc39 (r103.ext y109) rfl)) ?_
    refine ef 2 (by kernel_rfl) rfl ?_
    refine xcall e96 (trim_ok _ _ _ _ _ _ (hx.ext z100)) rfl rfl ?_
    rintro _ _ ⟨m111, rfl, hr110, hm112, rfl⟩
    refine ⟨_, rfl, ?_⟩
    refine ⟨fun _ => q101, ?_⟩
    refine ef 5 (by kernel_rfl) rfl ?_
    refine xcall e96 (trim_ok _ _ _ _ _ _ (hy.ext z100)) rfl rfl ?_
    rintro _ _ ⟨m115, rfl, hr114, hm116, rfl⟩
    refine ⟨_, rfl, ?_⟩
    refine ⟨fun _ => q101, ?_⟩
    refine tk 6 rfl (by kernel_rfl) q101 (pv (fun _ y118 => ras (v := .slice _ _ _) rfl)) ?_
    refine tk 7 rfl (by kernel_rfl) q101 (pv (fun _ y119 => ras (v := .slice _ _ _) rfl)) ?_
    refine dn (by kernel_rfl) ?_
    refine V.seq ?_
    refine V.seq (V.reg rfl ?_)
    refine mvs rfl ?_
    refine vv (rlen sl39 rfl) ?_
    refine veq rfl rfl ?_ ?_
    · intro c120
      exact absurd ((dg_natAbs_len hvy (hr114).len).2 (by omega)) hyz
    · intro c120
      refine vnil ?_
      refine V.condF rfl ?_
      refine V.skip ?_
      refine V.seq (V.reg rfl ?_)
      have l27 := hr110.len; have l28 := hr114.len; have hyp : 0 < vl b32 ys := by have := dg_natAbs_len hvy l28; omega
      have dm := ediv_nn hvx hyp
      refine mvs rfl ?_
      refine mvs rfl ?_
      refine vo ?_
      refine xcall e111 (div_ok _ _ _ _ _ _ _ _ _ _ _ _ hr110 hr114 (hvx) (hyp) (by omega) (by omega) (hu2 _ (by omega))) rfl rfl ?_
      rintro _ W123 ⟨_, _, _, _, _, _, rfl, x124, hd121, he122⟩
      have s125 := x124.sz
      have z126 := z100.trans x124
      replace b75 := b75.ext x124
      replace b81 := b81.ext x124
      replace b87 := b87.ext x124
      replace b93 := b93.ext x124
      refine ⟨_, rfl, ?_⟩
      refine mvt rfl ?_
      refine vv (rext (v := .slice _ _ _) rfl rfl) ?_
      refine vv (rext (v := .slice _ _ _) rfl rfl) ?_
      refine ass rfl ?_
      refine ass rfl ?_
      refine vnil ?_
      refine V.seq ?_
      refine V.seq (V.reg rfl ?_)
      refine vv (rfa rfl fd41_0) ?_
      refine vv (rldb (v := .bool true) rfl sc4 b75 rfl) ?_
      refine mvb rfl ?_
      refine vg rfl ?_
      refine mvs rfl ?_
      refine vg rfl ?_
      refine vv (rlen sl39 rfl) ?_
      refine vg rfl ?_
      refine vgt rfl rfl ?_ ?_
      · intro c127
        refine vv (rpk (v := .bool true) rfl rfl) ?_
        refine vnil ?_
        refine V.condT rfl ?_
        refine V.reg rfl ?_
        have l29 := hd121.len; have l30 := he122.len; have m1 := dg_len_mono (u := vl b32 xs / vl b32 ys) (v := vl b32 xs) dm.1 (by have := Int.ediv_le_self (b := vl b32 ys) hvx; exact this); have m2 := dg_len_mono dm.2.1 (Int.le_of_lt dm.2.2.1); have m3 := hr110.len; have m4 := hr114.len
        refine mvs rfl ?_
        refine vo ?_
        refine xbs (ps := [(0, .int _ _)]) (cs := [.int _ _]) sl39 zr124 sz124 rfl rfl rfl rfl rfl rfl ?_
        intro W128 x129 b130 nn131
        have s132 := x129.sz
        have z133 := z126.trans x129
        replace b75 := b75.ext x129
        replace b81 := b81.ext x129
        replace b87 := b87.ext x129
        replace b93 := b93.ext x129
        have hl134 := RN.lit (k := .u32) (xs := [_]) 1 b130 (by intro q hq; simp only [List.mem_cons, List.not_mem_nil, or_false] at hq; simp only [kb]; omega) (hu2 W123 (by omega) _ (Nat.le_refl _))
        refine vo ?_
        refine xcall e112 (add_ok _ _ _ _ _ _ _ _ _ _ _ _ (hd121.ext x129) hl134 (by omega) (by omega) (hu2 _ (by omega))) rfl rfl ?_
        rintro _ W139 ⟨zs136, ⟨_, _, _, rfl, x140, hw135⟩, hv137, hl138⟩
        have s141 := x140.sz
        have z142 := z133.trans x140
        replace b75 := b75.ext x140
        replace b81 := b81.ext x140
        replace b87 := b87.ext x140
        replace b93 := b93.ext x140
        replace b130 := b130.ext x140
        have hw135l := hw135.len
        refine ⟨_, rfl, ?_⟩
        refine mvs rfl ?_
        refine mvs rfl ?_
        refine vo ?_
        refine xcall e113 (sub_ok _ _ _ _ _ _ _ _ _ _ _ _ (hr114.ext ((x124.trans x129).trans x140)) (he122.ext (x129.trans x140)) (by omega) (by omega) (by rw [vl_dg (by decide) dm.2.1, vl_dg (by decide) hvy]; omega) (hu2 _ (by omega))) rfl rfl ?_
        rintro _ W147 ⟨zs144, ⟨_, _, _, rfl, x148, hw143⟩, hv145, hl146⟩
        have s149 := x148.sz
        have z150 := z142.trans x148
        replace b75 := b75.ext x148
        replace b81 := b81.ext x148
        replace b87 := b87.ext x148
        replace b93 := b93.ext x148
        replace b130 := b130.ext x148
        have hw143l := hw143.len
        refine ⟨_, rfl, ?_⟩
        refine ass rfl ?_
        refine ass rfl ?_
        refine vnil ?_
        refine V.seq (V.reg rfl ?_)
        refine vv (rfa rfl fd41_0) ?_
        refine vv (rldb (v := .bool true) rfl sc4 b75 rfl) ?_
        refine vv (rfa rfl fd41_0) ?_
        refine vv (rldb (v := .bool _) rfl sc4 b81 rfl) ?_
        refine vv (rbne Try.underlying4 rfl rfl rfl) ?_
        refine mvs rfl ?_
        refine vo ?_
        refine xcall e91 (made_ok _ _ _ _ _ _ _ (hw135.ext x148)) rfl rfl ?_
        rintro _ W152 ⟨_, _, _, _, rfl, x153, hz151⟩
        have s154 := x153.sz
        have z155 := z150.trans x153
        replace b75 := b75.ext x153
        replace b81 := b81.ext x153
        replace b87 := b87.ext x153
        replace b93 := b93.ext x153
        replace b130 := b130.ext x153
        refine ⟨_, rfl, ?_⟩
        refine mvs rfl ?_
        refine vo ?_
        refine xcall e91 (made_ok false _ _ _ _ _ _ (hw143.ext x153)) rfl rfl ?_
        rintro _ W157 ⟨_, _, _, _, rfl, x158, hz156⟩
        have s159 := x158.sz
        have z160 := z155.trans x158
        replace b75 := b75.ext x158
        replace b81 := b81.ext x158
        replace b87 := b87.ext x158
        replace b93 := b93.ext x158
        replace b130 := b130.ext x158
        refine ⟨_, rfl, ?_⟩
        refine vo ?_
        refine sta (cs' := [_, _]) b87 rfl rfl sz41 rfl rfl rfl ?_
        intro W161 y162 b87
        have z163 := z160.below (y162.below (by omega))
        replace b75 := b75.wr y162 (by omega)
        replace b81 := b81.wr y162 (by omega)
        replace b93 := b93.wr y162 (by omega)
        replace b130 := b130.wr y162 (by omega)
        have s164 := y162.size
        refine vo ?_
        refine sta (cs' := [_, _]) b93 rfl rfl sz41 rfl rfl rfl ?_
        intro W165 y166 b93
        have z167 := z163.below (y166.below (by omega))
        replace b75 := b75.wr y166 (by omega)
        replace b81 := b81.wr y166 (by omega)
        replace b87 := b87.wr y166 (by omega)
        replace b130 := b130.wr y166 (by omega)
        have s168 := y166.size
        refine asi rfl ?_
        refine vnil ?_
        refine V.ret ?_
        refine ⟨[_, _, .int _ _], ⟨⟨_, rfl, lvb ag41 b87 rfl⟩, ⟨_, rfl, lvb ag41 b93 rfl⟩, rfl, trivial⟩, ?_⟩
        have hm1 : 0 < vl b32 xs % vl b32 ys := by have := dg_natAbs_len dm.2.1 l30; omega
        refine ⟨_, _, _, _, _, _, _, _, rfl, z167, ((hz151.ck (((x158.ck _).trans (y162.ck (by intro hh; simp [SX] at hh <;> omega))).trans (y166.ck (by intro hh; simp [SX] at hh <;> omega))))).un.cast ?_, ((hz156.ck ((y162.ck (by intro hh; simp [SX] at hh <;> omega)).trans (y166.ck (by intro hh; simp [SX] at hh <;> omega))))).un.cast ?_⟩
        · rw [hv137, vl_dg (by decide) dm.1]; simp only [vl, Int.mul_zero, Int.add_zero]; exact (dm_neg1 hyp hm1 n2).1
        · rw [hv145, vl_dg (by decide) dm.2.1, vl_dg (by decide) hvy]; exact (dm_neg1 hyp hm1 n2).2
      · intro c127
        refine vv (rpk (v := .bool false) rfl rfl) ?_
        refine vnil ?_
        refine V.condF rfl ?_
        refine V.skip ?_
        refine V.seq (V.reg rfl ?_)
        refine vv (rfa rfl fd41_0) ?_
        refine vv (rldb (v := .bool true) rfl sc4 b75 rfl) ?_
        refine vv (rfa rfl fd41_0) ?_
        refine vv (rldb (v := .bool _) rfl sc4 b81 rfl) ?_
        refine vv (rbne Try.underlying4 rfl rfl rfl) ?_
        refine mvs rfl ?_
        refine vo ?_
        refine xcall e91 (made_ok _ _ _ _ _ _ _ hd121) rfl rfl ?_
        rintro _ W170 ⟨_, _, _, _, rfl, x171, hz169⟩
        have s172 := x171.sz
        have z173 := z126.trans x171
        replace b75 := b75.ext x171
        replace b81 := b81.ext x171
        replace b87 := b87.ext x171
        replace b93 := b93.ext x171
        refine ⟨_, rfl, ?_⟩
        refine mvs rfl ?_
        refine vo ?_
        refine xcall e91 (made_ok false _ _ _ _ _ _ (he122.ext x171)) rfl rfl ?_
        rintro _ W175 ⟨_, _, _, _, rfl, x176, hz174⟩
        have s177 := x176.sz
        have z178 := z173.trans x176
        replace b75 := b75.ext x176
        replace b81 := b81.ext x176
        replace b87 := b87.ext x176
        replace b93 := b93.ext x176
        refine ⟨_, rfl, ?_⟩
        refine vo ?_
        refine sta (cs' := [_, _]) b87 rfl rfl sz41 rfl rfl rfl ?_
        intro W179 y180 b87
        have z181 := z178.below (y180.below (by omega))
        replace b75 := b75.wr y180 (by omega)
        replace b81 := b81.wr y180 (by omega)
        replace b93 := b93.wr y180 (by omega)
        have s182 := y180.size
        refine vo ?_
        refine sta (cs' := [_, _]) b93 rfl rfl sz41 rfl rfl rfl ?_
        intro W183 y184 b93
        have z185 := z181.below (y184.below (by omega))
        replace b75 := b75.wr y184 (by omega)
        replace b81 := b81.wr y184 (by omega)
        replace b87 := b87.wr y184 (by omega)
        have s186 := y184.size
        refine asi rfl ?_
        refine vnil ?_
        refine V.ret ?_
        refine ⟨[_, _, .int _ _], ⟨⟨_, rfl, lvb ag41 b87 rfl⟩, ⟨_, rfl, lvb ag41 b93 rfl⟩, rfl, trivial⟩, ?_⟩
        have hm0 : vl b32 xs % vl b32 ys = 0 := (dg_natAbs_len dm.2.1 ((he122.ck ((((x171.ck _).trans (x176.ck _)).trans (y180.ck (by intro hh; simp [SX] at hh <;> omega))).trans (y184.ck (by intro hh; simp [SX] at hh <;> omega))))).len).2 (by omega)
        refine ⟨_, _, _, _, _, _, _, _, rfl, z185, ((hz169.ck (((x176.ck _).trans (y180.ck (by intro hh; simp [SX] at hh <;> omega))).trans (y184.ck (by intro hh; simp [SX] at hh <;> omega))))).un.cast ?_, ((hz174.ck ((y180.ck (by intro hh; simp [SX] at hh <;> omega)).trans (y184.ck (by intro hh; simp [SX] at hh <;> omega))))).un.cast ?_⟩
        · rw [vl_dg (by decide) dm.1]; exact (dm_neg0 hyp hm0 n2).1
        · rw [vl_dg (by decide) dm.2.1]; exact (dm_neg0 hyp hm0 n2).2

theorem gcd_step (u v : Int) : Int.gcd v (u % v) = Int.gcd u v := by
  have h := Int.gcd_add_mul_left_right v (u % v) (u / v)
  rw [Int.add_comm, Int.mul_ediv_add_emod] at h
  rw [← h, Int.gcd_comm]
theorem gcd_if (n1 n2 : Bool) (x y : Int) : Int.gcd (if n1 then -x else x) (if n2 then -y else y) = Int.gcd x y := by
  cases n1 <;> cases n2 <;> simp

set_option maxHeartbeats 400000 in
theorem wGCD_ok (n1 n2 : Bool) (a1 a2 : Option Addr) (l1 c1 l2 c2 : Nat) (z1 z2 : Int) (L1 L2 : Nat) (S S1 S2 : Nat → Prop) (w : World) (h1 : ZA L1 S1 w n1 a1 l1 c1 z1) (h2 : ZA L2 S2 w n2 a2 l2 c2 z2) (hL1 : L1 ≤ LY) (hL2 : L2 ≤ LY) (hu : Up S w) :
    Calls Try.prog 97 #[.agg #[.bool n1, .slice a1 l1 c1], .agg #[.bool n2, .slice a2 l2 c2]] w (PZ S (Int.gcd z1 z2 : Int) w) := by
  have z0 := Ext.refl w; have hLX : LX = 17592186044416 := rfl; have hLY : LY = 8796093022208 := rfl
  obtain ⟨xs, hx, q1, rfl⟩ := h1; obtain ⟨ys, hy, q2, rfl⟩ := h2
  have hvx := vl_nonneg (B := b32) (by decide) hx.dg32; have hvy := vl_nonneg (B := b32) (by decide) hy.dg32
  have lx := hx.len; have ly := hy.len
  have hu2 : ∀ W : World, w.heap.size + 3 ≤ W.heap.size → Up (SX S [w.heap.size + 2]) W := fun W hW => SX.up (hu.mono (by omega)) (by simp <;> omega)
  refine enter (args := [.agg #[.bool n1, .slice a1 l1 c1], .agg #[.bool n2, .slice a2 l2 c2]]) Try.func97 rfl rfl (Nat.le_of_ble_eq_true rfl) ?_
  refine V.seq (V.reg rfl ?_)
  refine vo ?_
  refine bxa rfl ?_
  intro W1 x2 b3 nn4
  have s5 := x2.sz
  have z6 := x2
  refine vo ?_
  refine bxa rfl ?_
  intro W7 x8 b9 nn10
  have s11 := x8.sz
  have z12 := z6.trans x8
  replace b3 := b3.ext x8
  refine vo ?_
  refine xal zc41 ?_
  intro W13 x14 b15 nn16
  have s17 := x14.sz
  have z18 := z12.trans x14
  replace b3 := b3.ext x14
  replace b9 := b9.ext x14
  refine vnil ?_
  refine V.seq (V.regD mixed rfl ?_)
  intro W19 x20
  have s21 := x20.sz
  have z22 := z18.trans x20
  replace b3 := b3.ext x20
  replace b9 := b9.ext x20
  replace b15 := b15.ext x20
  have q23 := Ext.refl W19
  have r24 := b3
  have r25 := b9
  have r26 := b15
  refine tk 0 rfl (by kernel_rfl) q23 (pv (fun _ y27 => rfa rfl fd41_1)) ?_
  refine tk 1 rfl (by kernel_rfl) q23 (pv (fun _ y28 => rldb (v := .slice _ _ _) rfl sc39 (r24.ext y28) rfl)) ?_
  refine tk 3 rfl (by kernel_rfl) q23 (pv (fun _ y29 => rfa rfl fd41_1)) ?_
  refine tk 4 rfl (by kernel_rfl) q23 (pv (fun _ y30 => rldb (v := .slice _ _ _) rfl sc39 (r25.ext y30) rfl)) ?_
  refine ef 2 (by kernel_rfl) rfl ?_
  refine xcall e96 (trim_ok _ _ _ _ _ _ (hx.ext z22)) rfl rfl ?_
  rintro _ _ ⟨m32, rfl, hr31, hm33, rfl⟩
  refine ⟨_, rfl, ?_⟩
  refine ⟨fun _ => q23, ?_⟩
  refine ef 5 (by kernel_rfl) rfl ?_
  refine xcall e96 (trim_ok _ _ _ _ _ _ (hy.ext z22)) rfl rfl ?_
  rintro _ _ ⟨m36, rfl, hr35, hm37, rfl⟩
  refine ⟨_, rfl, ?_⟩
  refine ⟨fun _ => q23, ?_⟩
  refine tk 6 rfl (by kernel_rfl) q23 (pv (fun _ y39 => ras (v := .slice _ _ _) rfl)) ?_
  refine tk 7 rfl (by kernel_rfl) q23 (pv (fun _ y40 => ras (v := .slice _ _ _) rfl)) ?_
  refine dn (by kernel_rfl) ?_
  refine V.seq ?_
  refine V.block ?_
  refine V.loopK (ι := Int × Int × Option Addr × Nat × Nat × Option Addr × Nat × Nat) [(4, .pointer (some ⟨_, _, none⟩))] (fun ⟨u, v, ax, nx, cx, ay, ny, cy⟩ => [(5, .slice ax nx cx), (6, .slice ay ny cy)]) (fun ⟨u, v, ax, nx, cx, ay, ny, cy⟩ W => Ext W19 W ∧ 0 ≤ u ∧ 0 ≤ v ∧ RN .u32 (fun _ => True) W ax nx cx (dg b32 u) ∧ RN .u32 (fun _ => True) W ay ny cy (dg b32 v) ∧ nx ≤ LY ∧ ny ≤ LY ∧ Int.gcd u v = Int.gcd (vl b32 xs) (vl b32 ys)) (fun ⟨u, v, ax, nx, cx, ay, ny, cy⟩ => v.toNat) ((_, _, _, _, _, _, _, _)) ⟨rfl, trivial⟩ ⟨rfl, rfl, trivial⟩ ⟨Ext.refl _, hvx, hvy, (hr31).top, (hr35).top, by omega, by omega, rfl⟩ ?_
  intro i42 E43 W41 h44
  obtain ⟨u, v, ax, nx, cx, ay, ny, cy⟩ := i42
  simp only at h44
  show V _ _ _ _ _ _ (ups (ups _ _) [(5, .slice ax nx cx), (6, .slice ay ny cy)]) _
  obtain ⟨x45, g1, g2, hX, hY, g5, g6, g7⟩ := h44
  have s46 := x45.sz
  have z47 := z22.trans x45
  have z48 := x45
  replace b3 := b3.ext x45
  replace b9 := b9.ext x45
  replace b15 := b15.ext x45
  have lX := hX.len; have lY := hY.len
  have z49 := Ext.refl W41
  refine V.seq ?_
  refine V.seq (V.reg rfl ?_)
  refine mvs rfl ?_
  refine vv (rlen sl39 rfl) ?_
  refine vgt rfl rfl ?_ ?_
  · intro c50
    refine vnil ?_
    refine V.condT rfl ?_
    refine V.skip ?_
    refine V.block ?_
    refine V.seq (V.reg rfl ?_)
    refine mvs rfl ?_
    refine mvs rfl ?_
    have dm := ediv_nn g1 (show 0 < v by have := dg_natAbs_len g2 lY; omega)
    refine vo ?_
    refine xcall e111 (div_ok _ _ _ _ _ _ _ _ _ _ _ _ hX hY (g1) (by have := dg_natAbs_len g2 lY; omega) (by omega) (by omega) (hu2 _ (by omega))) rfl rfl ?_
    rintro _ W53 ⟨_, _, _, _, _, _, rfl, x54, hd51, he52⟩
    have s55 := x54.sz
    have z56 := z47.trans x54
    have z57 := z48.trans x54
    have z58 := x54
    replace b3 := b3.ext x54
    replace b9 := b9.ext x54
    replace b15 := b15.ext x54
    refine ⟨_, rfl, ?_⟩
    refine mvt rfl ?_
    refine vv (rext (v := .slice _ _ _) rfl rfl) ?_
    refine vv (rext (v := .slice _ _ _) rfl rfl) ?_
    refine ass rfl ?_
    refine ass rfl ?_
    refine vnil ?_
    refine V.reg rfl ?_
    refine mvs rfl ?_
    refine mvs rfl ?_
    refine ass rfl ?_
    refine ass rfl ?_
    refine vnil ?_
    refine ⟨rfl, (v, u % v, _, _, _, _, _, _), ⟨rfl, trivial⟩, ⟨rfl, rfl, trivial⟩, ⟨z57, g2, dm.2.1, (hY.ext z58), (he52).top, by omega, by have := dg_len_mono dm.2.1 (Int.le_of_lt dm.2.2.1); have := (he52).len; omega, by rw [← g7, gcd_step]⟩, ?_⟩
    show (u % v).toNat < v.toNat
    omega
  · intro c50
    refine vnil ?_
    refine V.condF rfl ?_
    refine V.exit ?_
    refine V.seq (V.reg rfl ?_)
    refine mvs rfl ?_
    refine vo ?_
    refine xcall e110 (clone_ok _ _ _ _ _ _ _ hX (by omega) (hu2 _ (by omega))) rfl rfl ?_
    rintro _ W60 ⟨_, _, _, rfl, x61, hw59⟩
    have s62 := x61.sz
    have z63 := z47.trans x61
    have z64 := z48.trans x61
    have z65 := x61
    replace b3 := b3.ext x61
    replace b9 := b9.ext x61
    replace b15 := b15.ext x61
    have hw59l := hw59.len
    refine ⟨_, rfl, ?_⟩
    refine vo ?_
    refine xcall e91 (made_ok false _ _ _ _ _ _ hw59) rfl rfl ?_
    rintro _ W67 ⟨_, _, _, _, rfl, x68, hz66⟩
    have s69 := x68.sz
    have z70 := z63.trans x68
    have z71 := z64.trans x68
    have z72 := z65.trans x68
    replace b3 := b3.ext x68
    replace b9 := b9.ext x68
    replace b15 := b15.ext x68
    refine ⟨_, rfl, ?_⟩
    refine vo ?_
    refine sta (cs' := [_, _]) b15 rfl rfl sz41 rfl rfl rfl ?_
    intro W73 y74 b15
    have z75 := z70.below (y74.below (by omega))
    replace b3 := b3.wr y74 (by omega)
    replace b9 := b9.wr y74 (by omega)
    have s76 := y74.size
    refine vnil ?_
    refine V.ret ?_
    refine ⟨[_], ⟨⟨_, rfl, lvb ag41 b15 rfl⟩, trivial⟩, ?_⟩
    refine ⟨_, _, _, _, rfl, z75, ((hz66.ck (y74.ck (by intro hh; simp [SX] at hh <;> omega)))).un.cast ?_⟩
    have hv0 : v = 0 := by have := dg_natAbs_len g2 lY; omega
    subst hv0
    rw [gcd_if, ← g7, Int.gcd_zero_right, vl_dg (by decide) g1]
    show u = _
    omega
end Go.Proofs.Ytknbjfefeeojlaa

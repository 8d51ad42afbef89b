/- Package pylonref02: one den num over Least Of Neg Sign Mul. -/
import Derived.Scope
import Derived.Test.YtknbjfefeeojlaaGreatMgqt5
namespace Go.Proofs.YtknbjfefeeojlaaGreat
open Go.RowKit
attribute [local irreducible] RV VH V OpF Calls
def dnq (y : Int) : Int := if y = 0 then 1 else (y.natAbs : Int)
def nmq (x y : Int) : Int := if y < 0 then -x else x
theorem dn_pos (y : Int) : 0 < dnq y := by unfold dnq; split <;> omega
theorem qv_nd (x y : Int) : Rat.divInt (nmq x y) (dnq y) = qv x y := by
  unfold nmq dnq
  by_cases h : y = 0
  · subst h; rw [if_pos rfl, if_neg (by omega), qv0]
  · rw [if_neg h, qvn h]
    by_cases h1 : y < 0
    · rw [if_pos h1, show ((y.natAbs : Nat) : Int) = -y by omega, Rat.neg_divInt_neg]
    · rw [if_neg h1, show ((y.natAbs : Nat) : Int) = y by omega]
theorem nm_abs (x y : Int) : ((nmq x y).natAbs : Int) = x.natAbs := by unfold nmq; split <;> simp
theorem one_lt_pow {L : Nat} (hL : 1 ≤ L) : (1 : Int) < b32 ^ L := by
  have := pow_mono (n := 1) (m := L) hL
  have e : b32 ^ 1 = 4294967296 := by decide
  omega
theorem dn_abs {y : Int} {L : Nat} (hL : 1 ≤ L) (h : (y.natAbs : Int) < b32 ^ L) : ((dnq y).natAbs : Int) < b32 ^ L := by
  have := one_lt_pow hL
  unfold dnq; split
  · simpa using this
  · simpa using h
theorem nm_lt {x y : Int} {L : Nat} (h : (x.natAbs : Int) < b32 ^ L) : ((nmq x y).natAbs : Int) < b32 ^ L := by rw [nm_abs]; exact h

set_option maxHeartbeats 400000 in
theorem rOne_ok (S : Nat → Prop) (w : World) (hu : Up S w) :
    Calls Tryz.prog 193 #[] w (PZ S 1 w) := by
 have z0 := Ext.refl w; have hLX : LX = 17592186044416 := rfl; have hLY : LY = 8796093022208 := rfl
 have hu2 : ∀ W : World, w.heap.size + 1 ≤ W.heap.size → Up (SX S [w.heap.size]) W := fun W hW => SX.up (hu.mono (by omega)) (by simp <;> omega)
 refine enter (args := []) Tryz.func193 rfl rfl (Nat.le_of_ble_eq_true rfl) ?_
 refine V.seq (V.reg rfl ?_)
 refine vo ?_
 refine xal zc46 ?_
 intro W1 x2 b3 nn4
 have s5 := x2.sz
 have z6 := x2
 refine vnil ?_
 refine V.seq (V.reg rfl ?_)
 refine vo ?_
 refine xcall e165 (rFrom_ok _ _ _ (by omega) (hu2 _ (by omega))) rfl rfl ?_
 rintro _ W8 ⟨_, _, _, _, rfl, x9, hz7⟩
 have s10 := x9.sz
 have z11 := z6.trans x9
 replace b3 := b3.ext x9
 refine ⟨_, rfl, ?_⟩
 refine vo ?_
 refine sta (cs' := [_, _]) b3 rfl rfl sz46 rfl rfl rfl ?_
 intro W12 y13 b3
 have z14 := z11.below (y13.below (by omega))
 have s15 := y13.size
 refine vnil ?_
 refine V.ret ?_
 refine ⟨[_], ⟨⟨_, rfl, lvb ag46 b3 rfl⟩, trivial⟩, ?_⟩
 exact ⟨_, _, _, _, rfl, z14, ((hz7.ck (y13.ck (by intro hh; first | (simp [SX] at hh <;> omega) | omega)))).un⟩
set_option maxHeartbeats 400000 in
theorem rDen_ok (q : List Value) (x y : Int) (L : Nat) (S S1 : Nat → Prop) (w : World) (h : PA L S1 w q x y) (hL : L ≤ LX / 64) (hu : Up S w) :
    Calls Tryz.prog 161 #[.agg q.toArray] w (PZ S (dnq y) w) := by
 have z0 := Ext.refl w; have hLX : LX = 17592186044416 := rfl; have hLY : LY = 8796093022208 := rfl
 obtain ⟨n1, a1, l1, c1, n2, a2, l2, c2, rfl⟩ := h.form
 obtain ⟨hx, hy⟩ := h.one
 have hu2 : ∀ W : World, w.heap.size + 2 ≤ W.heap.size → Up (SX S [w.heap.size + 1]) W := fun W hW => SX.up (hu.mono (by omega)) (by simp <;> omega)
 refine enter (args := [.agg #[.bool n1, .slice a1 l1 c1, .bool n2, .slice a2 l2 c2]]) Tryz.func161 rfl rfl (Nat.le_of_ble_eq_true rfl) ?_
 refine V.seq (V.reg rfl ?_)
 refine vo ?_
 refine bxa rfl ?_
 intro W1 x2 b3 nn4
 have s5 := x2.sz
 have z6 := x2
 refine vo ?_
 refine xal zc46 ?_
 intro W7 x8 b9 nn10
 have s11 := x8.sz
 have z12 := z6.trans x8
 replace b3 := b3.ext x8
 refine vnil ?_
 refine V.seq ?_
 refine V.seq (V.reg rfl ?_)
 refine vv (rfa rfl fd48_1) ?_
 refine vv (rldb2 rfl ag46 b3 rfl rfl ) ?_
 refine vo ?_
 refine xcall e172 (rSign_ok _ _ _ _ _ _ _ _ (hy.ext z12) (by omega)) rfl rfl ?_
 rintro _ W13 ⟨rfl, x14⟩
 have s15 := x14.sz
 have z16 := z12.trans x14
 replace b3 := b3.ext x14
 replace b9 := b9.ext x14
 refine ⟨_, rfl, ?_⟩
 refine veq rfl rfl ?_ ?_
 ·intro cs
  refine vnil ?_
  refine V.condT rfl ?_
  refine V.seq (V.reg rfl ?_)
  refine vo ?_
  refine xcall e193 (rOne_ok _ _ (hu2 _ (by omega))) rfl rfl ?_
  rintro _ W18 ⟨_, _, _, _, rfl, x19, hz17⟩
  have s20 := x19.sz
  have z21 := z16.trans x19
  replace b9 := b9.ext x19
  refine ⟨_, rfl, ?_⟩
  refine vo ?_
  refine sta (cs' := [_, _]) b9 rfl rfl sz46 rfl rfl rfl ?_
  intro W22 y23 b9
  have z24 := z21.below (y23.below (by omega))
  have s25 := y23.size
  refine vnil ?_
  refine V.ret ?_
  refine ⟨[_], ⟨⟨_, rfl, lvb ag46 b9 rfl⟩, trivial⟩, ?_⟩
  exact ⟨_, _, _, _, rfl, z24, ((hz17.ck (y23.ck (by intro hh; first | (simp [SX] at hh <;> omega) | omega)))).un.cast (by rw [dnq, if_pos (sg_eq0 cs)])⟩
 ·intro cs
  refine vnil ?_
  refine V.condF rfl ?_
  refine V.skip ?_
  refine V.seq (V.reg rfl ?_)
  refine vv (rfa rfl fd48_1) ?_
  refine vv (rldb2 rfl ag46 b3 rfl rfl ) ?_
  refine vo ?_
  refine xcall e195 (rAbs_ok _ _ _ _ _ _ _ _ _ (hy.ext z16) (by omega) (hu2 _ (by omega))) rfl rfl ?_
  rintro _ W27 ⟨_, _, _, _, rfl, x28, hz26⟩
  have s29 := x28.sz
  have z30 := z16.trans x28
  replace b9 := b9.ext x28
  refine ⟨_, rfl, ?_⟩
  refine vo ?_
  refine sta (cs' := [_, _]) b9 rfl rfl sz46 rfl rfl rfl ?_
  intro W31 y32 b9
  have z33 := z30.below (y32.below (by omega))
  have s34 := y32.size
  refine vnil ?_
  refine V.ret ?_
  refine ⟨[_], ⟨⟨_, rfl, lvb ag46 b9 rfl⟩, trivial⟩, ?_⟩
  exact ⟨_, _, _, _, rfl, z33, ((hz26.ck (y32.ck (by intro hh; first | (simp [SX] at hh <;> omega) | omega)))).un.cast (by rw [dnq, if_neg (fun h => cs (by rw [h]; rfl))])⟩

theorem sg_lt0 {y : Int} (h : sg y < 0) : y < 0 := by unfold sg at h; (repeat' split at h) <;> omega
theorem sg_ge0 {y : Int} (h : 0 ≤ sg y) : ¬ y < 0 := by unfold sg at h; (repeat' split at h) <;> omega

set_option maxHeartbeats 400000 in
theorem rNum_ok (q : List Value) (x y : Int) (L : Nat) (S S1 : Nat → Prop) (w : World) (h : PA L S1 w q x y) (hL : L ≤ LX / 64) (hu : Up S w) :
    Calls Tryz.prog 160 #[.agg q.toArray] w (PZ S (nmq x y) w) := by
 have z0 := Ext.refl w; have hLX : LX = 17592186044416 := rfl; have hLY : LY = 8796093022208 := rfl
 obtain ⟨n1, a1, l1, c1, n2, a2, l2, c2, rfl⟩ := h.form
 obtain ⟨hx, hy⟩ := h.one
 have hu2 : ∀ W : World, w.heap.size + 2 ≤ W.heap.size → Up (SX S [w.heap.size + 1]) W := fun W hW => SX.up (hu.mono (by omega)) (by simp <;> omega)
 refine enter (args := [.agg #[.bool n1, .slice a1 l1 c1, .bool n2, .slice a2 l2 c2]]) Tryz.func160 rfl rfl (Nat.le_of_ble_eq_true rfl) ?_
 refine V.seq (V.reg rfl ?_)
 refine vo ?_
 refine bxa rfl ?_
 intro W1 x2 b3 nn4
 have s5 := x2.sz
 have z6 := x2
 refine vo ?_
 refine xal zc46 ?_
 intro W7 x8 b9 nn10
 have s11 := x8.sz
 have z12 := z6.trans x8
 replace b3 := b3.ext x8
 refine vnil ?_
 refine V.seq ?_
 refine V.seq (V.reg rfl ?_)
 refine vv (rfa rfl fd48_1) ?_
 refine vv (rldb2 rfl ag46 b3 rfl rfl ) ?_
 refine vo ?_
 refine xcall e172 (rSign_ok _ _ _ _ _ _ _ _ (hy.ext z12) (by omega)) rfl rfl ?_
 rintro _ W13 ⟨rfl, x14⟩
 have s15 := x14.sz
 have z16 := z12.trans x14
 replace b3 := b3.ext x14
 replace b9 := b9.ext x14
 refine ⟨_, rfl, ?_⟩
 refine vlt rfl rfl ?_ ?_
 ·intro cs
  refine vnil ?_
  refine V.condT rfl ?_
  refine V.seq (V.reg rfl ?_)
  refine vv (rfa rfl fd48_0) ?_
  refine vv (rldb2 rfl ag46 b3 rfl rfl ) ?_
  refine vo ?_
  refine xcall e166 (rNeg_ok _ _ _ _ _ _ _ _ _ (hx.ext z16) (by omega) (hu2 _ (by omega))) rfl rfl ?_
  rintro _ W18 ⟨_, _, _, _, rfl, x19, hz17⟩
  have s20 := x19.sz
  have z21 := z16.trans x19
  replace b9 := b9.ext x19
  refine ⟨_, rfl, ?_⟩
  refine vo ?_
  refine sta (cs' := [_, _]) b9 rfl rfl sz46 rfl rfl rfl ?_
  intro W22 y23 b9
  have z24 := z21.below (y23.below (by omega))
  have s25 := y23.size
  refine vnil ?_
  refine V.ret ?_
  refine ⟨[_], ⟨⟨_, rfl, lvb ag46 b9 rfl⟩, trivial⟩, ?_⟩
  exact ⟨_, _, _, _, rfl, z24, ((hz17.ck (y23.ck (by intro hh; first | (simp [SX] at hh <;> omega) | omega)))).un.cast (by rw [nmq, if_pos (sg_lt0 cs)])⟩
 ·intro cs
  refine vnil ?_
  refine V.condF rfl ?_
  refine V.skip ?_
  refine V.seq (V.reg rfl ?_)
  refine vv (rfa rfl fd48_0) ?_
  refine vv (rldb2 rfl ag46 b3 rfl rfl ) ?_
  refine vo ?_
  refine xcall e194 (rLeastZ_ok _ _ _ _ _ _ _ _ _ (hx.ext z16) (by omega) (hu2 _ (by omega))) rfl rfl ?_
  rintro _ W27 ⟨_, _, _, _, rfl, x28, hz26⟩
  have s29 := x28.sz
  have z30 := z16.trans x28
  replace b9 := b9.ext x28
  refine ⟨_, rfl, ?_⟩
  refine vo ?_
  refine sta (cs' := [_, _]) b9 rfl rfl sz46 rfl rfl rfl ?_
  intro W31 y32 b9
  have z33 := z30.below (y32.below (by omega))
  have s34 := y32.size
  refine vnil ?_
  refine V.ret ?_
  refine ⟨[_], ⟨⟨_, rfl, lvb ag46 b9 rfl⟩, trivial⟩, ?_⟩
  exact ⟨_, _, _, _, rfl, z33, ((hz26.ck (y32.ck (by intro hh; first | (simp [SX] at hh <;> omega) | omega)))).un.cast (by rw [nmq, if_neg (sg_ge0 cs)])⟩
set_option maxHeartbeats 400000 in
theorem rOver_ok (n1 : Bool) (a1 : Option Addr) (l1 c1 : Nat) (n : Int) (L1 : Nat) (n2 : Bool) (a2 : Option Addr) (l2 c2 : Nat) (d : Int) (L2 : Nat) (S S1 S2 : Nat → Prop) (w : World) (h1 : ZA L1 S1 w n1 a1 l1 c1 n) (hL1 : L1 ≤ LX / 64) (h2 : ZA L2 S2 w n2 a2 l2 c2 d) (hL2 : L2 ≤ LX / 64) (hd : 0 < d) (hu : Up S w) :
    Calls Tryz.prog 159 #[.agg #[.bool n1, .slice a1 l1 c1], .agg #[.bool n2, .slice a2 l2 c2]] w (PQ S (Rat.divInt n d) w) := by
 have z0 := Ext.refl w; have hLX : LX = 17592186044416 := rfl; have hLY : LY = 8796093022208 := rfl
 have hu2 : ∀ W : World, w.heap.size + 3 ≤ W.heap.size → Up (SX S [w.heap.size + 2]) W := fun W hW => SX.up (hu.mono (by omega)) (by simp <;> omega)
 refine enter (args := [.agg #[.bool n1, .slice a1 l1 c1], .agg #[.bool n2, .slice a2 l2 c2]]) Tryz.func159 rfl rfl (Nat.le_of_ble_eq_true rfl) ?_
 refine V.seq (V.reg rfl ?_)
 refine vo ?_
 refine bxa rfl ?_
 intro W1 x2 b3 nn4
 have s5 := x2.sz
 have z6 := x2
 refine vo ?_
 refine bxa rfl ?_
 intro W7 x8 b9 nn10
 have s11 := x8.sz
 have z12 := z6.trans x8
 replace b3 := b3.ext x8
 refine vo ?_
 refine xal zc48 ?_
 intro W13 x14 b15 nn16
 have s17 := x14.sz
 have z18 := z12.trans x14
 replace b3 := b3.ext x14
 replace b9 := b9.ext x14
 refine vnil ?_
 refine V.seq (V.reg rfl ?_)
 refine vv (rldb2 rfl ag46 b3 rfl rfl ) ?_
 refine vv (rldb2 rfl ag46 b9 rfl rfl ) ?_
 refine vo ?_
 refine xcall e190 (rGcd_ok _ _ _ _ _ _ _ _ _ _ _ _ _ _ _ _ (h1.ext z18) hL1 (h2.ext z18) hL2 (hu2 _ (by omega))) rfl rfl ?_
 rintro _ W20 ⟨_, _, _, _, rfl, x21, hz19⟩
 have s22 := x21.sz
 have z23 := z18.trans x21
 replace b3 := b3.ext x21
 replace b9 := b9.ext x21
 replace b15 := b15.ext x21
 have hg := (ZC.zaH (L := L2) hz19 (by have := gcd_le (x := n) (y := d) hd; have := h2.lt; omega)).un
 refine ⟨_, rfl, ?_⟩
 refine vo ?_
 refine xal zc46 ?_
 intro W25 x26 b27 nn28
 have s29 := x26.sz
 have z30 := z23.trans x26
 have z31 := x26
 replace b3 := b3.ext x26
 replace b9 := b9.ext x26
 replace b15 := b15.ext x26
 refine vo ?_
 refine sta (cs' := [_, _]) b27 rfl rfl sz46 rfl rfl rfl ?_
 intro W32 y33 b27
 have z34 := z30.below (y33.below (by omega))
 have z35 := z31.below (y33.below (by omega))
 replace b3 := b3.wr y33 (by omega)
 replace b9 := b9.wr y33 (by omega)
 replace b15 := b15.wr y33 (by omega)
 have s36 := y33.size
 refine vnil ?_
 refine V.seq (V.reg rfl ?_)
 refine vv (rldb2 rfl ag46 b3 rfl rfl ) ?_
 refine vv (rldb2 rfl ag46 b27 rfl rfl ) ?_
 refine vo ?_
 refine xcall e191 (rDivZ_ok _ _ _ _ _ _ _ _ _ _ _ _ _ _ _ _ (h1.ext z34) (by omega) (hg.ext z35) hL2 (gcd_le hd).2 (hu2 _ (by omega))) rfl rfl ?_
 rintro _ W38 ⟨_, _, _, _, _, _, _, _, rfl, x39, hp, _⟩
 have s40 := x39.sz
 have z41 := z34.trans x39
 have z42 := z35.trans x39
 replace b3 := b3.ext x39
 replace b9 := b9.ext x39
 replace b15 := b15.ext x39
 replace b27 := b27.ext x39
 refine ⟨_, rfl, ?_⟩
 refine mvt rfl ?_
 refine vv (rext (v := .agg #[_, _]) rfl rfl) ?_
 refine vv (rext (v := .agg #[_, _]) rfl rfl) ?_
 refine vv (rext (v := .int _ _) rfl rfl) ?_
 refine vo ?_
 refine xal zc46 ?_
 intro W44 x45 b46 nn47
 have s48 := x45.sz
 have z49 := z41.trans x45
 have z50 := z42.trans x45
 have z51 := x45
 replace b3 := b3.ext x45
 replace b9 := b9.ext x45
 replace b15 := b15.ext x45
 replace b27 := b27.ext x45
 refine vo ?_
 refine xal zc46 ?_
 intro W52 x53 b54 nn55
 have s56 := x53.sz
 have z57 := z49.trans x53
 have z58 := z50.trans x53
 have z59 := z51.trans x53
 replace b3 := b3.ext x53
 replace b9 := b9.ext x53
 replace b15 := b15.ext x53
 replace b27 := b27.ext x53
 replace b46 := b46.ext x53
 refine vo ?_
 refine sta (cs' := [_, _]) b46 rfl rfl sz46 rfl rfl rfl ?_
 intro W60 y61 b46
 have z62 := z57.below (y61.below (by omega))
 have z63 := z58.below (y61.below (by omega))
 have z64 := z59.below (y61.below (by omega))
 replace b3 := b3.wr y61 (by omega)
 replace b9 := b9.wr y61 (by omega)
 replace b15 := b15.wr y61 (by omega)
 replace b27 := b27.wr y61 (by omega)
 replace b54 := b54.wr y61 (by omega)
 have s65 := y61.size
 refine vo ?_
 refine sta (cs' := [_, _]) b54 rfl rfl sz46 rfl rfl rfl ?_
 intro W66 y67 b54
 have z68 := z62.below (y67.below (by omega))
 have z69 := z63.below (y67.below (by omega))
 have z70 := z64.below (y67.below (by omega))
 replace b3 := b3.wr y67 (by omega)
 replace b9 := b9.wr y67 (by omega)
 replace b15 := b15.wr y67 (by omega)
 replace b27 := b27.wr y67 (by omega)
 replace b46 := b46.wr y67 (by omega)
 have s71 := y67.size
 refine asi rfl ?_
 refine vnil ?_
 refine V.seq (V.reg rfl ?_)
 refine vv (rldb2 rfl ag46 b9 rfl rfl ) ?_
 refine vv (rldb2 rfl ag46 b27 rfl rfl ) ?_
 refine vo ?_
 refine xcall e191 (rDivZ_ok _ _ _ _ _ _ _ _ _ _ _ _ _ _ _ _ (h2.ext z68) (by omega) (hg.ext z69) hL2 (gcd_le hd).2 (hu2 _ (by omega))) rfl rfl ?_
 rintro _ W73 ⟨_, _, _, _, _, _, _, _, rfl, x74, hq, _⟩
 have s75 := x74.sz
 have z76 := z68.trans x74
 have z78 := z70.trans x74
 replace b3 := b3.ext x74
 replace b9 := b9.ext x74
 replace b15 := b15.ext x74
 replace b27 := b27.ext x74
 replace b46 := b46.ext x74
 replace b54 := b54.ext x74
 refine ⟨_, rfl, ?_⟩
 refine mvt rfl ?_
 refine vv (rext (v := .agg #[_, _]) rfl rfl) ?_
 refine vv (rext (v := .agg #[_, _]) rfl rfl) ?_
 refine vv (rext (v := .int _ _) rfl rfl) ?_
 refine vo ?_
 refine xal zc46 ?_
 intro W80 x81 b82 nn83
 have s84 := x81.sz
 have z85 := z76.trans x81
 have z87 := z78.trans x81
 have z88 := x81
 replace b3 := b3.ext x81
 replace b9 := b9.ext x81
 replace b15 := b15.ext x81
 replace b27 := b27.ext x81
 replace b46 := b46.ext x81
 replace b54 := b54.ext x81
 refine vo ?_
 refine xal zc46 ?_
 intro W89 x90 b91 nn92
 have s93 := x90.sz
 have z94 := z85.trans x90
 have z96 := z87.trans x90
 have z97 := z88.trans x90
 replace b3 := b3.ext x90
 replace b9 := b9.ext x90
 replace b15 := b15.ext x90
 replace b27 := b27.ext x90
 replace b46 := b46.ext x90
 replace b54 := b54.ext x90
 replace b82 := b82.ext x90
 refine vo ?_
 refine sta (cs' := [_, _]) b82 rfl rfl sz46 rfl rfl rfl ?_
 intro W98 y99 b82
 have z100 := z94.below (y99.below (by omega))
 have z102 := z96.below (y99.below (by omega))
 have z103 := z97.below (y99.below (by omega))
 replace b3 := b3.wr y99 (by omega)
 replace b9 := b9.wr y99 (by omega)
 replace b15 := b15.wr y99 (by omega)
 replace b27 := b27.wr y99 (by omega)
 replace b46 := b46.wr y99 (by omega)
 replace b54 := b54.wr y99 (by omega)
 replace b91 := b91.wr y99 (by omega)
 have s104 := y99.size
 refine vo ?_
 refine sta (cs' := [_, _]) b91 rfl rfl sz46 rfl rfl rfl ?_
 intro W105 y106 b91
 have z107 := z100.below (y106.below (by omega))
 have z109 := z102.below (y106.below (by omega))
 have z110 := z103.below (y106.below (by omega))
 replace b3 := b3.wr y106 (by omega)
 replace b9 := b9.wr y106 (by omega)
 replace b15 := b15.wr y106 (by omega)
 replace b27 := b27.wr y106 (by omega)
 replace b46 := b46.wr y106 (by omega)
 replace b54 := b54.wr y106 (by omega)
 replace b82 := b82.wr y106 (by omega)
 have s111 := y106.size
 refine asi rfl ?_
 refine vnil ?_
 refine V.seq ?_
 refine V.seq (V.regD mixed rfl ?_)
 intro W112 x113
 have s114 := x113.sz
 have z115 := z107.trans x113
 have z117 := z109.trans x113
 have z118 := z110.trans x113
 replace b3 := b3.ext x113
 replace b9 := b9.ext x113
 replace b15 := b15.ext x113
 replace b27 := b27.ext x113
 replace b46 := b46.ext x113
 replace b54 := b54.ext x113
 replace b82 := b82.ext x113
 replace b91 := b91.ext x113
 have q119 := Ext.refl W112
 have r120 := b3
 have r121 := b9
 have r122 := b15
 have r123 := b27
 have r124 := b46
 have r125 := b54
 have r126 := b82
 have r127 := b91
 refine tk 0 rfl (by kernel_rfl) q119 (pv (fun _ y128 => rldb2 rfl ag46 (r126.ext y128) rfl rfl )) ?_
 refine ef 1 (by kernel_rfl) rfl ?_
 refine xcall e193 (rOne_ok _ _ (hu2 _ (by omega))) rfl rfl ?_
 rintro _ W130 ⟨_, _, _, _, rfl, x131, hz129⟩
 have s132 := x131.sz
 have z133 := z115.trans x131
 have z135 := z117.trans x131
 have z136 := z118.trans x131
 replace b15 := b15.ext x131
 replace b46 := b46.ext x131
 replace b82 := b82.ext x131
 have q137 := q119.trans x131
 have hone := ZC.zaH (L := 1) hz129 (by decide)
 refine ⟨_, rfl, ?_⟩
 refine ⟨fun _ => q137, ?_⟩
 refine ef 2 (by kernel_rfl) rfl ?_
 have hq2 := ZC.zaH (L := L2) (hq.ext z136) (by have := h2.lt; have h3 := Int.natAbs_ediv_le_natAbs d (Int.gcd n d : Int); omega)
 refine xcall e192 (rCmpZ_ok _ _ _ _ _ _ _ _ _ _ _ _ _ _ _ hq2 hL2 hone (by omega)) rfl rfl ?_
 rintro _ W139 ⟨_, rfl, x140, hcz⟩
 have s141 := x140.sz
 have z142 := z133.trans x140
 have z144 := z135.trans x140
 have z145 := z136.trans x140
 replace b15 := b15.ext x140
 replace b46 := b46.ext x140
 replace b82 := b82.ext x140
 have q147 := q137.trans x140
 refine ⟨_, rfl, ?_⟩
 refine ⟨fun _ => q147, ?_⟩
 refine tk 3 rfl (by kernel_rfl) q147 (pv (fun _ y148 => rcmp (cEq rfl) rfl rfl rfl)) ?_
 refine dn (by kernel_rfl) ?_
 refine V.condB rfl ?_ ?_
 ·intro c1
  refine V.seq (V.reg rfl ?_)
  refine vv (rldb2 rfl ag46 b46 rfl rfl ) ?_
  refine vv (rbd (ps := [(0, .agg #[_, _])]) (cs := [.bool _, .slice _ _ _, .bool false, .slice _ _ _]) pl48 rfl rfl) ?_
  refine vo ?_
  refine sta (cs' := [_, _, _, _]) b15 rfl rfl sz48 rfl rfl rfl ?_
  intro W149 y150 b15
  have z151 := z142.below (y150.below (by omega))
  have s152 := y150.size
  refine vnil ?_
  refine V.ret ?_
  refine ⟨[_], ⟨⟨_, rfl, lvb ag48 b15 rfl⟩, trivial⟩, ?_⟩
  have hd1 := hcz.1 (of_decide_eq_true c1)
  exact ⟨_, rfl, z151, QC.mk1 (((((hp.ext z144).ck (y150.ck (by intro hh; first | (simp [SX] at hh <;> omega) | omega)))).un).cast (num_dv hd).symm) (by have := den_dv (x := n) hd; omega)⟩
 ·intro c1
  refine V.skip ?_
  refine V.seq (V.reg rfl ?_)
  refine vv (rldb2 rfl ag46 b46 rfl rfl ) ?_
  refine vv (rldb2 rfl ag46 b82 rfl rfl ) ?_
  refine vv (rbd (ps := [(0, .agg #[_, _]), (1, .agg #[_, _])]) (cs := [.bool _, .slice _ _ _, .bool _, .slice _ _ _]) pl48 rfl rfl) ?_
  refine vo ?_
  refine sta (cs' := [_, _, _, _]) b15 rfl rfl sz48 rfl rfl rfl ?_
  intro W153 y154 b15
  have z155 := z142.below (y154.below (by omega))
  have s156 := y154.size
  refine vnil ?_
  refine V.ret ?_
  refine ⟨[_], ⟨⟨_, rfl, lvb ag48 b15 rfl⟩, trivial⟩, ?_⟩
  have hd1 : d / (Int.gcd n d : Int) ≠ 1 := fun h => of_decide_eq_false c1 (hcz.2 h)
  exact ⟨_, rfl, z155, QC.mk2 (((((hp.ext z144).ck (y154.ck (by intro hh; first | (simp [SX] at hh <;> omega) | omega)))).un).cast (num_dv hd).symm) (((((hq.ext z145).ck (y154.ck (by intro hh; first | (simp [SX] at hh <;> omega) | omega)))).un).cast (den_dv hd).symm) (by have := den_dv (x := n) hd; omega)⟩
end Go.Proofs.YtknbjfefeeojlaaGreat
/- Package pylonref02: Least Of Neg Sign Mul. -/
namespace Go.Proofs.YtknbjfefeeojlaaGreat
open Go.RowKit
attribute [local irreducible] RV VH V OpF Calls
theorem qv_neg (x y : Int) : Rat.divInt (-nmq x y) (dnq y) = -qv x y := by rw [← Rat.neg_divInt, qv_nd]
theorem int_lt2 {n : Int} (h : -9223372036854775808 ≤ n ∧ n ≤ 9223372036854775807) : (n.natAbs : Int) < b32 ^ 2 := by
  have e : b32 ^ 2 = 18446744073709551616 := by decide
  omega

set_option maxHeartbeats 400000 in
theorem rLeastQ_ok (q : List Value) (r : Rat) (L : Nat) (S S1 : Nat → Prop) (w : World) (h : QA L S1 w q r) (hL : L ≤ LX / 128) (hl : 1 ≤ L) (hu : Up S w) :
    Calls Tryz.prog 106 #[.agg q.toArray] w (PQ S r w) := by
 have z0 := Ext.refl w; have hLX : LX = 17592186044416 := rfl; have hLY : LY = 8796093022208 := rfl
 obtain ⟨n1, a1, l1, c1, n2, a2, l2, c2, rfl⟩ := h.form
 obtain ⟨px, py, hx, hy, er⟩ := h.two
 have hu2 : ∀ W : World, w.heap.size + 2 ≤ W.heap.size → Up (SX S [w.heap.size + 1]) W := fun W hW => SX.up (hu.mono (by omega)) (by simp <;> omega)
 refine enter (args := [.agg #[.bool n1, .slice a1 l1 c1, .bool n2, .slice a2 l2 c2]]) Tryz.func106 rfl rfl (Nat.le_of_ble_eq_true rfl) ?_
 refine V.seq (V.reg rfl ?_)
 refine vo ?_
 refine bxa rfl ?_
 intro W1 x2 b3 nn4
 have s5 := x2.sz
 have z6 := x2
 refine vo ?_
 refine xal zc48 ?_
 intro W7 x8 b9 nn10
 have s11 := x8.sz
 have z12 := z6.trans x8
 replace b3 := b3.ext x8
 refine vnil ?_
 refine V.seq (V.regD mixed rfl ?_)
 intro W13 x14
 have s15 := x14.sz
 have z16 := z12.trans x14
 replace b3 := b3.ext x14
 replace b9 := b9.ext x14
 have q17 := Ext.refl W13
 have r18 := b3
 have r19 := b9
 refine tk 0 rfl (by kernel_rfl) q17 (pv (fun _ y20 => rldb4 rfl ag48 (r18.ext y20) rfl rfl rfl rfl )) ?_
 refine tk 2 rfl (by kernel_rfl) q17 (pv (fun _ y21 => rldb4 rfl ag48 (r18.ext y21) rfl rfl rfl rfl )) ?_
 refine ef 1 (by kernel_rfl) rfl ?_
 refine xcall e160 (rNum_ok [_, _, _, _] _ _ _ _ _ _ (PA.mk' (hx.ext z16) (hy.ext z16)) (by omega) (TT.up _)) rfl rfl ?_
 rintro _ W22 ⟨_, _, _, _, rfl, x23, hz4c⟩
 have s24 := x23.sz
 have z25 := z16.trans x23
 replace b9 := b9.ext x23
 have q26 := q17.trans x23
 have hz4 := ZC.zaH (L := L) hz4c (nm_lt hx.lt)
 refine ⟨_, rfl, ?_⟩
 refine ⟨fun _ => q26, ?_⟩
 refine ef 3 (by kernel_rfl) rfl ?_
 refine xcall e161 (rDen_ok [_, _, _, _] _ _ _ _ _ _ (PA.mk' (hx.ext z25) (hy.ext z25)) (by omega) (TT.up _)) rfl rfl ?_
 rintro _ W27 ⟨_, _, _, _, rfl, x28, hz6c⟩
 have s29 := x28.sz
 have z30 := z25.trans x28
 replace b9 := b9.ext x28
 have q31 := q26.trans x28
 have hz6 := ZC.zaH (L := L) hz6c (dn_abs (by omega) hy.lt)
 refine ⟨_, rfl, ?_⟩
 refine ⟨fun _ => q31, ?_⟩
 refine ef 4 (by kernel_rfl) rfl ?_
 refine xcall e159 (rOver_ok _ _ _ _ _ _ _ _ _ _ _ _ _ _ _ _ (hz4.ext x28) (by omega) hz6 (by omega) (dn_pos _) (hu2 _ (by omega))) rfl rfl ?_
 rintro _ W33 ⟨_, rfl, x34, hq32⟩
 have s35 := x34.sz
 have z36 := z30.trans x34
 replace b9 := b9.ext x34
 have q37 := q31.trans x34
 obtain ⟨_, _, _, _, _, _, _, _, rfl⟩ := hq32.form
 refine ⟨_, rfl, ?_⟩
 refine ⟨fun _ => q37, ?_⟩
 refine ef 5 (by kernel_rfl) rfl ?_
 refine sta (cs' := [_, _, _, _]) b9 rfl rfl sz48 rfl rfl rfl ?_
 intro W38 y39 b9
 have z40 := z36.below (y39.below (by omega))
 have s41 := y39.size
 refine lastT (by kernel_rfl) ?_
 refine dn (by kernel_rfl) ?_
 refine V.ret ?_
 refine ⟨[_], ⟨⟨_, rfl, lvb ag48 b9 rfl⟩, trivial⟩, ?_⟩
 exact ⟨_, rfl, z40, ((hq32.ck (y39.ck (by intro hh; first | (simp [SX] at hh <;> omega) | omega)))).un.cast (by rw [qv_nd, er])⟩
set_option maxHeartbeats 400000 in
theorem rOf_ok (n d : Int) (S : Nat → Prop) (w : World) (hn : -9223372036854775808 ≤ n ∧ n ≤ 9223372036854775807) (hd : -9223372036854775808 ≤ d ∧ d ≤ 9223372036854775807) (hu : Up S w) :
    Calls Tryz.prog 121 #[.int .i64 n, .int .i64 d] w (PQ S (qv n d) w) := by
 have z0 := Ext.refl w; have hLX : LX = 17592186044416 := rfl; have hLY : LY = 8796093022208 := rfl
 have hu2 : ∀ W : World, w.heap.size + 1 ≤ W.heap.size → Up (SX S [w.heap.size]) W := fun W hW => SX.up (hu.mono (by omega)) (by simp <;> omega)
 refine enter (args := [.int .i64 n, .int .i64 d]) Tryz.func121 rfl rfl (Nat.le_of_ble_eq_true rfl) ?_
 refine V.seq (V.reg rfl ?_)
 refine vo ?_
 refine xal zc48 ?_
 intro W1 x2 b3 nn4
 have s5 := x2.sz
 have z6 := x2
 refine vnil ?_
 refine V.seq (V.reg rfl ?_)
 refine mvi rfl ?_
 refine vo ?_
 refine xcall e165 (rFrom_ok _ _ _ hn (TT.up _)) rfl rfl ?_
 rintro _ W7 ⟨_, _, _, _, rfl, x8, hznc⟩
 have s9 := x8.sz
 have z10 := z6.trans x8
 replace b3 := b3.ext x8
 have hzn := ZC.zaH (L := 2) hznc (int_lt2 hn)
 refine ⟨_, rfl, ?_⟩
 refine mvi rfl ?_
 refine vo ?_
 refine xcall e165 (rFrom_ok _ _ _ hd (TT.up _)) rfl rfl ?_
 rintro _ W11 ⟨_, _, _, _, rfl, x12, hzdc⟩
 have s13 := x12.sz
 have z14 := z10.trans x12
 replace b3 := b3.ext x12
 have hzd := ZC.zaH (L := 2) hzdc (int_lt2 hd)
 refine ⟨_, rfl, ?_⟩
 refine vv (rbd (ps := [(0, .agg #[_, _]), (1, .agg #[_, _])]) (cs := [.bool _, .slice _ _ _, .bool _, .slice _ _ _]) pl48 rfl rfl) ?_
 refine vo ?_
 refine xcall e106 (rLeastQ_ok [_, _, _, _] _ _ _ _ _ (QA.mk2 (hzn.ext x12) hzd) (by omega) (by omega) (hu2 _ (by omega))) rfl rfl ?_
 rintro _ W16 ⟨_, rfl, x17, hq15⟩
 have s18 := x17.sz
 have z19 := z14.trans x17
 replace b3 := b3.ext x17
 obtain ⟨_, _, _, _, _, _, _, _, rfl⟩ := hq15.form
 refine ⟨_, rfl, ?_⟩
 refine vo ?_
 refine sta (cs' := [_, _, _, _]) b3 rfl rfl sz48 rfl rfl rfl ?_
 intro W20 y21 b3
 have z22 := z19.below (y21.below (by omega))
 have s23 := y21.size
 refine vnil ?_
 refine V.ret ?_
 refine ⟨[_], ⟨⟨_, rfl, lvb ag48 b3 rfl⟩, trivial⟩, ?_⟩
 exact ⟨_, rfl, z22, ((hq15.ck (y21.ck (by intro hh; first | (simp [SX] at hh <;> omega) | omega)))).un.cast (rfl)⟩
set_option maxHeartbeats 400000 in
theorem rNegQ_ok (q : List Value) (r : Rat) (L : Nat) (S S1 : Nat → Prop) (w : World) (h : QA L S1 w q r) (hL : L ≤ LX / 128) (hl : 1 ≤ L) (hu : Up S w) :
    Calls Tryz.prog 122 #[.agg q.toArray] w (PQ S (-r) w) := by
 have z0 := Ext.refl w; have hLX : LX = 17592186044416 := rfl; have hLY : LY = 8796093022208 := rfl
 obtain ⟨n1, a1, l1, c1, n2, a2, l2, c2, rfl⟩ := h.form
 obtain ⟨px, py, hx, hy, er⟩ := h.two
 have hu2 : ∀ W : World, w.heap.size + 2 ≤ W.heap.size → Up (SX S [w.heap.size + 1]) W := fun W hW => SX.up (hu.mono (by omega)) (by simp <;> omega)
 refine enter (args := [.agg #[.bool n1, .slice a1 l1 c1, .bool n2, .slice a2 l2 c2]]) Tryz.func122 rfl rfl (Nat.le_of_ble_eq_true rfl) ?_
 refine V.seq (V.reg rfl ?_)
 refine vo ?_
 refine bxa rfl ?_
 intro W1 x2 b3 nn4
 have s5 := x2.sz
 have z6 := x2
 refine vo ?_
 refine xal zc48 ?_
 intro W7 x8 b9 nn10
 have s11 := x8.sz
 have z12 := z6.trans x8
 replace b3 := b3.ext x8
 refine vnil ?_
 refine V.seq (V.regD mixed rfl ?_)
 intro W13 x14
 have s15 := x14.sz
 have z16 := z12.trans x14
 replace b3 := b3.ext x14
 replace b9 := b9.ext x14
 have q17 := Ext.refl W13
 have r18 := b3
 have r19 := b9
 refine tk 0 rfl (by kernel_rfl) q17 (pv (fun _ y20 => rldb4 rfl ag48 (r18.ext y20) rfl rfl rfl rfl )) ?_
 refine tk 3 rfl (by kernel_rfl) q17 (pv (fun _ y21 => rldb4 rfl ag48 (r18.ext y21) rfl rfl rfl rfl )) ?_
 refine ef 1 (by kernel_rfl) rfl ?_
 refine xcall e160 (rNum_ok [_, _, _, _] _ _ _ _ _ _ (PA.mk' (hx.ext z16) (hy.ext z16)) (by omega) (TT.up _)) rfl rfl ?_
 rintro _ W22 ⟨_, _, _, _, rfl, x23, hz4c⟩
 have s24 := x23.sz
 have z25 := z16.trans x23
 replace b9 := b9.ext x23
 have q26 := q17.trans x23
 have hz4 := ZC.zaH (L := L) hz4c (nm_lt hx.lt)
 refine ⟨_, rfl, ?_⟩
 refine ⟨fun _ => q26, ?_⟩
 refine ef 2 (by kernel_rfl) rfl ?_
 refine xcall e166 (rNeg_ok _ _ _ _ _ _ _ _ _ hz4 (by omega) (TT.up _)) rfl rfl ?_
 rintro _ W27 ⟨_, _, _, _, rfl, x28, hz5c⟩
 have s29 := x28.sz
 have z30 := z25.trans x28
 replace b9 := b9.ext x28
 have q31 := q26.trans x28
 have hz5 := ZC.zaH (L := L) hz5c (by rw [Int.natAbs_neg]; exact hz4.lt)
 refine ⟨_, rfl, ?_⟩
 refine ⟨fun _ => q31, ?_⟩
 refine ef 4 (by kernel_rfl) rfl ?_
 refine xcall e161 (rDen_ok [_, _, _, _] _ _ _ _ _ _ (PA.mk' (hx.ext z30) (hy.ext z30)) (by omega) (TT.up _)) rfl rfl ?_
 rintro _ W32 ⟨_, _, _, _, rfl, x33, hz7c⟩
 have s34 := x33.sz
 have z35 := z30.trans x33
 replace b9 := b9.ext x33
 have q36 := q31.trans x33
 have hz7 := ZC.zaH (L := L) hz7c (dn_abs (by omega) hy.lt)
 refine ⟨_, rfl, ?_⟩
 refine ⟨fun _ => q36, ?_⟩
 refine ef 5 (by kernel_rfl) rfl ?_
 refine xcall e159 (rOver_ok _ _ _ _ _ _ _ _ _ _ _ _ _ _ _ _ (hz5.ext x33) (by omega) hz7 (by omega) (dn_pos _) (hu2 _ (by omega))) rfl rfl ?_
 rintro _ W38 ⟨_, rfl, x39, hq37⟩
 have s40 := x39.sz
 have z41 := z35.trans x39
 replace b9 := b9.ext x39
 have q42 := q36.trans x39
 obtain ⟨_, _, _, _, _, _, _, _, rfl⟩ := hq37.form
 refine ⟨_, rfl, ?_⟩
 refine ⟨fun _ => q42, ?_⟩
 refine ef 6 (by kernel_rfl) rfl ?_
 refine sta (cs' := [_, _, _, _]) b9 rfl rfl sz48 rfl rfl rfl ?_
 intro W43 y44 b9
 have z45 := z41.below (y44.below (by omega))
 have s46 := y44.size
 refine lastT (by kernel_rfl) ?_
 refine dn (by kernel_rfl) ?_
 refine V.ret ?_
 refine ⟨[_], ⟨⟨_, rfl, lvb ag48 b9 rfl⟩, trivial⟩, ?_⟩
 exact ⟨_, rfl, z45, ((hq37.ck (y44.ck (by intro hh; first | (simp [SX] at hh <;> omega) | omega)))).un.cast (by rw [qv_neg, er])⟩
end Go.Proofs.YtknbjfefeeojlaaGreat
/- Packages pylonref02: Sub Cmp; pylonref03: At Lex Unit; pylonref04: At row Same. -/
namespace Go.Proofs.YtknbjfefeeojlaaGreat
open Go.RowKit
attribute [local irreducible] RV VH V OpF Calls
theorem QA.cast {L : Nat} {S : Nat → Prop} {W : World} {q : List Value} {r r' : Rat} (h : QA L S W q r) (e : r = r') : QA L S W q r' := e ▸ h
end Go.Proofs.YtknbjfefeeojlaaGreat
/- Packages pylonref03: Unit; pylonref04: cut place made Fit Turn Unit. -/
namespace Go.Proofs.YtknbjfefeeojlaaGreat
open Go.RowKit
attribute [local irreducible] RV VH V OpF Calls
theorem szOne' : sz 1 ((1 : Int) : Rat) := by constructor <;> decide
theorem GO.lt {ρt : Type} {El : (Nat → Prop) → World → List Value → ρt → Prop} {S : Nat → Prop} {s B : Nat} {W : World} {e : TypeId} {v : Value} {rs : List ρt} (h : GO s El S B W e v rs) : ∀ b, W.heap.size ≤ b → v.ownBlock ≠ some b := fun b hb e => by
  obtain ⟨qs, h1, _⟩ := h
  have := (h1.low b e).2; omega

end Go.Proofs.YtknbjfefeeojlaaGreat
/- Packages pylonlaw01 to pylonlaw04: Own. -/
namespace Go.Proofs.YtknbjfefeeojlaaGreat
open Go.RowKit
attribute [local irreducible] RV VH V OpF Calls
theorem QX.mk' {S : Nat → Prop} {W : World} {ρ : RawQ} {a1 a2 : Option Addr} {l1 c1 l2 c2 : Nat} {n1 n2 : Bool} (e1 : n1 = ρ.n1) (h1 : RN .u32 S W a1 l1 c1 ρ.xs) (e2 : n2 = ρ.n2) (h2 : RN .u32 S W a2 l2 c2 ρ.ys) : QX S W [.bool n1, .slice a1 l1 c1, .bool n2, .slice a2 l2 c2] ρ := by
  subst e1 e2; exact ⟨_, _, _, _, _, _, rfl, h1, h2⟩

end Go.Proofs.YtknbjfefeeojlaaGreat
/- A body that lies in a scope (it holds a label), without jumps to it. -/
namespace Go.Proofs.YtknbjfefeeojlaaGreat
open Go.RowKit
section
variable {P : Program} {F : Fence} {n : Nat} {a : Act} {w : World} {Q : Exit → Act → World → Prop}
theorem stepR_scope {b : Frame} {k : List Item} {cs : List Frame} {c : Code} : step P (lone (b.atR a (.code (.scope c) :: k)) cs w) = .next (lone (b.atR a (.code c :: .inScope c :: k)) cs w) :=
  step_lone_go (by simp [stepG, stepG.exec, Frame.atR])
theorem stepR_inScope {b : Frame} {k : List Item} {cs : List Frame} {c : Code} : step P (lone (b.atR a (.inScope c :: k)) cs w) = .next (lone (b.atR a k) cs w) :=
  step_lone_go (by simp [stepG, stepG.exec, Frame.atR])
theorem wpIn_scope {c : Code} (h : c.wpIn F n P (Exit.noGoto Q) a w) : (Code.scope c).wpIn F n P Q a w := by
  intro b k cs hro hb hr
  have h0 : (lone (b.atR a (.code (.scope c) :: k)) cs w).fenced P F := fenced_calm hb hr rfl
  obtain ⟨e, a₁, w₁, hq, harr⟩ := h b (.inScope c :: k) cs hro hb hr
  cases e with
  | normal => exact ⟨.normal, a₁, w₁, hq, .head h0 stepR_scope (StepsIn.trans harr (.one (fenced_calm hb hr rfl) stepR_inScope))⟩
  | exit id =>
    have hx : exitTo id (.inScope c :: k) = exitTo id k := by simp [exitTo]
    exact ⟨.exit id, a₁, w₁, hq, fun k' hk => .head h0 stepR_scope (harr.1 k' (by rw [hx]; exact hk)),
      fun hr' hk => let ⟨k₁, h1, h2⟩ := harr.2 hr' (by rw [hx]; exact hk); ⟨k₁, h1, .head h0 stepR_scope h2⟩⟩
  | goto l => exact hq.elim
  | ret => exact ⟨.ret, a₁, w₁, hq, fun hr' => let ⟨todo, hs⟩ := harr.1 hr'; ⟨todo, .head h0 stepR_scope hs⟩, fun hr' => let ⟨k₁, hs⟩ := harr.2 hr'; ⟨k₁, .head h0 stepR_scope hs⟩⟩
  | panic ch => obtain ⟨todo, hs⟩ := harr; exact ⟨.panic ch, a₁, w₁, hq, todo, .head h0 stepR_scope hs⟩
  | outgrown => exact ⟨.outgrown, a₁, w₁, hq, harr.imp id (Outgrown.of_steps (StepsIn.one h0 stepR_scope).steps)⟩
end
section
variable {r : Option Nat} {P : Program} {N : Nat} {ds : List Deferred} {Q : EQ} {E : Env} {W : World}
def noG (Q : EQ) : EQ
  | .goto _, _, _, _ => False
  | e, E, ds, W => Q e E ds W
theorem V.scope {c : Code} (h : V r P N ds c (noG Q) E W) : V r P N ds (.scope c) Q E W := fun a hrep hd =>
  wpIn_scope (wpIn_mono (h a hrep hd) fun x a' W' ⟨E', h1, h2⟩ => by
    cases x with
    | goto l => exact h2.elim
    | normal => exact ⟨E', h1, h2⟩
    | exit id => exact ⟨E', h1, h2⟩
    | ret => exact ⟨E', h1, h2⟩
    | panic ch => exact ⟨E', h1, h2⟩
    | outgrown => exact ⟨E', h1, h2⟩)
end
end Go.Proofs.YtknbjfefeeojlaaGreat
/- A region that draws its order, in which some operations break what the loads rest on; every such load stands ahead of them. -/
namespace Go.Proofs.YtknbjfefeeojlaaGreat
open Go.RowKit
section
variable {r : Option Nat} {P : Program} {N : Nat} {ops : Array Oper} {S S' : World → Prop} {R : Env → World → Prop} {fuel i : Nat} {listed : Array Bool} {E : Env} {W : World} {d : Option Tmp} {op : Op} {t : Tmp} {ty : TypeId} {pos : String} {af : Array Edge} {ds : List Deferred} {Q : EQ} {v : Value} {bs : List Nat} {oi : Oper}
/-- No breaking operation was done. -/
def whole (bs : List Nat) (listed : Array Bool) : Bool := bs.all fun j => !(listed.getD j true)
def VB (bs : List Nat) (r : Option Nat) (P : Program) (ops : Array Oper) (S : World → Prop) (R : Env → World → Prop) : Nat → Array Bool → Env → World → Prop
  | 0, listed, E, W => Region.ready .any ops listed = [] ∧ R E W
  | fuel + 1, listed, E, W => (Region.ready .any ops listed = [] → R E W) ∧
      ∀ i ∈ Region.ready .any ops listed, opI r P ops i (fun E' W' => (whole bs (listed.setIfInBounds i true) = true → S W') ∧ VB bs r P ops S R fuel (listed.setIfInBounds i true) E' W') E W
theorem VB.va : ∀ (fuel : Nat) (listed : Array Bool) (E : Env) (W : World), VB bs r P ops S R fuel listed E W → VA r P ops R fuel listed E W
  | 0, _, _, _, h => h
  | fuel + 1, _, _, _, h => ⟨h.1, fun i hi => (h.2 i hi).mono fun E' W' h' => VB.va fuel _ E' W' h'.2⟩
def depB (ops : Array Oper) (bs : List Nat) (i : Nat) : Bool := bs.all fun j => !(j == i) && match ops[j]? with
  | none => true
  | some o => o.after.any fun e => Region.binds .any e && e.on == i
theorem whole_set {j : Nat} (h : whole bs listed = true) (hj : bs.contains j = false) : whole bs (listed.setIfInBounds j true) = true := by
  unfold whole at *
  rw [List.all_eq_true] at *
  intro k hk
  have hkj : j ≠ k := fun e => by subst e; simp at hj; exact hj hk
  rw [getD_set_ne true hkj]; exact h k hk
theorem whole_un {j : Nat} (h : whole bs (listed.setIfInBounds j true) = true) : whole bs listed = true := by
  unfold whole at *
  rw [List.all_eq_true] at *
  intro k hk
  have := h k hk
  by_cases e : j = k
  · subst e
    rcases Nat.lt_or_ge j listed.size with h' | h'
    · simp [h'] at this
    · simp [Array.getElem?_eq_none h'] at this
  · rwa [getD_set_ne true e] at this
theorem VB.first (hi : ops[i]? = some oi) (hbi : bs.contains i = false) (hsel : ∀ (j : Nat) (o : Oper) cs b, ops[j]? = some o → o.op ≠ .select cs b) (hk : (depB ops bs i = true ∧ ∀ W, S W → S' W) ∨ (∀ W, S' W)) :
    ∀ (fuel : Nat) (listed : Array Bool) (E : Env) (W : World),
      (∀ j oj, ops[j]? = some oj → j ≠ i → listed.getD j true = false → (∀ e ∈ oj.after, Region.binds .any e = true → e.on ≠ i) → oi.apart ops oj = true) →
      i ∈ Region.ready .any ops listed → PureIf P ops S' oi v E → (depB ops bs i = true → whole bs listed = true) → (whole bs listed = true → S W) →
      VB bs r P ops S R fuel (listed.setIfInBounds i true) (puto E oi.dst v) W → VB bs r P ops S R (fuel + 1) listed E W := by
  intro fuel
  have hS' : ∀ {listed : Array Bool} {W : World}, (depB ops bs i = true → whole bs listed = true) → (whole bs listed = true → S W) → S' W := fun h1 h2 => by
    rcases hk with ⟨h3, h4⟩ | h4
    · exact h4 _ (h2 (h1 h3))
    · exact h4 _
  induction fuel with
  | zero =>
    intro listed E W _ hr hy hw hS H
    refine ⟨fun h => (by rw [h] at hr; cases hr), fun j hj => ?_⟩
    by_cases hji : j = i
    · subst hji
      exact hy.opI hi (hS' hw hS) ⟨fun hb => hS (whole_un hb), H⟩
    · have := ready_mono hj hji
      rw [H.1] at this
      cases this
  | succ fuel ih =>
    intro listed E W hfree hr hy hw hS H
    refine ⟨fun h => (by rw [h] at hr; cases hr), fun j hj => ?_⟩
    by_cases hji : j = i
    · subst hji
      exact hy.opI hi (hS' hw hS) ⟨fun hb => hS (whole_un hb), H⟩
    · have h1 := H.2 j (ready_mono hj hji)
      obtain ⟨hjun, oj, hoj, hall⟩ := mem_ready.1 hj
      have hnot : ∀ e ∈ oj.after, Region.binds .any e = true → e.on ≠ i := fun e he hb heq => by
        have h1 := hall e he hb
        have h0 := (mem_ready.1 hr).1
        rw [heq] at h1
        rcases Nat.lt_or_ge i listed.size with h' | h'
        · simp [h'] at h0 h1; rw [h0] at h1; cases h1
        · simp [Array.getElem?_eq_none h'] at h1
      have h2 := opI_put (r := r) hoj (hfree j oj hoj hji hjun hnot) (fun cs b => hsel i oi cs b hi) (fun cs b => hsel j oj cs b hoj) hy h1
      have hfree' : ∀ k ok, ops[k]? = some ok → k ≠ i → (listed.setIfInBounds j true).getD k true = false →
          (∀ e ∈ ok.after, Region.binds .any e = true → e.on ≠ i) → oi.apart ops ok = true := fun k ok hk hki hun hno => by
        refine hfree k ok hk hki ?_ hno
        by_cases hjk : j = k
        · subst hjk; exact hjun
        · rw [getD_set_ne true hjk] at hun; exact hun
      have hnb : depB ops bs i = true → bs.contains j = false := fun hd => by
        cases hc : bs.contains j with
        | false => rfl
        | true =>
          have h5 := (List.all_eq_true.1 hd) j (by simpa using hc)
          simp only [hoj, Bool.and_eq_true] at h5
          obtain ⟨e, he, hb⟩ := Array.any_eq_true'.1 h5.2
          simp only [Bool.and_eq_true, beq_iff_eq] at hb
          exact absurd hb.2 (hnot e he hb.1)
      refine h2.mono fun E' W' h3 => ⟨fun hb => ?_, ih (listed.setIfInBounds j true) E' W' hfree' (ready_mono hr (Ne.symm hji)) h3.1 (fun hd => whole_set (hw hd) (hnb hd)) (fun hb => ?_) ?_⟩
      · refine h3.2.1 ?_
        rw [Array.setIfInBounds_comm _ _ (Ne.symm hji)]; exact whole_set hb hbi
      · refine h3.2.1 ?_
        rw [Array.setIfInBounds_comm _ _ (Ne.symm hji)]; exact whole_set hb hbi
      · rw [Array.setIfInBounds_comm _ _ hji]
        exact h3.2.2
theorem V.regB {id : Nat} (bs : List Nat) (hm : P.follows .mixedOrders = true) (hl : dstsOK N ops.toList = true)
    (h : ∀ W1, Ext W W1 → VB bs r P ops (Ext W1) (fun E W => Q .normal E ds W) ops.size (Array.replicate ops.size false) E W1) : V r P N ds (.region id ops true) Q E W := fun a hrep hd =>
  wpIn_region_any hm (VA.wp (ds := ds) hl (fun a E W hr hd h => ⟨E, hr, by rw [hd]; exact h⟩) _ _ a E _ hrep hd (VB.va _ _ _ _ (h _ ((Ext.refl W).drew))))
/-- An operation that rests on no world. -/
theorem tkP {g : Option (Nat × Bool)} (i : Nat) (hi : ops[i]? = some ⟨some t, op, ty, pos, af, g⟩) (hf : (Region.noSelect ops && Region.free .any ops listed i && (Region.ready .any ops listed).contains i && !(bs.contains i)) = true) (hw : (!(depB ops bs i) || whole bs listed) = true) (hS : whole bs listed = true → S W) (hy : PureIf P ops (fun _ => True) ⟨some t, op, ty, pos, af, g⟩ v E)
    (k : VB bs r P ops S R fuel (listed.setIfInBounds i true) (up E t v) W) : VB bs r P ops S R (fuel + 1) listed E W := by
  simp only [Bool.and_eq_true, Bool.not_eq_true'] at hf
  refine VB.first hi hf.2 (Region.noSelect_spec hf.1.1.1) (.inr fun _ => trivial) fuel listed E W (Region.free_spec hi hf.1.1.2) (by simpa using hf.1.2) hy (fun hd => ?_) hS k
  rw [hd] at hw; simpa using hw
/-- A load: it stands ahead of all that break. -/
theorem tkB {g : Option (Nat × Bool)} (i : Nat) (hi : ops[i]? = some ⟨some t, op, ty, pos, af, g⟩) (hf : (Region.noSelect ops && Region.free .any ops listed i && (Region.ready .any ops listed).contains i && !(bs.contains i) && depB ops bs i && whole bs listed) = true) (hS : S W) (hy : PureIf P ops S ⟨some t, op, ty, pos, af, g⟩ v E)
    (k : VB bs r P ops S R fuel (listed.setIfInBounds i true) (up E t v) W) : VB bs r P ops S R (fuel + 1) listed E W := by
  simp only [Bool.and_eq_true, Bool.not_eq_true'] at hf
  exact VB.first hi hf.1.1.2 (Region.noSelect_spec hf.1.1.1.1.1) (.inl ⟨hf.1.2, fun _ h => h⟩) fuel listed E W (Region.free_spec hi hf.1.1.1.1.2) (by simpa using hf.1.1.1.2) hy (fun _ => hf.2) (fun _ => hS) k
theorem efB (i : Nat) (hr : Region.ready .any ops listed = [i]) (hi : ops[i]? = some ⟨d, op, ty, pos, af, none⟩) (h : OpF r P (ev E) ⟨d, op, ty, pos, af, none⟩ W fun v W' => (whole bs (listed.setIfInBounds i true) = true → S W') ∧ VB bs r P ops S R fuel (listed.setIfInBounds i true) (puto E d v) W') : VB bs r P ops S R (fuel + 1) listed E W := by
  refine ⟨fun h0 => (by rw [hr] at h0; cases h0), fun j hj => ?_⟩
  rw [hr] at hj
  obtain rfl : j = i := by simpa using hj
  unfold opI
  simp only [hi]
  rw [if_pos (by rfl)]; exact h
theorem dnB (hr : Region.ready .any ops listed = []) (h : R E W) : VB bs r P ops S R fuel listed E W := by
  cases fuel with
  | zero => exact ⟨hr, h⟩
  | succ n => exact ⟨fun _ => h, by rw [hr]; simp⟩
theorem notWf {p : Prop} (h : whole bs listed = false) : whole bs listed = true → p := fun h' => (by rw [h] at h'; cases h')
theorem notW {p q : Prop} (h : whole bs listed = false) (k : q) : (whole bs listed = true → p) ∧ q := ⟨fun h' => (by rw [h] at h'; cases h'), k⟩
end
end Go.Proofs.YtknbjfefeeojlaaGreat
/- A slice of the call's own whose elements are stored anew; a matrix under elimination. -/
namespace Go.Proofs.YtknbjfefeeojlaaGreat
open Go.RowKit
attribute [local irreducible] RV VH V OpF Calls
section
variable {P : Program} {ρ : Operand → Value} {W W' : World} {d : Option Tmp} {ty T e : TypeId} {pos : String} {af : Array Edge} {g : Option (Nat × Bool)} {x y : Operand} {v u : Value} {K : Value → World → Prop} {s B n c : Nat} {a : Option Addr} {qs : List (List Value)}
theorem OS.own (h : OS s B W e v qs) (hn : 0 < qs.length) : ∃ b c cur, v = .slice (some ⟨b, 0, none⟩) qs.length c ∧ v.ownBlock = some b ∧ B ≤ b ∧ BoxAt W b cur e ∧ qs.length ≤ c ∧ c ≤ maxLen ∧ cur.length = c * s ∧ cur.take (qs.length * s) = qs.flatten := by
  rcases h.row.2 with ⟨_, h0⟩ | ⟨b, cap, cur, rfl, hb, hh, h1, h2, h3, h4⟩
  · omega
  · exact ⟨b, cap, cur.toList, rfl, rfl, hb, by unfold BoxAt; simpa using hh, h1, h2, by simpa using h3, h4⟩
theorem OS.of {b c : Nat} {cur : List Value} (hw : ∀ q ∈ qs, q.length = s) (hB : B ≤ b) (hb : BoxAt W b cur e) (h1 : qs.length ≤ c) (h2 : c ≤ maxLen) (h3 : cur.length = c * s) (h4 : cur.take (qs.length * s) = qs.flatten) : OS s B W e (.slice (some ⟨b, 0, none⟩) qs.length c) qs :=
  ⟨⟨flat_len hw, .inr ⟨b, c, cur.toArray, rfl, hB, hb, h1, h2, by simpa using h3, by simpa using h4⟩⟩, hw⟩
theorem take_set_flat {cur : List Value} {q : List Value} {i m : Nat} (hi : i + q.length ≤ m) (hm : m ≤ cur.length) : (cur.take i ++ q ++ cur.drop (i + q.length)).take m = (cur.take m).take i ++ q ++ (cur.take m).drop (i + q.length) := by
  have h1 : (cur.take m).take i = cur.take i := by rw [List.take_take]; congr 1; omega
  have h2 : (cur.take m).drop (i + q.length) = (cur.drop (i + q.length)).take (m - (i + q.length)) := List.drop_take
  have h3 : (cur.take i ++ q).length = i + q.length := by rw [List.length_append, List.length_take]; omega
  rw [h1, h2, List.take_append, List.take_of_length_le (by omega), h3]
/-- v[i] = u, in a slice of the call's own. -/
theorem xstS {r : Option Nat} {i : Int} {q : List Value} (h : OS s B W e v qs) (hv : v = .slice a n c) (hx : ρ x = .pointer (some (adr a i s))) (hy : ρ y = u) (hu : u.cells = q.toArray) (hT : Sz P T q.length) (hq : q.length = s) (ho : (q.all Value.oneCell') = true) (h0 : 0 ≤ i) (h1 : i < n)
    (hk2 : ∀ b W', v.ownBlock = some b → Wr b W W' → OS s B W' e v (qs.set i.toNat q) → K undef W') : OpF r P ρ ⟨d, .store T x y, ty, pos, af, g⟩ W K := by
  obtain ⟨a1, c1, e1⟩ := h.form
  have en : n = qs.length := by rw [hv] at e1; injection e1
  obtain ⟨b, cap, cur, e2, e3, hB, hb, h2, h3, h4, h5⟩ := h.own (by omega)
  have ea : a = some ⟨b, 0, none⟩ := by rw [hv] at e2; injection e2
  subst ea
  have hlt : i.toNat < qs.length := by omega
  have hle : i.toNat * s + s ≤ qs.length * s := by rw [← Nat.succ_mul]; exact Nat.mul_le_mul_right _ hlt
  have hcl : qs.length * s ≤ cur.length := by rw [h4]; exact Nat.mul_le_mul_right _ h2
  refine xst (o := i.toNat * s) (vs := q) (cs' := cur.take (i.toNat * s) ++ q ++ cur.drop (i.toNat * s + q.length)) ?_ hy hT hu ho hb (by omega) rfl ?_
  · rw [hx]; simp [adr, addO]
  · intro W' y' hb'
    refine hk2 b W' e3 y' ?_
    rw [e2]
    have hw : ∀ p ∈ qs.set i.toNat q, p.length = s := fun p hp => by
      rcases List.mem_or_eq_of_mem_set hp with h | h'
      · exact (by assumption : OS s B W e v qs).wd p h
      · subst h'; exact hq
    have hl : (qs.set i.toNat q).length = qs.length := List.length_set
    have := OS.of (W := W') (e := e) (c := cap) (qs := qs.set i.toNat q) hw hB hb' (by omega) h3 ?_ ?_
    · rwa [hl] at this
    · simp; omega
    · rw [hl, take_set_flat (by omega) hcl, h5, flat_set h.wd hlt hq, hq]
end
section
variable {ρt : Type} {El : (Nat → Prop) → World → List Value → ρt → Prop} {S : Nat → Prop} {P : Program} {ρ : Operand → Value} {W W' : World} {d : Option Tmp} {ty T e : TypeId} {pos : String} {af : Array Edge} {g : Option (Nat × Bool)} {x y : Operand} {v u : Value} {K : Value → World → Prop} {s B n c : Nat} {a : Option Addr} {rs : List ρt} {rr : ρt}
theorem xstG {r : Option Nat} {i : Int} {q : List Value} (ok : ElOK El) (h : GO s El S B W e v rs) (hv : v = .slice a n c) (hx : ρ x = .pointer (some (adr a i s))) (hy : ρ y = u) (hu : u.cells = q.toArray) (hT : Sz P T q.length) (hq : q.length = s) (ho : (q.all Value.oneCell') = true) (h0 : 0 ≤ i) (h1 : i < n)
    (hel : El (SO S v) W q rr) (hk2 : ∀ b W', v.ownBlock = some b → Wr b W W' → GO s El S B W' e v (rs.set i.toNat rr) → K undef W') : OpF r P ρ ⟨d, .store T x y, ty, pos, af, g⟩ W K := by
  obtain ⟨qs, h2, h3⟩ := h
  refine xstS h2 hv hx hy hu hT hq ho h0 h1 ?_
  intro b W' hb y' hO
  refine hk2 b W' hb y' ⟨_, hO, ?_⟩
  have := h3.set (k := i.toNat) hel
  exact this.imp fun q r hq => ok.ck hq (y'.ck (fun hh => hh.2 hb))
/-- What is read of such a slice. -/
theorem GO.rd {El : (Nat → Prop) → World → List Value → ρt → Prop} (ok : ElOK El) (h : GO s El S B W e (.slice a n c) rs) : ∃ qs, RS s TT W a n c qs ∧ All2 (El TT W) qs rs := by
  obtain ⟨qs, h2, h3⟩ := h
  exact ⟨qs, h2.rs (fun _ _ _ => trivial), h3.imp fun _ _ hq => ok.sub hq fun _ _ _ => trivial⟩
end
end Go.Proofs.YtknbjfefeeojlaaGreat
/- A matrix under elimination: what is reckoned, and the state of the call. -/
namespace Go.Proofs.YtknbjfefeeojlaaGreat
open Go.RowKit
attribute [local irreducible] RV VH V OpF Calls
def sclR (r : Rat) (xs : List Rat) : List Rat := zipf (fun a b => r * a + b) xs [] (max xs.length 0)
def axR (r : Rat) (xs ys : List Rat) : List Rat := zipf (fun a b => r * a + b) xs ys (max xs.length ys.length)
theorem sclR_len (r : Rat) (xs : List Rat) : (sclR r xs).length = xs.length := by simp [sclR, zipf]
theorem axR_len (r : Rat) (xs ys : List Rat) : (axR r xs ys).length = max xs.length ys.length := by simp [axR, zipf]
/-- p: the first row at d or behind it whose element k is not 0; the number of rows, if there is none. -/
def IsP (rows : List (List Rat)) (k d p : Nat) : Prop := d ≤ p ∧ p ≤ rows.length ∧ (∀ j, d ≤ j → j < p → mat rows j k = 0) ∧ (p < rows.length → mat rows p k ≠ 0)
theorem IsP.uniq {rows : List (List Rat)} {k d p q : Nat} (h : IsP rows k d p) (h' : IsP rows k d q) : p = q := by
  rcases Nat.lt_trichotomy p q with hl | hl | hl
  · exact absurd (h'.2.2.1 p h.1 hl) (h.2.2.2 (by have := h'.2.1; omega))
  · exact hl
  · exact absurd (h.2.2.1 q h'.1 hl) (h'.2.2.2 (by have := h.2.1; omega))
def pfind (rows : List (List Rat)) (k : Nat) : Nat → Nat → Nat
  | 0, d => d
  | n + 1, d => if mat rows d k = 0 then pfind rows k n (d + 1) else d
def pf (rows : List (List Rat)) (k d : Nat) : Nat := pfind rows k (rows.length - d) d
theorem pfind_is (rows : List (List Rat)) (k : Nat) : ∀ (n d : Nat), d + n = rows.length → IsP rows k d (pfind rows k n d)
  | 0, d, h => ⟨Nat.le_refl _, by unfold pfind; omega, fun j h1 h2 => by unfold pfind at h2; omega, fun hh => by unfold pfind at hh; omega⟩
  | n + 1, d, h => by
    unfold pfind
    split
    · rename_i h0
      obtain ⟨h1, h2, h3, h4⟩ := pfind_is rows k n (d + 1) (by omega)
      refine ⟨by omega, h2, fun j hj hj2 => ?_, h4⟩
      rcases Nat.lt_or_eq_of_le hj with hj | rfl
      · exact h3 j hj hj2
      · exact h0
    · rename_i h0
      exact ⟨Nat.le_refl _, by omega, fun j h1 h2 => by omega, fun _ => h0⟩
theorem pf_is {rows : List (List Rat)} {k d : Nat} (h : d ≤ rows.length) : IsP rows k d (pf rows k d) := pfind_is rows k _ d (by omega)
theorem IsP.pf {rows : List (List Rat)} {k d p : Nat} (h : IsP rows k d p) : pf rows k d = p := (pf_is (Nat.le_trans h.1 h.2.1)).uniq h
def swapR (rows : List (List Rat)) (i j : Nat) : List (List Rat) := (rows.set i (rowat rows j)).set j (rowat rows i)
theorem set_rowat (rows : List (List Rat)) (i : Nat) : rows.set i (rowat rows i) = rows := by
  refine List.ext_getElem? fun j => ?_
  rw [List.getElem?_set]
  split
  · rename_i h; subst h
    split
    · rename_i h; unfold rowat; simp [h]
    · rename_i h; rw [List.getElem?_eq_none (by omega)]
  · rfl
theorem swapR_self (rows : List (List Rat)) (i : Nat) : swapR rows i i = rows := by unfold swapR; rw [set_rowat, set_rowat]
theorem swapR_len (rows : List (List Rat)) (i j : Nat) : (swapR rows i j).length = rows.length := by simp [swapR]
/-- The elimination in column k, by row d, in the rows ahead of row i. -/
def elimT (rows : List (List Rat)) (d k j : Nat) : List Rat := if j = d ∨ mat rows j k = 0 then rowat rows j else axR (-(mat rows j k)) (rowat rows d) (rowat rows j)
def elimS (rows : List (List Rat)) (d k i : Nat) : List (List Rat) := (List.range rows.length).map fun j => if j < i then elimT rows d k j else rowat rows j
theorem elimS_len (rows : List (List Rat)) (d k i : Nat) : (elimS rows d k i).length = rows.length := by simp [elimS]
theorem elimS_row {rows : List (List Rat)} {d k i j : Nat} (h : j < rows.length) : rowat (elimS rows d k i) j = if j < i then elimT rows d k j else rowat rows j := by
  unfold elimS; rw [rowat, List.getD_eq_getElem?_getD, List.getElem?_map, List.getElem?_range h]; simp
theorem rows_ext {rows mows : List (List Rat)} (hl : rows.length = mows.length) (h : ∀ j, j < rows.length → rowat rows j = rowat mows j) : rows = mows := by
  refine List.ext_getElem hl fun j h1 h2 => ?_
  have := h j h1
  simpa [rowat, h1, h2] using this
theorem elimS_zero (rows : List (List Rat)) (d k : Nat) : elimS rows d k 0 = rows := rows_ext (elimS_len _ _ _ _) fun j hj => by rw [elimS_len] at hj; rw [elimS_row hj, if_neg (by omega)]
theorem rowat_set {rows : List (List Rat)} {i j : Nat} {r : List Rat} (h : i < rows.length) : rowat (rows.set i r) j = if j = i then r else rowat rows j := by
  unfold rowat
  rw [List.getD_eq_getElem?_getD, List.getElem?_set]
  by_cases e : i = j
  · subst e; simp [h]
  · rw [if_neg e, if_neg (fun h => e h.symm)]; simp
theorem elimS_succ {rows : List (List Rat)} {d k i : Nat} (h : i < rows.length) : elimS rows d k (i + 1) = (elimS rows d k i).set i (elimT rows d k i) := by
  refine rows_ext (by simp [elimS_len]) fun j hj => ?_
  rw [elimS_len] at hj
  rw [rowat_set (by rw [elimS_len]; exact h), elimS_row hj, elimS_row hj]
  by_cases e : j = i
  · subst e; rw [if_pos (by omega), if_pos rfl]
  · rw [if_neg e]; by_cases e2 : j < i
    · rw [if_pos (by omega), if_pos e2]
    · rw [if_neg (by omega), if_neg e2]
theorem elimS_keep {rows : List (List Rat)} {d k i : Nat} (h : i < rows.length) (e : i = d ∨ mat rows i k = 0) : elimS rows d k (i + 1) = elimS rows d k i := by
  rw [elimS_succ h, elimT, if_pos e]
  have := set_rowat (elimS rows d k i) i
  rwa [elimS_row h, if_neg (by omega)] at this
/-- Row d is divided by its element k. -/
def divR (rows : List (List Rat)) (d k : Nat) : List (List Rat) := rows.set d (sclR (1 / mat rows d k) (rowat rows d))
theorem divR_len (rows : List (List Rat)) (d k : Nat) : (divR rows d k).length = rows.length := by simp [divR]
def colR (rows : List (List Rat)) (d k p : Nat) : List (List Rat) := elimS (divR (swapR rows p d) d k) d k rows.length
theorem colR_len (rows : List (List Rat)) (d k p : Nat) : (colR rows d k p).length = rows.length := by simp [colR, elimS_len, divR_len, swapR_len]
/-- One column. -/
def colS (s : List (List Rat) × List Int × Rat) (k : Nat) : List (List Rat) × List Int × Rat :=
  if pf s.1 k s.2.1.length < s.1.length then
    (colR s.1 s.2.1.length k (pf s.1 k s.2.1.length), s.2.1 ++ [(k : Int)], (if pf s.1 k s.2.1.length = s.2.1.length then s.2.2 else -s.2.2) * mat (swapR s.1 (pf s.1 k s.2.1.length) s.2.1.length) s.2.1.length k)
  else s
theorem colS_of {rows : List (List Rat)} {piv : List Int} {δ : Rat} {k p : Nat} (h : IsP rows k piv.length p) (hp : p < rows.length) : colS (rows, piv, δ) k = (colR rows piv.length k p, piv ++ [(k : Int)], (if p = piv.length then δ else -δ) * mat (swapR rows p piv.length) piv.length k) := by
  unfold colS; simp only [h.pf]; rw [if_pos hp]
theorem colS_no {rows : List (List Rat)} {piv : List Int} {δ : Rat} {k : Nat} (h : IsP rows k piv.length rows.length) : colS (rows, piv, δ) k = (rows, piv, δ) := by
  unfold colS; simp only [h.pf]; rw [if_neg (by omega)]
def redS (rows : List (List Rat)) : Nat → List (List Rat) × List Int × Rat
  | 0 => (rows, [], 1)
  | n + 1 => colS (redS rows n) n
/-! ### Lengths and sizes -/
def rect (N : Nat) (rows : List (List Rat)) : Prop := ∀ r ∈ rows, r.length = N
theorem rect.row {N : Nat} {rows : List (List Rat)} (h : rect N rows) {i : Nat} (hi : i < rows.length) : (rowat rows i).length = N := by
  refine h _ ?_; unfold rowat; simp [hi]
theorem rect.set {N : Nat} {rows : List (List Rat)} (h : rect N rows) {i : Nat} {r : List Rat} (hr : r.length = N) : rect N (rows.set i r) := fun x hx => by
  rcases List.mem_or_eq_of_mem_set hx with h' | rfl
  · exact h x h'
  · exact hr
theorem rect.of {N : Nat} {rows : List (List Rat)} (h : ∀ i, i < rows.length → (rowat rows i).length = N) : rect N rows := fun x hx => by
  obtain ⟨i, hi⟩ := List.getElem?_of_mem hx
  have hl := (List.getElem?_eq_some_iff.1 hi).1
  have := h i hl
  unfold rowat at this; rw [List.getD_eq_getElem?_getD, hi] at this; exact this
theorem rect.swap {N : Nat} {rows : List (List Rat)} (h : rect N rows) {i j : Nat} (hi : i < rows.length) (hj : j < rows.length) : rect N (swapR rows i j) := (h.set (h.row hj)).set (h.row hi)
theorem rect.div {N : Nat} {rows : List (List Rat)} (h : rect N rows) {d k : Nat} (hd : d < rows.length) : rect N (divR rows d k) := h.set (by rw [sclR_len]; exact h.row hd)
theorem rect.elimT {N : Nat} {rows : List (List Rat)} (h : rect N rows) {d k j : Nat} (hd : d < rows.length) (hj : j < rows.length) : (elimT rows d k j).length = N := by
  unfold Proofs.YtknbjfefeeojlaaGreat.elimT
  split
  · exact h.row hj
  · rw [axR_len, h.row hd, h.row hj]; omega
theorem rect.elim {N : Nat} {rows : List (List Rat)} (h : rect N rows) {d k i : Nat} (hd : d < rows.length) : rect N (elimS rows d k i) := rect.of fun j hj => by
  rw [elimS_len] at hj
  rw [elimS_row hj]
  split
  · exact h.elimT hd hj
  · exact h.row hj
theorem rect.col {N : Nat} {rows : List (List Rat)} (h : rect N rows) {d k p : Nat} (hd : d < rows.length) (hp : p < rows.length) : rect N (colR rows d k p) :=
  ((h.swap hp hd).div (by rw [swapR_len]; exact hd)).elim (by rw [divR_len, swapR_len]; exact hd)
def szR (L : Nat) (rows : List (List Rat)) : Prop := ∀ r ∈ rows, szV L r
theorem szR.mono {L L' : Nat} {rows : List (List Rat)} (h : szR L rows) (hL : L ≤ L') : szR L' rows := fun r hr q hq => (h r hr q hq).mono hL
theorem szR.row {L : Nat} {rows : List (List Rat)} (h : szR L rows) (i : Nat) : szV L (rowat rows i) := by
  unfold rowat; rw [List.getD_eq_getElem?_getD]
  cases hq : rows[i]? with
  | none => intro q hq; simp at hq
  | some r => exact h r (List.mem_of_getElem? hq)
theorem szR.at {L : Nat} {rows : List (List Rat)} (h : szR L rows) (hL : 1 ≤ L) (i k : Nat) : sz L (mat rows i k) := szV_at (h.row i) hL k
theorem szR.set {L : Nat} {rows : List (List Rat)} (h : szR L rows) {i : Nat} {r : List Rat} (hr : szV L r) : szR L (rows.set i r) := fun x hx => by
  rcases List.mem_or_eq_of_mem_set hx with h' | rfl
  · exact h x h'
  · exact hr
theorem szR.swap {L : Nat} {rows : List (List Rat)} (h : szR L rows) (i j : Nat) : szR L (swapR rows i j) := (h.set (h.row j)).set (h.row i)
theorem sz_inv {L : Nat} {r : Rat} (h : sz L r) (hL : 1 ≤ L) : sz L (1 / r) := by
  rw [Rat.div_def, Rat.one_mul]
  by_cases h0 : r = 0
  · subst h0; rw [Rat.inv_zero]; exact sz_zero.mono hL
  · have e : r⁻¹ = Rat.divInt r.den r.num := by rw [Rat.inv_def]
    rw [e]
    have hd : (0 : Int) < r.den := by have := r.den_pos; omega
    rcases Int.lt_trichotomy r.num 0 with hn | hn | hn
    · have e2 := Rat.neg_divInt_neg (r.den : Int) r.num
      rw [← e2]
      exact sz_divInt (by have := h.2; rw [Int.natAbs_neg]; simpa using this) (by omega) (by have := h.1; omega)
    · exact absurd (Rat.num_eq_zero.1 hn) h0
    · exact sz_divInt (by have := h.2; simpa using this) hn (by have := h.1; omega)
theorem sclR_sz {a b L : Nat} {r : Rat} {xs : List Rat} (hr : sz a r) (hx : szV b xs) (hb : 1 ≤ b) (hL : a + b ≤ L) : szV L (sclR r xs) := szV_zip fun i _ => by
  rw [show vat ([] : List Rat) i = 0 from rfl, Rat.add_zero]; exact (sz_mul hr (szV_at hx hb i)).mono hL
theorem axR_sz {a b c L : Nat} {r : Rat} {xs ys : List Rat} (hr : sz a r) (hx : szV b xs) (hy : szV c ys) (hb : 1 ≤ b) (hc : 1 ≤ c) (hL : a + b + c + 1 ≤ L) : szV L (axR r xs ys) := szV_zip fun i _ =>
  (sz_add (sz_mul hr (szV_at hx hb i)) (szV_at hy hc i)).mono (by omega)
theorem szR.div {L : Nat} {rows : List (List Rat)} (h : szR L rows) (hL : 1 ≤ L) (d k : Nat) : szR (2 * L) (divR rows d k) :=
  (h.mono (by omega)).set (sclR_sz (sz_inv (h.at hL d k) hL) (h.row d) hL (by omega))
theorem elimS_sz {L : Nat} {rows : List (List Rat)} (h : szR L rows) (hL : 1 ≤ L) {d : Nat} (hd : d < rows.length) (k i : Nat) : szR (5 * L) (elimS (divR rows d k) d k i) := by
  have h2 := h.div hL d k
  intro x hx
  obtain ⟨j, hj, rfl⟩ := List.mem_map.1 hx
  rw [List.mem_range, divR_len] at hj
  have hj2 : j < (divR rows d k).length := by rw [divR_len]; exact hj
  have e : ∀ j, j ≠ d → rowat (divR rows d k) j = rowat rows j := fun j hj => by unfold divR; rw [rowat_set hd, if_neg hj]
  have hr : szV (5 * L) (rowat (divR rows d k) j) := (h2.mono (by omega)).row j
  split
  · unfold elimT
    split
    · exact hr
    · rename_i h3
      have h4 : j ≠ d := fun h => h3 (.inl h)
      refine axR_sz (a := L) (b := 2 * L) (c := L) (sz_neg ?_) (h2.row d) ?_ (by omega) hL (by omega)
      · unfold mat; rw [e j h4]; exact h.at hL j k
      · rw [e j h4]; exact h.row j
  · exact hr
theorem colR_sz {L : Nat} {rows : List (List Rat)} (h : szR L rows) (hL : 1 ≤ L) {d : Nat} (hd : d < rows.length) (k p : Nat) : szR (5 * L) (colR rows d k p) := elimS_sz (h.swap p d) hL (by rw [swapR_len]; exact hd) k _
theorem colS_len (s : List (List Rat) × List Int × Rat) (k : Nat) : (colS s k).1.length = s.1.length := by unfold colS; split <;> simp [colR_len]
theorem colS_piv {s : List (List Rat) × List Int × Rat} {k : Nat} (h : s.2.1.length ≤ s.1.length) : (colS s k).2.1.length ≤ s.1.length := by
  unfold colS
  split
  · have := (pf_is (k := k) h).1; simp; omega
  · exact h
theorem colS_rect {N : Nat} {s : List (List Rat) × List Int × Rat} {k : Nat} (hr : rect N s.1) (h : s.2.1.length ≤ s.1.length) : rect N (colS s k).1 := by
  unfold colS
  split
  · have := (pf_is (k := k) h).1; exact hr.col (by omega) (by assumption)
  · exact hr
theorem colS_sz {L : Nat} {s : List (List Rat) × List Int × Rat} {k : Nat} (hz : szR L s.1) (hL : 1 ≤ L) (h : s.2.1.length ≤ s.1.length) : szR (5 * L) (colS s k).1 := by
  unfold colS
  split
  · have := (pf_is (k := k) h).1; exact colR_sz hz hL (by omega) _ _
  · exact hz.mono (by omega)
theorem redS_all {N L : Nat} {rows : List (List Rat)} (hr : rect N rows) (hz : szR L rows) (hL : 1 ≤ L) : ∀ n, (redS rows n).1.length = rows.length ∧ (redS rows n).2.1.length ≤ rows.length ∧ rect N (redS rows n).1 ∧ szR (L * 5 ^ n) (redS rows n).1
  | 0 => ⟨rfl, Nat.zero_le _, hr, by simpa [redS] using hz⟩
  | n + 1 => by
    obtain ⟨h1, h2, h3, h4⟩ := redS_all hr hz hL n
    have h5 : (redS rows n).2.1.length ≤ (redS rows n).1.length := by omega
    have hp : 1 ≤ L * 5 ^ n := Nat.mul_pos hL (Nat.pow_pos (by omega))
    refine ⟨by rw [redS, colS_len, h1], by rw [redS]; have := colS_piv (k := n) h5; omega, by rw [redS]; exact colS_rect h3 h5, ?_⟩
    rw [redS, Nat.pow_succ, ← Nat.mul_assoc, Nat.mul_comm (L * 5 ^ n)]; exact colS_sz h4 hp h5
end Go.Proofs.YtknbjfefeeojlaaGreat
/- The state of a matrix under elimination in the store. -/
namespace Go.Proofs.YtknbjfefeeojlaaGreat
open Go.RowKit
attribute [local irreducible] RV VH V OpF Calls
theorem rnc {P : Program} {ρ : Operand → Value} {d : Option Tmp} {ty : TypeId} {pos : String} {af : Array Edge} {g : Option (Nat × Bool)} {x : Operand} {v : Value} {ad : Addr} {W : World} (hx : ρ x = v) (hv : v = .pointer (some ad)) : (execOp ρ ⟨d, .nilCheck x, ty, pos, af, g⟩).run P W = .ok (.value v) W := by
  subst hx; unfold execOp; simp [hv]
def XS (B bw : Nat) (pv : Value) : Nat → Prop := fun b => B ≤ b ∧ b ≠ bw ∧ pv.ownBlock ≠ some b
def KQ (bw : Nat) (v pv : Value) : Nat → Prop := fun b => b ≠ bw ∧ v.ownBlock ≠ some b ∧ pv.ownBlock ≠ some b
/-- The two callbacks of a work: what they hold, and what they do. -/
structure CL (xd : Nat → Prop) (fs fd : Value) (CX : Nat → (Nat → Prop) → World → Rat → Prop) : Prop where
  ck : ∀ {L : Nat} {S S' : Nat → Prop} {W W' : World} {δ : Rat}, CX L S W δ → CK S' W W' → (∀ b, b < W.heap.size → S b → S' b) → (∀ b, xd b → S' b) → CX L S W' δ
  sub : ∀ {L : Nat} {S S' : Nat → Prop} {W : World} {δ : Rat}, CX L S W δ → (∀ b, b < W.heap.size → S b → S' b) → CX L S' W δ
  mono : ∀ {L L' : Nat} {S : Nat → Prop} {W : World} {δ : Rat}, CX L S W δ → L ≤ L' → CX L' S W δ
  sw : ∃ (f : Nat) (cap : List Value), fs = .func (.func f) #[] cap.toArray ∧ Ent Tryz.prog f ∧ ∀ (L : Nat) (S : Nat → Prop) (W : World) (δ : Rat), CX L S W δ → Up S W → L + 1 < LY → Calls Tryz.prog f (([] : List Value) ++ cap).toArray W fun e W' => e = .returned (.tuple #[]) ∧ KD (fun b => ¬ xd b) W W' ∧ CX L S W' (-δ)
  dv : ∃ (f : Nat) (cap : List Value), fd = .func (.func f) #[] cap.toArray ∧ Ent Tryz.prog f ∧ ∀ (L M : Nat) (S : Nat → Prop) (W : World) (δ : Rat) (q : List Value) (r : Rat), CX L S W δ → Up S W → QA M TT W q r → 1 ≤ M → L + M + 1 < LY → Calls Tryz.prog f (([.agg q.toArray] : List Value) ++ cap).toArray W fun e W' => e = .returned (.tuple #[]) ∧ KD (fun b => ¬ xd b) W W' ∧ CX (L + M) S W' (δ * r)
structure WS (B bw : Nat) (fs fd : Value) (xd : Nat → Prop) (CX : Nat → (Nat → Prop) → World → Rat → Prop) (v pv : Value) (L : Nat) (rows : List (List Rat)) (piv : List Int) (δ : Rat) (W : World) : Prop where
  cl : CL xd fs fd CX
  x : BoxAt W bw [v, pv, fs, fd] 141
  g : GO 1 (RowOf GC) (XS B bw pv) B W 23 v rows
  p : OI .i64 B W 3 pv piv
  c : CX L (KQ bw v pv) W δ
  hB : B ≤ bw
  hx : ∀ b, xd b → b < B
theorem OS.obox {s B : Nat} {W : World} {e : TypeId} {v : Value} {qs : List (List Value)} (h : OS s B W e v qs) {b : Nat} (hb : v.ownBlock = some b) : ∃ cur, BoxAt W b cur e := by
  rcases h.row.2 with ⟨rfl, _⟩ | ⟨b', cap, cur, rfl, _, hh, _⟩
  · simp [Value.ownBlock] at hb
  · simp only [Value.ownBlock, Option.some.injEq] at hb
    subst hb
    exact ⟨cur.toList, by unfold BoxAt; simpa using hh⟩
section
variable {B bw L n c : Nat} {fs fd v pv pv' : Value} {xd : Nat → Prop} {CX : Nat → (Nat → Prop) → World → Rat → Prop} {rows : List (List Rat)} {piv : List Int} {δ : Rat} {W W' : World} {a : Option Addr}
theorem WS.ext (h : WS B bw fs fd xd CX v pv L rows piv δ W) (y : Ext W W') : WS B bw fs fd xd CX v pv L rows piv δ W' :=
  ⟨h.cl, h.x.ext y, h.g.ext okRowC y, h.p.ext y, h.cl.ck h.c (y.ck fun _ => True) (fun _ _ _ => trivial) (fun _ _ => trivial), h.hB, h.hx⟩
theorem WS.vb (h : WS B bw fs fd xd CX v pv L rows piv δ W) : v.ownBlock ≠ some bw := by
  obtain ⟨qs, h1, _⟩ := h.g; exact h1.neBox h.x (by decide)
theorem WS.pb (h : WS B bw fs fd xd CX v pv L rows piv δ W) : pv.ownBlock ≠ some bw := h.p.neBox h.x (by decide)
theorem WS.vp (h : WS B bw fs fd xd CX v pv L rows piv δ W) {b : Nat} (e : v.ownBlock = some b) : pv.ownBlock ≠ some b := by
  obtain ⟨qs, h1, _⟩ := h.g
  obtain ⟨cur, hb⟩ := h1.obox e
  exact h.p.neBox hb (by decide)
theorem WS.vlow (h : WS B bw fs fd xd CX v pv L rows piv δ W) : ∀ b, v.ownBlock = some b → B ≤ b ∧ b < W.heap.size := by
  obtain ⟨qs, h1, _⟩ := h.g; exact h1.low
theorem WS.up (h : WS B bw fs fd xd CX v pv L rows piv δ W) : Up (SO (XS B bw pv) v) W := fun b hb => by
  have := h.x.lt; have := h.hB
  exact ⟨⟨by omega, by omega, fun e => by have := (h.p.low b e).2; omega⟩, fun e => by have := (h.vlow b e).2; omega⟩
theorem WS.upq (h : WS B bw fs fd xd CX v pv L rows piv δ W) : Up (KQ bw v pv) W := fun b hb => by
  have := h.x.lt
  exact ⟨by omega, fun e => by have := (h.vlow b e).2; omega, fun e => by have := (h.p.low b e).2; omega⟩
theorem WS.mc (h : WS B bw fs fd xd CX v pv L rows piv δ W) (hv : v = .slice a n c) : MC TT W a n c rows := by
  subst hv; exact GO.rd okRowC h.g
theorem WS.pn (h : WS B bw fs fd xd CX v pv L rows piv δ W) (hv : pv = .slice a n c) : RN .i64 TT W a n c piv := by
  subst hv; exact h.p.rn fun _ _ _ => trivial
theorem WS.row (h : WS B bw fs fd xd CX v pv L rows piv δ W) (hv : v = .slice a n c) {i : Int} (h0 : 0 ≤ i) (h1 : i < n) : ∃ a' n' c', W.cell? (adr a i 1) = some (.slice a' n' c') ∧ GC (SO (XS B bw pv) v) W a' n' c' (rowat rows i.toNat) := by
  obtain ⟨qs, h2, h3⟩ := h.g
  have h2' := h2
  rw [hv] at h2'
  have hr : RS 1 TT W a n c qs := h2'.rs fun _ _ _ => trivial
  obtain ⟨q, h4, h5, h6⟩ := hr.el h0 h1
  obtain ⟨r, h7, a', n', c', rfl, h8⟩ := h3.get h4
  have e : rowat rows i.toNat = r := by unfold rowat; rw [List.getD_eq_getElem?_getD, h7]; rfl
  refine ⟨a', n', c', ?_, e ▸ h8⟩
  have := h6 0 _ rfl
  rwa [add0] at this
theorem WS.ckB (h : WS B bw fs fd xd CX v pv L rows piv δ W) {L' : Nat} {δ' : Rat} (k : KD (fun b => ¬ xd b) W W') (hc : CX L' (KQ bw v pv) W' δ') : WS B bw fs fd xd CX v pv L' rows piv δ' W' := by
  have nx : ∀ b, B ≤ b → ¬ xd b := fun b hb hx => by have := h.hx b hx; omega
  refine ⟨h.cl, h.x.kd k (nx _ h.hB), ?_, h.p.ck k.ck fun b e => nx b (h.p.low b e).1, hc, h.hB, h.hx⟩
  obtain ⟨qs, h1, h2⟩ := h.g
  refine ⟨qs, h1.ck k.ck fun b e => nx b (h1.low b e).1, h2.imp fun _ _ hq => ?_⟩
  have h3 := okRowC.sub (S' := fun b => SO (XS B bw pv) v b ∧ ¬ xd b) hq fun b _ hs => ⟨hs, nx b hs.1.1⟩
  exact okRowC.sub (okRowC.ck h3 (k.ck.sub fun _ hs => hs.2)) fun b _ hs => hs.1
theorem WS.sz (h : WS B bw fs fd xd CX v pv L rows piv δ W) {L' : Nat} (hL : L ≤ L') : WS B bw fs fd xd CX v pv L' rows piv δ W := ⟨h.cl, h.x, h.g, h.p, h.cl.mono h.c hL, h.hB, h.hx⟩
theorem WS.kq (h : WS B bw fs fd xd CX v pv L rows piv δ W) {b : Nat} (hb : b < B) : KQ bw v pv b := ⟨by have := h.hB; omega, fun e => by have := (h.vlow b e).1; omega, fun e => by have := (h.p.low b e).1; omega⟩
/-- One element more in the list of the pivots, and the new list is stored. -/
theorem WS.push {W1 W2 : World} {z : Int} (h : WS B bw fs fd xd CX v pv L rows piv δ W) (hO : OI .i64 B W1 3 pv' (piv ++ [z])) (hg : W.grownBy W1 pv.ownBlock) (ho : pv'.ownBlock = pv.ownBlock ∨ pv'.ownBlock = some W.heap.size) (hos : Below 0 W W1) (y : Wr bw W1 W2) (hb : BoxAt W2 bw [v, pv', fs, fd] 141) :
    WS B bw fs fd xd CX v pv' L rows (piv ++ [z]) δ W2 ∧ KD (KQ bw v pv) W W2 := by
  have nb : ∀ b, b < W.heap.size → pv.ownBlock ≠ some b → pv'.ownBlock ≠ some b := fun b hb hp e => by
    rcases ho with h' | h'
    · exact hp (h' ▸ e)
    · rw [h'] at e; injection e with e; omega
  have kg : CK (fun b => pv.ownBlock ≠ some b) W W1 := grown_ck hg fun b e h => h e
  have kd : KD (KQ bw v pv) W W2 := (grown_kd hg (fun b e hd => hd.2.2 e) hos).trans (y.kd fun hd => hd.1 rfl)
  refine ⟨⟨h.cl, hb, ?_, ?_, ?_, h.hB, h.hx⟩, kd⟩
  · obtain ⟨qs, h1, h2⟩ := h.g
    have o1 : OS 1 B W1 23 v qs := h1.ck kg fun b e => h.vp e
    refine ⟨qs, o1.ck (y.ck (S := fun b => b ≠ bw) fun hh => hh rfl) (fun b e => fun hh => h.vb (hh ▸ e)), h2.imp fun _ _ hq => ?_⟩
    have h3 := okRowC.sub (S' := fun b => SO (XS B bw pv) v b ∧ pv'.ownBlock ≠ some b) hq fun b hb hs => ⟨hs, nb b hb hs.1.2.2⟩
    have h4 := okRowC.ck h3 (kg.sub fun b hs => hs.1.1.2.2)
    have h5 := okRowC.ck h4 (y.ck (fun hh => hh.1.1.2.1 rfl))
    exact okRowC.sub h5 fun b _ hs => ⟨⟨hs.1.1.1, hs.1.1.2.1, hs.2⟩, hs.1.2⟩
  · refine hO.ck (y.ck (S := fun b => b ≠ bw) fun hh => hh rfl) (fun b e hh => ?_)
    subst hh
    rcases ho with h' | h'
    · exact h.pb (h' ▸ e)
    · rw [h'] at e; injection e with e; have := h.x.lt; omega
  · exact h.cl.ck (h.cl.sub h.c (S' := fun b => KQ bw v pv b ∧ pv'.ownBlock ≠ some b) fun b hb hs => ⟨hs, nb b hb hs.2.2⟩) kd.ck (fun b _ hs => hs.1) (fun b hx => h.kq (h.hx b hx)) |> fun c => h.cl.sub c fun b _ hs => ⟨hs.1.1, hs.1.2.1, hs.2⟩
theorem WS.nb (h : WS B bw fs fd xd CX v pv L rows piv δ W) {b : Nat} {cs : List Value} {T : TypeId} (hb : BoxAt W b cs T) (h1 : T ≠ 23) (h2 : T ≠ 3) (h3 : b ≠ bw) : KQ bw v pv b := by
  obtain ⟨qs, h4, _⟩ := h.g
  exact ⟨h3, h4.neBox hb h1, h.p.neBox hb h2⟩
theorem WS.nx (h : WS B bw fs fd xd CX v pv L rows piv δ W) {b : Nat} (hb : B ≤ b) : ¬ xd b := fun hx => by have := h.hx b hx; omega
theorem WS.ma {L' : Nat} (h : WS B bw fs fd xd CX v pv L rows piv δ W) (hv : v = .slice a n c) (hs : szR L' rows) : MA L' TT W a n c rows := (h.mc hv).ma hs
theorem so_kq {b : Nat} (h : SO (XS B bw pv) v b) : KQ bw v pv b := ⟨h.1.2.1, h.2, h.1.2.2⟩
end
section
variable {B bw L n c n' c' : Nat} {fs fd v pv u : Value} {xd : Nat → Prop} {CX : Nat → (Nat → Prop) → World → Rat → Prop} {rows : List (List Rat)} {piv : List Int} {δ : Rat} {W W' : World} {a a' : Option Addr} {ρ : Operand → Value} {d : Option Tmp} {ty T : TypeId} {pos : String} {af : Array Edge} {gd : Option (Nat × Bool)} {x y : Operand} {K : Value → World → Prop} {rr : List Rat}
/-- w.rows[i] = u -/
theorem xstW {r : Option Nat} {i : Int} (h : WS B bw fs fd xd CX v pv L rows piv δ W) (hv : v = .slice a n c) (hx : ρ x = .pointer (some (adr a i 1))) (hy : ρ y = .slice a' n' c') (hT : Sz Tryz.prog T 1) (h0 : 0 ≤ i) (h1 : i < n) (hel : GC (SO (XS B bw pv) v) W a' n' c' rr)
    (hk2 : ∀ W', WS B bw fs fd xd CX v pv L (rows.set i.toNat rr) piv δ W' → KD (KQ bw v pv) W W' → K undef W') : OpF r Tryz.prog ρ ⟨d, .store T x y, ty, pos, af, gd⟩ W K := by
  refine xstG (q := [.slice a' n' c']) okRowC h.g hv hx hy rfl hT rfl rfl h0 h1 ⟨_, _, _, rfl, hel⟩ ?_
  intro b W' hb y' hG
  have kd : KD (KQ bw v pv) W W' := y'.kd fun hd => hd.2.1 hb
  exact hk2 W' ⟨h.cl, h.x.wr y' (fun e => h.vb (e ▸ hb)), hG, h.p.ck (y'.ck (S := fun q => q ≠ b) fun hh => hh rfl) (fun q e hh => h.vp hb (hh ▸ e)), h.cl.ck h.c kd.ck (fun _ _ hs => hs) (fun b hx => h.kq (h.hx b hx)), h.hB, h.hx⟩ kd
end
end Go.Proofs.YtknbjfefeeojlaaGreat
/- Package solve: the small functions; matrices of the call's own. -/
namespace Go.Proofs.YtknbjfefeeojlaaGreat
open Go.RowKit
attribute [local irreducible] RV VH V OpF Calls
theorem GO.lower {ρt : Type} {El : (Nat → Prop) → World → List Value → ρt → Prop} {S : Nat → Prop} {s B B' : Nat} {W : World} {e : TypeId} {v : Value} {rs : List ρt} (h : GO s El S B W e v rs) (hB : B' ≤ B) : GO s El S B' W e v rs := by
  obtain ⟨qs, ⟨⟨h1, h2⟩, h3⟩, h4⟩ := h
  refine ⟨qs, ⟨⟨h1, ?_⟩, h3⟩, h4⟩
  rcases h2 with h2 | ⟨b, cap, cur, e1, e2, e3⟩
  · exact .inl h2
  · exact .inr ⟨b, cap, cur, e1, by omega, e3⟩
theorem GO.res {ρt : Type} {El : (Nat → Prop) → World → List Value → ρt → Prop} {S S' : Nat → Prop} {s B : Nat} {W : World} {e : TypeId} {v : Value} {rs : List ρt} (ok : ElOK El) (h : GO s El S B W e v rs) (hS : ∀ b, b < W.heap.size → S b → S' b) : GO s El S' B W e v rs := by
  obtain ⟨qs, h1, h2⟩ := h
  exact ⟨qs, h1, h2.imp fun _ _ hq => ok.sub hq fun b hb hs => ⟨hS b hb hs.1, hs.2⟩⟩

set_option maxHeartbeats 400000 in
theorem gmade_own (R C : Nat) (fF : Nat) (cap : List Value) (atf : Int → Int → Rat) (L : Nat) (S : Nat → Prop) (w : World) (he : Ent Tryz.prog fF) (hf : HG fF cap atf R C w) (hsz : ∀ i k : Nat, sz L (atf i k)) (hL : L < LY) (hl1 : 1 ≤ L) (hR : R ≤ LV) (hC : C ≤ LV) (hu : Up S w) :
    Calls Tryz.prog 113 #[.agg #[.int .i64 (R : Int), .int .i64 (C : Int), .func (.func fF) #[] cap.toArray]] w (fun e w' => ∃ v, e = .returned v ∧ Ext w w' ∧ GO 1 (RowOf GC) S w.heap.size w' 23 v (gridm atf R C)) := by
 have z0 := Ext.refl w; have hLX : LX = 17592186044416 := rfl; have hLY : LY = 8796093022208 := rfl
 have hLV : LV = 1099511627776 := rfl
 refine enter (args := [.agg #[.int .i64 (R : Int), .int .i64 (C : Int), .func (.func fF) #[] cap.toArray]]) Tryz.func113 rfl rfl (Nat.le_of_ble_eq_true rfl) ?_
 refine V.seq (V.reg rfl ?_)
 refine vo ?_
 refine bxa rfl ?_
 intro W1 x2 b3 nn4
 have s5 := x2.sz
 have z6 := x2
 refine ass rfl ?_
 refine vnil ?_
 refine V.seq (V.reg rfl ?_)
 refine ass rfl ?_
 refine vnil ?_
 refine V.seq ?_
 refine V.seq (V.reg rfl ?_)
 refine vv (rfa rfl fd128_0) ?_
 refine vv (rldb (v := .int _ _) rfl sc3 b3 rfl) ?_
 refine mvi rfl ?_
 refine vnil ?_
 refine V.block ?_
 refine V.loopK (ι := Nat × Value) [(1, .pointer (some ⟨_, _, none⟩)), (2, .slice _ _ _), (8, .int _ _)] (fun ⟨i, v⟩ => [(9, .int .i64 (i : Int)), (3, v)]) (fun ⟨i, v⟩ W => Ext W1 W ∧ i ≤ R ∧ GO 1 (RowOf GC) S W1.heap.size W 23 v (gridm atf i C)) (fun ⟨i, v⟩ => R - i) ((0, _)) ⟨rfl, rfl, rfl, trivial⟩ ⟨rfl, rfl, trivial⟩ ⟨Ext.refl _, Nat.zero_le _, GO.nil _ _⟩ ?_
 intro i9 E10 W8 h11
 obtain ⟨i, v⟩ := i9
 simp only at h11
 show V _ _ _ _ _ _ (ups (ups _ _) [(9, .int .i64 (i : Int)), (3, v)]) _
 obtain ⟨x12, hi, hO⟩ := h11
 have s13 := x12.sz
 have z14 := z6.trans x12
 have z15 := x12
 replace b3 := b3.ext x12
 refine V.seq (V.reg rfl ?_)
 refine vlt rfl rfl ?_ ?_
 ·intro c16
  refine vnil ?_
  refine V.seq ?_
  refine V.condT rfl ?_
  refine V.skip ?_
  refine V.seq ?_
  refine V.block ?_
  refine V.seq (V.reg rfl ?_)
  refine mvi rfl ?_
  refine asi rfl ?_
  refine vnil ?_
  refine V.seq (V.reg rfl ?_)
  refine vv (rfa rfl fd128_1) ?_
  refine vv (rldb (v := .int _ _) rfl sc3 b3 rfl) ?_
  have b3m := b3; have hOm := hO
  refine vo ?_
  refine xmkS (zs := [.bool false, .slice _ _ _, .bool false, .slice _ _ _]) (C) sl23 in48 rfl rfl rfl rfl rfl (by omega) (by omega) (by omega) ?_
  intro W18 x19 row n20
  have s21 := x19.sz
  have z24 := x19
  replace hO := hO.ext okRowC x19
  refine ass rfl ?_
  refine vnil ?_
  refine V.seq ?_
  refine V.seq (V.reg rfl ?_)
  refine mvs rfl ?_
  refine vv (rlen sl23 rfl) ?_
  refine mvi rfl ?_
  refine vnil ?_
  refine V.block ?_
  have lrow := row.box.lt
  refine V.loopK (ι := Nat) [(1, .pointer (some ⟨_, _, none⟩)), (2, .slice _ _ _), (3, v), (4, .int _ _), (5, .slice _ _ _), (8, .int _ _), (9, .int _ _), (10, .bool true), (11, .int _ _), (12, .pointer (some ⟨_, _, none⟩)), (13, .int _ _), (14, .slice _ _ _), (15, .slice _ _ _), (16, .int _ _)] (fun k => [(17, .int .i64 (k : Int))]) (fun k W => Ext W8 W ∧ k ≤ C ∧ ∃ qs, AQ 4 W (W8.heap.size) 48 C qs ∧ All2 (QC (SX (SO S v) [W8.heap.size]) W) qs (rowg atf i C k)) (fun k => C - k) (0) ⟨rfl, rfl, rfl, rfl, rfl, rfl, rfl, rfl, rfl, rfl, rfl, rfl, rfl, rfl, trivial⟩ ⟨rfl, trivial⟩ ⟨z24, Nat.zero_le _, _, row, by rw [rowg_zero]; exact All2.rep (QC.zero _ _) _⟩ ?_
  intro k E26 W25 h27
  obtain ⟨x28, hk, qs, hA, hQ⟩ := h27
  have s29 := x28.sz
  have z30 := z14.trans x28
  have z31 := z15.trans x28
  have z32 := x28
  have b3n := b3m.ext z32; have hO := hOm.ext okRowC z32
  have lA := hA.len; have lAb := hA.box.lt; have lQ := hQ.len
  refine V.seq (V.reg rfl ?_)
  refine vlt rfl rfl ?_ ?_
  ·intro c33
   refine vnil ?_
   refine V.seq ?_
   refine V.condT rfl ?_
   refine V.skip ?_
   refine V.seq ?_
   refine V.block ?_
   refine V.seq (V.reg rfl ?_)
   refine mvi rfl ?_
   refine asi rfl ?_
   refine vnil ?_
   refine V.reg rfl ?_
   refine mvs rfl ?_
   refine mvi rfl ?_
   refine vv (rfa rfl fd128_2) ?_
   refine vv (rldb (v := .func _ _ _) rfl sc126 b3n rfl) ?_
   refine mvi rfl ?_
   refine mvi rfl ?_
   refine vo ?_
   refine xcall he (hf _ i k (SX (SO S v) [W8.heap.size]) z30 (SX.up (S := SO S v) (bs := [W8.heap.size]) ((GO.up hOm hu (by omega)).mono (by omega)) (by simp; omega)) (by omega) (by omega)) rfl rfl ?_
   rintro _ W7 ⟨_, rfl, x7, hq7⟩
   obtain ⟨k1, k2, k3, k4, k5, k6, k7, k8, rfl⟩ := hq7.form
   refine ⟨_, rfl, ?_⟩
   have s34 := x7.sz
   have z37 := z32.trans x7
   replace hA := hA.ext x7
   replace hO := hO.ext okRowC x7
   have hqa := hq7.qa (hsz i k)
   refine vo ?_
   refine xcall e92 (fCanon_ok _ _ _ _ _ _ hqa (by omega) (by omega) (SX.up (S := SO S v) (bs := [W8.heap.size]) ((GO.up hOm hu (by omega)).mono (by omega)) (by simp; omega))) rfl rfl ?_
   rintro _ W39 ⟨_, rfl, x40, hq38⟩
   have s41 := x40.sz
   have z44 := z37.trans x40
   replace hA := hA.ext x40
   replace hO := hO.ext okRowC x40
   obtain ⟨_, _, _, _, _, _, _, _, rfl⟩ := hq38.form
   refine ⟨_, rfl, ?_⟩
   refine vv (rix sl23 sz48 rfl rfl (by omega) (by omega) rfl) ?_
   refine vo ?_
   refine xstq (q := [.bool _, .slice _ _ _, .bool _, .slice _ _ _]) hA rfl rfl rfl sz48 rfl rfl (by omega) (by omega) ?_
   intro W45 y46 hA
   have z49 := z44.below (y46.below (by omega))
   have s50 := y46.size
   refine vnil ?_
   refine V.reg rfl ?_
   refine vv (rbin (bAdd (wi (by omega))) rfl rfl) ?_
   refine mvi rfl ?_
   refine vnil ?_
   refine ⟨rfl, k + 1, ⟨rfl, rfl, rfl, rfl, rfl, rfl, rfl, rfl, rfl, rfl, rfl, rfl, rfl, rfl, trivial⟩, ⟨rfl, trivial⟩, ⟨z49, by omega, _, hA, by rw [← rowg_succ]; exact (hQ.imp fun _ _ h => h.ck (((x7.ck _).trans (x40.ck _)).trans (y46.ck (by intro hh; simp [SX] at hh <;> omega)))).set ((hq38.ck (y46.ck (by intro hh; first | (simp [SX] at hh <;> omega) | omega))))⟩, ?_⟩
   show C - (k + 1) < C - k
   omega
  ·intro c33
   refine vnil ?_
   refine V.seq ?_
   refine V.condF rfl ?_
   refine V.exit ?_
   refine V.reg rfl ?_
   refine vv (rmv (v := v) rfl) ?_
   refine mvs rfl ?_
   refine vo ?_
   refine xbs (ps := [(0, .slice _ _ _)]) (cs := [.slice _ _ _]) sl22 zr23 sz23 rfl rfl rfl rfl rfl rfl ?_
   intro W51 x52 b53 nn54
   have s55 := x52.sz
   have z57 := z31.trans x52
   replace hA := hA.ext x52
   replace hO := hO.ext okRowC x52
   refine vo ?_
   refine xappG okRowC sl22 in23 rfl rfl hO rfl rfl b53 rfl rfl ((⟨_, _, _, rfl, _, hA.rs (GO.up hOm hu (by omega) _ (Nat.le_refl _)), hQ.imp fun _ _ h => (h.ext x52).un⟩ : RowOf GC _ _ _ (rowg atf i C k))) (by simp [gridm]; omega) (by decide) (by omega) ?_
   intro v59 W60 hO61 hg62
   have y63 := hg62.below; have s64 := y63.size
   have z66 := z57.below (y63.mono (by omega))
   refine vv (ras (v := v59) rfl) ?_
   refine vnil ?_
   refine V.reg rfl ?_
   refine vv (rbin (bAdd (wi (by omega))) rfl rfl) ?_
   refine mvi rfl ?_
   refine vnil ?_
   refine ⟨rfl, (i + 1, _), ⟨rfl, rfl, rfl, trivial⟩, ⟨rfl, rfl, trivial⟩, ⟨z66, by omega, by rw [gridm_succ, ← rowg_full]; have eC : k = C := (by omega); subst eC; exact hO61⟩, ?_⟩
   show R - (i + 1) < R - i
   omega
 ·intro c16
  refine vnil ?_
  refine V.seq ?_
  refine V.condF rfl ?_
  refine V.exit ?_
  refine V.seq (V.reg rfl ?_)
  refine vv (rmv (v := v) rfl) ?_
  refine vv (ras (v := v) rfl) ?_
  refine vnil ?_
  refine V.ret ?_
  refine ⟨[v], ⟨rfl, trivial⟩, ?_⟩
  obtain rfl : i = R := by omega
  exact ⟨_, rfl, z14, hO.lower (by omega)⟩
set_option maxHeartbeats 400000 in
theorem mResize_own (a1 : Option Addr) (n c : Nat) (y z : Int) (R C : Nat) (L1 : Nat) (rss : List (List Rat)) (S S1 : Nat → Prop) (w : World) (hx : MA L1 S1 w a1 n c rss) (hR : min (max y 0) 1024 = (R : Int)) (hC : min (max z 0) 1024 = (C : Int)) (hL : L1 < LY) (hl1 : 1 ≤ L1) (hsz : ∀ i k : Nat, sz L1 (matI rss i k)) (hu : Up S w) :
    Calls Tryz.prog 43 #[.slice a1 n c, .int .i64 y, .int .i64 z] w (fun e w' => ∃ v, e = .returned v ∧ Ext w w' ∧ GO 1 (RowOf GC) S w.heap.size w' 23 v (gridm (matI rss) R C)) := by
 have z0 := Ext.refl w; have hLX : LX = 17592186044416 := rfl; have hLY : LY = 8796093022208 := rfl
 have hLV : LV = 1099511627776 := rfl
 refine enter (args := [.slice a1 n c, .int .i64 y, .int .i64 z]) Tryz.func43 rfl rfl (Nat.le_of_ble_eq_true rfl) ?_
 refine V.seq (V.reg rfl ?_)
 refine vo ?_
 refine bxs rfl ?_
 intro W1 x2 b3 nn4
 have s5 := x2.sz
 have z6 := x2
 refine ass rfl ?_
 refine vnil ?_
 refine V.seq (V.reg rfl ?_)
 refine mvi rfl ?_
 refine vo ?_
 refine xcall e111 (mcut_ok' _ R _ hR) rfl rfl ?_
 rintro _ _ ⟨rfl, rfl⟩
 refine ⟨_, rfl, ?_⟩
 refine mvi rfl ?_
 refine vo ?_
 refine xcall e111 (mcut_ok' _ C _ hC) rfl rfl ?_
 rintro _ _ ⟨rfl, rfl⟩
 refine ⟨_, rfl, ?_⟩
 refine vv (rmk1 (v := .pointer (some ⟨_, _, none⟩)) rfl) ?_
 refine vv (rbd (ps := [(0, .int _ _), (1, .int _ _), (2, .func _ _ _)]) (cs := [.int _ _, .int _ _, .func _ _ _]) pl128 rfl rfl) ?_
 refine vo ?_
 refine xcall e113 (gmade_own R C 112 [.pointer (some ⟨w.heap.size, 0, none⟩)] (matI rss) L1 S _ e112 (fun W i k S' x u _ _ => mRes1_ok _ _ _ i k _ L1 rss S' S1 W (b3.ext x) ((hx.ext z6).ext x) hL hl1 u) hsz hL hl1 (by omega) (by omega) (hu.mono (by omega))) rfl rfl ?_
 rintro _ W9 ⟨vg, rfl, x10, hv⟩
 have s11 := x10.sz
 have z12 := z6.trans x10
 refine ⟨_, rfl, ?_⟩
 refine vv (ras (v := vg) rfl) ?_
 refine vnil ?_
 refine V.ret ?_
 refine ⟨[vg], ⟨rfl, trivial⟩, ?_⟩
 exact ⟨_, rfl, z12, hv.lower (by omega)⟩
set_option maxHeartbeats 400000 in
theorem by_ok (q1 q2 : List Value) (r1 r2 : Rat) (L1 L2 : Nat) (S S1 S2 : Nat → Prop) (w : World) (h1 : QA L1 S1 w q1 r1) (h2 : QA L2 S2 w q2 r2) (hL : L1 + L2 + 1 < LY) (hl1 : 1 ≤ L1) (hl2 : 1 ≤ L2) (hu : Up S w) (hnz : r2 ≠ 0) :
    Calls Tryz.prog 199 #[.agg q1.toArray, .agg q2.toArray] w (PQ S (r1 / r2) w) := by
 have z0 := Ext.refl w; have hLX : LX = 17592186044416 := rfl; have hLY : LY = 8796093022208 := rfl
 obtain ⟨n1, a1, l1, c1, n2, a2, l2, c2, rfl⟩ := h1.form; obtain ⟨n3, a3, l3, c3, n4, a4, l4, c4, rfl⟩ := h2.form
 have hu2 : ∀ W : World, w.heap.size + 3 ≤ W.heap.size → Up (SX S [w.heap.size, w.heap.size + 1, w.heap.size + 2]) W := fun W hW => SX.up (hu.mono (by omega)) (by simp <;> omega)
 refine enter (args := [.agg #[.bool n1, .slice a1 l1 c1, .bool n2, .slice a2 l2 c2], .agg #[.bool n3, .slice a3 l3 c3, .bool n4, .slice a4 l4 c4]]) Tryz.func199 rfl rfl (Nat.le_of_ble_eq_true rfl) ?_
 refine V.seq (V.reg rfl ?_)
 refine vo ?_
 refine bxa rfl ?_
 intro W1 x2 b3 nn4
 have s5 := x2.sz
 have z6 := x2
 refine vo ?_
 refine bxa rfl ?_
 intro W7 x8 b9 nn10
 have s11 := x8.sz
 have z12 := z6.trans x8
 replace b3 := b3.ext x8
 refine vo ?_
 refine xal zc48 ?_
 intro W13 x14 b15 nn16
 have s17 := x14.sz
 have z18 := z12.trans x14
 replace b3 := b3.ext x14
 replace b9 := b9.ext x14
 refine vnil ?_
 refine V.seq (V.reg rfl ?_)
 refine vv (rldb4 rfl ag48 b3 rfl rfl rfl rfl ) ?_
 refine vv (rldb4 rfl ag48 b9 rfl rfl rfl rfl ) ?_
 refine vo ?_
 refine xcall e89 (fDiv_ok _ _ _ _ _ _ _ _ _ _ (h1.ext z18) (h2.ext z18) (by omega) (by omega) (by omega) (hu2 _ (by omega)) hnz) rfl rfl ?_
 rintro _ W20 ⟨_, rfl, x21, hq19⟩
 have s22 := x21.sz
 have z23 := z18.trans x21
 replace b15 := b15.ext x21
 obtain ⟨_, _, _, _, _, _, _, _, rfl⟩ := hq19.form
 refine ⟨_, rfl, ?_⟩
 refine mvt rfl ?_
 refine vv (rext (v := .agg #[_, _, _, _]) rfl rfl) ?_
 refine vv (rext (v := .int _ _) rfl rfl) ?_
 refine vo ?_
 refine xal zc48 ?_
 intro W24 x25 b26 nn27
 have s28 := x25.sz
 have z29 := z23.trans x25
 replace b15 := b15.ext x25
 refine vo ?_
 refine sta (cs' := [_, _, _, _]) b26 rfl rfl sz48 rfl rfl rfl ?_
 intro W30 y31 b26
 have z32 := z29.below (y31.below (by omega))
 replace b15 := b15.wr y31 (by omega)
 have s33 := y31.size
 refine asi rfl ?_
 refine vnil ?_
 refine V.seq (V.reg rfl ?_)
 refine vv (rldb4 rfl ag48 b26 rfl rfl rfl rfl ) ?_
 refine vo ?_
 refine sta (cs' := [_, _, _, _]) b15 rfl rfl sz48 rfl rfl rfl ?_
 intro W34 y35 b15
 have z36 := z32.below (y35.below (by omega))
 have s37 := y35.size
 refine vnil ?_
 refine V.ret ?_
 refine ⟨[_], ⟨⟨_, rfl, lvb ag48 b15 rfl⟩, trivial⟩, ?_⟩
 exact ⟨_, rfl, z36, (((hq19.sub (S' := SX _ [W20.heap.size]) (SX.old (by simp <;> omega))).ck (((x25.ck _).trans (y31.ck (by intro hh; first | (simp [SX] at hh <;> omega) | omega))).trans (y35.ck (by intro hh; first | (simp [SX] at hh <;> omega) | omega))))).un.un⟩
set_option maxHeartbeats 400000 in
theorem begin1_ok (w : World) :
    Calls Tryz.prog 167 #[] w (fun e w' => e = .returned (.tuple #[]) ∧ w = w') := by
 have z0 := Ext.refl w; have hLX : LX = 17592186044416 := rfl; have hLY : LY = 8796093022208 := rfl
 refine enter (args := []) Tryz.func167 rfl rfl (Nat.le_of_ble_eq_true rfl) ?_
 refine V.skip ?_
 refine ⟨[], trivial, ?_⟩
 exact ⟨rfl, rfl⟩
set_option maxHeartbeats 400000 in
theorem begin2_ok (q : List Value) (r : Rat) (M : Nat) (S1 : Nat → Prop) (w : World) (h : QA M S1 w q r) :
    Calls Tryz.prog 168 #[.agg q.toArray] w (fun e w' => e = .returned (.tuple #[]) ∧ Ext w w') := by
 have z0 := Ext.refl w; have hLX : LX = 17592186044416 := rfl; have hLY : LY = 8796093022208 := rfl
 obtain ⟨n1, a1, l1, c1, n2, a2, l2, c2, rfl⟩ := h.form
 refine enter (args := [.agg #[.bool n1, .slice a1 l1 c1, .bool n2, .slice a2 l2 c2]]) Tryz.func168 rfl rfl (Nat.le_of_ble_eq_true rfl) ?_
 refine V.reg rfl ?_
 refine vo ?_
 refine bxa rfl ?_
 intro W1 x2 b3 nn4
 have s5 := x2.sz
 have z6 := x2
 refine vnil ?_
 refine ⟨[], trivial, ?_⟩
 exact ⟨rfl, z6⟩
set_option maxHeartbeats 400000 in
theorem begin_ok (a1 : Option Addr) (n c L1 : Nat) (rss : List (List Rat)) (S1 : Nat → Prop) (w : World) (hx : MA L1 S1 w a1 n c rss) (hL : L1 < LY) (hl1 : 1 ≤ L1) (hn : n ≤ 1024) (hc : colsN rss ≤ 1024) :
    Calls Tryz.prog 123 #[.slice a1 n c] w (fun e w' => ∃ bw v, e = .returned (.pointer (some ⟨bw, 0, none⟩)) ∧ Ext w w' ∧ w.heap.size ≤ bw ∧ BoxAt w' bw [v, .slice none 0 0, .func (.func 167) #[] #[], .func (.func 168) #[] #[]] 141 ∧ GO 1 (RowOf GC) (XS w.heap.size bw (.slice none 0 0)) w.heap.size w' 23 v (gridm (matI rss) n (colsN rss))) := by
 have z0 := Ext.refl w; have hLX : LX = 17592186044416 := rfl; have hLY : LY = 8796093022208 := rfl
 have hLV : LV = 1099511627776 := rfl
 refine enter (args := [.slice a1 n c]) Tryz.func123 rfl rfl (Nat.le_of_ble_eq_true rfl) ?_
 refine V.seq (V.reg rfl ?_)
 refine asp rfl ?_
 refine vnil ?_
 refine V.seq (V.reg rfl ?_)
 refine mvs rfl ?_
 refine mvs rfl ?_
 refine vv (rlen sl22 rfl) ?_
 refine mvs rfl ?_
 refine vo ?_
 refine xcall e35 (mCols_ok _ _ _ _ _ _ _ hx) rfl rfl ?_
 rintro _ W1 ⟨rfl, x2⟩
 have s3 := x2.sz
 have z4 := x2
 refine ⟨_, rfl, ?_⟩
 refine vo ?_
 refine xcall e43 (mResize_own _ _ _ _ _ n (colsN rss) L1 rss (fun b => w.heap.size ≤ b) S1 _ (hx.ext z4) (by omega) (by omega) hL hl1 (fun i k => szMI (hx.ext z4) (by omega) i k) (fun b hb => by omega)) rfl rfl ?_
 rintro _ W5 ⟨vr, rfl, x6, hv⟩
 have s7 := x6.sz
 have z8 := z4.trans x6
 obtain ⟨av, cv, rfl⟩ := hv.form
 refine ⟨_, rfl, ?_⟩
 refine vv (rbd (ps := [(0, .slice av _ cv), (2, .func _ _ _), (3, .func _ _ _)]) (cs := [.slice av _ cv, .slice _ _ _, .func _ _ _, .func _ _ _]) pl141 rfl rfl) ?_
 refine vo ?_
 refine bxa rfl ?_
 intro W9 x10 b11 nn12
 have s13 := x10.sz
 have z14 := z8.trans x10
 refine asp rfl ?_
 refine vnil ?_
 refine V.ret ?_
 refine ⟨[.pointer (some ⟨_, _, none⟩)], ⟨rfl, trivial⟩, ?_⟩
 have hlb := b11.lt
 exact ⟨_, _, rfl, z14, by omega, b11, ((hv.res okRowC (S' := XS w.heap.size (W5.heap.size) (.slice none 0 0)) (fun b hb hs => ⟨hs, by omega, by simp [Value.ownBlock]⟩)).ext okRowC x10).lower (by omega)⟩
end Go.Proofs.YtknbjfefeeojlaaGreat
/- Package solve: one column of the elimination. -/
namespace Go.Proofs.YtknbjfefeeojlaaGreat
open Go.RowKit
attribute [local irreducible] RV VH V OpF Calls
theorem mat_swap {rows : List (List Rat)} {i d k : Nat} (hi : i < rows.length) (hd : d < rows.length) : mat (swapR rows i d) d k = mat rows i k := by
  unfold mat swapR; rw [rowat_set (by simpa using hd), if_pos rfl]

set_option maxHeartbeats 4000000 in
theorem column_ok (B bw : Nat) (fs fd : Value) (xd : Nat → Prop) (CX : Nat → (Nat → Prop) → World → Rat → Prop) (v pv : Value) (L N k : Nat) (rows : List (List Rat)) (piv : List Int) (δ : Rat) (w : World) (hS : WS B bw fs fd xd CX v pv L rows piv δ w) (hr : rect N rows) (hsz : szR L rows) (hk : k < N) (hl1 : 1 ≤ L) (hL : 15 * L + 2 < LY) (hp : piv.length ≤ rows.length) (hn : rows.length ≤ 1024) (hN : N ≤ 1024) :
    Calls Tryz.prog 169 #[.pointer (some ⟨bw, 0, none⟩), .int .i64 (k : Int)] w (fun e w' => ∃ q pv', e = .returned (.bool q) ∧ KD (fun b => KQ bw v pv b ∧ ¬ xd b) w w' ∧ WS B bw fs fd xd CX v pv' (5 * L) (colS (rows, piv, δ) k).1 (colS (rows, piv, δ) k).2.1 (colS (rows, piv, δ) k).2.2 w' ∧ ∀ b, pv'.ownBlock = some b → pv.ownBlock = some b ∨ w.heap.size ≤ b) := by
 have z0 := Ext.refl w; have hLX : LX = 17592186044416 := rfl; have hLY : LY = 8796093022208 := rfl
 have hLV : LV = 1099511627776 := rfl
 obtain ⟨av, cv, rfl⟩ := hS.g.form; obtain ⟨ap, cp, rfl⟩ := hS.p.form; obtain ⟨fS, cS, rfl, heS, hcS⟩ := hS.cl.sw; obtain ⟨fD, cD, rfl, heD, hcD⟩ := hS.cl.dv
 have hxw := hS.x; have lxw := hxw.lt; have hBB := hS.hB; have hM := hS.ma rfl hsz
 have hk0 : KD (fun b => KQ bw (Value.slice av rows.length cv) (Value.slice ap piv.length cp) b ∧ ¬ xd b) w w := KD.refl _ _
 refine enter (args := [.pointer (some ⟨bw, 0, none⟩), .int .i64 (k : Int)]) Tryz.func169 rfl rfl (Nat.le_of_ble_eq_true rfl) ?_
 refine V.seq (V.reg rfl ?_)
 refine asb rfl ?_
 refine vnil ?_
 refine V.scope ?_
 refine V.seq (V.reg rfl ?_)
 refine mvp rfl ?_
 refine vv (rnc (v := .pointer (some ⟨_, _, none⟩)) rfl rfl) ?_
 refine vv (rfa rfl fd141_1) ?_
 refine vv (rldb (v := .slice ap piv.length cp) rfl sc73 hxw rfl) ?_
 refine vv (rlen sl73 rfl) ?_
 refine asi rfl ?_
 refine asi rfl ?_
 refine vnil ?_
 refine V.seq ?_
 refine V.label ?_
 refine V.seq ?_
 refine V.seq (V.reg rfl ?_)
 refine mvi rfl ?_
 refine asi rfl ?_
 refine vnil ?_
 refine V.block ?_
 refine V.loopK (ι := Nat) [(0, .pointer (some ⟨_, _, none⟩)), (1, .int _ _), (4, .bool false), (5, .int _ _)] (fun i => [(7, .int .i64 (i : Int)), (6, .int .i64 (-1))]) (fun i W => Ext w W ∧ piv.length ≤ i ∧ i ≤ rows.length ∧ ∀ j, piv.length ≤ j → j < i → mat rows j k = 0) (fun i => rows.length - i) (piv.length) ⟨rfl, rfl, rfl, rfl, trivial⟩ ⟨rfl, rfl, trivial⟩ ⟨Ext.refl _, Nat.le_refl _, hp, fun j h1 h2 => by omega⟩ ?_
 intro i E2 W1 h3
 obtain ⟨x4, hi1, hi2, hz⟩ := h3
 have s5 := x4.sz
 have z6 := x4
 replace hxw := hxw.ext x4
 refine V.seq ?_
 refine V.seq (V.reg rfl ?_)
 refine mvi rfl ?_
 refine mvp rfl ?_
 refine vv (rnc (v := .pointer (some ⟨_, _, none⟩)) rfl rfl) ?_
 refine vv (rfa rfl fd141_0) ?_
 refine vv (rldb (v := .slice av rows.length cv) rfl sc22 hxw rfl) ?_
 refine vv (rlen sl22 rfl) ?_
 refine vlt rfl rfl ?_ ?_
 ·intro c7
  have hrw := hr.row (i := ((i : Nat) : Int).toNat) (by omega)
  refine vnil ?_
  refine V.condT rfl ?_
  refine V.skip ?_
  refine V.seq ?_
  refine V.block ?_
  refine V.seq (V.reg rfl ?_)
  refine mvp rfl ?_
  refine vv (rnc (v := .pointer (some ⟨_, _, none⟩)) rfl rfl) ?_
  refine vv (rfa rfl fd141_0) ?_
  refine vv (rldb (v := .slice av rows.length cv) rfl sc22 hxw rfl) ?_
  refine mvi rfl ?_
  refine vv (rix sl22 sz23 rfl rfl (by omega) (by omega) ((hM.ext z6).isS (i := 0) (by omega) (by omega))) ?_
  refine vldRow (hM.ext z6) rfl sc23 (by omega) (by omega) ?_
  intro a8 n9 c10 hg11
  have hg11l := hg11.len; have hg11m := hg11.max
  refine mvi rfl ?_
  refine vv (rix sl23 sz48 rfl rfl (by omega) (by omega) (hg11.isS (i := 0) (by omega) (by omega))) ?_
  refine vldQ hg11 rfl ag48 (by omega) (by omega) ?_
  intro n12 a13 l14 c15 n16 a17 l18 c19 hq20
  refine vo ?_
  refine xcall e66 (fSign_ok _ _ _ _ _ hq20 (by omega) (by omega)) rfl rfl ?_
  rintro _ W21 ⟨rfl, x22⟩
  have s23 := x22.sz
  have z24 := z6.trans x22
  replace hxw := hxw.ext x22
  refine ⟨_, rfl, ?_⟩
  refine vne rfl rfl ?_ ?_
  ·intro c5
   refine vnil ?_
   refine V.condT rfl ?_
   refine V.seq (V.reg rfl ?_)
   refine mvi rfl ?_
   refine asi rfl ?_
   refine vnil ?_
   refine V.exit ?_
   refine V.seq ?_
   refine V.seq (V.reg rfl ?_)
   refine mvi rfl ?_
   refine vlt rfl rfl ?_ ?_
   ·intro c25
    omega
   ·intro c25
    refine vnil ?_
    refine V.condF rfl ?_
    refine V.skip ?_
    refine V.seq ?_
    refine V.seq (V.reg rfl ?_)
    refine mvi rfl ?_
    refine mvi rfl ?_
    refine vne rfl rfl ?_ ?_
    ·intro c9
     have hP : IsP rows k piv.length i := ⟨hi1, by omega, hz, fun _ h => c5 (cq_eq.2 h)⟩
     obtain ⟨ra0, rk0, rc0, hc0, hg0⟩ := ((hS.ext z24)).row rfl (i := (piv.length : Int)) (by omega) (by omega)
     have ce0 : C1 W21 _ _ := hc0; have hga0 := hg0.va (hsz.row _); have hgl0 := hg0.len
     obtain ⟨ra1, rk1, rc1, hc1, hg1⟩ := ((hS.ext z24)).row rfl (i := (i : Int)) (by omega) (by omega)
     have ce1 : C1 W21 _ _ := hc1; have hga1 := hg1.va (hsz.row _); have hgl1 := hg1.len
     refine vnil ?_
     refine V.condT rfl ?_
     refine V.seq (V.regB [25, 27] mixed rfl ?_)
     intro W26 x27
     have s28 := x27.sz
     have z29 := z24.trans x27
     replace hxw := hxw.ext x27
     have q30 := Ext.refl W26
     have r31 := hxw
     refine tkP 0 rfl (by kernel_rfl) (by kernel_rfl) (fun _ => q30) (pv (fun _ _ => rmv (v := .pointer (some ⟨_, _, none⟩)) rfl)) ?_
     refine tkP 1 rfl (by kernel_rfl) (by kernel_rfl) (fun _ => q30) (pv (fun _ _ => rnc (v := .pointer (some ⟨_, _, none⟩)) rfl rfl)) ?_
     refine tkP 2 rfl (by kernel_rfl) (by kernel_rfl) (fun _ => q30) (pv (fun _ _ => rfa rfl fd141_0)) ?_
     refine tkB 3 rfl (by kernel_rfl) q30 (pv (fun _ y35 => rldb (v := .slice av rows.length cv) rfl sc22 (r31.ext y35) rfl)) ?_
     refine tkP 4 rfl (by kernel_rfl) (by kernel_rfl) (fun _ => q30) (pv (fun _ _ => rmv (v := .int _ _) rfl)) ?_
     refine tkP 5 rfl (by kernel_rfl) (by kernel_rfl) (fun _ => q30) (pv (fun _ _ => rmv (v := .pointer (some ⟨_, _, none⟩)) rfl)) ?_
     refine tkP 6 rfl (by kernel_rfl) (by kernel_rfl) (fun _ => q30) (pv (fun _ _ => rnc (v := .pointer (some ⟨_, _, none⟩)) rfl rfl)) ?_
     refine tkP 7 rfl (by kernel_rfl) (by kernel_rfl) (fun _ => q30) (pv (fun _ _ => rfa rfl fd141_0)) ?_
     refine tkB 8 rfl (by kernel_rfl) q30 (pv (fun _ y40 => rldb (v := .slice av rows.length cv) rfl sc22 (r31.ext y40) rfl)) ?_
     refine tkP 9 rfl (by kernel_rfl) (by kernel_rfl) (fun _ => q30) (pv (fun _ _ => rmv (v := .int _ _) rfl)) ?_
     refine tkP 10 rfl (by kernel_rfl) (by kernel_rfl) (fun _ => q30) (pv (fun _ _ => rmv (v := .pointer (some ⟨_, _, none⟩)) rfl)) ?_
     refine tkP 11 rfl (by kernel_rfl) (by kernel_rfl) (fun _ => q30) (pv (fun _ _ => rnc (v := .pointer (some ⟨_, _, none⟩)) rfl rfl)) ?_
     refine tkP 12 rfl (by kernel_rfl) (by kernel_rfl) (fun _ => q30) (pv (fun _ _ => rfa rfl fd141_0)) ?_
     refine tkB 13 rfl (by kernel_rfl) q30 (pv (fun _ y45 => rldb (v := .slice av rows.length cv) rfl sc22 (r31.ext y45) rfl)) ?_
     refine tkP 14 rfl (by kernel_rfl) (by kernel_rfl) (fun _ => q30) (pv (fun _ _ => rmv (v := .int _ _) rfl)) ?_
     refine tkP 15 rfl (by kernel_rfl) (by kernel_rfl) (fun _ => q30) (pv (fun _ _ => rix sl22 sz23 rfl rfl (by omega) (by omega) ((hM.ext z29).isS (i := 0) (by omega) (by omega)))) ?_
     refine tkB 16 rfl (by kernel_rfl) q30 (pv (fun _ y48 => rld1 (v := .slice _ _ _) rfl sc23 ((ce0.ext x27).ext y48))) ?_
     refine tkP 17 rfl (by kernel_rfl) (by kernel_rfl) (fun _ => q30) (pv (fun _ _ => rmv (v := .pointer (some ⟨_, _, none⟩)) rfl)) ?_
     refine tkP 18 rfl (by kernel_rfl) (by kernel_rfl) (fun _ => q30) (pv (fun _ _ => rnc (v := .pointer (some ⟨_, _, none⟩)) rfl rfl)) ?_
     refine tkP 19 rfl (by kernel_rfl) (by kernel_rfl) (fun _ => q30) (pv (fun _ _ => rfa rfl fd141_0)) ?_
     refine tkB 20 rfl (by kernel_rfl) q30 (pv (fun _ y52 => rldb (v := .slice av rows.length cv) rfl sc22 (r31.ext y52) rfl)) ?_
     refine tkP 21 rfl (by kernel_rfl) (by kernel_rfl) (fun _ => q30) (pv (fun _ _ => rmv (v := .int _ _) rfl)) ?_
     refine tkP 22 rfl (by kernel_rfl) (by kernel_rfl) (fun _ => q30) (pv (fun _ _ => rix sl22 sz23 rfl rfl (by omega) (by omega) ((hM.ext z29).isS (i := 0) (by omega) (by omega)))) ?_
     refine tkB 23 rfl (by kernel_rfl) q30 (pv (fun _ y55 => rld1 (v := .slice _ _ _) rfl sc23 ((ce1.ext x27).ext y55))) ?_
     refine tkP 24 rfl (by kernel_rfl) (by kernel_rfl) (fun _ => q30) (pv (fun _ _ => rix sl22 sz23 rfl rfl (by omega) (by omega) ((hM.ext z29).isS (i := 0) (by omega) (by omega)))) ?_
     refine efB 25 (by kernel_rfl) rfl ?_
     refine xstW (hS.ext z29) rfl rfl rfl sz23 (by omega) (by omega) (hg0.ext x27) ?_
     intro W1 hS1 kd1
     have hk57 : KD (fun b => KQ bw (Value.slice av rows.length cv) (Value.slice ap piv.length cp) b ∧ ¬ xd b) w W1 := (hk0.trans (Ext.kd z29)).trans (kd1.mono fun _ h => h.1)
     have hg1k := (hg1.ext x27).ck (kd1.ck.sub fun _ h => so_kq h)
     have zz58 := Ext.refl W1; have sk59 := hk57.size
     refine notW (by kernel_rfl) ?_
     refine tkP 26 rfl (by kernel_rfl) (by kernel_rfl) (notWf (by kernel_rfl)) (pv (fun _ _ => rix sl22 sz23 rfl rfl (by omega) (by omega) ((hM.ext z29).isS (i := 0) (by omega) (by omega)))) ?_
     refine efB 27 (by kernel_rfl) rfl ?_
     refine xstW hS1 rfl rfl rfl sz23 (by omega) (by omega) hg1k ?_
     intro W2 hS2' kd2
     have hk61 : KD (fun b => KQ bw (Value.slice av rows.length cv) (Value.slice ap piv.length cp) b ∧ ¬ xd b) w W2 := (hk57.trans (Ext.kd zz58)).trans (kd2.mono fun _ h => h.1)
     have zz62 := Ext.refl W2; have sk63 := hk61.size
     have hS2 : WS B bw (.func (.func fS) #[] cS.toArray) (.func (.func fD) #[] cD.toArray) xd CX (Value.slice av rows.length cv) (Value.slice ap piv.length cp) L (swapR rows i piv.length) piv δ W2 := hS2'
     have bx64 := (hS2).x
     refine notW (by kernel_rfl) ?_
     refine dnB (by kernel_rfl) ?_
     refine V.reg rfl ?_
     refine mvp rfl ?_
     refine vv (rnc (v := .pointer (some ⟨_, _, none⟩)) rfl rfl) ?_
     refine vv (rfa rfl fd141_2) ?_
     refine vv (rldb (v := .func (.func fS) #[] cS.toArray) rfl sc1 bx64 rfl) ?_
     refine vo ?_
     refine xcall heS (hcS L _ _ _ (hS2).c (hS2).upq (by omega)) rfl rfl ?_
     rintro _ W3 ⟨rfl, kd3, hc3⟩
     refine ⟨_, rfl, ?_⟩
     have hS3 := (hS2).ckB kd3 hc3
     have hk65 : KD (fun b => KQ bw (Value.slice av rows.length cv) (Value.slice ap piv.length cp) b ∧ ¬ xd b) w W3 := (hk61.trans (Ext.kd zz62)).trans (kd3.mono fun _ h => h.2)
     have zz66 := Ext.refl W3; have sk67 := hk65.size
     have bx68 := (hS3).x
     refine vnil ?_
     refine V.seq (V.reg rfl ?_)
     have hid : i < rows.length := by omega
     have hdd : piv.length < rows.length := by omega
     obtain ⟨rows1, er1⟩ : ∃ r, r = swapR rows i piv.length := ⟨_, rfl⟩
     obtain ⟨δ1, ed1⟩ : ∃ x, x = (if i = piv.length then δ else -δ) := ⟨_, rfl⟩
     have hS5 : WS B bw (.func (.func fS) #[] cS.toArray) (.func (.func fD) #[] cD.toArray) xd CX (Value.slice av rows.length cv) (Value.slice ap piv.length cp) L rows1 piv δ1 W3 := by rw [er1, ed1, if_neg (by omega)]; exact hS3
     have hl1r : rows1.length = rows.length := by rw [er1, swapR_len]
     have hr1 : rect N rows1 := by rw [er1]; exact hr.swap hid hdd
     have hsz1 : szR L rows1 := by rw [er1]; exact hsz.swap _ _
     have hnz : mat rows1 piv.length k ≠ 0 := by rw [er1, mat_swap hid hdd]; exact hP.2.2.2 hid
     have hrow1 := hr1.row (i := ((piv.length : Nat) : Int).toNat) (by omega)
     have hM5 := hS5.ma rfl hsz1
     obtain ⟨ra2, rk2, rc2, hc2, hg2⟩ := (hS5).row rfl (i := (piv.length : Int)) (by omega) (by omega)
     have ce2 : C1 W3 _ _ := hc2; have hga2 := hg2.va (hsz1.row _); have hgl2 := hg2.len
     have bx69 := (hS5).x
     refine mvp rfl ?_
     refine vv (rnc (v := .pointer (some ⟨_, _, none⟩)) rfl rfl) ?_
     refine vv (rfa rfl fd141_0) ?_
     refine vv (rldb (v := .slice av rows.length cv) rfl sc22 bx69 rfl) ?_
     refine mvi rfl ?_
     refine vv (rix sl22 sz23 rfl rfl (by omega) (by omega) (hM5.isS (i := 0) (by omega) (by omega))) ?_
     refine vv (rld1 (v := .slice _ _ _) rfl sc23 ce2) ?_
     refine mvi rfl ?_
     refine vv (rix sl23 sz48 rfl rfl (by omega) (by omega) (hga2.isS (i := 0) (by omega) (by omega))) ?_
     refine vldQ hga2 rfl ag48 (by omega) (by omega) ?_
     intro n70 a71 l72 c73 n74 a75 l76 c77 hq78
     refine vo ?_
     refine xal zc48 ?_
     intro W79 x80 b81 nn82
     have s83 := x80.sz
     have z84 := x80
     replace bx69 := bx69.ext x80
     refine vo ?_
     refine sta (cs' := [_, _, _, _]) b81 rfl rfl sz48 rfl rfl rfl ?_
     intro W85 y86 b81
     have z87 := z84.below (y86.below (by omega))
     replace bx69 := bx69.wr y86 (by omega)
     have s88 := y86.size
     refine vnil ?_
     refine V.seq (V.regB [5] mixed rfl ?_)
     intro W89 x90
     have s91 := x90.sz
     have z92 := z87.trans x90
     replace bx69 := bx69.ext x90
     replace b81 := b81.ext x90
     have q93 := Ext.refl W89
     have r94 := bx69
     have r95 := b81
     refine tkP 0 rfl (by kernel_rfl) (by kernel_rfl) (fun _ => q93) (pv (fun _ _ => rmv (v := .pointer (some ⟨_, _, none⟩)) rfl)) ?_
     refine tkP 1 rfl (by kernel_rfl) (by kernel_rfl) (fun _ => q93) (pv (fun _ _ => rnc (v := .pointer (some ⟨_, _, none⟩)) rfl rfl)) ?_
     refine tkP 2 rfl (by kernel_rfl) (by kernel_rfl) (fun _ => q93) (pv (fun _ _ => rfa rfl fd141_3)) ?_
     refine tkB 3 rfl (by kernel_rfl) q93 (pv (fun _ y99 => rldb (v := .func (.func fD) #[] cD.toArray) rfl sc139 (r94.ext y99) rfl)) ?_
     refine tkB 4 rfl (by kernel_rfl) q93 (pv (fun _ y100 => rldb4 rfl ag48 (r95.ext y100) rfl rfl rfl rfl )) ?_
     refine efB 5 (by kernel_rfl) rfl ?_
     refine xcall heD (hcD L L _ _ _ [_, _, _, _] _ ((hS5.ext z92)).c ((hS5.ext z92)).upq (((hq78.ext z92)).sub fun _ _ _ => trivial) hl1 (by omega)) rfl rfl ?_
     rintro _ W6 ⟨rfl, kd6, hc6⟩
     refine ⟨_, rfl, ?_⟩
     have hS6 := ((hS5.ext z92)).ckB kd6 hc6
     have bk102 := b81.kd kd6 (((hS5.ext z92)).nx (by omega))
     have hk101 : KD (fun b => KQ bw (Value.slice av rows.length cv) (Value.slice ap piv.length cp) b ∧ ¬ xd b) w W6 := (hk65.trans (Ext.kd z92)).trans (kd6.mono fun _ h => h.2)
     have hq78k := (hq78.ext z92).ck (kd6.ck.sub fun _ h => ((hS5.ext z92)).nx h.1.1)
     have zz103 := Ext.refl W6; have sk104 := hk101.size
     have hM6 := hS6.ma rfl hsz1
     obtain ⟨ra3, rk3, rc3, hc3, hg3⟩ := (hS6).row rfl (i := (piv.length : Int)) (by omega) (by omega)
     have ce3 : C1 W6 _ _ := hc3; have hga3 := hg3.va (hsz1.row _); have hgl3 := hg3.len
     have bx105 := (hS6).x
     refine notW (by kernel_rfl) ?_
     refine dnB (by kernel_rfl) ?_
     refine V.seq (V.regD mixed rfl ?_)
     intro W106 x107
     have s108 := x107.sz
     have z109 := x107
     replace bk102 := bk102.ext x107
     replace bx105 := bx105.ext x107
     have q110 := Ext.refl W106
     have r111 := bk102
     have r112 := bx105
     refine tk 0 rfl (by kernel_rfl) q110 (pv (fun _ y113 => rmv (v := .pointer (some ⟨_, _, none⟩)) rfl)) ?_
     refine tk 1 rfl (by kernel_rfl) q110 (pv (fun _ y114 => rnc (v := .pointer (some ⟨_, _, none⟩)) rfl rfl)) ?_
     refine tk 2 rfl (by kernel_rfl) q110 (pv (fun _ y115 => rfa rfl fd141_0)) ?_
     refine tk 3 rfl (by kernel_rfl) q110 (pv (fun _ y116 => rldb (v := .slice av rows.length cv) rfl sc22 (r112.ext y116) rfl)) ?_
     refine tk 4 rfl (by kernel_rfl) q110 (pv (fun _ y117 => rmv (v := .int _ _) rfl)) ?_
     refine tk 6 rfl (by kernel_rfl) q110 (pv (fun _ y118 => rldb4 rfl ag48 (r111.ext y118) rfl rfl rfl rfl )) ?_
     refine tk 8 rfl (by kernel_rfl) q110 (pv (fun _ y119 => rmv (v := .pointer (some ⟨_, _, none⟩)) rfl)) ?_
     refine tk 9 rfl (by kernel_rfl) q110 (pv (fun _ y120 => rnc (v := .pointer (some ⟨_, _, none⟩)) rfl rfl)) ?_
     refine tk 10 rfl (by kernel_rfl) q110 (pv (fun _ y121 => rfa rfl fd141_0)) ?_
     refine tk 11 rfl (by kernel_rfl) q110 (pv (fun _ y122 => rldb (v := .slice av rows.length cv) rfl sc22 (r112.ext y122) rfl)) ?_
     refine tk 12 rfl (by kernel_rfl) q110 (pv (fun _ y123 => rmv (v := .int _ _) rfl)) ?_
     refine tk 13 rfl (by kernel_rfl) q110 (pv (fun _ y124 => rix sl22 sz23 rfl rfl (by omega) (by omega) (((hM6.ext z109).ext y124).isS (i := 0) (by omega) (by omega)))) ?_
     refine tk 14 rfl (by kernel_rfl) q110 (pv (fun _ y125 => rld1 (v := .slice _ _ _) rfl sc23 ((ce3.ext z109).ext y125))) ?_
     refine ef 5 (by kernel_rfl) rfl ?_
     refine xcall e27 (fFrom_ok 1 TT _ (by omega) (TT.up _)) rfl rfl ?_
     rintro _ W127 ⟨_, rfl, x128, hq126⟩
     have s129 := x128.sz
     have z130 := z109.trans x128
     replace bk102 := bk102.ext x128
     have q131 := q110.trans x128
     obtain ⟨_, _, _, _, _, _, _, _, rfl⟩ := hq126.form
     refine ⟨_, rfl, ?_⟩
     refine ⟨fun _ => q131, ?_⟩
     refine ef 7 (by kernel_rfl) rfl ?_
     refine xcall e199 (by_ok [_, _, _, _] [_, _, _, _] _ _ 1 L TT _ _ _ ((hq126).qa szOne') (hq78k.ext z130) (by omega) (by omega) (by omega) (TT.up _) hnz) rfl rfl ?_
     rintro _ W133 ⟨_, rfl, x134, hq132⟩
     have s135 := x134.sz
     have z136 := z130.trans x134
     replace bk102 := bk102.ext x134
     have q137 := q131.trans x134
     obtain ⟨_, _, _, _, _, _, _, _, rfl⟩ := hq132.form
     refine ⟨_, rfl, ?_⟩
     refine ⟨fun _ => q137, ?_⟩
     refine ef 15 (by kernel_rfl) rfl ?_
     refine xcall e26 (vScale_ok [_, _, _, _] _ _ _ _ L L _ (SO (XS B bw (Value.slice ap piv.length cp)) (Value.slice av rows.length cv)) _ _ _ (hga3.ext z136) ((hq132).qa (sz_inv (hsz1.at hl1 _ _) hl1)) (by omega) (by omega) (by omega) (by omega) ((hS6.ext z136)).up) rfl rfl ?_
     rintro _ W138 ⟨_, _, _, rfl, x139, hsc⟩
     have s140 := x139.sz
     have z141 := z136.trans x139
     replace bk102 := bk102.ext x139
     have q142 := q137.trans x139
     have hsc2 : GC _ _ _ _ _ (sclR (1 / mat rows1 piv.length k) (rowat rows1 piv.length)) := hsc.cast (by unfold sclR; rw [show (rowat rows1 piv.length).length = rk3 from hgl3]; rfl)
     refine ⟨_, rfl, ?_⟩
     refine ⟨fun _ => q142, ?_⟩
     refine tk 16 rfl (by kernel_rfl) q142 (pv (fun _ y143 => rix sl22 sz23 rfl rfl (by omega) (by omega) (((hM6.ext z109).ext y143).isS (i := 0) (by omega) (by omega)))) ?_
     refine ef 17 (by kernel_rfl) rfl ?_
     refine xstW (hS6.ext z141) rfl rfl rfl sz23 (by omega) (by omega) hsc2 ?_
     intro W7 hS7' kd7
     have bk145 := bk102.kd kd7 (((hS6.ext z141)).nb bk102 (by decide) (by decide) (by omega))
     have hk144 : KD (fun b => KQ bw (Value.slice av rows.length cv) (Value.slice ap piv.length cp) b ∧ ¬ xd b) w W7 := (hk101.trans (Ext.kd z141)).trans (kd7.mono fun _ h => h.1)
     have zz146 := Ext.refl W7; have sk147 := hk144.size
     obtain ⟨rows2, er2⟩ : ∃ r, r = divR rows1 piv.length k := ⟨_, rfl⟩
     obtain ⟨δ2, ed2⟩ : ∃ x, x = δ1 * mat rows1 piv.length k := ⟨_, rfl⟩
     have hl2r : rows2.length = rows.length := by rw [er2, divR_len, hl1r]
     have hS7 : WS B bw (.func (.func fS) #[] cS.toArray) (.func (.func fD) #[] cD.toArray) xd CX (Value.slice av rows.length cv) (Value.slice ap piv.length cp) (L + L) rows2 piv δ2 W7 := by rw [er2, ed2]; exact hS7'
     have bx148 := (hS7).x
     have hrE : ∀ i, rect N (elimS rows2 piv.length k i) := fun i => by rw [er2]; exact (hr1.div (by omega)).elim (by rw [divR_len]; omega)
     have hszE : ∀ i, szR (5 * L) (elimS rows2 piv.length k i) := fun i => by rw [er2]; exact elimS_sz hsz1 hl1 (by omega) k i
     refine lastT (by kernel_rfl) ?_
     refine dn (by kernel_rfl) ?_
     refine V.seq ?_
     refine V.seq (V.reg rfl ?_)
     refine mvp rfl ?_
     refine vv (rnc (v := .pointer (some ⟨_, _, none⟩)) rfl rfl) ?_
     refine vv (rfa rfl fd141_0) ?_
     refine vv (rldb (v := .slice av rows.length cv) rfl sc22 bx148 rfl) ?_
     refine vv (rlen sl22 rfl) ?_
     refine mvi rfl ?_
     refine vnil ?_
     refine V.block ?_
     refine V.loopK (ι := Nat) [(0, .pointer (some ⟨_, _, none⟩)), (1, .int _ _), (4, .bool false), (5, .int _ _), (112, .int _ _)] (fun j => [(113, .int .i64 (j : Int))]) (fun j W => j ≤ rows.length ∧ WS B bw (.func (.func fS) #[] cS.toArray) (.func (.func fD) #[] cD.toArray) xd CX (Value.slice av rows.length cv) (Value.slice ap piv.length cp) (L + L) (elimS rows2 piv.length k j) piv δ2 W ∧ KD (fun b => KQ bw (Value.slice av rows.length cv) (Value.slice ap piv.length cp) b ∧ ¬ xd b) w W) (fun j => rows.length - j) (0) ⟨rfl, rfl, rfl, rfl, rfl, trivial⟩ ⟨rfl, trivial⟩ ⟨Nat.zero_le _, (by rw [elimS_zero]; exact hS7), (hk144.trans (Ext.kd zz146))⟩ ?_
     intro j E150 W149 h151
     obtain ⟨hi8, hS8, hk8⟩ := h151
     have hM8 := hS8.ma rfl (hszE j); have sk8 := hk8.size; have zz8 := Ext.refl W149
     have bx152 := (hS8).x
     refine V.seq (V.reg rfl ?_)
     refine vlt rfl rfl ?_ ?_
     ·intro c153
      have hlE := elimS_len rows2 piv.length k j; have hrowE := (hrE j).row (i := ((j : Nat) : Int).toNat) (by omega)
      have hrwE : rowat (elimS rows2 piv.length k j) j = rowat rows2 j := by rw [elimS_row (by omega), if_neg (by omega)]
      have hrwD : rowat (elimS rows2 piv.length k j) piv.length = rowat rows2 piv.length := by rw [elimS_row (by omega)]; split <;> simp [elimT]
      have hlD := (hrE j).row (i := ((piv.length : Nat) : Int).toNat) (by omega)
      obtain ⟨ra4, rk4, rc4, hc4, hg4⟩ := (hS8).row rfl (i := (j : Int)) (by omega) (by omega)
      have ce4 : C1 W149 _ _ := hc4; have hga4 := hg4.va ((hszE j).row _); have hgl4 := hg4.len
      obtain ⟨ra5, rk5, rc5, hc5, hg5⟩ := (hS8).row rfl (i := (piv.length : Int)) (by omega) (by omega)
      have ce5 : C1 W149 _ _ := hc5; have hga5 := hg5.va ((hszE j).row _); have hgl5 := hg5.len
      refine vnil ?_
      refine V.seq ?_
      refine V.condT rfl ?_
      refine V.skip ?_
      refine V.seq ?_
      refine V.block ?_
      refine V.seq (V.reg rfl ?_)
      refine mvi rfl ?_
      refine asi rfl ?_
      refine vnil ?_
      refine V.seq (V.reg rfl ?_)
      refine mvp rfl ?_
      refine vv (rnc (v := .pointer (some ⟨_, _, none⟩)) rfl rfl) ?_
      refine vv (rfa rfl fd141_0) ?_
      refine vv (rldb (v := .slice av rows.length cv) rfl sc22 bx152 rfl) ?_
      refine mvi rfl ?_
      refine vv (rix sl22 sz23 rfl rfl (by omega) (by omega) (hM8.isS (i := 0) (by omega) (by omega))) ?_
      refine vv (rld1 (v := .slice _ _ _) rfl sc23 ce4) ?_
      refine mvi rfl ?_
      refine vv (rix sl23 sz48 rfl rfl (by omega) (by omega) (hga4.isS (i := 0) (by omega) (by omega))) ?_
      refine vldQ hga4 rfl ag48 (by omega) (by omega) ?_
      intro n154 a155 l156 c157 n158 a159 l160 c161 hq162
      refine vo ?_
      refine xal zc48 ?_
      intro W163 x164 b165 nn166
      have s167 := x164.sz
      have z168 := x164
      replace bx152 := bx152.ext x164
      refine vo ?_
      refine sta (cs' := [_, _, _, _]) b165 rfl rfl sz48 rfl rfl rfl ?_
      intro W169 y170 b165
      have z171 := z168.below (y170.below (by omega))
      replace bx152 := bx152.wr y170 (by omega)
      have s172 := y170.size
      refine vnil ?_
      refine V.seq (V.reg rfl ?_)
      refine mvi rfl ?_
      refine mvi rfl ?_
      refine vne rfl rfl ?_ ?_
      ·intro c19
       refine mvb rfl ?_
       refine vg rfl ?_
       refine vv (rldb4 rfl ag48 b165 rfl rfl rfl rfl ) ?_
       refine vg rfl ?_
       refine vo ?_
       refine xcall e66 (fSign_ok _ _ _ _ _ (hq162.ext z171) (by omega) (by omega)) rfl rfl ?_
       rintro _ W173 ⟨rfl, x174⟩
       have s175 := x174.sz
       have z176 := z171.trans x174
       replace bx152 := bx152.ext x174
       replace b165 := b165.ext x174
       refine ⟨_, rfl, ?_⟩
       refine vg rfl ?_
       refine vne rfl rfl ?_ ?_
       ·intro c19b
        refine vv (rpk (v := .bool true) rfl rfl) ?_
        refine vnil ?_
        refine V.condT rfl ?_
        refine V.regD mixed rfl ?_
        intro W177 x178
        have s179 := x178.sz
        have z180 := z176.trans x178
        replace bx152 := bx152.ext x178
        replace b165 := b165.ext x178
        have q181 := Ext.refl W177
        have r182 := bx152
        have r183 := b165
        refine tk 0 rfl (by kernel_rfl) q181 (pv (fun _ y184 => rmv (v := .pointer (some ⟨_, _, none⟩)) rfl)) ?_
        refine tk 1 rfl (by kernel_rfl) q181 (pv (fun _ y185 => rnc (v := .pointer (some ⟨_, _, none⟩)) rfl rfl)) ?_
        refine tk 2 rfl (by kernel_rfl) q181 (pv (fun _ y186 => rfa rfl fd141_0)) ?_
        refine tk 3 rfl (by kernel_rfl) q181 (pv (fun _ y187 => rldb (v := .slice av rows.length cv) rfl sc22 (r182.ext y187) rfl)) ?_
        refine tk 4 rfl (by kernel_rfl) q181 (pv (fun _ y188 => rmv (v := .int _ _) rfl)) ?_
        refine tk 5 rfl (by kernel_rfl) q181 (pv (fun _ y189 => rldb4 rfl ag48 (r183.ext y189) rfl rfl rfl rfl )) ?_
        refine tk 7 rfl (by kernel_rfl) q181 (pv (fun _ y190 => rmv (v := .pointer (some ⟨_, _, none⟩)) rfl)) ?_
        refine tk 8 rfl (by kernel_rfl) q181 (pv (fun _ y191 => rnc (v := .pointer (some ⟨_, _, none⟩)) rfl rfl)) ?_
        refine tk 9 rfl (by kernel_rfl) q181 (pv (fun _ y192 => rfa rfl fd141_0)) ?_
        refine tk 10 rfl (by kernel_rfl) q181 (pv (fun _ y193 => rldb (v := .slice av rows.length cv) rfl sc22 (r182.ext y193) rfl)) ?_
        refine tk 11 rfl (by kernel_rfl) q181 (pv (fun _ y194 => rmv (v := .int _ _) rfl)) ?_
        refine tk 12 rfl (by kernel_rfl) q181 (pv (fun _ y195 => rix sl22 sz23 rfl rfl (by omega) (by omega) (((hM8.ext z180).ext y195).isS (i := 0) (by omega) (by omega)))) ?_
        refine tk 13 rfl (by kernel_rfl) q181 (pv (fun _ y196 => rld1 (v := .slice _ _ _) rfl sc23 ((ce5.ext z180).ext y196))) ?_
        refine tk 14 rfl (by kernel_rfl) q181 (pv (fun _ y197 => rmv (v := .pointer (some ⟨_, _, none⟩)) rfl)) ?_
        refine tk 15 rfl (by kernel_rfl) q181 (pv (fun _ y198 => rnc (v := .pointer (some ⟨_, _, none⟩)) rfl rfl)) ?_
        refine tk 16 rfl (by kernel_rfl) q181 (pv (fun _ y199 => rfa rfl fd141_0)) ?_
        refine tk 17 rfl (by kernel_rfl) q181 (pv (fun _ y200 => rldb (v := .slice av rows.length cv) rfl sc22 (r182.ext y200) rfl)) ?_
        refine tk 18 rfl (by kernel_rfl) q181 (pv (fun _ y201 => rmv (v := .int _ _) rfl)) ?_
        refine tk 19 rfl (by kernel_rfl) q181 (pv (fun _ y202 => rix sl22 sz23 rfl rfl (by omega) (by omega) (((hM8.ext z180).ext y202).isS (i := 0) (by omega) (by omega)))) ?_
        refine tk 20 rfl (by kernel_rfl) q181 (pv (fun _ y203 => rld1 (v := .slice _ _ _) rfl sc23 ((ce4.ext z180).ext y203))) ?_
        refine ef 6 (by kernel_rfl) rfl ?_
        refine xcall e72 (fNeg_ok _ _ _ _ _ _ (hq162.ext z180) (by omega) (by omega) (TT.up _)) rfl rfl ?_
        rintro _ W205 ⟨_, rfl, x206, hq204⟩
        have s207 := x206.sz
        have z208 := z180.trans x206
        replace b165 := b165.ext x206
        have q209 := q181.trans x206
        obtain ⟨_, _, _, _, _, _, _, _, rfl⟩ := hq204.form
        refine ⟨_, rfl, ?_⟩
        refine ⟨fun _ => q209, ?_⟩
        refine ef 21 (by kernel_rfl) rfl ?_
        refine xcall e68 (vScl_ok [_, _, _, _] _ (5 * L) TT _ _ _ _ _ _ (5 * L) (5 * L) _ _ (SO (XS B bw (Value.slice ap piv.length cp)) (Value.slice av rows.length cv)) _ _ _ (hga5.ext z208) (hga4.ext z208) ((hq204).qa (sz_neg ((hszE j).at (by omega) _ _))) (by omega) (by omega) (by omega) (by omega) (by omega) (by omega) ((hS8.ext z208)).up) rfl rfl ?_
        rintro _ W210 ⟨_, _, _, rfl, x211, hax⟩
        have s212 := x211.sz
        have z213 := z208.trans x211
        replace b165 := b165.ext x211
        have q214 := q209.trans x211
        have hax2 : GC _ _ _ _ _ (elimT rows2 piv.length k j) := hax.cast (by rw [elimT, if_neg (by rintro (h | h); omega; exact c19b (cq_eq.2 (show mat (elimS rows2 piv.length k j) j k = 0 by rw [mat, hrwE]; exact h))), axR, ← hrwE, ← hrwD, mat, ← hrwE, show (rowat (elimS rows2 piv.length k j) piv.length).length = rk5 from hgl5, show (rowat (elimS rows2 piv.length k j) j).length = rk4 from hgl4]; rfl)
        have hgax := hax2.len
        refine ⟨_, rfl, ?_⟩
        refine ⟨fun _ => q214, ?_⟩
        refine tk 22 rfl (by kernel_rfl) q214 (pv (fun _ y215 => rix sl22 sz23 rfl rfl (by omega) (by omega) (((hM8.ext z180).ext y215).isS (i := 0) (by omega) (by omega)))) ?_
        refine ef 23 (by kernel_rfl) rfl ?_
        refine xstW (hS8.ext z213) rfl rfl rfl sz23 (by omega) (by omega) hax2 ?_
        intro W9 hS9 kd9
        have bk217 := b165.kd kd9 (((hS8.ext z213)).nb b165 (by decide) (by decide) (by omega))
        have hk216 : KD (fun b => KQ bw (Value.slice av rows.length cv) (Value.slice ap piv.length cp) b ∧ ¬ xd b) w W9 := (hk8.trans (Ext.kd z213)).trans (kd9.mono fun _ h => h.1)
        have zz218 := Ext.refl W9; have sk219 := hk216.size
        have bx220 := (hS9).x
        refine lastT (by kernel_rfl) ?_
        refine dn (by kernel_rfl) ?_
        refine V.reg rfl ?_
        refine vv (rbin (bAdd (wi (by omega))) rfl rfl) ?_
        refine mvi rfl ?_
        refine vnil ?_
        refine ⟨rfl, j + 1, ⟨rfl, rfl, rfl, rfl, rfl, trivial⟩, ⟨rfl, trivial⟩, ⟨by omega, (by rw [elimS_succ (by omega)]; exact hS9), (hk216.trans (Ext.kd zz218))⟩, ?_⟩
        show rows.length - (j + 1) < rows.length - j
        omega
       ·intro c19b
        refine vv (rpk (v := .bool false) rfl rfl) ?_
        refine vnil ?_
        refine V.condF rfl ?_
        refine V.skip ?_
        refine V.reg rfl ?_
        refine vv (rbin (bAdd (wi (by omega))) rfl rfl) ?_
        refine mvi rfl ?_
        refine vnil ?_
        refine ⟨rfl, j + 1, ⟨rfl, rfl, rfl, rfl, rfl, trivial⟩, ⟨rfl, trivial⟩, ⟨by omega, (by rw [elimS_keep (by omega) (.inr (by rw [mat, ← hrwE]; exact cq_eq.1 c19b))]; exact (hS8.ext z176)), (hk8.trans (Ext.kd z176))⟩, ?_⟩
        show rows.length - (j + 1) < rows.length - j
        omega
      ·intro c19
       refine mvb rfl ?_
       refine vgn (b := false) rfl rfl ?_
       refine vgn (b := false) rfl rfl ?_
       refine vgn (b := false) rfl rfl ?_
       refine vv (rpk (v := .bool false) rfl rfl) ?_
       refine vnil ?_
       refine V.condF rfl ?_
       refine V.skip ?_
       refine V.reg rfl ?_
       refine vv (rbin (bAdd (wi (by omega))) rfl rfl) ?_
       refine mvi rfl ?_
       refine vnil ?_
       refine ⟨rfl, j + 1, ⟨rfl, rfl, rfl, rfl, rfl, trivial⟩, ⟨rfl, trivial⟩, ⟨by omega, (by rw [elimS_keep (by omega) (.inl (by omega))]; exact (hS8.ext z171)), (hk8.trans (Ext.kd z171))⟩, ?_⟩
       show rows.length - (j + 1) < rows.length - j
       omega
     ·intro c153
      refine vnil ?_
      refine V.seq ?_
      refine V.condF rfl ?_
      refine V.exit ?_
      refine V.seq (V.reg rfl ?_)
      refine mvp rfl ?_
      refine mvp rfl ?_
      refine vv (rnc (v := .pointer (some ⟨_, _, none⟩)) rfl rfl) ?_
      refine vv (rfa rfl fd141_1) ?_
      refine vv (rldb (v := .slice ap piv.length cp) rfl sc73 bx152 rfl) ?_
      refine mvi rfl ?_
      refine vo ?_
      refine xbs (ps := [(0, .int _ _)]) (cs := [.int _ _]) sl73 zr3 sz3 rfl rfl rfl rfl rfl rfl ?_
      intro W221 x222 b223 nn224
      have s225 := x222.sz
      have z226 := x222
      refine vo ?_
      have hSa := (hS8.ext z226)
      refine xapp sl73 in3 hSa.p rfl rfl b223 (by simp only [kb]; omega) (by omega) (by decide) (by omega) ?_
      intro va Wa hO hg ho
      obtain ⟨ap2, cp2, rfl⟩ := hO.form
      have hxa := hSa.x.ck (S := fun q => (Value.slice ap piv.length cp).ownBlock ≠ some q) (grown_ck hg fun b e h => h e) hSa.pb
      have hos := (KB.grown hSa.p hg (Nat.zero_le _) (Nat.zero_le _)).below
      refine vv (rnc (v := .pointer (some ⟨_, _, none⟩)) rfl rfl) ?_
      refine vv (rfa rfl fd141_1) ?_
      refine vo ?_
      refine st1 (v := .slice _ _ _) (cs' := [_, _, _, _]) hxa rfl rfl sz73 rfl rfl rfl rfl ?_
      intro Wb yb hxb
      obtain ⟨hSb, kdb⟩ := hSa.push hO hg ho hos yb hxb
      have hkb : KD (fun b => KQ bw (Value.slice av rows.length cv) (Value.slice ap piv.length cp) b ∧ ¬ xd b) w Wb := (hk8.trans (Ext.kd z226)).trans (kdb.mono fun _ h => h.1); have sza := (z226).sz
      refine vnil ?_
      refine V.seq (V.reg rfl ?_)
      refine asb rfl ?_
      refine vnil ?_
      refine V.ret ?_
      refine ⟨[.bool true], ⟨rfl, trivial⟩, ?_⟩
      refine ⟨true, .slice ap2 (piv ++ [(k : Int)]).length cp2, rfl, hkb, ?_, fun b hb => ?_⟩
      ·rw [colS_of hP hid, ← er1, ← ed1, ← ed2]
       have e : colR rows piv.length k i = elimS rows2 piv.length k rows.length := by rw [er2, er1]; rfl
       rw [e, show elimS rows2 piv.length k rows.length = elimS rows2 piv.length k j by rw [show j = rows.length by omega]]
       exact hSb.sz (by omega)
      ·rcases ho with h' | h'
       ·exact .inl (h' ▸ hb)
       ·rw [h'] at hb; injection hb with hb; exact .inr (by omega)
    ·intro c9
     have hP : IsP rows k piv.length i := ⟨hi1, by omega, hz, fun _ h => c5 (cq_eq.2 h)⟩
     refine vnil ?_
     refine V.condF rfl ?_
     refine V.skip ?_
     refine V.seq (V.reg rfl ?_)
     have hid : i < rows.length := by omega
     have hdd : piv.length < rows.length := by omega
     obtain ⟨rows1, er1⟩ : ∃ r, r = swapR rows i piv.length := ⟨_, rfl⟩
     obtain ⟨δ1, ed1⟩ : ∃ x, x = (if i = piv.length then δ else -δ) := ⟨_, rfl⟩
     have hS5 : WS B bw (.func (.func fS) #[] cS.toArray) (.func (.func fD) #[] cD.toArray) xd CX (Value.slice av rows.length cv) (Value.slice ap piv.length cp) L rows1 piv δ1 W21 := by rw [er1, ed1, if_pos (by omega), show i = piv.length by omega, swapR_self]; exact (hS.ext z24)
     have hl1r : rows1.length = rows.length := by rw [er1, swapR_len]
     have hr1 : rect N rows1 := by rw [er1]; exact hr.swap hid hdd
     have hsz1 : szR L rows1 := by rw [er1]; exact hsz.swap _ _
     have hnz : mat rows1 piv.length k ≠ 0 := by rw [er1, mat_swap hid hdd]; exact hP.2.2.2 hid
     have hrow1 := hr1.row (i := ((piv.length : Nat) : Int).toNat) (by omega)
     have hM5 := hS5.ma rfl hsz1
     obtain ⟨ra2, rk2, rc2, hc2, hg2⟩ := (hS5).row rfl (i := (piv.length : Int)) (by omega) (by omega)
     have ce2 : C1 W21 _ _ := hc2; have hga2 := hg2.va (hsz1.row _); have hgl2 := hg2.len
     have bx228 := (hS5).x
     refine mvp rfl ?_
     refine vv (rnc (v := .pointer (some ⟨_, _, none⟩)) rfl rfl) ?_
     refine vv (rfa rfl fd141_0) ?_
     refine vv (rldb (v := .slice av rows.length cv) rfl sc22 bx228 rfl) ?_
     refine mvi rfl ?_
     refine vv (rix sl22 sz23 rfl rfl (by omega) (by omega) (hM5.isS (i := 0) (by omega) (by omega))) ?_
     refine vv (rld1 (v := .slice _ _ _) rfl sc23 ce2) ?_
     refine mvi rfl ?_
     refine vv (rix sl23 sz48 rfl rfl (by omega) (by omega) (hga2.isS (i := 0) (by omega) (by omega))) ?_
     refine vldQ hga2 rfl ag48 (by omega) (by omega) ?_
     intro n229 a230 l231 c232 n233 a234 l235 c236 hq237
     refine vo ?_
     refine xal zc48 ?_
     intro W238 x239 b240 nn241
     have s242 := x239.sz
     have z243 := z24.trans x239
     have z244 := x239
     replace bx228 := bx228.ext x239
     refine vo ?_
     refine sta (cs' := [_, _, _, _]) b240 rfl rfl sz48 rfl rfl rfl ?_
     intro W245 y246 b240
     have z247 := z243.below (y246.below (by omega))
     have z248 := z244.below (y246.below (by omega))
     replace bx228 := bx228.wr y246 (by omega)
     have s249 := y246.size
     refine vnil ?_
     refine V.seq (V.regB [5] mixed rfl ?_)
     intro W250 x251
     have s252 := x251.sz
     have z253 := z247.trans x251
     have z254 := z248.trans x251
     replace bx228 := bx228.ext x251
     replace b240 := b240.ext x251
     have q255 := Ext.refl W250
     have r256 := bx228
     have r257 := b240
     refine tkP 0 rfl (by kernel_rfl) (by kernel_rfl) (fun _ => q255) (pv (fun _ _ => rmv (v := .pointer (some ⟨_, _, none⟩)) rfl)) ?_
     refine tkP 1 rfl (by kernel_rfl) (by kernel_rfl) (fun _ => q255) (pv (fun _ _ => rnc (v := .pointer (some ⟨_, _, none⟩)) rfl rfl)) ?_
     refine tkP 2 rfl (by kernel_rfl) (by kernel_rfl) (fun _ => q255) (pv (fun _ _ => rfa rfl fd141_3)) ?_
     refine tkB 3 rfl (by kernel_rfl) q255 (pv (fun _ y261 => rldb (v := .func (.func fD) #[] cD.toArray) rfl sc139 (r256.ext y261) rfl)) ?_
     refine tkB 4 rfl (by kernel_rfl) q255 (pv (fun _ y262 => rldb4 rfl ag48 (r257.ext y262) rfl rfl rfl rfl )) ?_
     refine efB 5 (by kernel_rfl) rfl ?_
     refine xcall heD (hcD L L _ _ _ [_, _, _, _] _ ((hS5.ext z254)).c ((hS5.ext z254)).upq (((hq237.ext z254)).sub fun _ _ _ => trivial) hl1 (by omega)) rfl rfl ?_
     rintro _ W6 ⟨rfl, kd6, hc6⟩
     refine ⟨_, rfl, ?_⟩
     have hS6 := ((hS5.ext z254)).ckB kd6 hc6
     have bk264 := b240.kd kd6 (((hS5.ext z254)).nx (by omega))
     have hk263 : KD (fun b => KQ bw (Value.slice av rows.length cv) (Value.slice ap piv.length cp) b ∧ ¬ xd b) w W6 := (hk0.trans (Ext.kd z253)).trans (kd6.mono fun _ h => h.2)
     have hq237k := (hq237.ext z254).ck (kd6.ck.sub fun _ h => ((hS5.ext z254)).nx h.1.1)
     have zz265 := Ext.refl W6; have sk266 := hk263.size
     have hM6 := hS6.ma rfl hsz1
     obtain ⟨ra3, rk3, rc3, hc3, hg3⟩ := (hS6).row rfl (i := (piv.length : Int)) (by omega) (by omega)
     have ce3 : C1 W6 _ _ := hc3; have hga3 := hg3.va (hsz1.row _); have hgl3 := hg3.len
     have bx267 := (hS6).x
     refine notW (by kernel_rfl) ?_
     refine dnB (by kernel_rfl) ?_
     refine V.seq (V.regD mixed rfl ?_)
     intro W268 x269
     have s270 := x269.sz
     have z271 := x269
     replace bk264 := bk264.ext x269
     replace bx267 := bx267.ext x269
     have q272 := Ext.refl W268
     have r273 := bk264
     have r274 := bx267
     refine tk 0 rfl (by kernel_rfl) q272 (pv (fun _ y275 => rmv (v := .pointer (some ⟨_, _, none⟩)) rfl)) ?_
     refine tk 1 rfl (by kernel_rfl) q272 (pv (fun _ y276 => rnc (v := .pointer (some ⟨_, _, none⟩)) rfl rfl)) ?_
     refine tk 2 rfl (by kernel_rfl) q272 (pv (fun _ y277 => rfa rfl fd141_0)) ?_
     refine tk 3 rfl (by kernel_rfl) q272 (pv (fun _ y278 => rldb (v := .slice av rows.length cv) rfl sc22 (r274.ext y278) rfl)) ?_
     refine tk 4 rfl (by kernel_rfl) q272 (pv (fun _ y279 => rmv (v := .int _ _) rfl)) ?_
     refine tk 6 rfl (by kernel_rfl) q272 (pv (fun _ y280 => rldb4 rfl ag48 (r273.ext y280) rfl rfl rfl rfl )) ?_
     refine tk 8 rfl (by kernel_rfl) q272 (pv (fun _ y281 => rmv (v := .pointer (some ⟨_, _, none⟩)) rfl)) ?_
     refine tk 9 rfl (by kernel_rfl) q272 (pv (fun _ y282 => rnc (v := .pointer (some ⟨_, _, none⟩)) rfl rfl)) ?_
     refine tk 10 rfl (by kernel_rfl) q272 (pv (fun _ y283 => rfa rfl fd141_0)) ?_
     refine tk 11 rfl (by kernel_rfl) q272 (pv (fun _ y284 => rldb (v := .slice av rows.length cv) rfl sc22 (r274.ext y284) rfl)) ?_
     refine tk 12 rfl (by kernel_rfl) q272 (pv (fun _ y285 => rmv (v := .int _ _) rfl)) ?_
     refine tk 13 rfl (by kernel_rfl) q272 (pv (fun _ y286 => rix sl22 sz23 rfl rfl (by omega) (by omega) (((hM6.ext z271).ext y286).isS (i := 0) (by omega) (by omega)))) ?_
     refine tk 14 rfl (by kernel_rfl) q272 (pv (fun _ y287 => rld1 (v := .slice _ _ _) rfl sc23 ((ce3.ext z271).ext y287))) ?_
     refine ef 5 (by kernel_rfl) rfl ?_
     refine xcall e27 (fFrom_ok 1 TT _ (by omega) (TT.up _)) rfl rfl ?_
     rintro _ W289 ⟨_, rfl, x290, hq288⟩
     have s291 := x290.sz
     have z292 := z271.trans x290
     replace bk264 := bk264.ext x290
     have q293 := q272.trans x290
     obtain ⟨_, _, _, _, _, _, _, _, rfl⟩ := hq288.form
     refine ⟨_, rfl, ?_⟩
     refine ⟨fun _ => q293, ?_⟩
     refine ef 7 (by kernel_rfl) rfl ?_
     refine xcall e199 (by_ok [_, _, _, _] [_, _, _, _] _ _ 1 L TT _ _ _ ((hq288).qa szOne') (hq237k.ext z292) (by omega) (by omega) (by omega) (TT.up _) hnz) rfl rfl ?_
     rintro _ W295 ⟨_, rfl, x296, hq294⟩
     have s297 := x296.sz
     have z298 := z292.trans x296
     replace bk264 := bk264.ext x296
     have q299 := q293.trans x296
     obtain ⟨_, _, _, _, _, _, _, _, rfl⟩ := hq294.form
     refine ⟨_, rfl, ?_⟩
     refine ⟨fun _ => q299, ?_⟩
     refine ef 15 (by kernel_rfl) rfl ?_
     refine xcall e26 (vScale_ok [_, _, _, _] _ _ _ _ L L _ (SO (XS B bw (Value.slice ap piv.length cp)) (Value.slice av rows.length cv)) _ _ _ (hga3.ext z298) ((hq294).qa (sz_inv (hsz1.at hl1 _ _) hl1)) (by omega) (by omega) (by omega) (by omega) ((hS6.ext z298)).up) rfl rfl ?_
     rintro _ W300 ⟨_, _, _, rfl, x301, hsc⟩
     have s302 := x301.sz
     have z303 := z298.trans x301
     replace bk264 := bk264.ext x301
     have q304 := q299.trans x301
     have hsc2 : GC _ _ _ _ _ (sclR (1 / mat rows1 piv.length k) (rowat rows1 piv.length)) := hsc.cast (by unfold sclR; rw [show (rowat rows1 piv.length).length = rk3 from hgl3]; rfl)
     refine ⟨_, rfl, ?_⟩
     refine ⟨fun _ => q304, ?_⟩
     refine tk 16 rfl (by kernel_rfl) q304 (pv (fun _ y305 => rix sl22 sz23 rfl rfl (by omega) (by omega) (((hM6.ext z271).ext y305).isS (i := 0) (by omega) (by omega)))) ?_
     refine ef 17 (by kernel_rfl) rfl ?_
     refine xstW (hS6.ext z303) rfl rfl rfl sz23 (by omega) (by omega) hsc2 ?_
     intro W7 hS7' kd7
     have bk307 := bk264.kd kd7 (((hS6.ext z303)).nb bk264 (by decide) (by decide) (by omega))
     have hk306 : KD (fun b => KQ bw (Value.slice av rows.length cv) (Value.slice ap piv.length cp) b ∧ ¬ xd b) w W7 := (hk263.trans (Ext.kd z303)).trans (kd7.mono fun _ h => h.1)
     have zz308 := Ext.refl W7; have sk309 := hk306.size
     obtain ⟨rows2, er2⟩ : ∃ r, r = divR rows1 piv.length k := ⟨_, rfl⟩
     obtain ⟨δ2, ed2⟩ : ∃ x, x = δ1 * mat rows1 piv.length k := ⟨_, rfl⟩
     have hl2r : rows2.length = rows.length := by rw [er2, divR_len, hl1r]
     have hS7 : WS B bw (.func (.func fS) #[] cS.toArray) (.func (.func fD) #[] cD.toArray) xd CX (Value.slice av rows.length cv) (Value.slice ap piv.length cp) (L + L) rows2 piv δ2 W7 := by rw [er2, ed2]; exact hS7'
     have bx310 := (hS7).x
     have hrE : ∀ i, rect N (elimS rows2 piv.length k i) := fun i => by rw [er2]; exact (hr1.div (by omega)).elim (by rw [divR_len]; omega)
     have hszE : ∀ i, szR (5 * L) (elimS rows2 piv.length k i) := fun i => by rw [er2]; exact elimS_sz hsz1 hl1 (by omega) k i
     refine lastT (by kernel_rfl) ?_
     refine dn (by kernel_rfl) ?_
     refine V.seq ?_
     refine V.seq (V.reg rfl ?_)
     refine mvp rfl ?_
     refine vv (rnc (v := .pointer (some ⟨_, _, none⟩)) rfl rfl) ?_
     refine vv (rfa rfl fd141_0) ?_
     refine vv (rldb (v := .slice av rows.length cv) rfl sc22 bx310 rfl) ?_
     refine vv (rlen sl22 rfl) ?_
     refine mvi rfl ?_
     refine vnil ?_
     refine V.block ?_
     refine V.loopK (ι := Nat) [(0, .pointer (some ⟨_, _, none⟩)), (1, .int _ _), (4, .bool false), (5, .int _ _), (112, .int _ _)] (fun j => [(113, .int .i64 (j : Int))]) (fun j W => j ≤ rows.length ∧ WS B bw (.func (.func fS) #[] cS.toArray) (.func (.func fD) #[] cD.toArray) xd CX (Value.slice av rows.length cv) (Value.slice ap piv.length cp) (L + L) (elimS rows2 piv.length k j) piv δ2 W ∧ KD (fun b => KQ bw (Value.slice av rows.length cv) (Value.slice ap piv.length cp) b ∧ ¬ xd b) w W) (fun j => rows.length - j) (0) ⟨rfl, rfl, rfl, rfl, rfl, trivial⟩ ⟨rfl, trivial⟩ ⟨Nat.zero_le _, (by rw [elimS_zero]; exact hS7), (hk306.trans (Ext.kd zz308))⟩ ?_
     intro j E312 W311 h313
     obtain ⟨hi8, hS8, hk8⟩ := h313
     have hM8 := hS8.ma rfl (hszE j); have sk8 := hk8.size; have zz8 := Ext.refl W311
     have bx314 := (hS8).x
     refine V.seq (V.reg rfl ?_)
     refine vlt rfl rfl ?_ ?_
     ·intro c315
      have hlE := elimS_len rows2 piv.length k j; have hrowE := (hrE j).row (i := ((j : Nat) : Int).toNat) (by omega)
      have hrwE : rowat (elimS rows2 piv.length k j) j = rowat rows2 j := by rw [elimS_row (by omega), if_neg (by omega)]
      have hrwD : rowat (elimS rows2 piv.length k j) piv.length = rowat rows2 piv.length := by rw [elimS_row (by omega)]; split <;> simp [elimT]
      have hlD := (hrE j).row (i := ((piv.length : Nat) : Int).toNat) (by omega)
      obtain ⟨ra4, rk4, rc4, hc4, hg4⟩ := (hS8).row rfl (i := (j : Int)) (by omega) (by omega)
      have ce4 : C1 W311 _ _ := hc4; have hga4 := hg4.va ((hszE j).row _); have hgl4 := hg4.len
      obtain ⟨ra5, rk5, rc5, hc5, hg5⟩ := (hS8).row rfl (i := (piv.length : Int)) (by omega) (by omega)
      have ce5 : C1 W311 _ _ := hc5; have hga5 := hg5.va ((hszE j).row _); have hgl5 := hg5.len
      refine vnil ?_
      refine V.seq ?_
      refine V.condT rfl ?_
      refine V.skip ?_
      refine V.seq ?_
      refine V.block ?_
      refine V.seq (V.reg rfl ?_)
      refine mvi rfl ?_
      refine asi rfl ?_
      refine vnil ?_
      refine V.seq (V.reg rfl ?_)
      refine mvp rfl ?_
      refine vv (rnc (v := .pointer (some ⟨_, _, none⟩)) rfl rfl) ?_
      refine vv (rfa rfl fd141_0) ?_
      refine vv (rldb (v := .slice av rows.length cv) rfl sc22 bx314 rfl) ?_
      refine mvi rfl ?_
      refine vv (rix sl22 sz23 rfl rfl (by omega) (by omega) (hM8.isS (i := 0) (by omega) (by omega))) ?_
      refine vv (rld1 (v := .slice _ _ _) rfl sc23 ce4) ?_
      refine mvi rfl ?_
      refine vv (rix sl23 sz48 rfl rfl (by omega) (by omega) (hga4.isS (i := 0) (by omega) (by omega))) ?_
      refine vldQ hga4 rfl ag48 (by omega) (by omega) ?_
      intro n316 a317 l318 c319 n320 a321 l322 c323 hq324
      refine vo ?_
      refine xal zc48 ?_
      intro W325 x326 b327 nn328
      have s329 := x326.sz
      have z330 := x326
      replace bx314 := bx314.ext x326
      refine vo ?_
      refine sta (cs' := [_, _, _, _]) b327 rfl rfl sz48 rfl rfl rfl ?_
      intro W331 y332 b327
      have z333 := z330.below (y332.below (by omega))
      replace bx314 := bx314.wr y332 (by omega)
      have s334 := y332.size
      refine vnil ?_
      refine V.seq (V.reg rfl ?_)
      refine mvi rfl ?_
      refine mvi rfl ?_
      refine vne rfl rfl ?_ ?_
      ·intro c19
       refine mvb rfl ?_
       refine vg rfl ?_
       refine vv (rldb4 rfl ag48 b327 rfl rfl rfl rfl ) ?_
       refine vg rfl ?_
       refine vo ?_
       refine xcall e66 (fSign_ok _ _ _ _ _ (hq324.ext z333) (by omega) (by omega)) rfl rfl ?_
       rintro _ W335 ⟨rfl, x336⟩
       have s337 := x336.sz
       have z338 := z333.trans x336
       replace bx314 := bx314.ext x336
       replace b327 := b327.ext x336
       refine ⟨_, rfl, ?_⟩
       refine vg rfl ?_
       refine vne rfl rfl ?_ ?_
       ·intro c19b
        refine vv (rpk (v := .bool true) rfl rfl) ?_
        refine vnil ?_
        refine V.condT rfl ?_
        refine V.regD mixed rfl ?_
        intro W339 x340
        have s341 := x340.sz
        have z342 := z338.trans x340
        replace bx314 := bx314.ext x340
        replace b327 := b327.ext x340
        have q343 := Ext.refl W339
        have r344 := bx314
        have r345 := b327
        refine tk 0 rfl (by kernel_rfl) q343 (pv (fun _ y346 => rmv (v := .pointer (some ⟨_, _, none⟩)) rfl)) ?_
        refine tk 1 rfl (by kernel_rfl) q343 (pv (fun _ y347 => rnc (v := .pointer (some ⟨_, _, none⟩)) rfl rfl)) ?_
        refine tk 2 rfl (by kernel_rfl) q343 (pv (fun _ y348 => rfa rfl fd141_0)) ?_
        refine tk 3 rfl (by kernel_rfl) q343 (pv (fun _ y349 => rldb (v := .slice av rows.length cv) rfl sc22 (r344.ext y349) rfl)) ?_
        refine tk 4 rfl (by kernel_rfl) q343 (pv (fun _ y350 => rmv (v := .int _ _) rfl)) ?_
        refine tk 5 rfl (by kernel_rfl) q343 (pv (fun _ y351 => rldb4 rfl ag48 (r345.ext y351) rfl rfl rfl rfl )) ?_
        refine tk 7 rfl (by kernel_rfl) q343 (pv (fun _ y352 => rmv (v := .pointer (some ⟨_, _, none⟩)) rfl)) ?_
        refine tk 8 rfl (by kernel_rfl) q343 (pv (fun _ y353 => rnc (v := .pointer (some ⟨_, _, none⟩)) rfl rfl)) ?_
        refine tk 9 rfl (by kernel_rfl) q343 (pv (fun _ y354 => rfa rfl fd141_0)) ?_
        refine tk 10 rfl (by kernel_rfl) q343 (pv (fun _ y355 => rldb (v := .slice av rows.length cv) rfl sc22 (r344.ext y355) rfl)) ?_
        refine tk 11 rfl (by kernel_rfl) q343 (pv (fun _ y356 => rmv (v := .int _ _) rfl)) ?_
        refine tk 12 rfl (by kernel_rfl) q343 (pv (fun _ y357 => rix sl22 sz23 rfl rfl (by omega) (by omega) (((hM8.ext z342).ext y357).isS (i := 0) (by omega) (by omega)))) ?_
        refine tk 13 rfl (by kernel_rfl) q343 (pv (fun _ y358 => rld1 (v := .slice _ _ _) rfl sc23 ((ce5.ext z342).ext y358))) ?_
        refine tk 14 rfl (by kernel_rfl) q343 (pv (fun _ y359 => rmv (v := .pointer (some ⟨_, _, none⟩)) rfl)) ?_
        refine tk 15 rfl (by kernel_rfl) q343 (pv (fun _ y360 => rnc (v := .pointer (some ⟨_, _, none⟩)) rfl rfl)) ?_
        refine tk 16 rfl (by kernel_rfl) q343 (pv (fun _ y361 => rfa rfl fd141_0)) ?_
        refine tk 17 rfl (by kernel_rfl) q343 (pv (fun _ y362 => rldb (v := .slice av rows.length cv) rfl sc22 (r344.ext y362) rfl)) ?_
        refine tk 18 rfl (by kernel_rfl) q343 (pv (fun _ y363 => rmv (v := .int _ _) rfl)) ?_
        refine tk 19 rfl (by kernel_rfl) q343 (pv (fun _ y364 => rix sl22 sz23 rfl rfl (by omega) (by omega) (((hM8.ext z342).ext y364).isS (i := 0) (by omega) (by omega)))) ?_
        refine tk 20 rfl (by kernel_rfl) q343 (pv (fun _ y365 => rld1 (v := .slice _ _ _) rfl sc23 ((ce4.ext z342).ext y365))) ?_
        refine ef 6 (by kernel_rfl) rfl ?_
        refine xcall e72 (fNeg_ok _ _ _ _ _ _ (hq324.ext z342) (by omega) (by omega) (TT.up _)) rfl rfl ?_
        rintro _ W367 ⟨_, rfl, x368, hq366⟩
        have s369 := x368.sz
        have z370 := z342.trans x368
        replace b327 := b327.ext x368
        have q371 := q343.trans x368
        obtain ⟨_, _, _, _, _, _, _, _, rfl⟩ := hq366.form
        refine ⟨_, rfl, ?_⟩
        refine ⟨fun _ => q371, ?_⟩
        refine ef 21 (by kernel_rfl) rfl ?_
        refine xcall e68 (vScl_ok [_, _, _, _] _ (5 * L) TT _ _ _ _ _ _ (5 * L) (5 * L) _ _ (SO (XS B bw (Value.slice ap piv.length cp)) (Value.slice av rows.length cv)) _ _ _ (hga5.ext z370) (hga4.ext z370) ((hq366).qa (sz_neg ((hszE j).at (by omega) _ _))) (by omega) (by omega) (by omega) (by omega) (by omega) (by omega) ((hS8.ext z370)).up) rfl rfl ?_
        rintro _ W372 ⟨_, _, _, rfl, x373, hax⟩
        have s374 := x373.sz
        have z375 := z370.trans x373
        replace b327 := b327.ext x373
        have q376 := q371.trans x373
        have hax2 : GC _ _ _ _ _ (elimT rows2 piv.length k j) := hax.cast (by rw [elimT, if_neg (by rintro (h | h); omega; exact c19b (cq_eq.2 (show mat (elimS rows2 piv.length k j) j k = 0 by rw [mat, hrwE]; exact h))), axR, ← hrwE, ← hrwD, mat, ← hrwE, show (rowat (elimS rows2 piv.length k j) piv.length).length = rk5 from hgl5, show (rowat (elimS rows2 piv.length k j) j).length = rk4 from hgl4]; rfl)
        have hgax := hax2.len
        refine ⟨_, rfl, ?_⟩
        refine ⟨fun _ => q376, ?_⟩
        refine tk 22 rfl (by kernel_rfl) q376 (pv (fun _ y377 => rix sl22 sz23 rfl rfl (by omega) (by omega) (((hM8.ext z342).ext y377).isS (i := 0) (by omega) (by omega)))) ?_
        refine ef 23 (by kernel_rfl) rfl ?_
        refine xstW (hS8.ext z375) rfl rfl rfl sz23 (by omega) (by omega) hax2 ?_
        intro W9 hS9 kd9
        have bk379 := b327.kd kd9 (((hS8.ext z375)).nb b327 (by decide) (by decide) (by omega))
        have hk378 : KD (fun b => KQ bw (Value.slice av rows.length cv) (Value.slice ap piv.length cp) b ∧ ¬ xd b) w W9 := (hk8.trans (Ext.kd z375)).trans (kd9.mono fun _ h => h.1)
        have zz380 := Ext.refl W9; have sk381 := hk378.size
        have bx382 := (hS9).x
        refine lastT (by kernel_rfl) ?_
        refine dn (by kernel_rfl) ?_
        refine V.reg rfl ?_
        refine vv (rbin (bAdd (wi (by omega))) rfl rfl) ?_
        refine mvi rfl ?_
        refine vnil ?_
        refine ⟨rfl, j + 1, ⟨rfl, rfl, rfl, rfl, rfl, trivial⟩, ⟨rfl, trivial⟩, ⟨by omega, (by rw [elimS_succ (by omega)]; exact hS9), (hk378.trans (Ext.kd zz380))⟩, ?_⟩
        show rows.length - (j + 1) < rows.length - j
        omega
       ·intro c19b
        refine vv (rpk (v := .bool false) rfl rfl) ?_
        refine vnil ?_
        refine V.condF rfl ?_
        refine V.skip ?_
        refine V.reg rfl ?_
        refine vv (rbin (bAdd (wi (by omega))) rfl rfl) ?_
        refine mvi rfl ?_
        refine vnil ?_
        refine ⟨rfl, j + 1, ⟨rfl, rfl, rfl, rfl, rfl, trivial⟩, ⟨rfl, trivial⟩, ⟨by omega, (by rw [elimS_keep (by omega) (.inr (by rw [mat, ← hrwE]; exact cq_eq.1 c19b))]; exact (hS8.ext z338)), (hk8.trans (Ext.kd z338))⟩, ?_⟩
        show rows.length - (j + 1) < rows.length - j
        omega
      ·intro c19
       refine mvb rfl ?_
       refine vgn (b := false) rfl rfl ?_
       refine vgn (b := false) rfl rfl ?_
       refine vgn (b := false) rfl rfl ?_
       refine vv (rpk (v := .bool false) rfl rfl) ?_
       refine vnil ?_
       refine V.condF rfl ?_
       refine V.skip ?_
       refine V.reg rfl ?_
       refine vv (rbin (bAdd (wi (by omega))) rfl rfl) ?_
       refine mvi rfl ?_
       refine vnil ?_
       refine ⟨rfl, j + 1, ⟨rfl, rfl, rfl, rfl, rfl, trivial⟩, ⟨rfl, trivial⟩, ⟨by omega, (by rw [elimS_keep (by omega) (.inl (by omega))]; exact (hS8.ext z333)), (hk8.trans (Ext.kd z333))⟩, ?_⟩
       show rows.length - (j + 1) < rows.length - j
       omega
     ·intro c315
      refine vnil ?_
      refine V.seq ?_
      refine V.condF rfl ?_
      refine V.exit ?_
      refine V.seq (V.reg rfl ?_)
      refine mvp rfl ?_
      refine mvp rfl ?_
      refine vv (rnc (v := .pointer (some ⟨_, _, none⟩)) rfl rfl) ?_
      refine vv (rfa rfl fd141_1) ?_
      refine vv (rldb (v := .slice ap piv.length cp) rfl sc73 bx314 rfl) ?_
      refine mvi rfl ?_
      refine vo ?_
      refine xbs (ps := [(0, .int _ _)]) (cs := [.int _ _]) sl73 zr3 sz3 rfl rfl rfl rfl rfl rfl ?_
      intro W383 x384 b385 nn386
      have s387 := x384.sz
      have z388 := x384
      refine vo ?_
      have hSa := (hS8.ext z388)
      refine xapp sl73 in3 hSa.p rfl rfl b385 (by simp only [kb]; omega) (by omega) (by decide) (by omega) ?_
      intro va Wa hO hg ho
      obtain ⟨ap2, cp2, rfl⟩ := hO.form
      have hxa := hSa.x.ck (S := fun q => (Value.slice ap piv.length cp).ownBlock ≠ some q) (grown_ck hg fun b e h => h e) hSa.pb
      have hos := (KB.grown hSa.p hg (Nat.zero_le _) (Nat.zero_le _)).below
      refine vv (rnc (v := .pointer (some ⟨_, _, none⟩)) rfl rfl) ?_
      refine vv (rfa rfl fd141_1) ?_
      refine vo ?_
      refine st1 (v := .slice _ _ _) (cs' := [_, _, _, _]) hxa rfl rfl sz73 rfl rfl rfl rfl ?_
      intro Wb yb hxb
      obtain ⟨hSb, kdb⟩ := hSa.push hO hg ho hos yb hxb
      have hkb : KD (fun b => KQ bw (Value.slice av rows.length cv) (Value.slice ap piv.length cp) b ∧ ¬ xd b) w Wb := (hk8.trans (Ext.kd z388)).trans (kdb.mono fun _ h => h.1); have sza := (z388).sz
      refine vnil ?_
      refine V.seq (V.reg rfl ?_)
      refine asb rfl ?_
      refine vnil ?_
      refine V.ret ?_
      refine ⟨[.bool true], ⟨rfl, trivial⟩, ?_⟩
      refine ⟨true, .slice ap2 (piv ++ [(k : Int)]).length cp2, rfl, hkb, ?_, fun b hb => ?_⟩
      ·rw [colS_of hP hid, ← er1, ← ed1, ← ed2]
       have e : colR rows piv.length k i = elimS rows2 piv.length k rows.length := by rw [er2, er1]; rfl
       rw [e, show elimS rows2 piv.length k rows.length = elimS rows2 piv.length k j by rw [show j = rows.length by omega]]
       exact hSb.sz (by omega)
      ·rcases ho with h' | h'
       ·exact .inl (h' ▸ hb)
       ·rw [h'] at hb; injection hb with hb; exact .inr (by omega)
  ·intro c5
   refine vnil ?_
   refine V.condF rfl ?_
   refine V.skip ?_
   refine V.reg rfl ?_
   refine mvi rfl ?_
   refine vv (rbin (bAdd (wi (by omega))) rfl rfl) ?_
   refine asi rfl ?_
   refine vnil ?_
   refine ⟨rfl, i + 1, ⟨rfl, rfl, rfl, rfl, trivial⟩, ⟨rfl, rfl, trivial⟩, ⟨z24, by omega, by omega, fun j h1 h2 => (by rcases Nat.lt_succ_iff_lt_or_eq.1 h2 with h | rfl; exact hz j h1 h; exact cq_eq.1 c5)⟩, ?_⟩
   show rows.length - (i + 1) < rows.length - i
   omega
 ·intro c7
  refine vnil ?_
  refine V.condF rfl ?_
  refine V.exit ?_
  refine V.seq ?_
  refine V.seq (V.reg rfl ?_)
  refine mvi rfl ?_
  refine vlt rfl rfl ?_ ?_
  ·intro c389
   refine vnil ?_
   refine V.condT rfl ?_
   refine V.seq (V.reg rfl ?_)
   refine asb rfl ?_
   refine vnil ?_
   refine V.ret ?_
   refine ⟨[.bool false], ⟨rfl, trivial⟩, ?_⟩
   refine ⟨false, .slice ap piv.length cp, rfl, (Ext.kd z6), ?_, fun b hb => .inl hb⟩
   rw [colS_no ⟨hp, Nat.le_refl _, fun j h1 h2 => hz j h1 (by omega), fun h => by omega⟩]
   exact ((hS.ext z6)).sz (by omega)
  ·intro c389
   omega
end Go.Proofs.YtknbjfefeeojlaaGreat
/- Package solve: all columns, the places of the pivots, Reduce and Rank. -/
namespace Go.Proofs.YtknbjfefeeojlaaGreat
open Go.RowKit
attribute [local irreducible] RV VH V OpF Calls
theorem CL.noop : CL (fun _ => False) (.func (.func 167) #[] #[]) (.func (.func 168) #[] #[]) (fun _ _ _ _ => True) where
  ck := fun _ _ _ _ => trivial
  sub := fun _ _ => trivial
  mono := fun _ _ => trivial
  sw := ⟨_, [], rfl, e167, fun L S W δ _ _ _ => (begin1_ok W).mono fun _ _ ⟨h1, h2⟩ => ⟨h1, by subst h2; exact KD.refl _ _, trivial⟩⟩
  dv := ⟨_, [], rfl, e168, fun L M S W δ q r _ _ hq _ _ => (begin2_ok q r M _ W hq).mono fun _ _ ⟨h1, h2⟩ => ⟨h1, h2.kd, trivial⟩⟩
/-- What begin lays. -/
theorem WS.begin {W w : World} {bw : Nat} {v : Value} {rows : List (List Rat)} (h : BoxAt W bw [v, .slice none 0 0, .func (.func 167) #[] #[], .func (.func 168) #[] #[]] 141) (hG : GO 1 (RowOf GC) (XS w.heap.size bw (.slice none 0 0)) w.heap.size W 23 v rows) (hb : w.heap.size ≤ bw) (L : Nat) :
    WS w.heap.size bw (.func (.func 167) #[] #[]) (.func (.func 168) #[] #[]) (fun _ => False) (fun _ _ _ _ => True) v (.slice none 0 0) L rows [] 1 W :=
  ⟨CL.noop, h, hG, OI.nil _ _ _ _, trivial, hb, fun _ h => h.elim⟩
theorem redS_S (rows : List (List Rat)) (n : Nat) : redS rows (n + 1) = colS ((redS rows n).1, (redS rows n).2.1, (redS rows n).2.2) n := rfl
theorem WS.fin {B bw L n c n' c' : Nat} {fs fd : Value} {xd : Nat → Prop} {CX : Nat → (Nat → Prop) → World → Rat → Prop} {rows : List (List Rat)} {piv : List Int} {δ : Rat} {W : World} {a a' : Option Addr} {S : Nat → Prop} (h : WS B bw fs fd xd CX (.slice a n c) (.slice a' n' c') L rows piv δ W) (hS : ∀ b, B ≤ b → b < W.heap.size → S b) : MC S W a n c rows ∧ RN .i64 S W a' n' c' piv := by
  refine ⟨?_, h.p.rn hS⟩
  obtain ⟨qs, h1, h2⟩ := h.g
  exact ⟨qs, h1.rs hS, h2.imp fun _ _ hq => okRowC.sub hq fun b hb hs => hS b hs.1.1 hb⟩

set_option maxHeartbeats 400000 in
theorem all5_ok (B bw : Nat) (fs fd : Value) (xd : Nat → Prop) (CX : Nat → (Nat → Prop) → World → Rat → Prop) (v : Value) (L N n : Nat) (rows : List (List Rat)) (w : World) (hK0 : WS B bw fs fd xd CX v (.slice none 0 0) L rows [] 1 w) (hr : rect N rows) (hsz : szR L rows) (hnN : n ≤ N) (hl1 : 1 ≤ L) (hL : 15 * (L * 5 ^ n) + 2 < LY) (hn : rows.length ≤ 1024) (hN : N ≤ 1024) :
    Calls Tryz.prog 125 #[.pointer (some ⟨bw, 0, none⟩), .int .i64 (n : Int)] w (fun e w' => ∃ pv', e = .returned (.pointer (some ⟨bw, 0, none⟩)) ∧ KD (fun b => b < w.heap.size ∧ b ≠ bw ∧ v.ownBlock ≠ some b ∧ ¬ xd b) w w' ∧ WS B bw fs fd xd CX v pv' (L * 5 ^ n) (redS rows n).1 (redS rows n).2.1 (redS rows n).2.2 w' ∧ ∀ b, pv'.ownBlock = some b → w.heap.size ≤ b) := by
 have z0 := Ext.refl w; have hLX : LX = 17592186044416 := rfl; have hLY : LY = 8796093022208 := rfl
 have hLV : LV = 1099511627776 := rfl
 refine enter (args := [.pointer (some ⟨bw, 0, none⟩), .int .i64 (n : Int)]) Tryz.func125 rfl rfl (Nat.le_of_ble_eq_true rfl) ?_
 refine V.seq (V.reg rfl ?_)
 refine asp rfl ?_
 refine vnil ?_
 refine V.seq ?_
 refine V.seq (V.reg rfl ?_)
 refine mvi rfl ?_
 refine mvi rfl ?_
 refine vnil ?_
 refine V.block ?_
 refine V.loopK (ι := Nat) [(0, .pointer (some ⟨bw, 0, none⟩)), (4, .pointer _), (6, .int _ _)] (fun k => [(7, .int .i64 (k : Int))]) (fun k W => ∃ pv, k ≤ n ∧ KD (fun b => b < w.heap.size ∧ b ≠ bw ∧ v.ownBlock ≠ some b ∧ ¬ xd b) w W ∧ WS B bw fs fd xd CX v pv (L * 5 ^ k) (redS rows k).1 (redS rows k).2.1 (redS rows k).2.2 W ∧ ∀ b, pv.ownBlock = some b → w.heap.size ≤ b) (fun k => n - k) (0) ⟨rfl, rfl, rfl, trivial⟩ ⟨rfl, trivial⟩ ⟨_, Nat.zero_le _, (Ext.kd (Ext.refl w)), (hK0).sz (by simp), fun b hb => (by simp [Value.ownBlock] at hb)⟩ ?_
 intro k E2 W1 h3
 obtain ⟨pv, hk, hkd, hK, hpv⟩ := h3
 have zz1 := Ext.refl W1; have szk := hkd.size
 refine V.seq (V.reg rfl ?_)
 refine vlt rfl rfl ?_ ?_
 ·intro c4
  refine vnil ?_
  refine V.seq ?_
  refine V.condT rfl ?_
  refine V.skip ?_
  refine V.seq ?_
  refine V.block ?_
  refine V.seq (V.reg rfl ?_)
  refine mvi rfl ?_
  refine asi rfl ?_
  refine vnil ?_
  refine V.reg rfl ?_
  refine vv (rmv (v := .pointer (some ⟨bw, 0, none⟩)) rfl) ?_
  refine mvi rfl ?_
  refine vo ?_
  have ha := redS_all hr hsz hl1 k
  have h5k : L * 5 ^ k ≤ L * 5 ^ n := Nat.mul_le_mul_left _ (Nat.pow_le_pow_right (by omega) (by omega))
  have h5p : 1 ≤ L * 5 ^ k := Nat.mul_pos hl1 (Nat.pow_pos (by omega))
  refine xcall e169 (column_ok B bw fs fd xd CX v pv (L * 5 ^ k) N k (redS rows k).1 (redS rows k).2.1 (redS rows k).2.2 _ hK ha.2.2.1 ha.2.2.2 (by omega) h5p (by omega) (by rw [ha.1]; exact ha.2.1) (by rw [ha.1]; exact hn) hN) rfl rfl ?_
  rintro _ W2 ⟨q, pv2, rfl, kd2, hK2, hp2⟩
  refine ⟨_, rfl, ?_⟩
  have hkd2 : KD (fun b => b < w.heap.size ∧ b ≠ bw ∧ v.ownBlock ≠ some b ∧ ¬ xd b) w W2 := (hkd.trans (Ext.kd zz1)).trans (kd2.mono fun b h => ⟨⟨h.2.1, h.2.2.1, fun e => by have := hpv b e; omega⟩, h.2.2.2⟩)
  have sz2 := (zz1).sz
  have zz2 := Ext.refl W2
  refine vnil ?_
  refine V.reg rfl ?_
  refine vv (rbin (bAdd (wi (by omega))) rfl rfl) ?_
  refine mvi rfl ?_
  refine vnil ?_
  refine ⟨rfl, k + 1, ⟨rfl, rfl, rfl, trivial⟩, ⟨rfl, trivial⟩, ⟨pv2, by omega, (hkd2.trans (Ext.kd zz2)), (by rw [redS_S, Nat.pow_succ, ← Nat.mul_assoc, Nat.mul_comm (L * 5 ^ k)]; exact hK2), fun b hb => (by rcases hp2 b hb with h | h; exact hpv b h; omega)⟩, ?_⟩
  show n - (k + 1) < n - k
  omega
 ·intro c4
  refine vnil ?_
  refine V.seq ?_
  refine V.condF rfl ?_
  refine V.exit ?_
  refine V.seq (V.reg rfl ?_)
  refine vv (rmv (v := .pointer (some ⟨bw, 0, none⟩)) rfl) ?_
  refine vv (ras (v := .pointer (some ⟨bw, 0, none⟩)) rfl) ?_
  refine vnil ?_
  refine V.ret ?_
  refine ⟨[.pointer (some ⟨bw, 0, none⟩)], ⟨rfl, trivial⟩, ?_⟩
  obtain rfl : k = n := by omega
  exact ⟨pv, rfl, hkd.trans (Ext.kd zz1), hK, hpv⟩
set_option maxHeartbeats 400000 in
theorem places_iter {D : Nat → Prop} {w : World} {fs fd v : Value} {ap : Option Addr} {np cp b1 bw : Nat} {piv : List Int} (hb1 : BoxAt w b1 [.pointer (some ⟨bw, 0, none⟩)] 132) (hbw : BoxAt w bw [v, .slice ap np cp, fs, fd] 141) (hp : RN .i64 D w ap np cp piv) (h1 : D b1) (h2 : D bw) :
    Iter Tryz.prog 170 #[.pointer (some ⟨b1, 0, none⟩)] (fun i => .int .i64 (i : Int)) (fun i => .int .i64 (wd piv i)) D piv.length w := by
 have z0 := Ext.refl w; have hLX : LX = 17592186044416 := rfl; have hLY : LY = 8796093022208 := rfl
 intro l J Jx X hX hJs hJxs hY hJ0
 have hp0 := hp.ext hX; have b10 := hb1.ext hX; have bw0 := hbw.ext hX
 have l1 := hp.len; have q1 := hp.cap; have q3 := hp.max
 refine enter (args := [.func (.yield l) #[] #[], .pointer (some ⟨b1, 0, none⟩)]) Tryz.func170 rfl rfl (Nat.le_of_ble_eq_true rfl) ?_
 refine V.seq (V.reg rfl ?_)
 refine vv (rldb (v := .pointer (some ⟨_, _, none⟩)) rfl sc132 b10 rfl) ?_
 refine vv (rnc (v := .pointer (some ⟨_, _, none⟩)) rfl rfl) ?_
 refine vv (rfa rfl fd141_1) ?_
 refine vv (rldb (v := .slice _ _ _) rfl sc73 bw0 rfl) ?_
 refine vv (rlen sl73 rfl) ?_
 refine mvi rfl ?_
 refine vnil ?_
 refine V.block ?_
 refine V.loopK (ι := Nat) [(0, .func _ _ _), (8, .slice _ _ _), (9, .int _ _)] (fun i => [(10, .int .i64 (i : Int))]) (fun i W => J i W ∧ KD D w W ∧ i ≤ piv.length) (fun i => piv.length - i) (0) ⟨rfl, rfl, rfl, trivial⟩ ⟨rfl, trivial⟩ ⟨hJ0, hX.kd, Nat.zero_le _⟩ ?_
 intro i E2 W1 h3
 obtain ⟨hJ, hkd, hk⟩ := h3
 have hp1 := hp.kd hkd
 have hYk : ∀ y, y = wd piv i → i < piv.length → YieldAt Fence.wide 0 Tryz.prog l #[.int .i64 (i : Int), .int .i64 y] W1 (fun e B => (e = .returned (.bool true) ∧ J (i + 1) B ∧ KD D W1 B) ∨ (e = .returned (.bool false) ∧ Jx i B ∧ KD D W1 B)) := by intro y ey hlt; subst ey; exact hY i _ hJ hlt hkd
 refine V.seq (V.reg rfl ?_)
 refine vlt rfl rfl ?_ ?_
 ·intro c4
  refine vnil ?_
  refine V.seq ?_
  refine V.condT rfl ?_
  refine V.skip ?_
  refine V.seq ?_
  refine V.block ?_
  refine V.seq (V.reg rfl ?_)
  refine mvi rfl ?_
  refine vv (rixn hp1 sl73 sz3 rfl rfl (by omega) (by omega)) ?_
  refine vldN hp1 rfl sc3 (by omega) (by omega) ?_
  intro q5 hq5 hk6
  simp only [kb] at hk6
  refine asi rfl ?_
  refine asi rfl ?_
  refine vnil ?_
  refine V.seq (V.reg rfl ?_)
  refine mvf rfl ?_
  refine mvi rfl ?_
  refine mvi rfl ?_
  refine vo ?_
  refine xyield (vs := [.int _ _, .int _ _]) rfl rfl (hYk _ hq5 (by omega)) ?_
  rintro _ W' (⟨rfl, hJ', hkd'⟩ | ⟨rfl, hJx, hkd'⟩) <;> refine ⟨_, rfl, ?_⟩
  ·skip
   refine vv (rnot (q := false) rfl rfl) ?_
   refine vnil ?_
   refine V.condF rfl ?_
   refine V.skip ?_
   refine V.reg rfl ?_
   refine vv (rbin (bAdd (wi (by omega))) rfl rfl) ?_
   refine mvi rfl ?_
   refine vnil ?_
   refine ⟨rfl, i + 1, ⟨rfl, rfl, rfl, trivial⟩, ⟨rfl, trivial⟩, ⟨hJ', hkd.trans hkd', by omega⟩, ?_⟩
   show piv.length - (i + 1) < piv.length - i
   omega
  ·skip
   refine vv (rnot (q := true) rfl rfl) ?_
   refine vnil ?_
   refine V.condT rfl ?_
   refine V.ret ?_
   refine ⟨[], trivial, ?_⟩
   exact ⟨⟨_, rfl⟩, .inr ⟨i, by omega, hJx⟩⟩
 ·intro c4
  refine vnil ?_
  refine V.seq ?_
  refine V.condF rfl ?_
  refine V.exit ?_
  refine ⟨[], trivial, ?_⟩
  exact ⟨⟨_, rfl⟩, .inl (by rw [show piv.length = i by omega]; exact hJ)⟩
set_option maxHeartbeats 400000 in
theorem places_ok (bw : Nat) (w : World) :
    Calls Tryz.prog 126 #[.pointer (some ⟨bw, 0, none⟩)] w (fun e w' => ∃ b1, b1 = w.heap.size ∧ e = .returned (.func (.func 170) #[] #[.pointer (some ⟨b1, 0, none⟩)]) ∧ Ext w w' ∧ BoxAt w' b1 [.pointer (some ⟨bw, 0, none⟩)] 132) := by
 have z0 := Ext.refl w; have hLX : LX = 17592186044416 := rfl; have hLY : LY = 8796093022208 := rfl
 refine enter (args := [.pointer (some ⟨bw, 0, none⟩)]) Tryz.func126 rfl rfl (Nat.le_of_ble_eq_true rfl) ?_
 refine V.seq (V.reg rfl ?_)
 refine vo ?_
 refine bxp rfl ?_
 intro W1 x2 b3 nn4
 have s5 := x2.sz
 have z6 := x2
 refine asn rfl ?_
 refine vnil ?_
 refine V.seq (V.reg rfl ?_)
 refine vv (rmk1 (v := .pointer (some ⟨_, _, none⟩)) rfl) ?_
 refine asf rfl ?_
 refine vnil ?_
 refine V.ret ?_
 refine ⟨[.func _ _ _], ⟨rfl, trivial⟩, ?_⟩
 exact ⟨_, rfl, rfl, z6, b3⟩
end Go.Proofs.YtknbjfefeeojlaaGreat
/- Package mat: Equal. -/
namespace Go.Proofs.YtknbjfefeeojlaaGreat
open Go.RowKit
attribute [local irreducible] RV VH V OpF Calls
structure EJ (w : World) (b4 b1 b2 : Nat) (v1 v2 : Value) (s : Bool) (X : World) : Prop where
  ext : Ext w X
  x4 : BoxAt X b4 [.bool s] 4
  x1 : BoxAt X b1 [v1] 22
  x2 : BoxAt X b2 [v2] 22
theorem EJ.tn {w X Y : World} {B b4 b1 b2 : Nat} {v1 v2 : Value} {s : Bool} (h : EJ w b4 b1 b2 v1 v2 s X) (t : Tn B X Y) (hB : w.heap.size ≤ B) : EJ w b4 b1 b2 v1 v2 s Y := ⟨t.ext h.ext hB, h.x4.tn t, h.x1.tn t, h.x2.tn t⟩
theorem EJ.xt {w X Y : World} {b4 b1 b2 : Nat} {v1 v2 : Value} {s : Bool} (h : EJ w b4 b1 b2 v1 v2 s X) (x : Ext X Y) : EJ w b4 b1 b2 v1 v2 s Y := ⟨h.ext.trans x, h.x4.ext x, h.x1.ext x, h.x2.ext x⟩

end Go.Proofs.YtknbjfefeeojlaaGreat
/- Parts of slices; sizes of products; the equalities that hold. -/
namespace Go.Proofs.YtknbjfefeeojlaaGreat
open Go.RowKit
attribute [local irreducible] RV VH V OpF Calls
theorem GA.cut {L : Nat} {S : Nat → Prop} {W : World} {a : Option Addr} {n c l m : Nat} {rs : List Rat} (h : GA L S W a n c rs) (h0 : l ≤ m) (hm : m ≤ n) : GA L S W (if c = l then a else a.map (·.add (l * 4))) (m - l) (c - l) ((rs.take m).drop l) := by
  obtain ⟨qs, h1, h2⟩ := h; exact ⟨_, h1.cut h0 hm, (h2.take m).drop l⟩
theorem GC.cut {S : Nat → Prop} {W : World} {a : Option Addr} {n c l m : Nat} {rs : List Rat} (h : GC S W a n c rs) (h0 : l ≤ m) (hm : m ≤ n) : GC S W (if c = l then a else a.map (·.add (l * 4))) (m - l) (c - l) ((rs.take m).drop l) := by
  obtain ⟨qs, h1, h2⟩ := h; exact ⟨_, h1.cut h0 hm, (h2.take m).drop l⟩
section
variable {P : Program} {ρ : Operand → Value} {W : World} {d : Option Tmp} {ty T e : TypeId} {pos : String} {af : Array Edge} {g : Option (Nat × Bool)} {x y u : Operand}
/-- x[:m] -/
theorem rsl1 {k' : IntKind} {a : Option Addr} {n c s m : Nat} {z : Int} (hS : Sl P T e) (hs : Sz P e s) (hx : ρ x = .slice a n c) (hy : ρ y = .int k' z) (hz : z = (m : Int)) (hm : m ≤ c) :
    (execOp ρ ⟨d, .slice T x none (some y) none, ty, pos, af, g⟩).run P W = .ok (.value (.slice a m c)) W := by
  subst hz
  refine rslg hS hs hx (l := 0) (h := m) ?_ ?_ rfl rfl
  · simp only [Option.map_none, Option.map_some, hy]; exact sb_h hm
  · rw [Nat.zero_mul]
    split
    · rfl
    · cases a <;> simp [add0]
/-- x[l:] -/
theorem rsl0 {k' : IntKind} {a : Option Addr} {n c s l : Nat} {zl : Int} (hS : Sl P T e) (hs : Sz P e s) (hx : ρ x = .slice a n c) (hu : ρ u = .int k' zl) (hl : zl = (l : Int)) (hm : l ≤ n) :
    (execOp ρ ⟨d, .slice T x (some u) none none, ty, pos, af, g⟩).run P W = .ok (.value (.slice (if c = l then a else a.map (·.add (l * s))) (n - l) (c - l))) W := by
  subst hl
  refine rslg hS hs hx (l := l) (h := n) ?_ rfl rfl rfl
  simp only [Option.map_some, Option.map_none, hu]; exact sb_l hm
end
theorem GO.old {ρt : Type} {El : (Nat → Prop) → World → List Value → ρt → Prop} {S : Nat → Prop} {s B : Nat} {W : World} {e : TypeId} {v : Value} {rs : List ρt} (h : GO s El S B W e v rs) : ∀ b, b < B → v.ownBlock ≠ some b := fun b hb e => by
  obtain ⟨qs, h1, _⟩ := h
  have := (h1.low b e).1; omega
theorem MX.ma {L : Nat} {S : Nat → Prop} {W : World} {a : Option Addr} {n c : Nat} {ρss : List (List RawQ)} (h : MX S W a n c ρss) (hs : ∀ r ∈ ρss, ∀ ρ ∈ r, szQ L ρ) : MA L S W a n c (ρss.map (·.map qval)) := by
  obtain ⟨qs, h1, h2⟩ := h
  refine ⟨qs, h1, ?_⟩
  clear h1
  induction qs generalizing ρss with
  | nil => cases ρss <;> simp_all [All2]
  | cons q qs ih => cases ρss with
    | nil => exact h2.elim
    | cons r rs => obtain ⟨a, n, c, e, h3⟩ := h2.1; exact ⟨⟨a, n, c, e, h3.va (hs r (by simp))⟩, ih (fun x hx => hs x (by simp [hx])) h2.2⟩
theorem colsN_raw (ρss : List (List RawQ)) : colsN (ρss.map (·.map qval)) = colsG ρss := colsG_map qval ρss
theorem len_mulm (a b : List (List Rat)) : (mulm a b).length = a.length := by simp [mulm]
theorem mulm_sz {a b L : Nat} {rss mss : List (List Rat)} (h1 : ∀ r ∈ rss, szV a r) (h2 : ∀ i, szV b (rowat mss i)) (ha : 1 ≤ a) (hb : 1 ≤ b) (hL : (a + b + 1) * mss.length + 1 ≤ L) : ∀ r ∈ mulm rss mss, szV L r := by
  intro r hr
  obtain ⟨y, hy, rfl⟩ := List.mem_map.1 hr
  exact fun q hq => (vmk_sz (h1 y hy) h2 ha hb mss.length q hq).mono hL
theorem gridm_sz {L : Nat} {f : Int → Int → Rat} {R C : Nat} (h : ∀ i k : Nat, sz L (f i k)) : ∀ r ∈ gridm f R C, szV L r := by
  intro r hr q hq
  obtain ⟨i, _, rfl⟩ := List.mem_map.1 hr
  obtain ⟨k, _, rfl⟩ := List.mem_map.1 hq
  exact h i k
theorem len_gridm (f : Int → Int → Rat) (R C : Nat) : (gridm f R C).length = R := by simp [gridm]
theorem szOne : sz 1 1 := by constructor <;> decide
theorem unitv_sz (N : Nat) (k : Int) : szV 1 (unitv N k) := by
  intro r hr
  unfold unitv at hr
  split at hr
  · rcases List.mem_or_eq_of_mem_set hr with h | h
    · rw [(List.mem_replicate.1 h).2]; exact sz_zero
    · rw [h]; exact szOne
  · rw [(List.mem_replicate.1 hr).2]; exact sz_zero
theorem MA.rowsz {L : Nat} {S : Nat → Prop} {W : World} {a : Option Addr} {n c : Nat} {rss : List (List Rat)} (h : MA L S W a n c rss) (hL : 1 ≤ L) : ∀ r ∈ rss, szV L r := fun r hr => by
  obtain ⟨i, hi⟩ := List.getElem?_of_mem hr
  have := GA.rows h hL i
  unfold rowat at this
  rwa [List.getD_eq_getElem?_getD, hi] at this
section
variable {L1 L2 : Nat} {S1 S2 : Nat → Prop} {w : World} {a1 a2 : Option Addr} {n c m d : Nat} {xs ys : List Rat} {rss mss : List (List Rat)}
theorem fEq_true (w : World) {q1 q2 : List Value} {r s : Rat} (h1 : QA L1 S1 w q1 r) (h2 : QA L2 S2 w q2 s) (hL : L1 + L2 < LY) (hl1 : 1 ≤ L1) (hl2 : 1 ≤ L2) (e : r = s) : Calls Tryz.prog 67 #[.agg q1.toArray, .agg q2.toArray] w fun e w' => e = .returned (.bool true) ∧ Ext w w' := by
  refine (fEqual_ok _ _ _ _ _ _ _ _ _ h1 h2 hL hl1 hl2).mono ?_
  rintro _ _ ⟨h1, h2⟩
  exact ⟨by rw [h1, decide_eq_true e], h2⟩
end
end Go.Proofs.YtknbjfefeeojlaaGreat
/- Package solve: Reduce and Rank. -/
namespace Go.Proofs.YtknbjfefeeojlaaGreat
open Go.RowKit
attribute [local irreducible] RV VH V OpF Calls
theorem MC.take {S : Nat → Prop} {W : World} {a : Option Addr} {n c m : Nat} {rss : List (List Rat)} (h : MC S W a n c rss) (hm : m ≤ n) : MC S W a m c (rss.take m) := by
  obtain ⟨qs, h1, h2⟩ := h
  refine ⟨qs.take m, ?_, h2.take m⟩
  have h3 := h1.cut (Nat.zero_le m) hm
  have e : (if c = 0 then a else a.map (·.add (0 * 1))) = a := by
    split
    · rfl
    · cases a <;> simp [add0]
  rw [e] at h3
  simpa using h3
theorem gridm_rect (f : Int → Int → Rat) (R C : Nat) : rect C (gridm f R C) := by
  intro r hr
  obtain ⟨i, _, rfl⟩ := List.mem_map.1 hr
  simp [rowg]
theorem WS.below {B bw L : Nat} {fs fd v pv : Value} {CX : Nat → (Nat → Prop) → World → Rat → Prop} {rows : List (List Rat)} {piv : List Int} {δ : Rat} {W W' : World} {B0 : Nat} {xd : Nat → Prop} (h : WS B bw fs fd xd CX v pv L rows piv δ W) (k : KD (fun b => b < W.heap.size ∧ b ≠ bw ∧ v.ownBlock ≠ some b ∧ ¬ xd b) W W') (hB0 : B0 ≤ B) (hx : ∀ b, xd b → B0 ≤ b) : Below B0 W W' :=
  k.below (fun q hq => ⟨by have := h.x.lt; have := h.hB; omega, by have := h.hB; omega, fun e => by have := (h.vlow q e).1; omega, fun hh => by have := hx q hh; omega⟩) (by have := h.x.lt; have := h.hB; omega)

set_option maxHeartbeats 400000 in
theorem sReduce_ok (a1 : Option Addr) (n c L : Nat) (rss : List (List Rat)) (S S1 : Nat → Prop) (w : World) (hx : MA L S1 w a1 n c rss) (hl1 : 1 ≤ L) (hn : n ≤ 1024) (hc : colsN rss ≤ 1024) (hL5 : 15 * (L * 5 ^ colsN rss) + 2 < LY) (hu : Up S w) :
    Calls Tryz.prog 60 #[.slice a1 n c] w (fun e w' => ∃ ar cr ap cp, e = .returned (.tuple #[.slice ar (redS (gridm (matI rss) n (colsN rss)) (colsN rss)).2.1.length cr, .slice ap (redS (gridm (matI rss) n (colsN rss)) (colsN rss)).2.1.length cp]) ∧ Ext w w' ∧ MC S w' ar (redS (gridm (matI rss) n (colsN rss)) (colsN rss)).2.1.length cr ((redS (gridm (matI rss) n (colsN rss)) (colsN rss)).1.take (redS (gridm (matI rss) n (colsN rss)) (colsN rss)).2.1.length) ∧ RN .i64 S w' ap (redS (gridm (matI rss) n (colsN rss)) (colsN rss)).2.1.length cp (redS (gridm (matI rss) n (colsN rss)) (colsN rss)).2.1) := by
 have z0 := Ext.refl w; have hLX : LX = 17592186044416 := rfl; have hLY : LY = 8796093022208 := rfl
 have hLV : LV = 1099511627776 := rfl
 have h51 : L * 1 ≤ L * 5 ^ colsN rss := Nat.mul_le_mul_left _ (Nat.pow_pos (by omega))
 refine enter (args := [.slice a1 n c]) Tryz.func60 rfl rfl (Nat.le_of_ble_eq_true rfl) ?_
 refine V.seq (V.reg rfl ?_)
 refine ass rfl ?_
 refine ass rfl ?_
 refine vnil ?_
 refine V.seq (V.reg rfl ?_)
 refine mvs rfl ?_
 refine vo ?_
 refine xcall e123 (begin_ok _ _ _ L _ _ _ hx (by omega) (by omega) (by omega) (by omega)) rfl rfl ?_
 rintro _ W1 ⟨bw, vw, rfl, x2, hbw, hbx, hbG⟩
 have s3 := x2.sz
 have z4 := x2
 have hK0 := WS.begin hbx hbG hbw L; have lbw := hbx.lt
 refine ⟨_, rfl, ?_⟩
 obtain ⟨rows, hrows⟩ : ∃ r, r = gridm (matI rss) n (colsN rss) := ⟨_, rfl⟩
 have hrect : rect (colsN rss) rows := by rw [hrows]; exact gridm_rect _ _ _
 have hszr : szR L rows := by rw [hrows]; exact gridm_sz (fun i k => szMI (hx.ext z4) (by omega) _ _)
 have hrl : rows.length ≤ 1024 := by rw [hrows, len_gridm]; exact hn
 rw [← hrows] at hbG hK0
 refine mvs rfl ?_
 refine vo ?_
 refine xcall e35 (mCols_ok _ _ _ _ _ _ _ (hx.ext z4)) rfl rfl ?_
 rintro _ W5 ⟨rfl, x6⟩
 have s7 := x6.sz
 have z8 := z4.trans x6
 refine ⟨_, rfl, ?_⟩
 refine vo ?_
 have hS1 := (hK0.ext x6)
 refine xcall e125 (all5_ok _ bw _ _ _ _ vw L (colsN rss) (colsN rss) rows _ hS1 hrect hszr (by omega) (by omega) hL5 hrl (by omega)) rfl rfl ?_
 rintro _ Wal ⟨pvw, rfl, kdal, hK, hpval⟩
 refine ⟨_, rfl, ?_⟩
 have hbl := hS1.below (B0 := w.heap.size) kdal (Nat.le_refl _) (fun _ h => h.elim); have szal := kdal.size
 have z9 := z8.below (hbl.mono (by omega))
 obtain ⟨av, cv, rfl⟩ := hK.g.form; obtain ⟨ap, cp, rfl⟩ := hK.p.form
 obtain ⟨s, hs⟩ : ∃ s, s = redS rows (colsN rss) := ⟨_, rfl⟩; rw [← hs] at hK; have hall := redS_all hrect hszr (by omega) (colsN rss); rw [← hs] at hall; have hKx := hK.x; have hKm := (hK.mc rfl).max; have hKq := (hK.pn rfl).cap; have hKq2 := (hK.pn rfl).max
 refine asp rfl ?_
 refine vnil ?_
 refine V.seq (V.regD mixed rfl ?_)
 intro W11 x12
 have s13 := x12.sz
 have z14 := z9.trans x12
 have z15 := x12
 replace hKx := hKx.ext x12
 have q16 := Ext.refl W11
 have r17 := hKx
 refine tk 0 rfl (by kernel_rfl) q16 (pv (fun _ y18 => rmv (v := .pointer (some ⟨_, _, none⟩)) rfl)) ?_
 refine tk 1 rfl (by kernel_rfl) q16 (pv (fun _ y19 => rnc (v := .pointer (some ⟨_, _, none⟩)) rfl rfl)) ?_
 refine tk 2 rfl (by kernel_rfl) q16 (pv (fun _ y20 => rfa rfl fd141_0)) ?_
 refine tk 3 rfl (by kernel_rfl) q16 (pv (fun _ y21 => rldb (v := .slice av _ cv) rfl sc22 (r17.ext y21) rfl)) ?_
 refine tk 4 rfl (by kernel_rfl) q16 (pv (fun _ y22 => rmv (v := .pointer (some ⟨_, _, none⟩)) rfl)) ?_
 refine tk 5 rfl (by kernel_rfl) q16 (pv (fun _ y23 => rnc (v := .pointer (some ⟨_, _, none⟩)) rfl rfl)) ?_
 refine tk 6 rfl (by kernel_rfl) q16 (pv (fun _ y24 => rfa rfl fd141_1)) ?_
 refine tk 7 rfl (by kernel_rfl) q16 (pv (fun _ y25 => rldb (v := .slice ap _ cp) rfl sc73 (r17.ext y25) rfl)) ?_
 refine tk 8 rfl (by kernel_rfl) q16 (pv (fun _ y26 => rlen sl73 rfl)) ?_
 refine tk 9 rfl (by kernel_rfl) q16 (pv (fun _ y27 => rsl1 (m := s.2.1.length) sl22 sz23 rfl rfl rfl (by omega))) ?_
 refine tk 10 rfl (by kernel_rfl) q16 (pv (fun _ y28 => rmv (v := .pointer (some ⟨_, _, none⟩)) rfl)) ?_
 refine tk 11 rfl (by kernel_rfl) q16 (pv (fun _ y29 => rnc (v := .pointer (some ⟨_, _, none⟩)) rfl rfl)) ?_
 refine tk 12 rfl (by kernel_rfl) q16 (pv (fun _ y30 => rfa rfl fd141_1)) ?_
 refine tk 13 rfl (by kernel_rfl) q16 (pv (fun _ y31 => rldb (v := .slice ap _ cp) rfl sc73 (r17.ext y31) rfl)) ?_
 refine tk 14 rfl (by kernel_rfl) q16 (pv (fun _ y32 => ras (v := .slice av s.2.1.length cv) rfl)) ?_
 refine tk 15 rfl (by kernel_rfl) q16 (pv (fun _ y33 => ras (v := .slice ap _ cp) rfl)) ?_
 refine dn (by kernel_rfl) ?_
 refine V.ret ?_
 refine ⟨[.slice av s.2.1.length cv, .slice ap _ cp], ⟨rfl, rfl, trivial⟩, ?_⟩
 rw [← hrows, ← hs]
 obtain ⟨hm, hp⟩ := ((hK.ext z15)).fin (S := S) (fun b hb _ => hu b (by omega))
 exact ⟨av, cv, ap, cp, rfl, z14, hm.take (by omega), hp⟩
end Go.Proofs.YtknbjfefeeojlaaGreat

/- Package frac. -/
import Derived.Test.YtknbjfefeeojlaaQ
namespace Go.Proofs.Ytknbjfefeeojlaa
open Go.RowKit
attribute [local irreducible] RV VH V OpF Calls
theorem qv0 (x : Int) : qv x 0 = Rat.divInt x 1 := by
  rw [Rat.divInt_eq_div]; simp [qv, Rat.div_def]
  rw [show (1 : Rat)⁻¹ = 1 from Rat.inv_eq_of_mul_eq_one (Rat.mul_one 1), Rat.mul_one]
theorem qvn {x y : Int} (h : y ≠ 0) : qv x y = Rat.divInt x y := by simp [qv, h]
section
variable {L : Nat} {S S' : Nat → Prop} {W W' : World} {n : Bool} {a : Option Addr} {l c : Nat} {x : Int}
theorem ZC.za1 (h : ZC S W n a l c 1) (hL : 1 ≤ L) : ZA L S W n a l c 1 := (h.zaH (L := 1) (by decide)).mono hL
theorem ZC.za_neg {W1 : World} {S1 : Nat → Prop} {n1 : Bool} {a1 : Option Addr} {l1 c1 : Nat} (h : ZC S W n a l c (-x)) (h1 : ZA L S1 W1 n1 a1 l1 c1 x) : ZA L S W n a l c (-x) := h.zaH (by have := h1.lt; omega)
end


theorem sg_eq0 {y : Int} (h : sg y = 0) : y = 0 := by unfold sg at h; split at h <;> (try split at h) <;> omega
theorem sg_neg {y : Int} (h : sg y = -1) : y < 0 := by unfold sg at h; split at h <;> (try split at h) <;> omega
theorem sg_pos {y : Int} (h : sg y ≠ 0) (h2 : sg y ≠ -1) : 0 < y := by unfold sg at h h2; split at h <;> (try split at h) <;> simp_all <;> omega

set_option maxHeartbeats 400000 in
theorem of_ok (q : List Value) (r : Rat) (L : Nat) (S : Nat → Prop) (w : World) (h : QA L S w q r) (hL : 1 ≤ L) (hL2 : L ≤ LY) (hu : Up S w) :
    Calls Try.prog 62 #[.agg q.toArray] w (fun e w' => ∃ p, e = .returned (.agg p.toArray) ∧ Ext w w' ∧ ∃ x y, PA L S w' p x y ∧ 0 < y ∧ r = Rat.divInt x y) := by
  have z0 := Ext.refl w; have hLX : LX = 17592186044416 := rfl; have hLY : LY = 8796093022208 := rfl
  obtain ⟨n1, a1, l1, c1, n2, a2, l2, c2, rfl⟩ := h.form
  obtain ⟨x, y, hx0, hy0, rfl⟩ := h.two
  have hx := hx0.sub (S' := SX S [w.heap.size + 1]) (SX.old (by simp <;> omega)); have hy := hy0.sub (S' := SX S [w.heap.size + 1]) (SX.old (by simp <;> omega))
  have hu2 : ∀ W : World, w.heap.size + 2 ≤ W.heap.size → Up (SX S [w.heap.size + 1]) W := fun W hW => SX.up (hu.mono (by omega)) (by simp <;> omega)
  refine enter (args := [.agg #[.bool n1, .slice a1 l1 c1, .bool n2, .slice a2 l2 c2]]) Try.func62 rfl rfl (Nat.le_of_ble_eq_true rfl) ?_
  refine V.seq (V.reg rfl ?_)
  refine vo ?_
  refine bxa rfl ?_
  intro W1 x2 b3 nn4
  have s5 := x2.sz
  have z6 := x2
  refine vo ?_
  refine xal zc89 ?_
  intro W7 x8 b9 nn10
  have s11 := x8.sz
  have z12 := z6.trans x8
  replace b3 := b3.ext x8
  refine vnil ?_
  refine V.seq ?_
  refine V.seq (V.reg rfl ?_)
  refine vv (rfa rfl fd43_1) ?_
  refine vv (rldb2 rfl ag41 b3 rfl rfl ) ?_
  refine vo ?_
  refine xcall e92 (wSign_ok _ _ _ _ _ _ _ _ (hy.ext z12)) rfl rfl ?_
  rintro _ W14 ⟨_, rfl, x15, hs13⟩
  have s16 := x15.sz
  have z17 := z12.trans x15
  replace b3 := b3.ext x15
  replace b9 := b9.ext x15
  refine ⟨_, rfl, ?_⟩
  refine vnil ?_
  refine V.block ?_
  refine V.seq (V.reg rfl ?_)
  have hs_ := hs13
  refine veq rfl rfl ?_ ?_
  · intro c1
    refine asb rfl ?_
    refine vnil ?_
    refine V.condT rfl ?_
    refine V.seq (V.regD mixed rfl ?_)
    intro W18 x19
    have s20 := x19.sz
    have z21 := z17.trans x19
    replace b3 := b3.ext x19
    replace b9 := b9.ext x19
    have q22 := Ext.refl W18
    have r23 := b3
    have r24 := b9
    refine tk 0 rfl (by kernel_rfl) q22 (pv (fun _ y25 => rfa rfl fd43_0)) ?_
    refine tk 1 rfl (by kernel_rfl) q22 (pv (fun _ y26 => rldb2 rfl ag41 (r23.ext y26) rfl rfl )) ?_
    refine ef 2 (by kernel_rfl) rfl ?_
    refine xcall e61 (wFrom_ok _ _ _ (by omega) (hu2 _ (by omega))) rfl rfl ?_
    rintro _ W28 ⟨_, _, _, _, rfl, x29, hz27⟩
    have s30 := x29.sz
    have z31 := z21.trans x29
    replace b3 := b3.ext x29
    replace b9 := b9.ext x29
    have q32 := q22.trans x29
    refine ⟨_, rfl, ?_⟩
    refine ⟨fun _ => q32, ?_⟩
    refine tk 3 rfl (by kernel_rfl) q32 (pv (fun _ y33 => rbd (ps := [(0, .agg #[_, _]), (1, .agg #[_, _])]) (cs := [.bool _, .slice _ _ _, .bool _, .slice _ _ _]) pl89 rfl rfl)) ?_
    refine ef 4 (by kernel_rfl) rfl ?_
    refine sta (cs' := [_, _, _, _]) b9 rfl rfl sz89 rfl rfl rfl ?_
    intro W34 y35 b9
    have z36 := z31.below (y35.below (by omega))
    replace b3 := b3.wr y35 (by omega)
    have s37 := y35.size
    refine lastT (by kernel_rfl) ?_
    refine dn (by kernel_rfl) ?_
    refine V.ret ?_
    refine ⟨[_], ⟨⟨_, rfl, lvb ag89 b9 rfl⟩, trivial⟩, ?_⟩
    have hy00 : y = 0 := sg_eq0 (hs_.symm.trans c1)
    subst hy00
    exact ⟨_, rfl, z36, x, 1, PA.mk' ((hx.ext z36)).un (((hz27.ck (y35.ck (by intro hh; simp [SX] at hh <;> omega)))).un.za1 hL), by omega, qv0 x⟩
  · intro c1
    refine asb rfl ?_
    refine vnil ?_
    refine V.condF rfl ?_
    refine V.seq (V.reg rfl ?_)
    refine veq rfl rfl ?_ ?_
    · intro c2
      refine asb rfl ?_
      refine vnil ?_
      refine V.condT rfl ?_
      refine V.seq (V.regD mixed rfl ?_)
      intro W38 x39
      have s40 := x39.sz
      have z41 := z17.trans x39
      replace b3 := b3.ext x39
      replace b9 := b9.ext x39
      have q42 := Ext.refl W38
      have r43 := b3
      have r44 := b9
      refine tk 0 rfl (by kernel_rfl) q42 (pv (fun _ y45 => rfa rfl fd43_0)) ?_
      refine tk 1 rfl (by kernel_rfl) q42 (pv (fun _ y46 => rldb2 rfl ag41 (r43.ext y46) rfl rfl )) ?_
      refine tk 3 rfl (by kernel_rfl) q42 (pv (fun _ y47 => rfa rfl fd43_1)) ?_
      refine tk 4 rfl (by kernel_rfl) q42 (pv (fun _ y48 => rldb2 rfl ag41 (r43.ext y48) rfl rfl )) ?_
      refine ef 2 (by kernel_rfl) rfl ?_
      refine xcall e93 (wNeg_ok _ _ _ _ _ _ _ _ (((hx.ext z41)).mono (by omega)) (hu2 _ (by omega))) rfl rfl ?_
      rintro _ W50 ⟨_, _, _, _, rfl, x51, hz49⟩
      have s52 := x51.sz
      have z53 := z41.trans x51
      replace b3 := b3.ext x51
      replace b9 := b9.ext x51
      have q54 := q42.trans x51
      refine ⟨_, rfl, ?_⟩
      refine ⟨fun _ => q54, ?_⟩
      refine ef 5 (by kernel_rfl) rfl ?_
      refine xcall e93 (wNeg_ok _ _ _ _ _ _ _ _ (((hy.ext z53)).mono (by omega)) (hu2 _ (by omega))) rfl rfl ?_
      rintro _ W56 ⟨_, _, _, _, rfl, x57, hz55⟩
      have s58 := x57.sz
      have z59 := z53.trans x57
      replace b3 := b3.ext x57
      replace b9 := b9.ext x57
      have q60 := q54.trans x57
      refine ⟨_, rfl, ?_⟩
      refine ⟨fun _ => q60, ?_⟩
      refine tk 6 rfl (by kernel_rfl) q60 (pv (fun _ y61 => rbd (ps := [(0, .agg #[_, _]), (1, .agg #[_, _])]) (cs := [.bool _, .slice _ _ _, .bool _, .slice _ _ _]) pl89 rfl rfl)) ?_
      refine ef 7 (by kernel_rfl) rfl ?_
      refine sta (cs' := [_, _, _, _]) b9 rfl rfl sz89 rfl rfl rfl ?_
      intro W62 y63 b9
      have z64 := z59.below (y63.below (by omega))
      replace b3 := b3.wr y63 (by omega)
      have s65 := y63.size
      refine lastT (by kernel_rfl) ?_
      refine dn (by kernel_rfl) ?_
      refine V.ret ?_
      refine ⟨[_], ⟨⟨_, rfl, lvb ag89 b9 rfl⟩, trivial⟩, ?_⟩
      have hyn := sg_neg (hs_.symm.trans c2)
      exact ⟨_, rfl, z64, -x, -y, PA.mk' (((hz49.ck ((x57.ck _).trans (y63.ck (by intro hh; simp [SX] at hh <;> omega))))).un.za_neg hx) (((hz55.ck (y63.ck (by intro hh; simp [SX] at hh <;> omega)))).un.za_neg hy), by omega, by rw [qvn (by omega), Rat.neg_divInt_neg]⟩
    · intro c2
      refine asb rfl ?_
      refine vnil ?_
      refine V.condF rfl ?_
      refine V.skip ?_
      refine V.seq (V.reg rfl ?_)
      refine vv (rfa rfl fd43_0) ?_
      refine vv (rldb2 rfl ag41 b3 rfl rfl ) ?_
      refine vv (rfa rfl fd43_1) ?_
      refine vv (rldb2 rfl ag41 b3 rfl rfl ) ?_
      refine vv (rbd (ps := [(0, .agg #[_, _]), (1, .agg #[_, _])]) (cs := [.bool _, .slice _ _ _, .bool _, .slice _ _ _]) pl89 rfl rfl) ?_
      refine vo ?_
      refine sta (cs' := [_, _, _, _]) b9 rfl rfl sz89 rfl rfl rfl ?_
      intro W66 y67 b9
      have z68 := z17.below (y67.below (by omega))
      replace b3 := b3.wr y67 (by omega)
      have s69 := y67.size
      refine vnil ?_
      refine V.ret ?_
      refine ⟨[_], ⟨⟨_, rfl, lvb ag89 b9 rfl⟩, trivial⟩, ?_⟩
      have hyp := sg_pos (y := y) (fun h => c1 (hs_.trans h)) (fun h => c2 (hs_.trans h))
      exact ⟨_, rfl, z68, x, y, PA.mk' ((hx.ext z68)).un ((hy.ext z68)).un, hyp, qvn (by omega)⟩

section
variable {L : Nat} {S S' : Nat → Prop} {W W' : World} {n1 n2 : Bool} {a1 a2 : Option Addr} {l1 c1 l2 c2 : Nat} {x y : Int} {r : Rat}
theorem ZC.za_le {z : Int} {W1 : World} {S1 : Nat → Prop} (h : ZC S W n1 a1 l1 c1 z) (h1 : ZA L S1 W1 n2 a2 l2 c2 y) (hz : z.natAbs ≤ y.natAbs) : ZA L S W n1 a1 l1 c1 z := h.zaH (by have := h1.lt; omega)
theorem QC.mk1 (h : ZC S W n1 a1 l1 c1 r.num) (hd : r.den = 1) : QC S W [.bool n1, .slice a1 l1 c1, .bool false, .slice none 0 0] r := by
  obtain ⟨h1, rfl⟩ := h
  refine ⟨_, _, _, _, _, _, rfl, h1, ?_⟩
  show RN .u32 S W none 0 0 (if r.den = 1 then [] else dg b32 r.den)
  rw [if_pos hd]; exact RN.nil _ _ _ _ _ (by omega)
theorem QC.mk2 (h : ZC S W n1 a1 l1 c1 r.num) (h2 : ZC S W n2 a2 l2 c2 (r.den : Int)) (hd : r.den ≠ 1) : QC S W [.bool n1, .slice a1 l1 c1, .bool n2, .slice a2 l2 c2] r := by
  obtain ⟨h1, rfl⟩ := h
  obtain ⟨h2, h3⟩ := h2
  have e : n2 = false := by rw [h3]; simp
  subst e
  refine ⟨_, _, _, _, _, _, rfl, h1, ?_⟩
  show RN .u32 S W a2 l2 c2 (if r.den = 1 then [] else dg b32 r.den)
  rw [if_neg hd]; simpa using h2
theorem num_dv (hy : 0 < y) : (Rat.divInt x y).num = x / (Int.gcd x y : Int) := by
  rw [Rat.num_divInt, Int.sign_eq_one_of_pos hy, Int.one_mul, Int.gcd_comm]
theorem den_dv (hy : 0 < y) : ((Rat.divInt x y).den : Int) = y / (Int.gcd x y : Int) := by
  rw [Rat.den_divInt, if_neg (by omega), Int.gcd_comm]
  have : (y.natAbs : Int) = y := by omega
  rw [Int.natCast_ediv, this]
theorem gcd_le (hy : 0 < y) : ((Int.gcd x y : Int)).natAbs ≤ y.natAbs ∧ (Int.gcd x y : Int) ≠ 0 := by
  have h1 : 0 < Int.gcd x y := Int.gcd_pos_iff.2 (.inr (by omega))
  have h2 : Int.gcd x y ≤ y.natAbs := Int.gcd_le_natAbs_right x (by omega)
  omega
end

set_option maxHeartbeats 400000 in
theorem least_ok (q : List Value) (x y : Int) (L : Nat) (S S1 : Nat → Prop) (w : World) (h : PA L S1 w q x y) (hp : 0 < y) (hL : 1 ≤ L) (hL2 : L ≤ LY) (hu : Up S w) :
    Calls Try.prog 65 #[.agg q.toArray] w (PQ S (Rat.divInt x y) w) := by
  have z0 := Ext.refl w; have hLX : LX = 17592186044416 := rfl; have hLY : LY = 8796093022208 := rfl
  obtain ⟨n1, a1, l1, c1, n2, a2, l2, c2, rfl⟩ := h.form
  obtain ⟨hx, hy⟩ := h.one
  have hu2 : ∀ W : World, w.heap.size + 2 ≤ W.heap.size → Up (SX S [w.heap.size + 1]) W := fun W hW => SX.up (hu.mono (by omega)) (by simp <;> omega)
  refine enter (args := [.agg #[.bool n1, .slice a1 l1 c1, .bool n2, .slice a2 l2 c2]]) Try.func65 rfl rfl (Nat.le_of_ble_eq_true rfl) ?_
  refine V.seq (V.reg rfl ?_)
  refine vo ?_
  refine bxa rfl ?_
  intro W1 x2 b3 nn4
  have s5 := x2.sz
  have z6 := x2
  refine vo ?_
  refine xal zc43 ?_
  intro W7 x8 b9 nn10
  have s11 := x8.sz
  have z12 := z6.trans x8
  replace b3 := b3.ext x8
  refine vnil ?_
  refine V.seq (V.reg rfl ?_)
  refine vv (rfa rfl fd89_0) ?_
  refine vv (rldb2 rfl ag41 b3 rfl rfl ) ?_
  refine vv (rfa rfl fd89_1) ?_
  refine vv (rldb2 rfl ag41 b3 rfl rfl ) ?_
  refine vo ?_
  refine xcall e97 (wGCD_ok _ _ _ _ _ _ _ _ _ _ _ _ _ _ _ _ (hx.ext z12) (hy.ext z12) (by omega) (by omega) (hu2 _ (by omega))) rfl rfl ?_
  rintro _ W14 ⟨_, _, _, _, rfl, x15, hz13⟩
  have s16 := x15.sz
  have z17 := z12.trans x15
  replace b3 := b3.ext x15
  replace b9 := b9.ext x15
  have z18 := Ext.refl W14
  refine ⟨_, rfl, ?_⟩
  have hg := (hz13).za_le hy (gcd_le hp).1
  refine vo ?_
  refine xal zc41 ?_
  intro W19 x20 b21 nn22
  have s23 := x20.sz
  have z24 := z17.trans x20
  have z25 := x20
  replace b3 := b3.ext x20
  replace b9 := b9.ext x20
  refine vo ?_
  refine sta (cs' := [_, _]) b21 rfl rfl sz41 rfl rfl rfl ?_
  intro W26 y27 b21
  have z28 := z24.below (y27.below (by omega))
  have z29 := z25.below (y27.below (by omega))
  replace b3 := b3.wr y27 (by omega)
  replace b9 := b9.wr y27 (by omega)
  have s30 := y27.size
  refine vnil ?_
  refine V.seq (V.reg rfl ?_)
  refine vv (rfa rfl fd89_0) ?_
  refine vv (rldb2 rfl ag41 b3 rfl rfl ) ?_
  refine vv (rldb2 rfl ag41 b21 rfl rfl ) ?_
  refine vo ?_
  refine xcall e98 (wDivMod_ok _ _ _ _ _ _ _ _ _ _ _ _ _ _ _ _ (hx.ext z28) (hg.ext z29) (by omega) (by omega) (hu2 _ (by omega)) ((gcd_le hp).2)) rfl rfl ?_
  rintro _ W33 ⟨_, _, _, _, _, _, _, _, rfl, x34, hq31, hr32⟩
  have s35 := x34.sz
  have z36 := z28.trans x34
  have z37 := z29.trans x34
  replace b3 := b3.ext x34
  replace b9 := b9.ext x34
  replace b21 := b21.ext x34
  have z38 := Ext.refl W33
  refine ⟨_, rfl, ?_⟩
  refine mvt rfl ?_
  refine vv (rext (v := .agg #[_, _]) rfl rfl) ?_
  refine vv (rext (v := .agg #[_, _]) rfl rfl) ?_
  refine vv (rext (v := .int _ _) rfl rfl) ?_
  refine vo ?_
  refine xal zc41 ?_
  intro W39 x40 b41 nn42
  have s43 := x40.sz
  have z44 := z36.trans x40
  have z45 := z37.trans x40
  have z46 := x40
  replace b3 := b3.ext x40
  replace b9 := b9.ext x40
  replace b21 := b21.ext x40
  refine vo ?_
  refine xal zc41 ?_
  intro W47 x48 b49 nn50
  have s51 := x48.sz
  have z52 := z44.trans x48
  have z53 := z45.trans x48
  have z54 := z46.trans x48
  replace b3 := b3.ext x48
  replace b9 := b9.ext x48
  replace b21 := b21.ext x48
  replace b41 := b41.ext x48
  refine vo ?_
  refine sta (cs' := [_, _]) b41 rfl rfl sz41 rfl rfl rfl ?_
  intro W55 y56 b41
  have z57 := z52.below (y56.below (by omega))
  have z58 := z53.below (y56.below (by omega))
  have z59 := z54.below (y56.below (by omega))
  replace b3 := b3.wr y56 (by omega)
  replace b9 := b9.wr y56 (by omega)
  replace b21 := b21.wr y56 (by omega)
  replace b49 := b49.wr y56 (by omega)
  have s60 := y56.size
  refine vo ?_
  refine sta (cs' := [_, _]) b49 rfl rfl sz41 rfl rfl rfl ?_
  intro W61 y62 b49
  have z63 := z57.below (y62.below (by omega))
  have z64 := z58.below (y62.below (by omega))
  have z65 := z59.below (y62.below (by omega))
  replace b3 := b3.wr y62 (by omega)
  replace b9 := b9.wr y62 (by omega)
  replace b21 := b21.wr y62 (by omega)
  replace b41 := b41.wr y62 (by omega)
  have s66 := y62.size
  refine asi rfl ?_
  refine vnil ?_
  refine V.seq (V.reg rfl ?_)
  refine vv (rfa rfl fd89_1) ?_
  refine vv (rldb2 rfl ag41 b3 rfl rfl ) ?_
  refine vv (rldb2 rfl ag41 b21 rfl rfl ) ?_
  refine vo ?_
  refine xcall e98 (wDivMod_ok _ _ _ _ _ _ _ _ _ _ _ _ _ _ _ _ (hy.ext z63) (hg.ext z64) (by omega) (by omega) (hu2 _ (by omega)) ((gcd_le hp).2)) rfl rfl ?_
  rintro _ W69 ⟨_, _, _, _, _, _, _, _, rfl, x70, hq67, hr68⟩
  have s71 := x70.sz
  have z72 := z63.trans x70
  have z73 := z64.trans x70
  have z74 := z65.trans x70
  replace b3 := b3.ext x70
  replace b9 := b9.ext x70
  replace b21 := b21.ext x70
  replace b41 := b41.ext x70
  replace b49 := b49.ext x70
  have z75 := Ext.refl W69
  refine ⟨_, rfl, ?_⟩
  refine mvt rfl ?_
  refine vv (rext (v := .agg #[_, _]) rfl rfl) ?_
  refine vv (rext (v := .agg #[_, _]) rfl rfl) ?_
  refine vv (rext (v := .int _ _) rfl rfl) ?_
  refine vo ?_
  refine xal zc41 ?_
  intro W76 x77 b78 nn79
  have s80 := x77.sz
  have z81 := z72.trans x77
  have z82 := z73.trans x77
  have z83 := z74.trans x77
  have z84 := x77
  replace b3 := b3.ext x77
  replace b9 := b9.ext x77
  replace b21 := b21.ext x77
  replace b41 := b41.ext x77
  replace b49 := b49.ext x77
  refine vo ?_
  refine xal zc41 ?_
  intro W85 x86 b87 nn88
  have s89 := x86.sz
  have z90 := z81.trans x86
  have z91 := z82.trans x86
  have z92 := z83.trans x86
  have z93 := z84.trans x86
  replace b3 := b3.ext x86
  replace b9 := b9.ext x86
  replace b21 := b21.ext x86
  replace b41 := b41.ext x86
  replace b49 := b49.ext x86
  replace b78 := b78.ext x86
  refine vo ?_
  refine sta (cs' := [_, _]) b78 rfl rfl sz41 rfl rfl rfl ?_
  intro W94 y95 b78
  have z96 := z90.below (y95.below (by omega))
  have z97 := z91.below (y95.below (by omega))
  have z98 := z92.below (y95.below (by omega))
  have z99 := z93.below (y95.below (by omega))
  replace b3 := b3.wr y95 (by omega)
  replace b9 := b9.wr y95 (by omega)
  replace b21 := b21.wr y95 (by omega)
  replace b41 := b41.wr y95 (by omega)
  replace b49 := b49.wr y95 (by omega)
  replace b87 := b87.wr y95 (by omega)
  have s100 := y95.size
  refine vo ?_
  refine sta (cs' := [_, _]) b87 rfl rfl sz41 rfl rfl rfl ?_
  intro W101 y102 b87
  have z103 := z96.below (y102.below (by omega))
  have z104 := z97.below (y102.below (by omega))
  have z105 := z98.below (y102.below (by omega))
  have z106 := z99.below (y102.below (by omega))
  replace b3 := b3.wr y102 (by omega)
  replace b9 := b9.wr y102 (by omega)
  replace b21 := b21.wr y102 (by omega)
  replace b41 := b41.wr y102 (by omega)
  replace b49 := b49.wr y102 (by omega)
  replace b78 := b78.wr y102 (by omega)
  have s107 := y102.size
  have hd := ((hq67.ext z106)).za_le hy (Int.natAbs_ediv_le_natAbs _ _)
  have z108 := Ext.refl W101
  refine asi rfl ?_
  refine vnil ?_
  refine V.seq ?_
  refine V.seq (V.regD mixed rfl ?_)
  intro W109 x110
  have s111 := x110.sz
  have z112 := z103.trans x110
  have z113 := z104.trans x110
  have z114 := z105.trans x110
  have z115 := z106.trans x110
  have z116 := x110
  replace b3 := b3.ext x110
  replace b9 := b9.ext x110
  replace b21 := b21.ext x110
  replace b41 := b41.ext x110
  replace b49 := b49.ext x110
  replace b78 := b78.ext x110
  replace b87 := b87.ext x110
  have q117 := Ext.refl W109
  have r118 := b3
  have r119 := b9
  have r120 := b21
  have r121 := b41
  have r122 := b49
  have r123 := b78
  have r124 := b87
  refine tk 0 rfl (by kernel_rfl) q117 (pv (fun _ y125 => rldb2 rfl ag41 (r123.ext y125) rfl rfl )) ?_
  refine ef 1 (by kernel_rfl) rfl ?_
  refine xcall e61 (wFrom_ok _ _ _ (by omega) (hu2 _ (by omega))) rfl rfl ?_
  rintro _ W127 ⟨_, _, _, _, rfl, x128, hz126⟩
  have s129 := x128.sz
  have z130 := z112.trans x128
  have z131 := z113.trans x128
  have z132 := z114.trans x128
  have z133 := z115.trans x128
  have z134 := z116.trans x128
  replace b3 := b3.ext x128
  replace b9 := b9.ext x128
  replace b21 := b21.ext x128
  replace b41 := b41.ext x128
  replace b49 := b49.ext x128
  replace b78 := b78.ext x128
  replace b87 := b87.ext x128
  have q135 := q117.trans x128
  have z136 := Ext.refl W127
  refine ⟨_, rfl, ?_⟩
  refine ⟨fun _ => q135, ?_⟩
  refine ef 2 (by kernel_rfl) rfl ?_
  have ho := (hz126).za1 (L := L) hL
  refine xcall e63 (wCmp_ok _ _ _ _ _ _ _ _ _ _ _ _ _ _ _ (hd.ext z134) ho (by omega) (by omega)) rfl rfl ?_
  rintro _ W138 ⟨_, rfl, x139, hs137⟩
  have s140 := x139.sz
  have z141 := z130.trans x139
  have z142 := z131.trans x139
  have z143 := z132.trans x139
  have z144 := z133.trans x139
  have z145 := z134.trans x139
  have z146 := x139
  replace b3 := b3.ext x139
  replace b9 := b9.ext x139
  replace b21 := b21.ext x139
  replace b41 := b41.ext x139
  replace b49 := b49.ext x139
  replace b78 := b78.ext x139
  replace b87 := b87.ext x139
  have q147 := q135.trans x139
  refine ⟨_, rfl, ?_⟩
  refine ⟨fun _ => q147, ?_⟩
  refine tk 3 rfl (by kernel_rfl) q147 (pv (fun _ y148 => rcmp (cEq rfl) rfl rfl rfl)) ?_
  refine dn (by kernel_rfl) ?_
  refine V.condB rfl ?_ ?_
  · intro c1
    refine V.seq (V.reg rfl ?_)
    refine vv (rldb2 rfl ag41 b41 rfl rfl ) ?_
    refine vv (rbd (ps := [(0, .agg #[_, _])]) (cs := [.bool _, .slice _ _ _, .bool false, .slice _ _ _]) pl43 rfl rfl) ?_
    refine vo ?_
    refine sta (cs' := [_, _, _, _]) b9 rfl rfl sz43 rfl rfl rfl ?_
    intro W149 y150 b9
    have z151 := z141.below (y150.below (by omega))
    replace b3 := b3.wr y150 (by omega)
    replace b21 := b21.wr y150 (by omega)
    replace b41 := b41.wr y150 (by omega)
    replace b49 := b49.wr y150 (by omega)
    replace b78 := b78.wr y150 (by omega)
    replace b87 := b87.wr y150 (by omega)
    have s152 := y150.size
    refine vnil ?_
    refine V.ret ?_
    refine ⟨[_], ⟨⟨_, rfl, lvb ag43 b9 rfl⟩, trivial⟩, ?_⟩
    have hd1 := sg_eq0 (hs137.symm.trans (of_decide_eq_true c1))
    exact ⟨_, rfl, z151, QC.mk1 (((((hq31.ext z143).ck (y150.ck (by intro hh; simp [SX] at hh <;> omega)))).un).cast (num_dv hp).symm) (by have := den_dv (x := x) hp; omega)⟩
  · intro c1
    refine V.skip ?_
    refine V.seq (V.reg rfl ?_)
    refine vv (rldb2 rfl ag41 b41 rfl rfl ) ?_
    refine vv (rldb2 rfl ag41 b78 rfl rfl ) ?_
    refine vv (rbd (ps := [(0, .agg #[_, _]), (1, .agg #[_, _])]) (cs := [.bool _, .slice _ _ _, .bool _, .slice _ _ _]) pl43 rfl rfl) ?_
    refine vo ?_
    refine sta (cs' := [_, _, _, _]) b9 rfl rfl sz43 rfl rfl rfl ?_
    intro W153 y154 b9
    have z155 := z141.below (y154.below (by omega))
    replace b3 := b3.wr y154 (by omega)
    replace b21 := b21.wr y154 (by omega)
    replace b41 := b41.wr y154 (by omega)
    replace b49 := b49.wr y154 (by omega)
    replace b78 := b78.wr y154 (by omega)
    replace b87 := b87.wr y154 (by omega)
    have s156 := y154.size
    refine vnil ?_
    refine V.ret ?_
    refine ⟨[_], ⟨⟨_, rfl, lvb ag43 b9 rfl⟩, trivial⟩, ?_⟩
    have hd1 : y / (Int.gcd x y : Int) ≠ 1 := fun h => of_decide_eq_false c1 (by rw [hs137, h]; rfl)
    exact ⟨_, rfl, z155, QC.mk2 (((((hq31.ext z143).ck (y154.ck (by intro hh; simp [SX] at hh <;> omega)))).un).cast (num_dv hp).symm) (((((hq67.ext z144).ck (y154.ck (by intro hh; simp [SX] at hh <;> omega)))).un).cast (den_dv hp).symm) (by have := den_dv (x := x) hp; omega)⟩
end Go.Proofs.Ytknbjfefeeojlaa

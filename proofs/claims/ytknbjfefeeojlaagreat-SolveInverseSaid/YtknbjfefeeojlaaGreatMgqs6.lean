/- Package pylonref01: div. -/
import Derived.Scope
import Derived.Test.YtknbjfefeeojlaaGreatMgqs5
namespace Go.Proofs.YtknbjfefeeojlaaGreat
open Go.RowKit
attribute [local irreducible] RV VH V OpF Calls
theorem rsmall_dg (a : Option Addr) (n c : Nat) (x : Int) (S : Nat → Prop) (w : World) (h : RN .i64 S w a n c (dg b16 x)) (hx : 0 ≤ x) (hn : n ≤ 3) : Calls Tryz.prog 214 #[.slice a n c] w fun e w' => e = .returned (.int .i64 x) ∧ w = w' := by
  have := rsmall_ok a n c (dg b16 x) S w h (Dg.dg (by decide) _) hn
  rwa [vl_dg (by decide) hx] at this
theorem small_val {x : Int} {n : Nat} (h : (dg b16 x).length = n) (hx : 0 ≤ x) (hn : n ≤ 3) : x < 281474976710656 := by
  have := vl_lt (B := b16) (by decide) (Dg.dg (B := b16) (by decide) x)
  rw [vl_dg (by decide) hx] at this
  have h2 := pow16_le (show (dg b16 x).length ≤ 3 by omega)
  have e : b16 ^ 3 = 281474976710656 := by decide
  omega
theorem ediv_le' {x y : Int} (hx : 0 ≤ x) (hy : 0 < y) : 0 ≤ x / y ∧ x / y ≤ x ∧ 0 ≤ x % y ∧ x % y < y ∧ x % y ≤ x := by
  have h := Int.mul_ediv_add_emod x y
  have h0 := Int.ediv_nonneg hx (show 0 ≤ y by omega)
  have h1 := Int.mul_nonneg (show 0 ≤ y by omega) h0
  exact ⟨h0, Int.ediv_le_self _ hx, Int.emod_nonneg _ (by omega), Int.emod_lt_of_pos _ hy, by omega⟩
theorem bs_lo {Y R mid : Int} (h : cmpI (Y * mid) R ≤ 0) : mid * Y ≤ R := by
  rw [Int.mul_comm]
  unfold cmpI at h
  split at h
  · omega
  · split at h <;> omega
theorem bs_hi {Y R mid : Int} (h : 0 < cmpI (Y * mid) R) : R < mid * Y := by
  rw [Int.mul_comm]
  unfold cmpI at h
  split at h
  · omega
  · split at h <;> omega
theorem bs_end {lo hi Y R : Int} (h : hi - lo ≤ 1) (hl : lo < hi) (h2 : R < hi * Y) : R - Y * lo < Y := by
  obtain rfl : hi = lo + 1 := by omega
  rw [Int.add_mul, Int.mul_comm lo Y] at h2; omega
theorem zeros_at {qs : List Int} {k : Nat} (h1 : 1 ≤ k) (h : ∀ j : Nat, j < k → wd qs j = 0) : ∀ j : Nat, j ≤ k - 1 → wd qs j = 0 := fun j hj => h j (by omega)

set_option maxHeartbeats 400000 in
theorem rdiv_ok (a : Option Addr) (n c : Nat) (x : Int) (b : Option Addr) (m d : Nat) (y : Int) (S S1 S2 : Nat → Prop) (w : World) (h : RN .i64 S1 w a n c (dg b16 x)) (hx : 0 ≤ x) (h2 : RN .i64 S2 w b m d (dg b16 y)) (hy : 0 < y) (hn : n ≤ LX / 8) (hm : m ≤ LX / 8) (hu : Up S w) :
    Calls Tryz.prog 210 #[.slice a n c, .slice b m d] w (fun e w' => ∃ a' n' c' b' m' d', e = .returned (.tuple #[.slice a' n' c', .slice b' m' d']) ∧ Ext w w' ∧ RN .i64 S w' a' n' c' (dg b16 (x / y)) ∧ RN .i64 S w' b' m' d' (dg b16 (x % y))) := by
 have z0 := Ext.refl w; have hLX : LX = 17592186044416 := rfl; have hLY : LY = 8796093022208 := rfl
 replace h := h.sub (S' := fun q => q < w.heap.size) (fun b hb _ => hb); replace h2 := h2.sub (S' := fun q => q < w.heap.size) (fun b hb _ => hb)
 have hl := h.len; have hl2 := h2.len
 refine enter (args := [.slice a n c, .slice b m d]) Tryz.func210 rfl rfl (Nat.le_of_ble_eq_true rfl) ?_
 refine V.seq (V.reg rfl ?_)
 refine ass rfl ?_
 refine ass rfl ?_
 refine vnil ?_
 refine V.seq ?_
 refine V.seq (V.reg rfl ?_)
 refine mvs rfl ?_
 refine vv (rlen sl73 rfl) ?_
 refine vle rfl rfl ?_ ?_
 ·intro c1
  refine mvb rfl ?_
  refine vg rfl ?_
  refine mvs rfl ?_
  refine vg rfl ?_
  refine vv (rlen sl73 rfl) ?_
  refine vg rfl ?_
  refine vle rfl rfl ?_ ?_
  ·intro c2
   refine vv (rpk (v := .bool true) rfl rfl) ?_
   refine vnil ?_
   refine V.condT rfl ?_
   refine V.seq (V.reg rfl ?_)
   refine mvs rfl ?_
   refine vo ?_
   refine xcall e214 (rsmall_dg _ _ _ _ _ _ h (by omega) (by omega)) rfl rfl ?_
   rintro _ _ ⟨rfl, rfl⟩
   refine ⟨_, rfl, ?_⟩
   refine mvs rfl ?_
   refine vo ?_
   refine xcall e214 (rsmall_dg _ _ _ _ _ _ h2 (by omega) (by omega)) rfl rfl ?_
   rintro _ _ ⟨rfl, rfl⟩
   refine ⟨_, rfl, ?_⟩
   have hbx := small_val hl hx (by omega); have hdd := ediv_le' hx hy
   refine vv (rbin (bQuo (by omega) (wiq (by rw [Int.tdiv_eq_ediv_of_nonneg (by omega)]; omega) (Int.tdiv_eq_ediv_of_nonneg (by omega)))) rfl rfl) ?_
   refine vo ?_
   refine xcall e213 (rback_ok _ _ _ (by omega) (by omega) (hu.mono (by omega))) rfl rfl ?_
   rintro _ W6 ⟨_, _, _, rfl, x7, hh5⟩
   have s8 := x7.sz
   have z9 := x7
   have hh5l := hh5.len
   refine ⟨_, rfl, ?_⟩
   refine mvs rfl ?_
   refine vo ?_
   refine xcall e214 (rsmall_dg _ _ _ _ _ _ (h.ext z9) (by omega) (by omega)) rfl rfl ?_
   rintro _ _ ⟨rfl, rfl⟩
   refine ⟨_, rfl, ?_⟩
   refine mvs rfl ?_
   refine vo ?_
   refine xcall e214 (rsmall_dg _ _ _ _ _ _ (h2.ext z9) (by omega) (by omega)) rfl rfl ?_
   rintro _ _ ⟨rfl, rfl⟩
   refine ⟨_, rfl, ?_⟩
   refine vv (rbin (bRem (by omega) (Int.tmod_eq_emod_of_nonneg (by omega))) rfl rfl) ?_
   refine vo ?_
   refine xcall e213 (rback_ok _ _ _ (by omega) (by omega) (hu.mono (by omega))) rfl rfl ?_
   rintro _ W13 ⟨_, _, _, rfl, x14, hh12⟩
   have s15 := x14.sz
   have z16 := z9.trans x14
   have hh12l := hh12.len
   refine ⟨_, rfl, ?_⟩
   refine ass rfl ?_
   refine ass rfl ?_
   refine vnil ?_
   refine V.ret ?_
   refine ⟨[.slice _ _ _, .slice _ _ _], ⟨rfl, rfl, trivial⟩, ?_⟩
   exact ⟨_, _, _, _, _, _, rfl, z16, (hh5.ext x14), hh12⟩
  ·intro c2
   refine vv (rpk (v := .bool false) rfl rfl) ?_
   refine vnil ?_
   refine V.condF rfl ?_
   refine V.skip ?_
   refine V.seq (V.reg rfl ?_)
   refine mvs rfl ?_
   refine vv (rlen sl73 rfl) ?_
   refine vo ?_
   refine xmk (n) sl73 in3 (by simp [kb]) rfl rfl (by omega) (by omega) (by omega) ?_
   intro W17 x18 q n19
   have s20 := x18.sz
   have z21 := x18
   refine ass rfl ?_
   refine vnil ?_
   refine V.seq ?_
   refine V.seq (V.reg rfl ?_)
   refine mvs rfl ?_
   refine vv (rlen sl73 rfl) ?_
   refine veq rfl rfl ?_ ?_
   ·intro c22
    refine vnil ?_
    refine V.condT rfl ?_
    refine V.seq (V.reg rfl ?_)
    have hY : wd (dg b16 y) 0 = y := dg16_one (by omega) (by omega)
    have hy16 : y < 65536 := by have := vl_lt (B := b16) (by decide) (Dg.dg (B := b16) (by decide) y); rw [vl_dg (by decide) (by omega), show (dg b16 y).length = 1 by omega] at this; have e : b16 ^ 1 = 65536 := (by decide); omega
    refine asi rfl ?_
    refine vnil ?_
    refine V.seq ?_
    refine V.seq (V.reg rfl ?_)
    refine mvs rfl ?_
    refine vv (rlen sl73 rfl) ?_
    refine vv (rbin (bSub (wi (by omega))) rfl rfl) ?_
    refine asi rfl ?_
    refine vnil ?_
    refine V.block ?_
    refine V.loopK (ι := Nat × Int × List Int) [(0, .slice _ _ _), (1, .slice _ _ _), (4, .slice _ _ _), (5, .slice _ _ _), (6, .slice _ _ _)] (fun ⟨k, r, qs⟩ => [(8, .int .i64 ((k : Int) - 1)), (7, .int .i64 r)]) (fun ⟨k, r, qs⟩ W => Ext w W ∧ k ≤ n ∧ 0 ≤ r ∧ r < y ∧ AR .i64 W (w.heap.size) 3 n qs ∧ (∀ j : Nat, j < k → wd qs j = 0) ∧ Dg b16 qs ∧ x = vl b16 qs * y + b16 ^ k * r + vl b16 ((dg b16 x).take k)) (fun ⟨k, r, qs⟩ => k) ((n, 0, _)) ⟨rfl, rfl, rfl, rfl, rfl, trivial⟩ ⟨rfl, rfl, trivial⟩ ⟨z21, Nat.le_refl _, by omega, by omega, q, fun j _ => wd_zeros _ _, Dg.zeros _, by rw [vl_zeros, List.take_of_length_le (by omega), vl_dg (by decide) hx]; omega⟩ ?_
    intro i24 E25 W23 h26
    obtain ⟨k, r, qs⟩ := i24
    simp only at h26
    show V _ _ _ _ _ _ (ups (ups _ _) [(8, .int .i64 ((k : Int) - 1)), (7, .int .i64 r)]) _
    obtain ⟨x27, hk, r0, r1, hA, hz, hdq, hinv⟩ := h26
    have s28 := x27.sz
    have z29 := x27
    have lA := hA.len; have lbq := hA.box.lt
    refine V.seq ?_
    refine V.seq (V.reg rfl ?_)
    refine mvi rfl ?_
    refine vge rfl rfl ?_ ?_
    ·intro c30
     have hwb : 0 ≤ wd (dg b16 x) ((k : Int) - 1) ∧ wd (dg b16 x) ((k : Int) - 1) < 65536 := wd_dg (B := b16) (by decide) (Dg.dg (B := b16) (by decide) x) ((k : Int) - 1)
     refine vnil ?_
     refine V.condT rfl ?_
     refine V.skip ?_
     refine V.seq ?_
     refine V.block ?_
     refine V.seq (V.reg rfl ?_)
     refine mvi rfl ?_
     refine vv (rbin (bMul (wi (by omega))) rfl rfl) ?_
     refine mvs rfl ?_
     refine mvi rfl ?_
     refine vv (rixn (h.ext z29) sl73 sz3 rfl rfl (by omega) (by omega)) ?_
     refine vldN (h.ext z29) rfl sc3 (by omega) (by omega) ?_
     intro q31 hq31 hk32
     simp only [kb] at hk32
     have hxq : 0 ≤ q31 ∧ q31 < 65536 := by rw [hq31]; exact hwb
     have hdf := div_facts16 (v := wd (dg b16 y) 0) (by omega) r0 (by omega) hxq.1 hxq.2
     refine vv (rbin (bAdd (wi (by omega))) rfl rfl) ?_
     refine asi rfl ?_
     refine vnil ?_
     refine V.regS (fun W => KD (fun q => q < w.heap.size) W) mixed rfl ?_
     intro W33 x34
     have s35 := x34.sz
     have z36 := z29.trans x34
     replace hA := hA.ext x34
     have q38 := KD.refl (fun q => q < w.heap.size) W33
     have r39 := hA
     refine tk 0 rfl (by kernel_rfl) q38 (pv (fun _ y40 => rmv (v := .slice _ _ _) rfl)) ?_
     refine tk 1 rfl (by kernel_rfl) q38 (pv (fun _ y41 => rmv (v := .int _ _) rfl)) ?_
     refine tk 2 rfl (by kernel_rfl) q38 (pv (fun _ y42 => rmv (v := .int _ _) rfl)) ?_
     refine tk 3 rfl (by kernel_rfl) q38 (pv (fun _ y43 => rmv (v := .slice _ _ _) rfl)) ?_
     refine tk 4 rfl (by kernel_rfl) q38 (pv (fun _ y44 => rixn ((h2.ext z36).ck (y44).ck) sl73 sz3 rfl rfl (by omega) (by omega))) ?_
     refine tk 5 rfl (by kernel_rfl) q38 (pv (fun _ y45 => rldN ((h2.ext z36).ck (y45).ck) rfl sc3 (by omega) (by omega))) ?_
     refine tk 6 rfl (by kernel_rfl) q38 (pv (fun _ y46 => rbin (bQuo (by omega) (wiq (by rw [Int.tdiv_eq_ediv_of_nonneg (by omega)]; omega) (Int.tdiv_eq_ediv_of_nonneg (by omega)))) rfl rfl)) ?_
     refine tk 7 rfl (by kernel_rfl) q38 (pv (fun _ y47 => rmv (v := .int _ _) rfl)) ?_
     refine tk 8 rfl (by kernel_rfl) q38 (pv (fun _ y48 => rmv (v := .slice _ _ _) rfl)) ?_
     refine tk 9 rfl (by kernel_rfl) q38 (pv (fun _ y49 => rixn ((h2.ext z36).ck (y49).ck) sl73 sz3 rfl rfl (by omega) (by omega))) ?_
     refine tk 10 rfl (by kernel_rfl) q38 (pv (fun _ y50 => rldN ((h2.ext z36).ck (y50).ck) rfl sc3 (by omega) (by omega))) ?_
     refine tk 11 rfl (by kernel_rfl) q38 (pv (fun _ y51 => rbin (bRem (by omega) (Int.tmod_eq_emod_of_nonneg (by omega))) rfl rfl)) ?_
     refine tk 12 rfl (by kernel_rfl) q38 (pv (fun _ y52 => rix sl73 sz3 rfl rfl (by omega) (by omega) rfl)) ?_
     refine ef 13 (by kernel_rfl) rfl ?_
     refine xsti hA rfl rfl sz3 (by simp only [kb]; omega) (by omega) (by omega) ?_
     intro W53 y54 hA
     have z55 := z36.below (y54.below (by omega))
     have q56 := q38.trans (y54.kd (fun hh => by have hh2 : w.heap.size < w.heap.size := hh; omega))
     have s57 := y54.size
     refine ⟨fun _ => q56, ?_⟩
     refine tk 14 rfl (by kernel_rfl) q56 (pv (fun _ y58 => ras (v := .int _ _) rfl)) ?_
     refine dn (by kernel_rfl) ?_
     refine V.reg rfl ?_
     refine mvi rfl ?_
     refine vv (rbin (bSub (show IntKind.i64.wrap ((k : Int) - 1 - 1) = ((k - 1 : Nat) : Int) - 1 by rw [wi (by omega)]; omega)) rfl rfl) ?_
     refine asi rfl ?_
     refine vnil ?_
     refine ⟨rfl, (k - 1, _, _), ⟨rfl, rfl, rfl, rfl, rfl, trivial⟩, ⟨rfl, rfl, trivial⟩, ⟨z55, by omega, by omega, by omega, hA, by rw [show ((k : Int) - 1).toNat = k - 1 by omega]; exact wd_zero_set (zeros_at (by omega) hz), by rw [show ((k : Int) - 1).toNat = k - 1 by omega]; exact Dg.set16 hdq hdf.1 hdf.2.1, by rw [show ((k : Int) - 1).toNat = k - 1 by omega]; exact quo_step (by omega) (zeros_at (by omega) hz) (by rw [show k - 1 + 1 = k by omega]; exact hinv) (by rw [show ((k - 1 : Nat) : Int) = (k : Int) - 1 by omega, ← hq31, hdf.2.2.2.2, hY])⟩, ?_⟩
     show k - 1 < k
     omega
    ·intro c30
     refine vnil ?_
     refine V.condF rfl ?_
     refine V.exit ?_
     refine V.seq (V.reg rfl ?_)
     refine mvs rfl ?_
     refine vo ?_
     have hrq := hA.rn (S := S) (hu _ (by omega))
     refine xcall e211 (rtrim_ok _ _ _ _ _ _ hrq) rfl rfl ?_
     rintro _ _ ⟨m1, rfl, hr1, hm1, rfl⟩
     refine ⟨_, rfl, ?_⟩
     refine mvi rfl ?_
     refine vo ?_
     refine xbs (ps := [(0, .int _ _)]) (cs := [.int _ _]) sl73 zr3 sz3 rfl rfl rfl rfl rfl rfl ?_
     intro W60 x61 b62 nn63
     have s64 := x61.sz
     have z65 := z29.trans x61
     replace hA := hA.ext x61
     refine vo ?_
     have hl66 := RN.lit (k := .i64) (xs := [_]) 1 b62 (by intro q hq; simp only [List.mem_cons, List.not_mem_nil, or_false] at hq; simp only [kb]; omega) ((hu.mono (show w.heap.size ≤ W23.heap.size by omega)) _ (Nat.le_refl _))
     refine xcall e211 (rtrim_ok _ _ _ _ _ _ hl66) rfl rfl ?_
     rintro _ _ ⟨m2, rfl, hr2, hm2, rfl⟩
     refine ⟨_, rfl, ?_⟩
     refine ass rfl ?_
     refine ass rfl ?_
     refine vnil ?_
     refine V.ret ?_
     refine ⟨[.slice _ _ _, .slice _ _ _], ⟨rfl, rfl, trivial⟩, ?_⟩
     have e0 : k = 0 := (by omega)
     subst e0
     have hdm := divmod_of (u := x) (v := y) (q := vl b16 qs) (r := r) (by rw [hinv]; simp [vl]) r0 r1
     exact ⟨_, _, _, _, _, _, rfl, z65, (hr1.ext x61).cast (by rw [← dg_vl (by decide) hdq, hdm.1]), hr2.cast (by rw [dg16_small r0 (by omega), hdm.2])⟩
   ·intro c22
    refine vnil ?_
    refine V.condF rfl ?_
    refine V.skip ?_
    refine V.seq (V.reg rfl ?_)
    refine ass rfl ?_
    refine vnil ?_
    refine V.seq ?_
    refine V.seq (V.reg rfl ?_)
    refine mvs rfl ?_
    refine vv (rlen sl73 rfl) ?_
    refine vv (rbin (bSub (wi (by omega))) rfl rfl) ?_
    refine asi rfl ?_
    refine vnil ?_
    refine V.block ?_
    refine V.loopK (ι := Nat × Int × List Int × Option Addr × Nat × Nat) [(0, .slice _ _ _), (1, .slice _ _ _), (4, .slice _ _ _), (5, .slice _ _ _), (6, .slice _ _ _)] (fun ⟨k, R, qs, ra, rn, rc⟩ => [(10, .int .i64 ((k : Int) - 1)), (9, .slice ra rn rc)]) (fun ⟨k, R, qs, ra, rn, rc⟩ W => Ext w W ∧ k ≤ n ∧ 0 ≤ R ∧ R < y ∧ AR .i64 W (w.heap.size) 3 n qs ∧ (∀ j : Nat, j < k → wd qs j = 0) ∧ Dg b16 qs ∧ RN .i64 (SX S [w.heap.size]) W ra rn rc (dg b16 R) ∧ x = vl b16 qs * y + b16 ^ k * R + vl b16 ((dg b16 x).take k)) (fun ⟨k, R, qs, ra, rn, rc⟩ => k) ((n, 0, _, _, _, _)) ⟨rfl, rfl, rfl, rfl, rfl, trivial⟩ ⟨rfl, rfl, trivial⟩ ⟨z21, Nat.le_refl _, by omega, by omega, q, fun j _ => wd_zeros _ _, Dg.zeros _, by rw [dg_zero]; exact RN.nil _ _ _ _ _ (by omega), by rw [vl_zeros, List.take_of_length_le (by omega), vl_dg (by decide) hx]; omega⟩ ?_
    intro i69 E70 W68 h71
    obtain ⟨k, R, qs, ra, rn, rc⟩ := i69
    simp only at h71
    show V _ _ _ _ _ _ (ups (ups _ _) [(10, .int .i64 ((k : Int) - 1)), (9, .slice ra rn rc)]) _
    obtain ⟨x72, hk, r0, r1, hA, hz, hdq, hR, hinv⟩ := h71
    have s73 := x72.sz
    have z74 := x72
    have lA := hA.len; have lbq := hA.box.lt
    have hRl := hR.len; have hRm := dg16_mono r0 (show R ≤ y by omega)
    refine V.seq ?_
    refine V.seq (V.reg rfl ?_)
    refine mvi rfl ?_
    refine vge rfl rfl ?_ ?_
    ·intro c75
     have hwb : 0 ≤ wd (dg b16 x) ((k : Int) - 1) ∧ wd (dg b16 x) ((k : Int) - 1) < 65536 := wd_dg (B := b16) (by decide) (Dg.dg (B := b16) (by decide) x) ((k : Int) - 1)
     refine vnil ?_
     refine V.condT rfl ?_
     refine V.skip ?_
     refine V.seq ?_
     refine V.block ?_
     refine V.seq (V.reg rfl ?_)
     refine mvs rfl ?_
     refine mvi rfl ?_
     refine vv (rixn (h.ext z74) sl73 sz3 rfl rfl (by omega) (by omega)) ?_
     refine vldN (h.ext z74) rfl sc3 (by omega) (by omega) ?_
     intro q76 hq76 hk77
     simp only [kb] at hk77
     refine vo ?_
     refine xbs (ps := [(0, .int _ _)]) (cs := [.int _ _]) sl73 zr3 sz3 rfl rfl rfl rfl rfl rfl ?_
     intro W78 x79 b80 nn81
     have s82 := x79.sz
     have z83 := z74.trans x79
     replace hA := hA.ext x79
     refine mvs rfl ?_
     refine vo ?_
     refine xappN sl73 in3 (OI.lit (B := W68.heap.size) (k := .i64) (xs := [_]) b80 (by intro q hq; simp only [List.mem_cons, List.not_mem_nil, or_false] at hq; simp only [kb]; omega) (by omega)) rfl rfl (hR.ext x79) (by simp only [List.length_cons, List.length_nil]; omega) (by decide) (by omega) ?_
     intro v84 W85 hO86 hg87 ho88
     have y89 := grown_below hg87 (by omega) (fun b e => ((OI.lit (B := W68.heap.size) (k := .i64) (xs := [_]) b80 (by intro q hq; simp only [List.mem_cons, List.not_mem_nil, or_false] at hq; simp only [kb]; omega) (by omega)).low b e).1)
     have s90 := y89.size
     have z91 := z83.below (y89.mono (by omega))
     replace hA := hA.bl y89 (by omega)
     refine vo ?_
     obtain ⟨a', c', rfl⟩ := hO86.form
     have hrn := hO86.rn (S := SX S [w.heap.size]) (fun b hb _ => (SX.up (hu.mono (show w.heap.size ≤ W68.heap.size by omega)) (by simp; omega) : Up (SX S [w.heap.size]) W68) b (by omega))
     refine xcall e211 (rtrim_ok _ _ _ _ _ _ hrn) rfl rfl ?_
     rintro _ _ ⟨m1, rfl, hr1, hm1, rfl⟩
     have hxq : 0 ≤ q76 ∧ q76 < 65536 := by rw [hq76]; exact hwb
     obtain ⟨T, hT⟩ : ∃ T, T = R * 65536 + q76 := ⟨_, rfl⟩
     replace hr1 : RN .i64 (SX S [w.heap.size]) _ _ _ _ (dg b16 T) := hr1.cast (by rw [hT]; exact dg16_cons hxq.1 hxq.2 r0)
     have hrl := hr1.len
     simp only [List.length_append, List.length_cons, List.length_nil] at hm1
     have hTb : 0 ≤ T ∧ T < 65536 * y := by rw [hT]; exact R_bd r0 r1 hxq.1 hxq.2
     refine ⟨_, rfl, ?_⟩
     refine ass rfl ?_
     refine vnil ?_
     refine V.seq (V.reg rfl ?_)
     refine asi rfl ?_
     refine asi rfl ?_
     refine vnil ?_
     refine V.seq ?_
     refine V.seq (V.reg rfl ?_)
     refine mvs rfl ?_
     refine vv (rlen sl73 rfl) ?_
     refine mvs rfl ?_
     refine vv (rlen sl73 rfl) ?_
     refine vlt rfl rfl ?_ ?_
     ·intro c93
      refine vnil ?_
      refine V.condT rfl ?_
      refine V.reg rfl ?_
      refine asi rfl ?_
      refine vnil ?_
      refine V.seq ?_
      refine V.block ?_
      refine V.loopK (ι := Int × Int) [(0, .slice _ _ _), (1, .slice _ _ _), (4, .slice _ _ _), (5, .slice _ _ _), (6, .slice _ _ _), (9, .slice _ _ _), (10, .int _ _), (75, .int _ _), (76, .bool true), (79, .slice _ _ _), (80, .int _ _), (81, .pointer _), (82, .int _ _), (83, .slice _ _ _), (84, .slice _ _ _), (85, .slice _ _ _), (86, .slice _ _ _), (87, .slice _ _ _), (88, .int _ _), (89, .slice _ _ _), (90, .int _ _), (91, .bool true)] (fun ⟨lo, hi⟩ => [(11, .int .i64 lo), (12, .int .i64 hi)]) (fun ⟨lo, hi⟩ W => Ext W85 W ∧ 0 ≤ lo ∧ lo < hi ∧ hi ≤ 65536 ∧ lo * y ≤ T ∧ T < hi * y) (fun ⟨lo, hi⟩ => (hi - lo).toNat) ((_, _)) ⟨rfl, rfl, rfl, rfl, rfl, rfl, rfl, rfl, rfl, rfl, rfl, rfl, rfl, rfl, rfl, rfl, rfl, rfl, rfl, rfl, rfl, rfl, trivial⟩ ⟨rfl, rfl, trivial⟩ ⟨Ext.refl _, by omega, by omega, by omega, by omega, by have := dg16_len_lt (by omega) hTb.1 (show (dg b16 T).length < (dg b16 y).length by omega); omega⟩ ?_
      intro i95 E96 W94 h97
      obtain ⟨lo, hi⟩ := i95
      simp only at h97
      show V _ _ _ _ _ _ (ups (ups _ _) [(11, .int .i64 lo), (12, .int .i64 hi)]) _
      obtain ⟨x98, lo0, lohi, hi1, lo2, hi2⟩ := h97
      have s99 := x98.sz
      have z100 := z91.trans x98
      have z101 := x98
      replace hA := hA.ext x98
      refine V.seq ?_
      refine V.seq (V.reg rfl ?_)
      refine mvi rfl ?_
      refine mvi rfl ?_
      refine vv (rbin (bSub (wi (by omega))) rfl rfl) ?_
      refine vgt rfl rfl ?_ ?_
      ·intro c102
       refine vnil ?_
       refine V.condT rfl ?_
       refine V.skip ?_
       refine V.block ?_
       refine V.seq (V.reg rfl ?_)
       refine mvi rfl ?_
       refine mvi rfl ?_
       refine vv (rbin (bAdd (wi (by omega))) rfl rfl) ?_
       refine vv (rbin (bQuo (by omega) (wiq (by rw [Int.tdiv_eq_ediv_of_nonneg (by omega)]; omega) (Int.tdiv_eq_ediv_of_nonneg (by omega)))) rfl rfl) ?_
       refine asi rfl ?_
       refine vnil ?_
       refine V.seq (V.reg rfl ?_)
       refine mvs rfl ?_
       refine mvi rfl ?_
       refine vo ?_
       refine xcall e215 (rtimes_ok _ _ _ _ _ (SX S [w.heap.size]) _ _ (h2.ext z100) (Dg.dg (by decide) _) (by omega) ⟨by omega, by omega⟩ (SX.up (hu.mono (by omega)) (by simp; omega))) rfl rfl ?_
       rintro _ W104 ⟨_, _, _, rfl, x105, hh103, hh103b⟩
       have s106 := x105.sz
       have z108 := z101.trans x105
       replace hA := hA.ext x105
       rw [vl_dg (by decide) (by omega : 0 ≤ y)] at hh103
       have hh103l := hh103.len
       refine ⟨_, rfl, ?_⟩
       refine mvs rfl ?_
       refine vo ?_
       refine xcall e202 (rcmp_ok _ _ _ _ _ _ _ _ _ _ _ hh103 (Dg.dg (by decide) _) (hr1.ext z108) (Dg.dg (by decide) _)) rfl rfl ?_
       rintro _ _ ⟨rfl, rfl⟩
       refine ⟨_, rfl, ?_⟩
       refine vle rfl rfl ?_ ?_
       ·intro hcm
        have hmy : 0 ≤ y * ((lo + hi) / 2) := Int.mul_nonneg (by omega) (by omega)
        rw [vl_dg (by decide) hmy, vl_dg (by decide) hTb.1] at hcm
        refine vnil ?_
        refine V.condT rfl ?_
        refine V.reg rfl ?_
        refine mvi rfl ?_
        refine asi rfl ?_
        refine vnil ?_
        refine ⟨rfl, (_, _), ⟨rfl, rfl, rfl, rfl, rfl, rfl, rfl, rfl, rfl, rfl, rfl, rfl, rfl, rfl, rfl, rfl, rfl, rfl, rfl, rfl, rfl, rfl, trivial⟩, ⟨rfl, rfl, trivial⟩, ⟨z108, by omega, by omega, by omega, bs_lo hcm, hi2⟩, ?_⟩
        show (hi - _).toNat < (hi - lo).toNat
        omega
       ·intro hcm
        have hmy : 0 ≤ y * ((lo + hi) / 2) := Int.mul_nonneg (by omega) (by omega)
        rw [vl_dg (by decide) hmy, vl_dg (by decide) hTb.1] at hcm
        refine vnil ?_
        refine V.condF rfl ?_
        refine V.reg rfl ?_
        refine mvi rfl ?_
        refine asi rfl ?_
        refine vnil ?_
        refine ⟨rfl, (_, _), ⟨rfl, rfl, rfl, rfl, rfl, rfl, rfl, rfl, rfl, rfl, rfl, rfl, rfl, rfl, rfl, rfl, rfl, rfl, rfl, rfl, rfl, rfl, trivial⟩, ⟨rfl, rfl, trivial⟩, ⟨z108, by omega, by omega, by omega, lo2, bs_hi hcm⟩, ?_⟩
        show (_ - lo).toNat < (hi - lo).toNat
        omega
      ·intro c102
       refine vnil ?_
       refine V.condF rfl ?_
       refine V.exit ?_
       refine V.reg rfl ?_
       refine mvs rfl ?_
       refine mvi rfl ?_
       refine mvi rfl ?_
       refine mvs rfl ?_
       refine mvs rfl ?_
       refine mvi rfl ?_
       refine vo ?_
       refine xcall e215 (rtimes_ok _ _ _ _ _ (SX S [w.heap.size]) _ _ (h2.ext z100) (Dg.dg (by decide) _) (by omega) ⟨by omega, by omega⟩ (SX.up (hu.mono (by omega)) (by simp; omega))) rfl rfl ?_
       rintro _ W111 ⟨_, _, _, rfl, x112, hh110, hh110b⟩
       have s113 := x112.sz
       have z114 := z100.trans x112
       have z115 := z101.trans x112
       replace hA := hA.ext x112
       rw [vl_dg (by decide) (by omega : 0 ≤ y)] at hh110
       have hh110l := hh110.len
       refine ⟨_, rfl, ?_⟩
       refine vo ?_
       refine xcall e203 (rsub_ok _ _ _ _ _ _ _ _ (SX S [w.heap.size]) _ _ _ (hr1.ext z115) (Dg.dg (by decide) _) hh110 (Int.mul_nonneg (by omega) lo0) (by rw [vl_dg (by decide) hTb.1, Int.mul_comm]; exact lo2) (by omega) (SX.up (hu.mono (by omega)) (by simp; omega))) rfl rfl ?_
       rintro _ W117 ⟨_, _, _, rfl, x118, hh116, hh116b⟩
       have s119 := x118.sz
       have z120 := z114.trans x118
       replace hA := hA.ext x118
       rw [vl_dg (by decide) hTb.1] at hh116
       have hh116l := hh116.len
       have hbe := bs_end (by omega) (by omega) hi2
       refine ⟨_, rfl, ?_⟩
       refine vv (rix sl73 sz3 rfl rfl (by omega) (by omega) rfl) ?_
       refine vo ?_
       refine xsti hA rfl rfl sz3 (by simp only [kb]; omega) (by omega) (by omega) ?_
       intro W122 y123 hA
       have z124 := z120.below (y123.below (by omega))
       have s125 := y123.size
       refine ass rfl ?_
       refine vnil ?_
       refine V.reg rfl ?_
       refine mvi rfl ?_
       refine vv (rbin (bSub (show IntKind.i64.wrap ((k : Int) - 1 - 1) = ((k - 1 : Nat) : Int) - 1 by rw [wi (by omega)]; omega)) rfl rfl) ?_
       refine asi rfl ?_
       refine vnil ?_
       refine ⟨rfl, (k - 1, _, _, _, _, _), ⟨rfl, rfl, rfl, rfl, rfl, trivial⟩, ⟨rfl, rfl, trivial⟩, ⟨z124, by omega, by rw [Int.mul_comm] at lo2; omega, by omega, hA, by rw [show ((k : Int) - 1).toNat = k - 1 by omega]; exact wd_zero_set (zeros_at (by omega) hz), by rw [show ((k : Int) - 1).toNat = k - 1 by omega]; exact Dg.set16 hdq lo0 (by omega), (hh116.ck (y123.ck (by intro hh; first | (simp [SX] at hh <;> omega) | omega))), by rw [show ((k : Int) - 1).toNat = k - 1 by omega]; exact quo_step (by omega) (zeros_at (by omega) hz) (by rw [show k - 1 + 1 = k by omega]; exact hinv) (by rw [show ((k - 1 : Nat) : Int) = (k : Int) - 1 by omega, ← hq76, Int.mul_comm y lo, hT])⟩, ?_⟩
       show k - 1 < k
       omega
     ·intro c93
      refine vnil ?_
      refine V.condF rfl ?_
      refine V.skip ?_
      refine V.seq ?_
      refine V.block ?_
      refine V.loopK (ι := Int × Int) [(0, .slice _ _ _), (1, .slice _ _ _), (4, .slice _ _ _), (5, .slice _ _ _), (6, .slice _ _ _), (9, .slice _ _ _), (10, .int _ _), (75, .int _ _), (76, .bool true), (79, .slice _ _ _), (80, .int _ _), (81, .pointer _), (82, .int _ _), (83, .slice _ _ _), (84, .slice _ _ _), (85, .slice _ _ _), (86, .slice _ _ _), (87, .slice _ _ _), (88, .int _ _), (89, .slice _ _ _), (90, .int _ _), (91, .bool false)] (fun ⟨lo, hi⟩ => [(11, .int .i64 lo), (12, .int .i64 hi)]) (fun ⟨lo, hi⟩ W => Ext W85 W ∧ 0 ≤ lo ∧ lo < hi ∧ hi ≤ 65536 ∧ lo * y ≤ T ∧ T < hi * y) (fun ⟨lo, hi⟩ => (hi - lo).toNat) ((_, _)) ⟨rfl, rfl, rfl, rfl, rfl, rfl, rfl, rfl, rfl, rfl, rfl, rfl, rfl, rfl, rfl, rfl, rfl, rfl, rfl, rfl, rfl, rfl, trivial⟩ ⟨rfl, rfl, trivial⟩ ⟨Ext.refl _, by omega, by omega, by omega, by omega, by omega⟩ ?_
      intro i127 E128 W126 h129
      obtain ⟨lo, hi⟩ := i127
      simp only at h129
      show V _ _ _ _ _ _ (ups (ups _ _) [(11, .int .i64 lo), (12, .int .i64 hi)]) _
      obtain ⟨x130, lo0, lohi, hi1, lo2, hi2⟩ := h129
      have s131 := x130.sz
      have z132 := z91.trans x130
      have z133 := x130
      replace hA := hA.ext x130
      refine V.seq ?_
      refine V.seq (V.reg rfl ?_)
      refine mvi rfl ?_
      refine mvi rfl ?_
      refine vv (rbin (bSub (wi (by omega))) rfl rfl) ?_
      refine vgt rfl rfl ?_ ?_
      ·intro c134
       refine vnil ?_
       refine V.condT rfl ?_
       refine V.skip ?_
       refine V.block ?_
       refine V.seq (V.reg rfl ?_)
       refine mvi rfl ?_
       refine mvi rfl ?_
       refine vv (rbin (bAdd (wi (by omega))) rfl rfl) ?_
       refine vv (rbin (bQuo (by omega) (wiq (by rw [Int.tdiv_eq_ediv_of_nonneg (by omega)]; omega) (Int.tdiv_eq_ediv_of_nonneg (by omega)))) rfl rfl) ?_
       refine asi rfl ?_
       refine vnil ?_
       refine V.seq (V.reg rfl ?_)
       refine mvs rfl ?_
       refine mvi rfl ?_
       refine vo ?_
       refine xcall e215 (rtimes_ok _ _ _ _ _ (SX S [w.heap.size]) _ _ (h2.ext z132) (Dg.dg (by decide) _) (by omega) ⟨by omega, by omega⟩ (SX.up (hu.mono (by omega)) (by simp; omega))) rfl rfl ?_
       rintro _ W136 ⟨_, _, _, rfl, x137, hh135, hh135b⟩
       have s138 := x137.sz
       have z140 := z133.trans x137
       replace hA := hA.ext x137
       rw [vl_dg (by decide) (by omega : 0 ≤ y)] at hh135
       have hh135l := hh135.len
       refine ⟨_, rfl, ?_⟩
       refine mvs rfl ?_
       refine vo ?_
       refine xcall e202 (rcmp_ok _ _ _ _ _ _ _ _ _ _ _ hh135 (Dg.dg (by decide) _) (hr1.ext z140) (Dg.dg (by decide) _)) rfl rfl ?_
       rintro _ _ ⟨rfl, rfl⟩
       refine ⟨_, rfl, ?_⟩
       refine vle rfl rfl ?_ ?_
       ·intro hcm
        have hmy : 0 ≤ y * ((lo + hi) / 2) := Int.mul_nonneg (by omega) (by omega)
        rw [vl_dg (by decide) hmy, vl_dg (by decide) hTb.1] at hcm
        refine vnil ?_
        refine V.condT rfl ?_
        refine V.reg rfl ?_
        refine mvi rfl ?_
        refine asi rfl ?_
        refine vnil ?_
        refine ⟨rfl, (_, _), ⟨rfl, rfl, rfl, rfl, rfl, rfl, rfl, rfl, rfl, rfl, rfl, rfl, rfl, rfl, rfl, rfl, rfl, rfl, rfl, rfl, rfl, rfl, trivial⟩, ⟨rfl, rfl, trivial⟩, ⟨z140, by omega, by omega, by omega, bs_lo hcm, hi2⟩, ?_⟩
        show (hi - _).toNat < (hi - lo).toNat
        omega
       ·intro hcm
        have hmy : 0 ≤ y * ((lo + hi) / 2) := Int.mul_nonneg (by omega) (by omega)
        rw [vl_dg (by decide) hmy, vl_dg (by decide) hTb.1] at hcm
        refine vnil ?_
        refine V.condF rfl ?_
        refine V.reg rfl ?_
        refine mvi rfl ?_
        refine asi rfl ?_
        refine vnil ?_
        refine ⟨rfl, (_, _), ⟨rfl, rfl, rfl, rfl, rfl, rfl, rfl, rfl, rfl, rfl, rfl, rfl, rfl, rfl, rfl, rfl, rfl, rfl, rfl, rfl, rfl, rfl, trivial⟩, ⟨rfl, rfl, trivial⟩, ⟨z140, by omega, by omega, by omega, lo2, bs_hi hcm⟩, ?_⟩
        show (_ - lo).toNat < (hi - lo).toNat
        omega
      ·intro c134
       refine vnil ?_
       refine V.condF rfl ?_
       refine V.exit ?_
       refine V.reg rfl ?_
       refine mvs rfl ?_
       refine mvi rfl ?_
       refine mvi rfl ?_
       refine mvs rfl ?_
       refine mvs rfl ?_
       refine mvi rfl ?_
       refine vo ?_
       refine xcall e215 (rtimes_ok _ _ _ _ _ (SX S [w.heap.size]) _ _ (h2.ext z132) (Dg.dg (by decide) _) (by omega) ⟨by omega, by omega⟩ (SX.up (hu.mono (by omega)) (by simp; omega))) rfl rfl ?_
       rintro _ W143 ⟨_, _, _, rfl, x144, hh142, hh142b⟩
       have s145 := x144.sz
       have z146 := z132.trans x144
       have z147 := z133.trans x144
       replace hA := hA.ext x144
       rw [vl_dg (by decide) (by omega : 0 ≤ y)] at hh142
       have hh142l := hh142.len
       refine ⟨_, rfl, ?_⟩
       refine vo ?_
       refine xcall e203 (rsub_ok _ _ _ _ _ _ _ _ (SX S [w.heap.size]) _ _ _ (hr1.ext z147) (Dg.dg (by decide) _) hh142 (Int.mul_nonneg (by omega) lo0) (by rw [vl_dg (by decide) hTb.1, Int.mul_comm]; exact lo2) (by omega) (SX.up (hu.mono (by omega)) (by simp; omega))) rfl rfl ?_
       rintro _ W149 ⟨_, _, _, rfl, x150, hh148, hh148b⟩
       have s151 := x150.sz
       have z152 := z146.trans x150
       replace hA := hA.ext x150
       rw [vl_dg (by decide) hTb.1] at hh148
       have hh148l := hh148.len
       have hbe := bs_end (by omega) (by omega) hi2
       refine ⟨_, rfl, ?_⟩
       refine vv (rix sl73 sz3 rfl rfl (by omega) (by omega) rfl) ?_
       refine vo ?_
       refine xsti hA rfl rfl sz3 (by simp only [kb]; omega) (by omega) (by omega) ?_
       intro W154 y155 hA
       have z156 := z152.below (y155.below (by omega))
       have s157 := y155.size
       refine ass rfl ?_
       refine vnil ?_
       refine V.reg rfl ?_
       refine mvi rfl ?_
       refine vv (rbin (bSub (show IntKind.i64.wrap ((k : Int) - 1 - 1) = ((k - 1 : Nat) : Int) - 1 by rw [wi (by omega)]; omega)) rfl rfl) ?_
       refine asi rfl ?_
       refine vnil ?_
       refine ⟨rfl, (k - 1, _, _, _, _, _), ⟨rfl, rfl, rfl, rfl, rfl, trivial⟩, ⟨rfl, rfl, trivial⟩, ⟨z156, by omega, by rw [Int.mul_comm] at lo2; omega, by omega, hA, by rw [show ((k : Int) - 1).toNat = k - 1 by omega]; exact wd_zero_set (zeros_at (by omega) hz), by rw [show ((k : Int) - 1).toNat = k - 1 by omega]; exact Dg.set16 hdq lo0 (by omega), (hh148.ck (y155.ck (by intro hh; first | (simp [SX] at hh <;> omega) | omega))), by rw [show ((k : Int) - 1).toNat = k - 1 by omega]; exact quo_step (by omega) (zeros_at (by omega) hz) (by rw [show k - 1 + 1 = k by omega]; exact hinv) (by rw [show ((k - 1 : Nat) : Int) = (k : Int) - 1 by omega, ← hq76, Int.mul_comm y lo, hT])⟩, ?_⟩
       show k - 1 < k
       omega
    ·intro c75
     refine vnil ?_
     refine V.condF rfl ?_
     refine V.exit ?_
     refine V.seq (V.reg rfl ?_)
     refine mvs rfl ?_
     refine vo ?_
     have hrq := hA.rn (S := S) (hu _ (by omega))
     refine xcall e211 (rtrim_ok _ _ _ _ _ _ hrq) rfl rfl ?_
     rintro _ _ ⟨m1, rfl, hr1, hm1, rfl⟩
     refine ⟨_, rfl, ?_⟩
     refine mvs rfl ?_
     refine ass rfl ?_
     refine ass rfl ?_
     refine vnil ?_
     refine V.ret ?_
     refine ⟨[.slice _ _ _, .slice _ _ _], ⟨rfl, rfl, trivial⟩, ?_⟩
     have e0 : k = 0 := (by omega)
     subst e0
     have hdm := divmod_of (u := x) (v := y) (q := vl b16 qs) (r := R) (by rw [hinv]; simp [vl]) r0 r1
     exact ⟨_, _, _, _, _, _, rfl, z74, hr1.cast (by rw [← dg_vl (by decide) hdq, hdm.1]), (hR).un.cast (by rw [hdm.2])⟩
 ·intro c1
  refine mvb rfl ?_
  refine vgn (b := false) rfl rfl ?_
  refine vgn (b := false) rfl rfl ?_
  refine vgn (b := false) rfl rfl ?_
  refine vv (rpk (v := .bool false) rfl rfl) ?_
  refine vnil ?_
  refine V.condF rfl ?_
  refine V.skip ?_
  refine V.seq (V.reg rfl ?_)
  refine mvs rfl ?_
  refine vv (rlen sl73 rfl) ?_
  refine vo ?_
  refine xmk (n) sl73 in3 (by simp [kb]) rfl rfl (by omega) (by omega) (by omega) ?_
  intro W159 x160 q n161
  have s162 := x160.sz
  have z163 := x160
  refine ass rfl ?_
  refine vnil ?_
  refine V.seq ?_
  refine V.seq (V.reg rfl ?_)
  refine mvs rfl ?_
  refine vv (rlen sl73 rfl) ?_
  refine veq rfl rfl ?_ ?_
  ·intro c164
   refine vnil ?_
   refine V.condT rfl ?_
   refine V.seq (V.reg rfl ?_)
   have hY : wd (dg b16 y) 0 = y := dg16_one (by omega) (by omega)
   have hy16 : y < 65536 := by have := vl_lt (B := b16) (by decide) (Dg.dg (B := b16) (by decide) y); rw [vl_dg (by decide) (by omega), show (dg b16 y).length = 1 by omega] at this; have e : b16 ^ 1 = 65536 := (by decide); omega
   refine asi rfl ?_
   refine vnil ?_
   refine V.seq ?_
   refine V.seq (V.reg rfl ?_)
   refine mvs rfl ?_
   refine vv (rlen sl73 rfl) ?_
   refine vv (rbin (bSub (wi (by omega))) rfl rfl) ?_
   refine asi rfl ?_
   refine vnil ?_
   refine V.block ?_
   refine V.loopK (ι := Nat × Int × List Int) [(0, .slice _ _ _), (1, .slice _ _ _), (4, .slice _ _ _), (5, .slice _ _ _), (6, .slice _ _ _)] (fun ⟨k, r, qs⟩ => [(8, .int .i64 ((k : Int) - 1)), (7, .int .i64 r)]) (fun ⟨k, r, qs⟩ W => Ext w W ∧ k ≤ n ∧ 0 ≤ r ∧ r < y ∧ AR .i64 W (w.heap.size) 3 n qs ∧ (∀ j : Nat, j < k → wd qs j = 0) ∧ Dg b16 qs ∧ x = vl b16 qs * y + b16 ^ k * r + vl b16 ((dg b16 x).take k)) (fun ⟨k, r, qs⟩ => k) ((n, 0, _)) ⟨rfl, rfl, rfl, rfl, rfl, trivial⟩ ⟨rfl, rfl, trivial⟩ ⟨z163, Nat.le_refl _, by omega, by omega, q, fun j _ => wd_zeros _ _, Dg.zeros _, by rw [vl_zeros, List.take_of_length_le (by omega), vl_dg (by decide) hx]; omega⟩ ?_
   intro i166 E167 W165 h168
   obtain ⟨k, r, qs⟩ := i166
   simp only at h168
   show V _ _ _ _ _ _ (ups (ups _ _) [(8, .int .i64 ((k : Int) - 1)), (7, .int .i64 r)]) _
   obtain ⟨x169, hk, r0, r1, hA, hz, hdq, hinv⟩ := h168
   have s170 := x169.sz
   have z171 := x169
   have lA := hA.len; have lbq := hA.box.lt
   refine V.seq ?_
   refine V.seq (V.reg rfl ?_)
   refine mvi rfl ?_
   refine vge rfl rfl ?_ ?_
   ·intro c172
    have hwb : 0 ≤ wd (dg b16 x) ((k : Int) - 1) ∧ wd (dg b16 x) ((k : Int) - 1) < 65536 := wd_dg (B := b16) (by decide) (Dg.dg (B := b16) (by decide) x) ((k : Int) - 1)
    refine vnil ?_
    refine V.condT rfl ?_
    refine V.skip ?_
    refine V.seq ?_
    refine V.block ?_
    refine V.seq (V.reg rfl ?_)
    refine mvi rfl ?_
    refine vv (rbin (bMul (wi (by omega))) rfl rfl) ?_
    refine mvs rfl ?_
    refine mvi rfl ?_
    refine vv (rixn (h.ext z171) sl73 sz3 rfl rfl (by omega) (by omega)) ?_
    refine vldN (h.ext z171) rfl sc3 (by omega) (by omega) ?_
    intro q173 hq173 hk174
    simp only [kb] at hk174
    have hxq : 0 ≤ q173 ∧ q173 < 65536 := by rw [hq173]; exact hwb
    have hdf := div_facts16 (v := wd (dg b16 y) 0) (by omega) r0 (by omega) hxq.1 hxq.2
    refine vv (rbin (bAdd (wi (by omega))) rfl rfl) ?_
    refine asi rfl ?_
    refine vnil ?_
    refine V.regS (fun W => KD (fun q => q < w.heap.size) W) mixed rfl ?_
    intro W175 x176
    have s177 := x176.sz
    have z178 := z171.trans x176
    replace hA := hA.ext x176
    have q180 := KD.refl (fun q => q < w.heap.size) W175
    have r181 := hA
    refine tk 0 rfl (by kernel_rfl) q180 (pv (fun _ y182 => rmv (v := .slice _ _ _) rfl)) ?_
    refine tk 1 rfl (by kernel_rfl) q180 (pv (fun _ y183 => rmv (v := .int _ _) rfl)) ?_
    refine tk 2 rfl (by kernel_rfl) q180 (pv (fun _ y184 => rmv (v := .int _ _) rfl)) ?_
    refine tk 3 rfl (by kernel_rfl) q180 (pv (fun _ y185 => rmv (v := .slice _ _ _) rfl)) ?_
    refine tk 4 rfl (by kernel_rfl) q180 (pv (fun _ y186 => rixn ((h2.ext z178).ck (y186).ck) sl73 sz3 rfl rfl (by omega) (by omega))) ?_
    refine tk 5 rfl (by kernel_rfl) q180 (pv (fun _ y187 => rldN ((h2.ext z178).ck (y187).ck) rfl sc3 (by omega) (by omega))) ?_
    refine tk 6 rfl (by kernel_rfl) q180 (pv (fun _ y188 => rbin (bQuo (by omega) (wiq (by rw [Int.tdiv_eq_ediv_of_nonneg (by omega)]; omega) (Int.tdiv_eq_ediv_of_nonneg (by omega)))) rfl rfl)) ?_
    refine tk 7 rfl (by kernel_rfl) q180 (pv (fun _ y189 => rmv (v := .int _ _) rfl)) ?_
    refine tk 8 rfl (by kernel_rfl) q180 (pv (fun _ y190 => rmv (v := .slice _ _ _) rfl)) ?_
    refine tk 9 rfl (by kernel_rfl) q180 (pv (fun _ y191 => rixn ((h2.ext z178).ck (y191).ck) sl73 sz3 rfl rfl (by omega) (by omega))) ?_
    refine tk 10 rfl (by kernel_rfl) q180 (pv (fun _ y192 => rldN ((h2.ext z178).ck (y192).ck) rfl sc3 (by omega) (by omega))) ?_
    refine tk 11 rfl (by kernel_rfl) q180 (pv (fun _ y193 => rbin (bRem (by omega) (Int.tmod_eq_emod_of_nonneg (by omega))) rfl rfl)) ?_
    refine tk 12 rfl (by kernel_rfl) q180 (pv (fun _ y194 => rix sl73 sz3 rfl rfl (by omega) (by omega) rfl)) ?_
    refine ef 13 (by kernel_rfl) rfl ?_
    refine xsti hA rfl rfl sz3 (by simp only [kb]; omega) (by omega) (by omega) ?_
    intro W195 y196 hA
    have z197 := z178.below (y196.below (by omega))
    have q198 := q180.trans (y196.kd (fun hh => by have hh2 : w.heap.size < w.heap.size := hh; omega))
    have s199 := y196.size
    refine ⟨fun _ => q198, ?_⟩
    refine tk 14 rfl (by kernel_rfl) q198 (pv (fun _ y200 => ras (v := .int _ _) rfl)) ?_
    refine dn (by kernel_rfl) ?_
    refine V.reg rfl ?_
    refine mvi rfl ?_
    refine vv (rbin (bSub (show IntKind.i64.wrap ((k : Int) - 1 - 1) = ((k - 1 : Nat) : Int) - 1 by rw [wi (by omega)]; omega)) rfl rfl) ?_
    refine asi rfl ?_
    refine vnil ?_
    refine ⟨rfl, (k - 1, _, _), ⟨rfl, rfl, rfl, rfl, rfl, trivial⟩, ⟨rfl, rfl, trivial⟩, ⟨z197, by omega, by omega, by omega, hA, by rw [show ((k : Int) - 1).toNat = k - 1 by omega]; exact wd_zero_set (zeros_at (by omega) hz), by rw [show ((k : Int) - 1).toNat = k - 1 by omega]; exact Dg.set16 hdq hdf.1 hdf.2.1, by rw [show ((k : Int) - 1).toNat = k - 1 by omega]; exact quo_step (by omega) (zeros_at (by omega) hz) (by rw [show k - 1 + 1 = k by omega]; exact hinv) (by rw [show ((k - 1 : Nat) : Int) = (k : Int) - 1 by omega, ← hq173, hdf.2.2.2.2, hY])⟩, ?_⟩
    show k - 1 < k
    omega
   ·intro c172
    refine vnil ?_
    refine V.condF rfl ?_
    refine V.exit ?_
    refine V.seq (V.reg rfl ?_)
    refine mvs rfl ?_
    refine vo ?_
    have hrq := hA.rn (S := S) (hu _ (by omega))
    refine xcall e211 (rtrim_ok _ _ _ _ _ _ hrq) rfl rfl ?_
    rintro _ _ ⟨m1, rfl, hr1, hm1, rfl⟩
    refine ⟨_, rfl, ?_⟩
    refine mvi rfl ?_
    refine vo ?_
    refine xbs (ps := [(0, .int _ _)]) (cs := [.int _ _]) sl73 zr3 sz3 rfl rfl rfl rfl rfl rfl ?_
    intro W202 x203 b204 nn205
    have s206 := x203.sz
    have z207 := z171.trans x203
    replace hA := hA.ext x203
    refine vo ?_
    have hl208 := RN.lit (k := .i64) (xs := [_]) 1 b204 (by intro q hq; simp only [List.mem_cons, List.not_mem_nil, or_false] at hq; simp only [kb]; omega) ((hu.mono (show w.heap.size ≤ W165.heap.size by omega)) _ (Nat.le_refl _))
    refine xcall e211 (rtrim_ok _ _ _ _ _ _ hl208) rfl rfl ?_
    rintro _ _ ⟨m2, rfl, hr2, hm2, rfl⟩
    refine ⟨_, rfl, ?_⟩
    refine ass rfl ?_
    refine ass rfl ?_
    refine vnil ?_
    refine V.ret ?_
    refine ⟨[.slice _ _ _, .slice _ _ _], ⟨rfl, rfl, trivial⟩, ?_⟩
    have e0 : k = 0 := (by omega)
    subst e0
    have hdm := divmod_of (u := x) (v := y) (q := vl b16 qs) (r := r) (by rw [hinv]; simp [vl]) r0 r1
    exact ⟨_, _, _, _, _, _, rfl, z207, (hr1.ext x203).cast (by rw [← dg_vl (by decide) hdq, hdm.1]), hr2.cast (by rw [dg16_small r0 (by omega), hdm.2])⟩
  ·intro c164
   refine vnil ?_
   refine V.condF rfl ?_
   refine V.skip ?_
   refine V.seq (V.reg rfl ?_)
   refine ass rfl ?_
   refine vnil ?_
   refine V.seq ?_
   refine V.seq (V.reg rfl ?_)
   refine mvs rfl ?_
   refine vv (rlen sl73 rfl) ?_
   refine vv (rbin (bSub (wi (by omega))) rfl rfl) ?_
   refine asi rfl ?_
   refine vnil ?_
   refine V.block ?_
   refine V.loopK (ι := Nat × Int × List Int × Option Addr × Nat × Nat) [(0, .slice _ _ _), (1, .slice _ _ _), (4, .slice _ _ _), (5, .slice _ _ _), (6, .slice _ _ _)] (fun ⟨k, R, qs, ra, rn, rc⟩ => [(10, .int .i64 ((k : Int) - 1)), (9, .slice ra rn rc)]) (fun ⟨k, R, qs, ra, rn, rc⟩ W => Ext w W ∧ k ≤ n ∧ 0 ≤ R ∧ R < y ∧ AR .i64 W (w.heap.size) 3 n qs ∧ (∀ j : Nat, j < k → wd qs j = 0) ∧ Dg b16 qs ∧ RN .i64 (SX S [w.heap.size]) W ra rn rc (dg b16 R) ∧ x = vl b16 qs * y + b16 ^ k * R + vl b16 ((dg b16 x).take k)) (fun ⟨k, R, qs, ra, rn, rc⟩ => k) ((n, 0, _, _, _, _)) ⟨rfl, rfl, rfl, rfl, rfl, trivial⟩ ⟨rfl, rfl, trivial⟩ ⟨z163, Nat.le_refl _, by omega, by omega, q, fun j _ => wd_zeros _ _, Dg.zeros _, by rw [dg_zero]; exact RN.nil _ _ _ _ _ (by omega), by rw [vl_zeros, List.take_of_length_le (by omega), vl_dg (by decide) hx]; omega⟩ ?_
   intro i211 E212 W210 h213
   obtain ⟨k, R, qs, ra, rn, rc⟩ := i211
   simp only at h213
   show V _ _ _ _ _ _ (ups (ups _ _) [(10, .int .i64 ((k : Int) - 1)), (9, .slice ra rn rc)]) _
   obtain ⟨x214, hk, r0, r1, hA, hz, hdq, hR, hinv⟩ := h213
   have s215 := x214.sz
   have z216 := x214
   have lA := hA.len; have lbq := hA.box.lt
   have hRl := hR.len; have hRm := dg16_mono r0 (show R ≤ y by omega)
   refine V.seq ?_
   refine V.seq (V.reg rfl ?_)
   refine mvi rfl ?_
   refine vge rfl rfl ?_ ?_
   ·intro c217
    have hwb : 0 ≤ wd (dg b16 x) ((k : Int) - 1) ∧ wd (dg b16 x) ((k : Int) - 1) < 65536 := wd_dg (B := b16) (by decide) (Dg.dg (B := b16) (by decide) x) ((k : Int) - 1)
    refine vnil ?_
    refine V.condT rfl ?_
    refine V.skip ?_
    refine V.seq ?_
    refine V.block ?_
    refine V.seq (V.reg rfl ?_)
    refine mvs rfl ?_
    refine mvi rfl ?_
    refine vv (rixn (h.ext z216) sl73 sz3 rfl rfl (by omega) (by omega)) ?_
    refine vldN (h.ext z216) rfl sc3 (by omega) (by omega) ?_
    intro q218 hq218 hk219
    simp only [kb] at hk219
    refine vo ?_
    refine xbs (ps := [(0, .int _ _)]) (cs := [.int _ _]) sl73 zr3 sz3 rfl rfl rfl rfl rfl rfl ?_
    intro W220 x221 b222 nn223
    have s224 := x221.sz
    have z225 := z216.trans x221
    replace hA := hA.ext x221
    refine mvs rfl ?_
    refine vo ?_
    refine xappN sl73 in3 (OI.lit (B := W210.heap.size) (k := .i64) (xs := [_]) b222 (by intro q hq; simp only [List.mem_cons, List.not_mem_nil, or_false] at hq; simp only [kb]; omega) (by omega)) rfl rfl (hR.ext x221) (by simp only [List.length_cons, List.length_nil]; omega) (by decide) (by omega) ?_
    intro v226 W227 hO228 hg229 ho230
    have y231 := grown_below hg229 (by omega) (fun b e => ((OI.lit (B := W210.heap.size) (k := .i64) (xs := [_]) b222 (by intro q hq; simp only [List.mem_cons, List.not_mem_nil, or_false] at hq; simp only [kb]; omega) (by omega)).low b e).1)
    have s232 := y231.size
    have z233 := z225.below (y231.mono (by omega))
    replace hA := hA.bl y231 (by omega)
    refine vo ?_
    obtain ⟨a', c', rfl⟩ := hO228.form
    have hrn := hO228.rn (S := SX S [w.heap.size]) (fun b hb _ => (SX.up (hu.mono (show w.heap.size ≤ W210.heap.size by omega)) (by simp; omega) : Up (SX S [w.heap.size]) W210) b (by omega))
    refine xcall e211 (rtrim_ok _ _ _ _ _ _ hrn) rfl rfl ?_
    rintro _ _ ⟨m1, rfl, hr1, hm1, rfl⟩
    have hxq : 0 ≤ q218 ∧ q218 < 65536 := by rw [hq218]; exact hwb
    obtain ⟨T, hT⟩ : ∃ T, T = R * 65536 + q218 := ⟨_, rfl⟩
    replace hr1 : RN .i64 (SX S [w.heap.size]) _ _ _ _ (dg b16 T) := hr1.cast (by rw [hT]; exact dg16_cons hxq.1 hxq.2 r0)
    have hrl := hr1.len
    simp only [List.length_append, List.length_cons, List.length_nil] at hm1
    have hTb : 0 ≤ T ∧ T < 65536 * y := by rw [hT]; exact R_bd r0 r1 hxq.1 hxq.2
    refine ⟨_, rfl, ?_⟩
    refine ass rfl ?_
    refine vnil ?_
    refine V.seq (V.reg rfl ?_)
    refine asi rfl ?_
    refine asi rfl ?_
    refine vnil ?_
    refine V.seq ?_
    refine V.seq (V.reg rfl ?_)
    refine mvs rfl ?_
    refine vv (rlen sl73 rfl) ?_
    refine mvs rfl ?_
    refine vv (rlen sl73 rfl) ?_
    refine vlt rfl rfl ?_ ?_
    ·intro c235
     refine vnil ?_
     refine V.condT rfl ?_
     refine V.reg rfl ?_
     refine asi rfl ?_
     refine vnil ?_
     refine V.seq ?_
     refine V.block ?_
     refine V.loopK (ι := Int × Int) [(0, .slice _ _ _), (1, .slice _ _ _), (4, .slice _ _ _), (5, .slice _ _ _), (6, .slice _ _ _), (9, .slice _ _ _), (10, .int _ _), (75, .int _ _), (76, .bool true), (79, .slice _ _ _), (80, .int _ _), (81, .pointer _), (82, .int _ _), (83, .slice _ _ _), (84, .slice _ _ _), (85, .slice _ _ _), (86, .slice _ _ _), (87, .slice _ _ _), (88, .int _ _), (89, .slice _ _ _), (90, .int _ _), (91, .bool true)] (fun ⟨lo, hi⟩ => [(11, .int .i64 lo), (12, .int .i64 hi)]) (fun ⟨lo, hi⟩ W => Ext W227 W ∧ 0 ≤ lo ∧ lo < hi ∧ hi ≤ 65536 ∧ lo * y ≤ T ∧ T < hi * y) (fun ⟨lo, hi⟩ => (hi - lo).toNat) ((_, _)) ⟨rfl, rfl, rfl, rfl, rfl, rfl, rfl, rfl, rfl, rfl, rfl, rfl, rfl, rfl, rfl, rfl, rfl, rfl, rfl, rfl, rfl, rfl, trivial⟩ ⟨rfl, rfl, trivial⟩ ⟨Ext.refl _, by omega, by omega, by omega, by omega, by have := dg16_len_lt (by omega) hTb.1 (show (dg b16 T).length < (dg b16 y).length by omega); omega⟩ ?_
     intro i237 E238 W236 h239
     obtain ⟨lo, hi⟩ := i237
     simp only at h239
     show V _ _ _ _ _ _ (ups (ups _ _) [(11, .int .i64 lo), (12, .int .i64 hi)]) _
     obtain ⟨x240, lo0, lohi, hi1, lo2, hi2⟩ := h239
     have s241 := x240.sz
     have z242 := z233.trans x240
     have z243 := x240
     replace hA := hA.ext x240
     refine V.seq ?_
     refine V.seq (V.reg rfl ?_)
     refine mvi rfl ?_
     refine mvi rfl ?_
     refine vv (rbin (bSub (wi (by omega))) rfl rfl) ?_
     refine vgt rfl rfl ?_ ?_
     ·intro c244
      refine vnil ?_
      refine V.condT rfl ?_
      refine V.skip ?_
      refine V.block ?_
      refine V.seq (V.reg rfl ?_)
      refine mvi rfl ?_
      refine mvi rfl ?_
      refine vv (rbin (bAdd (wi (by omega))) rfl rfl) ?_
      refine vv (rbin (bQuo (by omega) (wiq (by rw [Int.tdiv_eq_ediv_of_nonneg (by omega)]; omega) (Int.tdiv_eq_ediv_of_nonneg (by omega)))) rfl rfl) ?_
      refine asi rfl ?_
      refine vnil ?_
      refine V.seq (V.reg rfl ?_)
      refine mvs rfl ?_
      refine mvi rfl ?_
      refine vo ?_
      refine xcall e215 (rtimes_ok _ _ _ _ _ (SX S [w.heap.size]) _ _ (h2.ext z242) (Dg.dg (by decide) _) (by omega) ⟨by omega, by omega⟩ (SX.up (hu.mono (by omega)) (by simp; omega))) rfl rfl ?_
      rintro _ W246 ⟨_, _, _, rfl, x247, hh245, hh245b⟩
      have s248 := x247.sz
      have z250 := z243.trans x247
      replace hA := hA.ext x247
      rw [vl_dg (by decide) (by omega : 0 ≤ y)] at hh245
      have hh245l := hh245.len
      refine ⟨_, rfl, ?_⟩
      refine mvs rfl ?_
      refine vo ?_
      refine xcall e202 (rcmp_ok _ _ _ _ _ _ _ _ _ _ _ hh245 (Dg.dg (by decide) _) (hr1.ext z250) (Dg.dg (by decide) _)) rfl rfl ?_
      rintro _ _ ⟨rfl, rfl⟩
      refine ⟨_, rfl, ?_⟩
      refine vle rfl rfl ?_ ?_
      ·intro hcm
       have hmy : 0 ≤ y * ((lo + hi) / 2) := Int.mul_nonneg (by omega) (by omega)
       rw [vl_dg (by decide) hmy, vl_dg (by decide) hTb.1] at hcm
       refine vnil ?_
       refine V.condT rfl ?_
       refine V.reg rfl ?_
       refine mvi rfl ?_
       refine asi rfl ?_
       refine vnil ?_
       refine ⟨rfl, (_, _), ⟨rfl, rfl, rfl, rfl, rfl, rfl, rfl, rfl, rfl, rfl, rfl, rfl, rfl, rfl, rfl, rfl, rfl, rfl, rfl, rfl, rfl, rfl, trivial⟩, ⟨rfl, rfl, trivial⟩, ⟨z250, by omega, by omega, by omega, bs_lo hcm, hi2⟩, ?_⟩
       show (hi - _).toNat < (hi - lo).toNat
       omega
      ·intro hcm
       have hmy : 0 ≤ y * ((lo + hi) / 2) := Int.mul_nonneg (by omega) (by omega)
       rw [vl_dg (by decide) hmy, vl_dg (by decide) hTb.1] at hcm
       refine vnil ?_
       refine V.condF rfl ?_
       refine V.reg rfl ?_
       refine mvi rfl ?_
       refine asi rfl ?_
       refine vnil ?_
       refine ⟨rfl, (_, _), ⟨rfl, rfl, rfl, rfl, rfl, rfl, rfl, rfl, rfl, rfl, rfl, rfl, rfl, rfl, rfl, rfl, rfl, rfl, rfl, rfl, rfl, rfl, trivial⟩, ⟨rfl, rfl, trivial⟩, ⟨z250, by omega, by omega, by omega, lo2, bs_hi hcm⟩, ?_⟩
       show (_ - lo).toNat < (hi - lo).toNat
       omega
     ·intro c244
      refine vnil ?_
      refine V.condF rfl ?_
      refine V.exit ?_
      refine V.reg rfl ?_
      refine mvs rfl ?_
      refine mvi rfl ?_
      refine mvi rfl ?_
      refine mvs rfl ?_
      refine mvs rfl ?_
      refine mvi rfl ?_
      refine vo ?_
      refine xcall e215 (rtimes_ok _ _ _ _ _ (SX S [w.heap.size]) _ _ (h2.ext z242) (Dg.dg (by decide) _) (by omega) ⟨by omega, by omega⟩ (SX.up (hu.mono (by omega)) (by simp; omega))) rfl rfl ?_
      rintro _ W253 ⟨_, _, _, rfl, x254, hh252, hh252b⟩
      have s255 := x254.sz
      have z256 := z242.trans x254
      have z257 := z243.trans x254
      replace hA := hA.ext x254
      rw [vl_dg (by decide) (by omega : 0 ≤ y)] at hh252
      have hh252l := hh252.len
      refine ⟨_, rfl, ?_⟩
      refine vo ?_
      refine xcall e203 (rsub_ok _ _ _ _ _ _ _ _ (SX S [w.heap.size]) _ _ _ (hr1.ext z257) (Dg.dg (by decide) _) hh252 (Int.mul_nonneg (by omega) lo0) (by rw [vl_dg (by decide) hTb.1, Int.mul_comm]; exact lo2) (by omega) (SX.up (hu.mono (by omega)) (by simp; omega))) rfl rfl ?_
      rintro _ W259 ⟨_, _, _, rfl, x260, hh258, hh258b⟩
      have s261 := x260.sz
      have z262 := z256.trans x260
      replace hA := hA.ext x260
      rw [vl_dg (by decide) hTb.1] at hh258
      have hh258l := hh258.len
      have hbe := bs_end (by omega) (by omega) hi2
      refine ⟨_, rfl, ?_⟩
      refine vv (rix sl73 sz3 rfl rfl (by omega) (by omega) rfl) ?_
      refine vo ?_
      refine xsti hA rfl rfl sz3 (by simp only [kb]; omega) (by omega) (by omega) ?_
      intro W264 y265 hA
      have z266 := z262.below (y265.below (by omega))
      have s267 := y265.size
      refine ass rfl ?_
      refine vnil ?_
      refine V.reg rfl ?_
      refine mvi rfl ?_
      refine vv (rbin (bSub (show IntKind.i64.wrap ((k : Int) - 1 - 1) = ((k - 1 : Nat) : Int) - 1 by rw [wi (by omega)]; omega)) rfl rfl) ?_
      refine asi rfl ?_
      refine vnil ?_
      refine ⟨rfl, (k - 1, _, _, _, _, _), ⟨rfl, rfl, rfl, rfl, rfl, trivial⟩, ⟨rfl, rfl, trivial⟩, ⟨z266, by omega, by rw [Int.mul_comm] at lo2; omega, by omega, hA, by rw [show ((k : Int) - 1).toNat = k - 1 by omega]; exact wd_zero_set (zeros_at (by omega) hz), by rw [show ((k : Int) - 1).toNat = k - 1 by omega]; exact Dg.set16 hdq lo0 (by omega), (hh258.ck (y265.ck (by intro hh; first | (simp [SX] at hh <;> omega) | omega))), by rw [show ((k : Int) - 1).toNat = k - 1 by omega]; exact quo_step (by omega) (zeros_at (by omega) hz) (by rw [show k - 1 + 1 = k by omega]; exact hinv) (by rw [show ((k - 1 : Nat) : Int) = (k : Int) - 1 by omega, ← hq218, Int.mul_comm y lo, hT])⟩, ?_⟩
      show k - 1 < k
      omega
    ·intro c235
     refine vnil ?_
     refine V.condF rfl ?_
     refine V.skip ?_
     refine V.seq ?_
     refine V.block ?_
     refine V.loopK (ι := Int × Int) [(0, .slice _ _ _), (1, .slice _ _ _), (4, .slice _ _ _), (5, .slice _ _ _), (6, .slice _ _ _), (9, .slice _ _ _), (10, .int _ _), (75, .int _ _), (76, .bool true), (79, .slice _ _ _), (80, .int _ _), (81, .pointer _), (82, .int _ _), (83, .slice _ _ _), (84, .slice _ _ _), (85, .slice _ _ _), (86, .slice _ _ _), (87, .slice _ _ _), (88, .int _ _), (89, .slice _ _ _), (90, .int _ _), (91, .bool false)] (fun ⟨lo, hi⟩ => [(11, .int .i64 lo), (12, .int .i64 hi)]) (fun ⟨lo, hi⟩ W => Ext W227 W ∧ 0 ≤ lo ∧ lo < hi ∧ hi ≤ 65536 ∧ lo * y ≤ T ∧ T < hi * y) (fun ⟨lo, hi⟩ => (hi - lo).toNat) ((_, _)) ⟨rfl, rfl, rfl, rfl, rfl, rfl, rfl, rfl, rfl, rfl, rfl, rfl, rfl, rfl, rfl, rfl, rfl, rfl, rfl, rfl, rfl, rfl, trivial⟩ ⟨rfl, rfl, trivial⟩ ⟨Ext.refl _, by omega, by omega, by omega, by omega, by omega⟩ ?_
     intro i269 E270 W268 h271
     obtain ⟨lo, hi⟩ := i269
     simp only at h271
     show V _ _ _ _ _ _ (ups (ups _ _) [(11, .int .i64 lo), (12, .int .i64 hi)]) _
     obtain ⟨x272, lo0, lohi, hi1, lo2, hi2⟩ := h271
     have s273 := x272.sz
     have z274 := z233.trans x272
     have z275 := x272
     replace hA := hA.ext x272
     refine V.seq ?_
     refine V.seq (V.reg rfl ?_)
     refine mvi rfl ?_
     refine mvi rfl ?_
     refine vv (rbin (bSub (wi (by omega))) rfl rfl) ?_
     refine vgt rfl rfl ?_ ?_
     ·intro c276
      refine vnil ?_
      refine V.condT rfl ?_
      refine V.skip ?_
      refine V.block ?_
      refine V.seq (V.reg rfl ?_)
      refine mvi rfl ?_
      refine mvi rfl ?_
      refine vv (rbin (bAdd (wi (by omega))) rfl rfl) ?_
      refine vv (rbin (bQuo (by omega) (wiq (by rw [Int.tdiv_eq_ediv_of_nonneg (by omega)]; omega) (Int.tdiv_eq_ediv_of_nonneg (by omega)))) rfl rfl) ?_
      refine asi rfl ?_
      refine vnil ?_
      refine V.seq (V.reg rfl ?_)
      refine mvs rfl ?_
      refine mvi rfl ?_
      refine vo ?_
      refine xcall e215 (rtimes_ok _ _ _ _ _ (SX S [w.heap.size]) _ _ (h2.ext z274) (Dg.dg (by decide) _) (by omega) ⟨by omega, by omega⟩ (SX.up (hu.mono (by omega)) (by simp; omega))) rfl rfl ?_
      rintro _ W278 ⟨_, _, _, rfl, x279, hh277, hh277b⟩
      have s280 := x279.sz
      have z282 := z275.trans x279
      replace hA := hA.ext x279
      rw [vl_dg (by decide) (by omega : 0 ≤ y)] at hh277
      have hh277l := hh277.len
      refine ⟨_, rfl, ?_⟩
      refine mvs rfl ?_
      refine vo ?_
      refine xcall e202 (rcmp_ok _ _ _ _ _ _ _ _ _ _ _ hh277 (Dg.dg (by decide) _) (hr1.ext z282) (Dg.dg (by decide) _)) rfl rfl ?_
      rintro _ _ ⟨rfl, rfl⟩
      refine ⟨_, rfl, ?_⟩
      refine vle rfl rfl ?_ ?_
      ·intro hcm
       have hmy : 0 ≤ y * ((lo + hi) / 2) := Int.mul_nonneg (by omega) (by omega)
       rw [vl_dg (by decide) hmy, vl_dg (by decide) hTb.1] at hcm
       refine vnil ?_
       refine V.condT rfl ?_
       refine V.reg rfl ?_
       refine mvi rfl ?_
       refine asi rfl ?_
       refine vnil ?_
       refine ⟨rfl, (_, _), ⟨rfl, rfl, rfl, rfl, rfl, rfl, rfl, rfl, rfl, rfl, rfl, rfl, rfl, rfl, rfl, rfl, rfl, rfl, rfl, rfl, rfl, rfl, trivial⟩, ⟨rfl, rfl, trivial⟩, ⟨z282, by omega, by omega, by omega, bs_lo hcm, hi2⟩, ?_⟩
       show (hi - _).toNat < (hi - lo).toNat
       omega
      ·intro hcm
       have hmy : 0 ≤ y * ((lo + hi) / 2) := Int.mul_nonneg (by omega) (by omega)
       rw [vl_dg (by decide) hmy, vl_dg (by decide) hTb.1] at hcm
       refine vnil ?_
       refine V.condF rfl ?_
       refine V.reg rfl ?_
       refine mvi rfl ?_
       refine asi rfl ?_
       refine vnil ?_
       refine ⟨rfl, (_, _), ⟨rfl, rfl, rfl, rfl, rfl, rfl, rfl, rfl, rfl, rfl, rfl, rfl, rfl, rfl, rfl, rfl, rfl, rfl, rfl, rfl, rfl, rfl, trivial⟩, ⟨rfl, rfl, trivial⟩, ⟨z282, by omega, by omega, by omega, lo2, bs_hi hcm⟩, ?_⟩
       show (_ - lo).toNat < (hi - lo).toNat
       omega
     ·intro c276
      refine vnil ?_
      refine V.condF rfl ?_
      refine V.exit ?_
      refine V.reg rfl ?_
      refine mvs rfl ?_
      refine mvi rfl ?_
      refine mvi rfl ?_
      refine mvs rfl ?_
      refine mvs rfl ?_
      refine mvi rfl ?_
      refine vo ?_
      refine xcall e215 (rtimes_ok _ _ _ _ _ (SX S [w.heap.size]) _ _ (h2.ext z274) (Dg.dg (by decide) _) (by omega) ⟨by omega, by omega⟩ (SX.up (hu.mono (by omega)) (by simp; omega))) rfl rfl ?_
      rintro _ W285 ⟨_, _, _, rfl, x286, hh284, hh284b⟩
      have s287 := x286.sz
      have z288 := z274.trans x286
      have z289 := z275.trans x286
      replace hA := hA.ext x286
      rw [vl_dg (by decide) (by omega : 0 ≤ y)] at hh284
      have hh284l := hh284.len
      refine ⟨_, rfl, ?_⟩
      refine vo ?_
      refine xcall e203 (rsub_ok _ _ _ _ _ _ _ _ (SX S [w.heap.size]) _ _ _ (hr1.ext z289) (Dg.dg (by decide) _) hh284 (Int.mul_nonneg (by omega) lo0) (by rw [vl_dg (by decide) hTb.1, Int.mul_comm]; exact lo2) (by omega) (SX.up (hu.mono (by omega)) (by simp; omega))) rfl rfl ?_
      rintro _ W291 ⟨_, _, _, rfl, x292, hh290, hh290b⟩
      have s293 := x292.sz
      have z294 := z288.trans x292
      replace hA := hA.ext x292
      rw [vl_dg (by decide) hTb.1] at hh290
      have hh290l := hh290.len
      have hbe := bs_end (by omega) (by omega) hi2
      refine ⟨_, rfl, ?_⟩
      refine vv (rix sl73 sz3 rfl rfl (by omega) (by omega) rfl) ?_
      refine vo ?_
      refine xsti hA rfl rfl sz3 (by simp only [kb]; omega) (by omega) (by omega) ?_
      intro W296 y297 hA
      have z298 := z294.below (y297.below (by omega))
      have s299 := y297.size
      refine ass rfl ?_
      refine vnil ?_
      refine V.reg rfl ?_
      refine mvi rfl ?_
      refine vv (rbin (bSub (show IntKind.i64.wrap ((k : Int) - 1 - 1) = ((k - 1 : Nat) : Int) - 1 by rw [wi (by omega)]; omega)) rfl rfl) ?_
      refine asi rfl ?_
      refine vnil ?_
      refine ⟨rfl, (k - 1, _, _, _, _, _), ⟨rfl, rfl, rfl, rfl, rfl, trivial⟩, ⟨rfl, rfl, trivial⟩, ⟨z298, by omega, by rw [Int.mul_comm] at lo2; omega, by omega, hA, by rw [show ((k : Int) - 1).toNat = k - 1 by omega]; exact wd_zero_set (zeros_at (by omega) hz), by rw [show ((k : Int) - 1).toNat = k - 1 by omega]; exact Dg.set16 hdq lo0 (by omega), (hh290.ck (y297.ck (by intro hh; first | (simp [SX] at hh <;> omega) | omega))), by rw [show ((k : Int) - 1).toNat = k - 1 by omega]; exact quo_step (by omega) (zeros_at (by omega) hz) (by rw [show k - 1 + 1 = k by omega]; exact hinv) (by rw [show ((k - 1 : Nat) : Int) = (k : Int) - 1 by omega, ← hq218, Int.mul_comm y lo, hT])⟩, ?_⟩
      show k - 1 < k
      omega
   ·intro c217
    refine vnil ?_
    refine V.condF rfl ?_
    refine V.exit ?_
    refine V.seq (V.reg rfl ?_)
    refine mvs rfl ?_
    refine vo ?_
    have hrq := hA.rn (S := S) (hu _ (by omega))
    refine xcall e211 (rtrim_ok _ _ _ _ _ _ hrq) rfl rfl ?_
    rintro _ _ ⟨m1, rfl, hr1, hm1, rfl⟩
    refine ⟨_, rfl, ?_⟩
    refine mvs rfl ?_
    refine ass rfl ?_
    refine ass rfl ?_
    refine vnil ?_
    refine V.ret ?_
    refine ⟨[.slice _ _ _, .slice _ _ _], ⟨rfl, rfl, trivial⟩, ?_⟩
    have e0 : k = 0 := (by omega)
    subst e0
    have hdm := divmod_of (u := x) (v := y) (q := vl b16 qs) (r := R) (by rw [hinv]; simp [vl]) r0 r1
    exact ⟨_, _, _, _, _, _, rfl, z216, hr1.cast (by rw [← dg_vl (by decide) hdq, hdm.1]), (hR).un.cast (by rw [hdm.2])⟩
end Go.Proofs.YtknbjfefeeojlaaGreat
/- Package pylonref01: the operations on integers. -/
namespace Go.Proofs.YtknbjfefeeojlaaGreat
open Go.RowKit
attribute [local irreducible] RV VH V OpF Calls
theorem ifn_neg (n : Bool) (u : Int) : (if (!n) then -u else u) = -(if n then -u else u) := by cases n <;> simp
theorem ifn_abs (n : Bool) {u : Int} (h : 0 ≤ u) : (((if n then -u else u).natAbs : Nat) : Int) = u := by cases n <;> simp <;> omega
theorem cmpI_zero {u v : Int} : cmpI u v = 0 ↔ u = v := by unfold cmpI; (repeat' split) <;> omega
theorem cmpZ_ne {x y : Int} (h : sg x ≠ sg y) : x ≠ y := fun e => h (by rw [e])
theorem cmpZ_eq (n1 n2 : Bool) {u v : Int} (hu : 0 ≤ u) (hv : 0 ≤ v) (h : sg (if n1 then -u else u) = sg (if n2 then -v else v)) : u = v ↔ (if n1 then -u else u) = (if n2 then -v else v) := by
  unfold sg at h
  cases n1 <;> cases n2 <;> simp at h ⊢ <;> (repeat' split at h) <;> omega

set_option maxHeartbeats 400000 in
theorem rSign_ok (n1 : Bool) (a1 : Option Addr) (l1 c1 : Nat) (z1 : Int) (L1 : Nat) (S1 : Nat → Prop) (w : World) (h1 : ZA L1 S1 w n1 a1 l1 c1 z1) (hL1 : L1 ≤ LX / 64) :
    Calls Tryz.prog 172 #[.agg #[.bool n1, .slice a1 l1 c1]] w (fun e w' => e = .returned (.int .i64 (sg z1)) ∧ Ext w w') := by
 have z0 := Ext.refl w; have hLX : LX = 17592186044416 := rfl; have hLY : LY = 8796093022208 := rfl
 obtain ⟨xs, hx, hq1, rfl⟩ := h1; have hv1 := vl_nonneg (B := b32) (by decide) hx.dg32
 refine enter (args := [.agg #[.bool n1, .slice a1 l1 c1]]) Tryz.func172 rfl rfl (Nat.le_of_ble_eq_true rfl) ?_
 refine V.seq (V.reg rfl ?_)
 refine vo ?_
 refine bxa rfl ?_
 intro W1 x2 b3 nn4
 have s5 := x2.sz
 have z6 := x2
 refine asi rfl ?_
 refine vnil ?_
 refine V.seq ?_
 refine V.seq (V.reg rfl ?_)
 refine vv (rfa rfl fd46_1) ?_
 refine vv (rldb (v := .slice _ _ _) rfl sc44 b3 rfl) ?_
 refine vo ?_
 refine xcall e198 (halves_ok _ _ _ _ _ _ _ (hx.ext z6) (by omega) (TT.up _)) rfl rfl ?_
 rintro _ W8 ⟨_, _, _, rfl, x9, hh7, hh7n⟩
 have s10 := x9.sz
 have z11 := z6.trans x9
 replace b3 := b3.ext x9
 refine ⟨_, rfl, ?_⟩
 refine vv (rlen sl73 rfl) ?_
 refine veq rfl rfl ?_ ?_
 ·intro c12
  refine vnil ?_
  refine V.condT rfl ?_
  refine V.seq (V.reg rfl ?_)
  refine asi rfl ?_
  refine vnil ?_
  refine V.ret ?_
  refine ⟨[.int _ _], ⟨rfl, trivial⟩, ?_⟩
  refine ⟨?_, z11⟩
  rw [← sg_of (neg := n1) hv1 (dg16_pos hv1 hh7.len) (s := 0) (by first | exact .inl ⟨by omega, rfl⟩ | exact .inr (.inl ⟨by omega, cn, rfl⟩) | exact .inr (.inr ⟨by omega, cn, rfl⟩))]; rfl
 ·intro c12
  refine vnil ?_
  refine V.condF rfl ?_
  refine V.skip ?_
  refine V.seq ?_
  refine V.seq (V.reg rfl ?_)
  refine vv (rfa rfl fd46_0) ?_
  refine vv (rldb (v := .bool _) rfl sc4 b3 rfl) ?_
  refine vnil ?_
  refine V.condB rfl ?_ ?_
  ·intro cn
   refine V.seq (V.reg rfl ?_)
   refine asi rfl ?_
   refine vnil ?_
   refine V.ret ?_
   refine ⟨[.int _ _], ⟨rfl, trivial⟩, ?_⟩
   refine ⟨?_, z11⟩
   rw [← sg_of (neg := n1) hv1 (dg16_pos hv1 hh7.len) (s := -1) (by first | exact .inl ⟨by omega, rfl⟩ | exact .inr (.inl ⟨by omega, cn, rfl⟩) | exact .inr (.inr ⟨by omega, cn, rfl⟩))]; rfl
  ·intro cn
   refine V.skip ?_
   refine V.seq (V.reg rfl ?_)
   refine asi rfl ?_
   refine vnil ?_
   refine V.ret ?_
   refine ⟨[.int _ _], ⟨rfl, trivial⟩, ?_⟩
   refine ⟨?_, z11⟩
   rw [← sg_of (neg := n1) hv1 (dg16_pos hv1 hh7.len) (s := 1) (by first | exact .inl ⟨by omega, rfl⟩ | exact .inr (.inl ⟨by omega, cn, rfl⟩) | exact .inr (.inr ⟨by omega, cn, rfl⟩))]; rfl
set_option maxHeartbeats 400000 in
theorem rNeg_ok (n1 : Bool) (a1 : Option Addr) (l1 c1 : Nat) (z1 : Int) (L1 : Nat) (S S1 : Nat → Prop) (w : World) (h1 : ZA L1 S1 w n1 a1 l1 c1 z1) (hL1 : L1 ≤ LX / 64) (hu : Up S w) :
    Calls Tryz.prog 166 #[.agg #[.bool n1, .slice a1 l1 c1]] w (PZ S (-z1) w) := by
 have z0 := Ext.refl w; have hLX : LX = 17592186044416 := rfl; have hLY : LY = 8796093022208 := rfl
 obtain ⟨xs, hx, hq1, rfl⟩ := h1; have hv1 := vl_nonneg (B := b32) (by decide) hx.dg32
 have hu2 : ∀ W : World, w.heap.size + 2 ≤ W.heap.size → Up (SX S [w.heap.size + 1]) W := fun W hW => SX.up (hu.mono (by omega)) (by simp <;> omega)
 refine enter (args := [.agg #[.bool n1, .slice a1 l1 c1]]) Tryz.func166 rfl rfl (Nat.le_of_ble_eq_true rfl) ?_
 refine V.seq (V.reg rfl ?_)
 refine vo ?_
 refine bxa rfl ?_
 intro W1 x2 b3 nn4
 have s5 := x2.sz
 have z6 := x2
 refine vo ?_
 refine xal zc46 ?_
 intro W7 x8 b9 nn10
 have s11 := x8.sz
 have z12 := z6.trans x8
 replace b3 := b3.ext x8
 refine vnil ?_
 refine V.seq (V.regD mixed rfl ?_)
 intro W13 x14
 have s15 := x14.sz
 have z16 := z12.trans x14
 replace b3 := b3.ext x14
 replace b9 := b9.ext x14
 have q17 := Ext.refl W13
 have r18 := b3
 have r19 := b9
 refine tk 0 rfl (by kernel_rfl) q17 (pv (fun _ y20 => rfa rfl fd46_0)) ?_
 refine tk 1 rfl (by kernel_rfl) q17 (pv (fun _ y21 => rldb (v := .bool _) rfl sc4 (r18.ext y21) rfl)) ?_
 refine tk 2 rfl (by kernel_rfl) q17 (pv (fun _ y22 => rnot (q := _) rfl rfl)) ?_
 refine tk 3 rfl (by kernel_rfl) q17 (pv (fun _ y23 => rfa rfl fd46_1)) ?_
 refine tk 4 rfl (by kernel_rfl) q17 (pv (fun _ y24 => rldb (v := .slice _ _ _) rfl sc44 (r18.ext y24) rfl)) ?_
 refine ef 5 (by kernel_rfl) rfl ?_
 refine xcall e198 (halves_ok _ _ _ _ _ _ _ (hx.ext z16) (by omega) (TT.up _)) rfl rfl ?_
 rintro _ W26 ⟨_, _, _, rfl, x27, hh25, hh25n⟩
 have s28 := x27.sz
 have z29 := z16.trans x27
 replace b9 := b9.ext x27
 have q30 := q17.trans x27
 refine ⟨_, rfl, ?_⟩
 refine ⟨fun _ => q30, ?_⟩
 refine ef 6 (by kernel_rfl) rfl ?_
 refine xcall e197 (rof_ok _ _ _ _ _ _ _ _ hh25 (Dg.dg (by decide) _) (by omega) (hu2 _ (by omega))) rfl rfl ?_
 rintro _ W32 ⟨_, _, _, _, rfl, x33, hz31⟩
 have s34 := x33.sz
 have z35 := z29.trans x33
 replace b9 := b9.ext x33
 have q36 := q30.trans x33
 refine ⟨_, rfl, ?_⟩
 refine ⟨fun _ => q36, ?_⟩
 refine ef 7 (by kernel_rfl) rfl ?_
 refine sta (cs' := [_, _]) b9 rfl rfl sz46 rfl rfl rfl ?_
 intro W37 y38 b9
 have z39 := z35.below (y38.below (by omega))
 have s40 := y38.size
 refine lastT (by kernel_rfl) ?_
 refine dn (by kernel_rfl) ?_
 refine V.ret ?_
 refine ⟨[_], ⟨⟨_, rfl, lvb ag46 b9 rfl⟩, trivial⟩, ?_⟩
 exact ⟨_, _, _, _, rfl, z39, ((hz31.ck (y38.ck (by intro hh; first | (simp [SX] at hh <;> omega) | omega)))).un.cast (by rw [vl_dg (by decide) hv1, ifn_neg])⟩
set_option maxHeartbeats 400000 in
theorem rAbs_ok (n1 : Bool) (a1 : Option Addr) (l1 c1 : Nat) (z1 : Int) (L1 : Nat) (S S1 : Nat → Prop) (w : World) (h1 : ZA L1 S1 w n1 a1 l1 c1 z1) (hL1 : L1 ≤ LX / 64) (hu : Up S w) :
    Calls Tryz.prog 195 #[.agg #[.bool n1, .slice a1 l1 c1]] w (PZ S (z1.natAbs : Int) w) := by
 have z0 := Ext.refl w; have hLX : LX = 17592186044416 := rfl; have hLY : LY = 8796093022208 := rfl
 obtain ⟨xs, hx, hq1, rfl⟩ := h1; have hv1 := vl_nonneg (B := b32) (by decide) hx.dg32
 have hu2 : ∀ W : World, w.heap.size + 2 ≤ W.heap.size → Up (SX S [w.heap.size + 1]) W := fun W hW => SX.up (hu.mono (by omega)) (by simp <;> omega)
 refine enter (args := [.agg #[.bool n1, .slice a1 l1 c1]]) Tryz.func195 rfl rfl (Nat.le_of_ble_eq_true rfl) ?_
 refine V.seq (V.reg rfl ?_)
 refine vo ?_
 refine bxa rfl ?_
 intro W1 x2 b3 nn4
 have s5 := x2.sz
 have z6 := x2
 refine vo ?_
 refine xal zc46 ?_
 intro W7 x8 b9 nn10
 have s11 := x8.sz
 have z12 := z6.trans x8
 replace b3 := b3.ext x8
 refine vnil ?_
 refine V.seq (V.reg rfl ?_)
 refine vv (rfa rfl fd46_1) ?_
 refine vv (rldb (v := .slice _ _ _) rfl sc44 b3 rfl) ?_
 refine vo ?_
 refine xcall e198 (halves_ok _ _ _ _ _ _ _ (hx.ext z12) (by omega) (TT.up _)) rfl rfl ?_
 rintro _ W14 ⟨_, _, _, rfl, x15, hh13, hh13n⟩
 have s16 := x15.sz
 have z17 := z12.trans x15
 replace b9 := b9.ext x15
 refine ⟨_, rfl, ?_⟩
 refine vo ?_
 refine xcall e197 (rof_ok _ _ _ _ _ _ _ _ hh13 (Dg.dg (by decide) _) (by omega) (hu2 _ (by omega))) rfl rfl ?_
 rintro _ W19 ⟨_, _, _, _, rfl, x20, hz18⟩
 have s21 := x20.sz
 have z22 := z17.trans x20
 replace b9 := b9.ext x20
 refine ⟨_, rfl, ?_⟩
 refine vo ?_
 refine sta (cs' := [_, _]) b9 rfl rfl sz46 rfl rfl rfl ?_
 intro W23 y24 b9
 have z25 := z22.below (y24.below (by omega))
 have s26 := y24.size
 refine vnil ?_
 refine V.ret ?_
 refine ⟨[_], ⟨⟨_, rfl, lvb ag46 b9 rfl⟩, trivial⟩, ?_⟩
 exact ⟨_, _, _, _, rfl, z25, ((hz18.ck (y24.ck (by intro hh; first | (simp [SX] at hh <;> omega) | omega)))).un.cast (by rw [vl_dg (by decide) hv1, ifn_abs n1 hv1]; rfl)⟩

theorem rLeastZ_ok (n1 : Bool) (a1 : Option Addr) (l1 c1 : Nat) (z1 : Int) (L1 : Nat) (S S1 : Nat → Prop) (w : World) (h1 : ZA L1 S1 w n1 a1 l1 c1 z1) (hL1 : L1 ≤ LX / 64) (hu : Up S w) : Calls Tryz.prog 194 #[.agg #[.bool n1, .slice a1 l1 c1]] w (PZ S z1 w) := by
  obtain ⟨xs, hx, hq1, rfl⟩ := h1
  have hLX : LX = 17592186044416 := rfl
  exact rLeast_ok _ _ _ _ _ _ _ w hx (by omega) hu

end Go.Proofs.YtknbjfefeeojlaaGreat
/- Package pylonref01: Gcd, Div, Cmp. -/
namespace Go.Proofs.YtknbjfefeeojlaaGreat
open Go.RowKit
attribute [local irreducible] RV VH V OpF Calls
theorem cmpI_range (u v : Int) : -1 ≤ cmpI u v ∧ cmpI u v ≤ 1 := by unfold cmpI; (repeat' split) <;> omega
theorem one16 : Dg b16 [1] := by intro x hx; simp at hx; subst hx; decide

set_option maxHeartbeats 400000 in
theorem rGcd_ok (n1 : Bool) (a1 : Option Addr) (l1 c1 : Nat) (z1 : Int) (L1 : Nat) (n2 : Bool) (a2 : Option Addr) (l2 c2 : Nat) (z2 : Int) (L2 : Nat) (S S1 S2 : Nat → Prop) (w : World) (h1 : ZA L1 S1 w n1 a1 l1 c1 z1) (hL1 : L1 ≤ LX / 64) (h2 : ZA L2 S2 w n2 a2 l2 c2 z2) (hL2 : L2 ≤ LX / 64) (hu : Up S w) :
    Calls Tryz.prog 190 #[.agg #[.bool n1, .slice a1 l1 c1], .agg #[.bool n2, .slice a2 l2 c2]] w (PZ S (Int.gcd z1 z2 : Int) w) := by
 have z0 := Ext.refl w; have hLX : LX = 17592186044416 := rfl; have hLY : LY = 8796093022208 := rfl
 obtain ⟨xs, hx, hq1, rfl⟩ := h1; have hv1 := vl_nonneg (B := b32) (by decide) hx.dg32
 obtain ⟨ys, hy, hq2, rfl⟩ := h2; have hv2 := vl_nonneg (B := b32) (by decide) hy.dg32
 have hu2 : ∀ W : World, w.heap.size + 3 ≤ W.heap.size → Up (SX S [w.heap.size + 2]) W := fun W hW => SX.up (hu.mono (by omega)) (by simp <;> omega)
 refine enter (args := [.agg #[.bool n1, .slice a1 l1 c1], .agg #[.bool n2, .slice a2 l2 c2]]) Tryz.func190 rfl rfl (Nat.le_of_ble_eq_true rfl) ?_
 refine V.seq (V.reg rfl ?_)
 refine vo ?_
 refine bxa rfl ?_
 intro W1 x2 b3 nn4
 have s5 := x2.sz
 have z6 := x2
 refine vo ?_
 refine bxa rfl ?_
 intro W7 x8 b9 nn10
 have s11 := x8.sz
 have z12 := z6.trans x8
 replace b3 := b3.ext x8
 refine vo ?_
 refine xal zc46 ?_
 intro W13 x14 b15 nn16
 have s17 := x14.sz
 have z18 := z12.trans x14
 replace b3 := b3.ext x14
 replace b9 := b9.ext x14
 refine vnil ?_
 refine V.seq (V.regD mixed rfl ?_)
 intro W19 x20
 have s21 := x20.sz
 have z22 := z18.trans x20
 replace b3 := b3.ext x20
 replace b9 := b9.ext x20
 replace b15 := b15.ext x20
 have q23 := Ext.refl W19
 have r24 := b3
 have r25 := b9
 have r26 := b15
 refine tk 0 rfl (by kernel_rfl) q23 (pv (fun _ y27 => rfa rfl fd46_1)) ?_
 refine tk 1 rfl (by kernel_rfl) q23 (pv (fun _ y28 => rldb (v := .slice _ _ _) rfl sc44 (r24.ext y28) rfl)) ?_
 refine tk 3 rfl (by kernel_rfl) q23 (pv (fun _ y29 => rfa rfl fd46_1)) ?_
 refine tk 4 rfl (by kernel_rfl) q23 (pv (fun _ y30 => rldb (v := .slice _ _ _) rfl sc44 (r25.ext y30) rfl)) ?_
 refine ef 2 (by kernel_rfl) rfl ?_
 refine xcall e198 (halves_ok _ _ _ _ _ _ _ (hx.ext z22) (by omega) (TT.up _)) rfl rfl ?_
 rintro _ W32 ⟨_, _, _, rfl, x33, hh31, hh31n⟩
 have s34 := x33.sz
 have z35 := z22.trans x33
 replace b15 := b15.ext x33
 have q36 := q23.trans x33
 refine ⟨_, rfl, ?_⟩
 refine ⟨fun _ => q36, ?_⟩
 refine ef 5 (by kernel_rfl) rfl ?_
 refine xcall e198 (halves_ok _ _ _ _ _ _ _ (hy.ext z35) (by omega) (TT.up _)) rfl rfl ?_
 rintro _ W38 ⟨_, _, _, rfl, x39, hh37, hh37n⟩
 have s40 := x39.sz
 have z41 := z35.trans x39
 replace b15 := b15.ext x39
 have q42 := q36.trans x39
 refine ⟨_, rfl, ?_⟩
 refine ⟨fun _ => q42, ?_⟩
 refine tk 6 rfl (by kernel_rfl) q42 (pv (fun _ y43 => ras (v := .slice _ _ _) rfl)) ?_
 refine tk 7 rfl (by kernel_rfl) q42 (pv (fun _ y44 => ras (v := .slice _ _ _) rfl)) ?_
 refine dn (by kernel_rfl) ?_
 refine V.seq ?_
 refine V.block ?_
 refine V.loopK (ι := Int × Int × Option Addr × Nat × Nat × Option Addr × Nat × Nat) [(4, .pointer (some ⟨_, _, none⟩))] (fun ⟨u, v, pa, pn, pc, qa, qn, qc⟩ => [(5, .slice pa pn pc), (6, .slice qa qn qc)]) (fun ⟨u, v, pa, pn, pc, qa, qn, qc⟩ W => Ext W38 W ∧ 0 ≤ u ∧ 0 ≤ v ∧ pn ≤ LX / 8 ∧ qn ≤ LX / 8 ∧ Int.gcd u v = Int.gcd (vl b32 xs) (vl b32 ys) ∧ RN .i64 TT W pa pn pc (dg b16 u) ∧ RN .i64 TT W qa qn qc (dg b16 v)) (fun ⟨u, v, pa, pn, pc, qa, qn, qc⟩ => v.toNat) ((vl b32 xs, vl b32 ys, _, _, _, _, _, _)) ⟨rfl, trivial⟩ ⟨rfl, rfl, trivial⟩ ⟨Ext.refl _, hv1, hv2, by omega, by omega, rfl, (hh31.ext x39), hh37⟩ ?_
 intro i46 E47 W45 h48
 obtain ⟨u, v, pa, pn, pc, qa, qn, qc⟩ := i46
 simp only at h48
 show V _ _ _ _ _ _ (ups (ups _ _) [(5, .slice pa pn pc), (6, .slice qa qn qc)]) _
 obtain ⟨x49, u0, v0, pl, ql, hg, hU, hV⟩ := h48
 have s50 := x49.sz
 have z51 := z41.trans x49
 have z52 := x49
 replace b15 := b15.ext x49
 have hul := hU.len; have hvl := hV.len
 refine V.seq ?_
 refine V.seq (V.reg rfl ?_)
 refine mvs rfl ?_
 refine vv (rlen sl73 rfl) ?_
 refine vgt rfl rfl ?_ ?_
 ·intro c53
  refine vnil ?_
  refine V.condT rfl ?_
  refine V.skip ?_
  refine V.block ?_
  refine V.seq (V.reg rfl ?_)
  refine mvs rfl ?_
  refine mvs rfl ?_
  refine vo ?_
  refine xcall e210 (rdiv_ok _ _ _ u _ _ _ v TT TT TT _ hU u0 hV (by have := dg16_pos v0 hvl; omega) pl ql (TT.up _)) rfl rfl ?_
  rintro _ W55 ⟨_, _, _, _, _, _, rfl, x56, hd54q, hd54r⟩
  have s57 := x56.sz
  have z59 := z52.trans x56
  have hrrl := hd54r.len
  refine ⟨_, rfl, ?_⟩
  refine mvt rfl ?_
  refine vv (rext (v := .slice _ _ _) rfl rfl) ?_
  refine vv (rext (v := .slice _ _ _) rfl rfl) ?_
  refine ass rfl ?_
  refine ass rfl ?_
  refine vnil ?_
  refine V.reg rfl ?_
  refine mvs rfl ?_
  refine mvs rfl ?_
  refine ass rfl ?_
  refine ass rfl ?_
  refine vnil ?_
  refine ⟨rfl, (v, u % v, _, _, _, _, _, _), ⟨rfl, trivial⟩, ⟨rfl, rfl, trivial⟩, ⟨z59, v0, Int.emod_nonneg _ (by have := dg16_pos v0 hvl; omega), ql, by have := dg16_mono (u := u % v) (v := v) (Int.emod_nonneg _ (by have := dg16_pos v0 hvl; omega)) (Int.le_of_lt (Int.emod_lt_of_pos _ (by have := dg16_pos v0 hvl; omega))); omega, (gcd_step u v).trans hg, (hV.ext x56), hd54r⟩, ?_⟩
  show (u % v).toNat < v.toNat
  have := dg16_pos v0 hvl
  have := Int.emod_lt_of_pos u (show 0 < v by omega)
  have := Int.emod_nonneg u (show v ≠ 0 by omega)
  omega
 ·intro c53
  refine vnil ?_
  refine V.condF rfl ?_
  refine V.exit ?_
  refine V.seq (V.reg rfl ?_)
  refine mvs rfl ?_
  refine vo ?_
  refine xcall e197 (rof_ok _ _ _ _ _ _ _ _ hU (Dg.dg (by decide) _) (by omega) (hu2 _ (by omega))) rfl rfl ?_
  rintro _ W61 ⟨_, _, _, _, rfl, x62, hz60⟩
  have s63 := x62.sz
  have z64 := z51.trans x62
  replace b15 := b15.ext x62
  refine ⟨_, rfl, ?_⟩
  refine vo ?_
  refine sta (cs' := [_, _]) b15 rfl rfl sz46 rfl rfl rfl ?_
  intro W66 y67 b15
  have z68 := z64.below (y67.below (by omega))
  have s69 := y67.size
  refine vnil ?_
  refine V.ret ?_
  refine ⟨[_], ⟨⟨_, rfl, lvb ag46 b15 rfl⟩, trivial⟩, ?_⟩
  have e0 : v = 0 := (by have := dg16_pos v0 hvl; omega)
  subst e0
  exact ⟨_, _, _, _, rfl, z68, ((hz60.ck (y67.ck (by intro hh; first | (simp [SX] at hh <;> omega) | omega)))).un.cast (by rw [vl_dg (by decide) u0, gcd_if, ← hg, Int.gcd_zero_right]; simp; omega)⟩
set_option maxHeartbeats 400000 in
theorem rDivZ_ok (n1 : Bool) (a1 : Option Addr) (l1 c1 : Nat) (z1 : Int) (L1 : Nat) (n2 : Bool) (a2 : Option Addr) (l2 c2 : Nat) (z2 : Int) (L2 : Nat) (S S1 S2 : Nat → Prop) (w : World) (h1 : ZA L1 S1 w n1 a1 l1 c1 z1) (hL1 : L1 ≤ LX / 64) (h2 : ZA L2 S2 w n2 a2 l2 c2 z2) (hL2 : L2 ≤ LX / 64) (hz : z2 ≠ 0) (hu : Up S w) :
    Calls Tryz.prog 191 #[.agg #[.bool n1, .slice a1 l1 c1], .agg #[.bool n2, .slice a2 l2 c2]] w (fun e w' => ∃ m1 b1 k1 d1 m2 b2 k2 d2, e = .returned (.tuple #[.agg #[.bool m1, .slice b1 k1 d1], .agg #[.bool m2, .slice b2 k2 d2], .int .i64 0]) ∧ Ext w w' ∧ ZC S w' m1 b1 k1 d1 (z1 / z2) ∧ ZC S w' m2 b2 k2 d2 (z1 % z2)) := by
 have z0 := Ext.refl w; have hLX : LX = 17592186044416 := rfl; have hLY : LY = 8796093022208 := rfl
 obtain ⟨xs, hx, hq1, rfl⟩ := h1; have hv1 := vl_nonneg (B := b32) (by decide) hx.dg32
 obtain ⟨ys, hy, hq2, rfl⟩ := h2; have hv2 := vl_nonneg (B := b32) (by decide) hy.dg32
 have hu2 : ∀ W : World, w.heap.size + 4 ≤ W.heap.size → Up (SX S [w.heap.size + 2, w.heap.size + 2 + 1]) W := fun W hW => SX.up (hu.mono (by omega)) (by simp <;> omega)
 have hvp : 0 < vl b32 ys := by cases n2 <;> simp at hz <;> omega
 cases n1
 ·skip
  refine enter (args := [.agg #[.bool false, .slice a1 l1 c1], .agg #[.bool n2, .slice a2 l2 c2]]) Tryz.func191 rfl rfl (Nat.le_of_ble_eq_true rfl) ?_
  refine V.seq (V.reg rfl ?_)
  refine vo ?_
  refine bxa rfl ?_
  intro W1 x2 b3 nn4
  have s5 := x2.sz
  have z6 := x2
  refine vo ?_
  refine bxa rfl ?_
  intro W7 x8 b9 nn10
  have s11 := x8.sz
  have z12 := z6.trans x8
  replace b3 := b3.ext x8
  refine vo ?_
  refine xal zc46 ?_
  intro W13 x14 b15 nn16
  have s17 := x14.sz
  have z18 := z12.trans x14
  replace b3 := b3.ext x14
  replace b9 := b9.ext x14
  refine vo ?_
  refine xal zc46 ?_
  intro W19 x20 b21 nn22
  have s23 := x20.sz
  have z24 := z18.trans x20
  replace b3 := b3.ext x20
  replace b9 := b9.ext x20
  replace b15 := b15.ext x20
  refine asi rfl ?_
  refine vnil ?_
  refine V.seq (V.regD mixed rfl ?_)
  intro W25 x26
  have s27 := x26.sz
  have z28 := z24.trans x26
  replace b3 := b3.ext x26
  replace b9 := b9.ext x26
  replace b15 := b15.ext x26
  replace b21 := b21.ext x26
  have q29 := Ext.refl W25
  have r30 := b3
  have r31 := b9
  have r32 := b15
  have r33 := b21
  refine tk 0 rfl (by kernel_rfl) q29 (pv (fun _ y34 => rfa rfl fd46_1)) ?_
  refine tk 1 rfl (by kernel_rfl) q29 (pv (fun _ y35 => rldb (v := .slice _ _ _) rfl sc44 (r30.ext y35) rfl)) ?_
  refine tk 3 rfl (by kernel_rfl) q29 (pv (fun _ y36 => rfa rfl fd46_1)) ?_
  refine tk 4 rfl (by kernel_rfl) q29 (pv (fun _ y37 => rldb (v := .slice _ _ _) rfl sc44 (r31.ext y37) rfl)) ?_
  refine ef 2 (by kernel_rfl) rfl ?_
  refine xcall e198 (halves_ok _ _ _ _ _ _ _ (hx.ext z28) (by omega) (TT.up _)) rfl rfl ?_
  rintro _ W39 ⟨_, _, _, rfl, x40, hh38, hh38n⟩
  have s41 := x40.sz
  have z42 := z28.trans x40
  replace b3 := b3.ext x40
  replace b9 := b9.ext x40
  replace b15 := b15.ext x40
  replace b21 := b21.ext x40
  have q43 := q29.trans x40
  refine ⟨_, rfl, ?_⟩
  refine ⟨fun _ => q43, ?_⟩
  refine ef 5 (by kernel_rfl) rfl ?_
  refine xcall e198 (halves_ok _ _ _ _ _ _ _ (hy.ext z42) (by omega) (TT.up _)) rfl rfl ?_
  rintro _ W45 ⟨_, _, _, rfl, x46, hh44, hh44n⟩
  have s47 := x46.sz
  have z48 := z42.trans x46
  replace b3 := b3.ext x46
  replace b9 := b9.ext x46
  replace b15 := b15.ext x46
  replace b21 := b21.ext x46
  have q49 := q43.trans x46
  refine ⟨_, rfl, ?_⟩
  refine ⟨fun _ => q49, ?_⟩
  refine tk 6 rfl (by kernel_rfl) q49 (pv (fun _ y50 => ras (v := .slice _ _ _) rfl)) ?_
  refine tk 7 rfl (by kernel_rfl) q49 (pv (fun _ y51 => ras (v := .slice _ _ _) rfl)) ?_
  refine dn (by kernel_rfl) ?_
  refine V.seq ?_
  refine V.seq (V.reg rfl ?_)
  refine mvs rfl ?_
  refine vv (rlen sl73 rfl) ?_
  refine veq rfl rfl ?_ ?_
  ·intro c52
   have := dg16_pos hv2 hh44.len; omega
  ·intro c52
   refine vnil ?_
   refine V.condF rfl ?_
   refine V.skip ?_
   refine V.seq (V.reg rfl ?_)
   refine mvs rfl ?_
   refine mvs rfl ?_
   refine vo ?_
   refine xcall e210 (rdiv_ok _ _ _ _ _ _ _ _ TT _ _ _ (hh38.ext x46) hv1 hh44 hvp (by omega) (by omega) (TT.up _)) rfl rfl ?_
   rintro _ W53 ⟨_, qn, _, _, rn, _, rfl, x54, hdq, hdr⟩
   have s55 := x54.sz
   have z56 := z48.trans x54
   replace b3 := b3.ext x54
   replace b9 := b9.ext x54
   replace b15 := b15.ext x54
   replace b21 := b21.ext x54
   have hql := hdq.len; have hrl := hdr.len
   have hnn := ediv_nn (u := vl b32 xs) (v := vl b32 ys) hv1 hvp
   have hrpos := dg16_pos hnn.2.1 hrl
   have hqb := dg16_mono hnn.1 (Int.ediv_le_self (vl b32 ys) hv1); have hxb := (hh38.ext x46).len
   have hrb := dg16_mono hnn.2.1 (Int.le_of_lt hnn.2.2.1); have hyb := hh44.len
   refine ⟨_, rfl, ?_⟩
   refine mvt rfl ?_
   refine vv (rext (v := .slice _ _ _) rfl rfl) ?_
   refine vv (rext (v := .slice _ _ _) rfl rfl) ?_
   refine ass rfl ?_
   refine ass rfl ?_
   refine vnil ?_
   refine V.seq ?_
   refine V.seq (V.reg rfl ?_)
   refine vv (rfa rfl fd46_0) ?_
   refine vv (rldb (v := .bool false) rfl sc4 b3 rfl) ?_
   refine mvb rfl ?_
   refine vgn (b := false) rfl rfl ?_
   refine vgn (b := false) rfl rfl ?_
   refine vgn (b := false) rfl rfl ?_
   refine vv (rpk (v := .bool false) rfl rfl) ?_
   refine vnil ?_
   refine V.condF rfl ?_
   refine V.skip ?_
   refine V.seq (V.reg rfl ?_)
   refine vv (rfa rfl fd46_0) ?_
   refine vv (rldb (v := .bool false) rfl sc4 b3 rfl) ?_
   refine vv (rfa rfl fd46_0) ?_
   refine vv (rldb (v := .bool _) rfl sc4 b9 rfl) ?_
   refine vv (rbne Tryz.underlying4 rfl rfl rfl) ?_
   refine mvs rfl ?_
   refine vo ?_
   refine xcall e197 (rof_ok _ _ _ _ _ _ _ _ hdq (Dg.dg (by decide) _) (by omega) (hu2 _ (by omega))) rfl rfl ?_
   rintro _ W58 ⟨_, _, _, _, rfl, x59, hz57⟩
   have s60 := x59.sz
   have z61 := z56.trans x59
   replace b15 := b15.ext x59
   replace b21 := b21.ext x59
   refine ⟨_, rfl, ?_⟩
   refine mvs rfl ?_
   refine vo ?_
   refine xcall e197 (rof_ok _ _ _ _ _ _ _ _ (hdr.ext x59) (Dg.dg (by decide) _) (by omega) (hu2 _ (by omega))) rfl rfl ?_
   rintro _ W63 ⟨_, _, _, _, rfl, x64, hz62⟩
   have s65 := x64.sz
   have z66 := z61.trans x64
   replace b15 := b15.ext x64
   replace b21 := b21.ext x64
   refine ⟨_, rfl, ?_⟩
   refine vo ?_
   refine sta (cs' := [_, _]) b15 rfl rfl sz46 rfl rfl rfl ?_
   intro W67 y68 b15
   have z69 := z66.below (y68.below (by omega))
   replace b21 := b21.wr y68 (by omega)
   have s70 := y68.size
   refine vo ?_
   refine sta (cs' := [_, _]) b21 rfl rfl sz46 rfl rfl rfl ?_
   intro W71 y72 b21
   have z73 := z69.below (y72.below (by omega))
   replace b15 := b15.wr y72 (by omega)
   have s74 := y72.size
   refine asi rfl ?_
   refine vnil ?_
   refine V.ret ?_
   refine ⟨[_, _, .int _ _], ⟨⟨_, rfl, lvb ag46 b15 rfl⟩, ⟨_, rfl, lvb ag46 b21 rfl⟩, rfl, trivial⟩, ?_⟩
   have hdm := dm_pos n2 (u := vl b32 xs) (v := vl b32 ys)
   exact ⟨_, _, _, _, _, _, _, _, rfl, z73, ((hz57.ck (((x64.ck _).trans (y68.ck (by intro hh; first | (simp [SX] at hh <;> omega) | omega))).trans (y72.ck (by intro hh; first | (simp [SX] at hh <;> omega) | omega))))).un.cast (by rw [vl_dg (by decide) hnn.1]; exact hdm.1), ((hz62.ck ((y68.ck (by intro hh; first | (simp [SX] at hh <;> omega) | omega)).trans (y72.ck (by intro hh; first | (simp [SX] at hh <;> omega) | omega))))).un.cast (by rw [vl_dg (by decide) hnn.2.1]; exact hdm.2)⟩
 ·skip
  refine enter (args := [.agg #[.bool true, .slice a1 l1 c1], .agg #[.bool n2, .slice a2 l2 c2]]) Tryz.func191 rfl rfl (Nat.le_of_ble_eq_true rfl) ?_
  refine V.seq (V.reg rfl ?_)
  refine vo ?_
  refine bxa rfl ?_
  intro W75 x76 b77 nn78
  have s79 := x76.sz
  have z80 := x76
  refine vo ?_
  refine bxa rfl ?_
  intro W81 x82 b83 nn84
  have s85 := x82.sz
  have z86 := z80.trans x82
  replace b77 := b77.ext x82
  refine vo ?_
  refine xal zc46 ?_
  intro W87 x88 b89 nn90
  have s91 := x88.sz
  have z92 := z86.trans x88
  replace b77 := b77.ext x88
  replace b83 := b83.ext x88
  refine vo ?_
  refine xal zc46 ?_
  intro W93 x94 b95 nn96
  have s97 := x94.sz
  have z98 := z92.trans x94
  replace b77 := b77.ext x94
  replace b83 := b83.ext x94
  replace b89 := b89.ext x94
  refine asi rfl ?_
  refine vnil ?_
  refine V.seq (V.regD mixed rfl ?_)
  intro W99 x100
  have s101 := x100.sz
  have z102 := z98.trans x100
  replace b77 := b77.ext x100
  replace b83 := b83.ext x100
  replace b89 := b89.ext x100
  replace b95 := b95.ext x100
  have q103 := Ext.refl W99
  have r104 := b77
  have r105 := b83
  have r106 := b89
  have r107 := b95
  refine tk 0 rfl (by kernel_rfl) q103 (pv (fun _ y108 => rfa rfl fd46_1)) ?_
  refine tk 1 rfl (by kernel_rfl) q103 (pv (fun _ y109 => rldb (v := .slice _ _ _) rfl sc44 (r104.ext y109) rfl)) ?_
  refine tk 3 rfl (by kernel_rfl) q103 (pv (fun _ y110 => rfa rfl fd46_1)) ?_
  refine tk 4 rfl (by kernel_rfl) q103 (pv (fun _ y111 => rldb (v := .slice _ _ _) rfl sc44 (r105.ext y111) rfl)) ?_
  refine ef 2 (by kernel_rfl) rfl ?_
  refine xcall e198 (halves_ok _ _ _ _ _ _ _ (hx.ext z102) (by omega) (TT.up _)) rfl rfl ?_
  rintro _ W113 ⟨_, _, _, rfl, x114, hh112, hh112n⟩
  have s115 := x114.sz
  have z116 := z102.trans x114
  replace b77 := b77.ext x114
  replace b83 := b83.ext x114
  replace b89 := b89.ext x114
  replace b95 := b95.ext x114
  have q117 := q103.trans x114
  refine ⟨_, rfl, ?_⟩
  refine ⟨fun _ => q117, ?_⟩
  refine ef 5 (by kernel_rfl) rfl ?_
  refine xcall e198 (halves_ok _ _ _ _ _ _ _ (hy.ext z116) (by omega) (TT.up _)) rfl rfl ?_
  rintro _ W119 ⟨_, _, _, rfl, x120, hh118, hh118n⟩
  have s121 := x120.sz
  have z122 := z116.trans x120
  replace b77 := b77.ext x120
  replace b83 := b83.ext x120
  replace b89 := b89.ext x120
  replace b95 := b95.ext x120
  have q123 := q117.trans x120
  refine ⟨_, rfl, ?_⟩
  refine ⟨fun _ => q123, ?_⟩
  refine tk 6 rfl (by kernel_rfl) q123 (pv (fun _ y124 => ras (v := .slice _ _ _) rfl)) ?_
  refine tk 7 rfl (by kernel_rfl) q123 (pv (fun _ y125 => ras (v := .slice _ _ _) rfl)) ?_
  refine dn (by kernel_rfl) ?_
  refine V.seq ?_
  refine V.seq (V.reg rfl ?_)
  refine mvs rfl ?_
  refine vv (rlen sl73 rfl) ?_
  refine veq rfl rfl ?_ ?_
  ·intro c126
   have := dg16_pos hv2 hh118.len; omega
  ·intro c126
   refine vnil ?_
   refine V.condF rfl ?_
   refine V.skip ?_
   refine V.seq (V.reg rfl ?_)
   refine mvs rfl ?_
   refine mvs rfl ?_
   refine vo ?_
   refine xcall e210 (rdiv_ok _ _ _ _ _ _ _ _ TT _ _ _ (hh112.ext x120) hv1 hh118 hvp (by omega) (by omega) (TT.up _)) rfl rfl ?_
   rintro _ W127 ⟨_, qn, _, _, rn, _, rfl, x128, hdq, hdr⟩
   have s129 := x128.sz
   have z130 := z122.trans x128
   replace b77 := b77.ext x128
   replace b83 := b83.ext x128
   replace b89 := b89.ext x128
   replace b95 := b95.ext x128
   have hql := hdq.len; have hrl := hdr.len
   have hnn := ediv_nn (u := vl b32 xs) (v := vl b32 ys) hv1 hvp
   have hrpos := dg16_pos hnn.2.1 hrl
   have hqb := dg16_mono hnn.1 (Int.ediv_le_self (vl b32 ys) hv1); have hxb := (hh112.ext x120).len
   have hrb := dg16_mono hnn.2.1 (Int.le_of_lt hnn.2.2.1); have hyb := hh118.len
   refine ⟨_, rfl, ?_⟩
   refine mvt rfl ?_
   refine vv (rext (v := .slice _ _ _) rfl rfl) ?_
   refine vv (rext (v := .slice _ _ _) rfl rfl) ?_
   refine ass rfl ?_
   refine ass rfl ?_
   refine vnil ?_
   refine V.seq ?_
   refine V.seq (V.reg rfl ?_)
   refine vv (rfa rfl fd46_0) ?_
   refine vv (rldb (v := .bool true) rfl sc4 b77 rfl) ?_
   refine mvb rfl ?_
   refine vg rfl ?_
   refine mvs rfl ?_
   refine vg rfl ?_
   refine vv (rlen sl73 rfl) ?_
   refine vg rfl ?_
   refine vgt rfl rfl ?_ ?_
   ·intro c131
    refine vv (rpk (v := .bool true) rfl rfl) ?_
    refine vnil ?_
    refine V.condT rfl ?_
    refine V.seq (V.reg rfl ?_)
    refine mvs rfl ?_
    refine vo ?_
    refine xbs (ps := [(0, .int _ _)]) (cs := [.int _ _]) sl73 zr3 sz3 rfl rfl rfl rfl rfl rfl ?_
    intro W132 x133 b134 nn135
    have s136 := x133.sz
    have z137 := z130.trans x133
    replace b77 := b77.ext x133
    replace b83 := b83.ext x133
    replace b89 := b89.ext x133
    replace b95 := b95.ext x133
    refine vo ?_
    have hl138 := RN.lit (k := .i64) (xs := [_]) 1 b134 (by intro q hq; simp only [List.mem_cons, List.not_mem_nil, or_false] at hq; simp only [kb]; omega) (TT.up W127 _ (Nat.le_refl _))
    refine xcall e201 (radd_ok _ _ _ _ _ _ _ _ TT _ _ _ (hdq.ext x133) (Dg.dg (by decide) _) hl138 one16 (by omega) (by omega) (TT.up _)) rfl rfl ?_
    rintro _ W139 ⟨_, qn2, _, rfl, x140, hdq2, hdq2b⟩
    have s141 := x140.sz
    have z142 := z137.trans x140
    replace b77 := b77.ext x140
    replace b83 := b83.ext x140
    replace b89 := b89.ext x140
    replace b95 := b95.ext x140
    rw [vl_dg (by decide) hnn.1, show vl b16 [1] = 1 from rfl] at hdq2
    refine ⟨_, rfl, ?_⟩
    refine ass rfl ?_
    refine vnil ?_
    refine V.reg rfl ?_
    refine mvs rfl ?_
    refine mvs rfl ?_
    refine vo ?_
    refine xcall e203 (rsub_ok _ _ _ _ _ _ _ _ TT _ _ _ (hh118.ext ((x128.trans x133).trans x140)) (Dg.dg (by decide) _) (hdr.ext (x133.trans x140)) hnn.2.1 (by rw [vl_dg (by decide) hv2]; omega) (by omega) (TT.up _)) rfl rfl ?_
    rintro _ W143 ⟨_, rn2, _, rfl, x144, hdr2, hdr2b⟩
    have s145 := x144.sz
    have z146 := z142.trans x144
    replace b77 := b77.ext x144
    replace b83 := b83.ext x144
    replace b89 := b89.ext x144
    replace b95 := b95.ext x144
    rw [vl_dg (by decide) hv2] at hdr2
    refine ⟨_, rfl, ?_⟩
    refine ass rfl ?_
    refine vnil ?_
    refine V.seq (V.reg rfl ?_)
    refine vv (rfa rfl fd46_0) ?_
    refine vv (rldb (v := .bool true) rfl sc4 b77 rfl) ?_
    refine vv (rfa rfl fd46_0) ?_
    refine vv (rldb (v := .bool _) rfl sc4 b83 rfl) ?_
    refine vv (rbne Tryz.underlying4 rfl rfl rfl) ?_
    refine mvs rfl ?_
    refine vo ?_
    refine xcall e197 (rof_ok _ _ _ _ _ _ _ _ (hdq2.ext x144) (Dg.dg (by decide) _) (by omega) (hu2 _ (by omega))) rfl rfl ?_
    rintro _ W148 ⟨_, _, _, _, rfl, x149, hz147⟩
    have s150 := x149.sz
    have z151 := z146.trans x149
    replace b89 := b89.ext x149
    replace b95 := b95.ext x149
    refine ⟨_, rfl, ?_⟩
    refine mvs rfl ?_
    refine vo ?_
    refine xcall e197 (rof_ok _ _ _ _ _ _ _ _ (hdr2.ext x149) (Dg.dg (by decide) _) (by omega) (hu2 _ (by omega))) rfl rfl ?_
    rintro _ W153 ⟨_, _, _, _, rfl, x154, hz152⟩
    have s155 := x154.sz
    have z156 := z151.trans x154
    replace b89 := b89.ext x154
    replace b95 := b95.ext x154
    refine ⟨_, rfl, ?_⟩
    refine vo ?_
    refine sta (cs' := [_, _]) b89 rfl rfl sz46 rfl rfl rfl ?_
    intro W157 y158 b89
    have z159 := z156.below (y158.below (by omega))
    replace b95 := b95.wr y158 (by omega)
    have s160 := y158.size
    refine vo ?_
    refine sta (cs' := [_, _]) b95 rfl rfl sz46 rfl rfl rfl ?_
    intro W161 y162 b95
    have z163 := z159.below (y162.below (by omega))
    replace b89 := b89.wr y162 (by omega)
    have s164 := y162.size
    refine asi rfl ?_
    refine vnil ?_
    refine V.ret ?_
    refine ⟨[_, _, .int _ _], ⟨⟨_, rfl, lvb ag46 b89 rfl⟩, ⟨_, rfl, lvb ag46 b95 rfl⟩, rfl, trivial⟩, ?_⟩
    have hdm := dm_neg1 (u := vl b32 xs) hvp (by omega) n2
    exact ⟨_, _, _, _, _, _, _, _, rfl, z163, ((hz147.ck (((x154.ck _).trans (y158.ck (by intro hh; first | (simp [SX] at hh <;> omega) | omega))).trans (y162.ck (by intro hh; first | (simp [SX] at hh <;> omega) | omega))))).un.cast (by rw [vl_dg (by decide) (by omega)]; exact hdm.1), ((hz152.ck ((y158.ck (by intro hh; first | (simp [SX] at hh <;> omega) | omega)).trans (y162.ck (by intro hh; first | (simp [SX] at hh <;> omega) | omega))))).un.cast (by rw [vl_dg (by decide) (by omega)]; exact hdm.2)⟩
   ·intro c131
    refine vv (rpk (v := .bool false) rfl rfl) ?_
    refine vnil ?_
    refine V.condF rfl ?_
    refine V.skip ?_
    refine V.seq (V.reg rfl ?_)
    refine vv (rfa rfl fd46_0) ?_
    refine vv (rldb (v := .bool true) rfl sc4 b77 rfl) ?_
    refine vv (rfa rfl fd46_0) ?_
    refine vv (rldb (v := .bool _) rfl sc4 b83 rfl) ?_
    refine vv (rbne Tryz.underlying4 rfl rfl rfl) ?_
    refine mvs rfl ?_
    refine vo ?_
    refine xcall e197 (rof_ok _ _ _ _ _ _ _ _ hdq (Dg.dg (by decide) _) (by omega) (hu2 _ (by omega))) rfl rfl ?_
    rintro _ W166 ⟨_, _, _, _, rfl, x167, hz165⟩
    have s168 := x167.sz
    have z169 := z130.trans x167
    replace b89 := b89.ext x167
    replace b95 := b95.ext x167
    refine ⟨_, rfl, ?_⟩
    refine mvs rfl ?_
    refine vo ?_
    refine xcall e197 (rof_ok _ _ _ _ _ _ _ _ (hdr.ext x167) (Dg.dg (by decide) _) (by omega) (hu2 _ (by omega))) rfl rfl ?_
    rintro _ W171 ⟨_, _, _, _, rfl, x172, hz170⟩
    have s173 := x172.sz
    have z174 := z169.trans x172
    replace b89 := b89.ext x172
    replace b95 := b95.ext x172
    refine ⟨_, rfl, ?_⟩
    refine vo ?_
    refine sta (cs' := [_, _]) b89 rfl rfl sz46 rfl rfl rfl ?_
    intro W175 y176 b89
    have z177 := z174.below (y176.below (by omega))
    replace b95 := b95.wr y176 (by omega)
    have s178 := y176.size
    refine vo ?_
    refine sta (cs' := [_, _]) b95 rfl rfl sz46 rfl rfl rfl ?_
    intro W179 y180 b95
    have z181 := z177.below (y180.below (by omega))
    replace b89 := b89.wr y180 (by omega)
    have s182 := y180.size
    refine asi rfl ?_
    refine vnil ?_
    refine V.ret ?_
    refine ⟨[_, _, .int _ _], ⟨⟨_, rfl, lvb ag46 b89 rfl⟩, ⟨_, rfl, lvb ag46 b95 rfl⟩, rfl, trivial⟩, ?_⟩
    have hdm := dm_neg0 (u := vl b32 xs) hvp (by omega) n2
    exact ⟨_, _, _, _, _, _, _, _, rfl, z181, ((hz165.ck (((x172.ck _).trans (y176.ck (by intro hh; first | (simp [SX] at hh <;> omega) | omega))).trans (y180.ck (by intro hh; first | (simp [SX] at hh <;> omega) | omega))))).un.cast (by rw [vl_dg (by decide) hnn.1]; exact hdm.1), ((hz170.ck ((y176.ck (by intro hh; first | (simp [SX] at hh <;> omega) | omega)).trans (y180.ck (by intro hh; first | (simp [SX] at hh <;> omega) | omega))))).un.cast (by rw [vl_dg (by decide) hnn.2.1]; exact hdm.2)⟩
set_option maxHeartbeats 400000 in
theorem rCmpZ_ok (n1 : Bool) (a1 : Option Addr) (l1 c1 : Nat) (z1 : Int) (L1 : Nat) (n2 : Bool) (a2 : Option Addr) (l2 c2 : Nat) (z2 : Int) (L2 : Nat) (S1 S2 : Nat → Prop) (w : World) (h1 : ZA L1 S1 w n1 a1 l1 c1 z1) (hL1 : L1 ≤ LX / 64) (h2 : ZA L2 S2 w n2 a2 l2 c2 z2) (hL2 : L2 ≤ LX / 64) :
    Calls Tryz.prog 192 #[.agg #[.bool n1, .slice a1 l1 c1], .agg #[.bool n2, .slice a2 l2 c2]] w (fun e w' => ∃ s, e = .returned (.int .i64 s) ∧ Ext w w' ∧ (s = 0 ↔ z1 = z2)) := by
 have z0 := Ext.refl w; have hLX : LX = 17592186044416 := rfl; have hLY : LY = 8796093022208 := rfl
 have h1' := h1; obtain ⟨xs, hx, hq1, hz1⟩ := h1'; have hv1 := vl_nonneg (B := b32) (by decide) hx.dg32
 have h2' := h2; obtain ⟨ys, hy, hq2, hz2⟩ := h2'; have hv2 := vl_nonneg (B := b32) (by decide) hy.dg32
 refine enter (args := [.agg #[.bool n1, .slice a1 l1 c1], .agg #[.bool n2, .slice a2 l2 c2]]) Tryz.func192 rfl rfl (Nat.le_of_ble_eq_true rfl) ?_
 refine V.seq (V.reg rfl ?_)
 refine vo ?_
 refine bxa rfl ?_
 intro W1 x2 b3 nn4
 have s5 := x2.sz
 have z6 := x2
 refine vo ?_
 refine bxa rfl ?_
 intro W7 x8 b9 nn10
 have s11 := x8.sz
 have z12 := z6.trans x8
 replace b3 := b3.ext x8
 refine asi rfl ?_
 refine vnil ?_
 refine V.seq ?_
 refine V.seq (V.regD mixed rfl ?_)
 intro W13 x14
 have s15 := x14.sz
 have z16 := z12.trans x14
 replace b3 := b3.ext x14
 replace b9 := b9.ext x14
 have q17 := Ext.refl W13
 have r18 := b3
 have r19 := b9
 refine tk 0 rfl (by kernel_rfl) q17 (pv (fun _ y20 => rldb2 rfl ag46 (r18.ext y20) rfl rfl )) ?_
 refine tk 2 rfl (by kernel_rfl) q17 (pv (fun _ y21 => rldb2 rfl ag46 (r19.ext y21) rfl rfl )) ?_
 refine ef 1 (by kernel_rfl) rfl ?_
 refine xcall e172 (rSign_ok _ _ _ _ _ _ _ _ (h1.ext z16) (by omega)) rfl rfl ?_
 rintro _ W22 ⟨rfl, x23⟩
 have s24 := x23.sz
 have z25 := z16.trans x23
 replace b3 := b3.ext x23
 replace b9 := b9.ext x23
 have q26 := q17.trans x23
 refine ⟨_, rfl, ?_⟩
 refine ⟨fun _ => q26, ?_⟩
 refine ef 3 (by kernel_rfl) rfl ?_
 refine xcall e172 (rSign_ok _ _ _ _ _ _ _ _ (h2.ext z25) (by omega)) rfl rfl ?_
 rintro _ W27 ⟨rfl, x28⟩
 have s29 := x28.sz
 have z30 := z25.trans x28
 replace b3 := b3.ext x28
 replace b9 := b9.ext x28
 have q31 := q26.trans x28
 refine ⟨_, rfl, ?_⟩
 refine ⟨fun _ => q31, ?_⟩
 refine tk 4 rfl (by kernel_rfl) q31 (pv (fun _ y32 => rcmp (cNe rfl) rfl rfl rfl)) ?_
 refine dn (by kernel_rfl) ?_
 refine V.condB rfl ?_ ?_
 ·intro c0
  refine V.seq ?_
  refine V.seq (V.regD mixed rfl ?_)
  intro W33 x34
  have s35 := x34.sz
  have z36 := z30.trans x34
  replace b3 := b3.ext x34
  replace b9 := b9.ext x34
  have q37 := Ext.refl W33
  have r38 := b3
  have r39 := b9
  refine tk 0 rfl (by kernel_rfl) q37 (pv (fun _ y40 => rldb2 rfl ag46 (r38.ext y40) rfl rfl )) ?_
  refine tk 2 rfl (by kernel_rfl) q37 (pv (fun _ y41 => rldb2 rfl ag46 (r39.ext y41) rfl rfl )) ?_
  refine ef 1 (by kernel_rfl) rfl ?_
  refine xcall e172 (rSign_ok _ _ _ _ _ _ _ _ (h1.ext z36) (by omega)) rfl rfl ?_
  rintro _ W42 ⟨rfl, x43⟩
  have s44 := x43.sz
  have z45 := z36.trans x43
  have q46 := q37.trans x43
  refine ⟨_, rfl, ?_⟩
  refine ⟨fun _ => q46, ?_⟩
  refine ef 3 (by kernel_rfl) rfl ?_
  refine xcall e172 (rSign_ok _ _ _ _ _ _ _ _ (h2.ext z45) (by omega)) rfl rfl ?_
  rintro _ W47 ⟨rfl, x48⟩
  have s49 := x48.sz
  have z50 := z45.trans x48
  have q51 := q46.trans x48
  refine ⟨_, rfl, ?_⟩
  refine ⟨fun _ => q51, ?_⟩
  refine tk 4 rfl (by kernel_rfl) q51 (pv (fun _ y52 => rcmp (cLt rfl) rfl rfl rfl)) ?_
  refine dn (by kernel_rfl) ?_
  refine V.condB rfl ?_ ?_
  ·intro c53
   refine V.seq (V.reg rfl ?_)
   refine asi rfl ?_
   refine vnil ?_
   refine V.ret ?_
   refine ⟨[.int _ _], ⟨rfl, trivial⟩, ?_⟩
   exact ⟨_, rfl, z50, ⟨fun h => absurd h (by decide), fun h => absurd h (cmpZ_ne (of_decide_eq_true c0))⟩⟩
  ·intro c53
   refine V.skip ?_
   refine V.seq (V.reg rfl ?_)
   refine asi rfl ?_
   refine vnil ?_
   refine V.ret ?_
   refine ⟨[.int _ _], ⟨rfl, trivial⟩, ?_⟩
   exact ⟨_, rfl, z50, ⟨fun h => absurd h (by decide), fun h => absurd h (cmpZ_ne (of_decide_eq_true c0))⟩⟩
 ·intro c0
  refine V.skip ?_
  refine V.seq (V.regD mixed rfl ?_)
  intro W54 x55
  have s56 := x55.sz
  have z57 := z30.trans x55
  replace b3 := b3.ext x55
  replace b9 := b9.ext x55
  have q58 := Ext.refl W54
  have r59 := b3
  have r60 := b9
  refine tk 0 rfl (by kernel_rfl) q58 (pv (fun _ y61 => rfa rfl fd46_1)) ?_
  refine tk 1 rfl (by kernel_rfl) q58 (pv (fun _ y62 => rldb (v := .slice _ _ _) rfl sc44 (r59.ext y62) rfl)) ?_
  refine tk 3 rfl (by kernel_rfl) q58 (pv (fun _ y63 => rfa rfl fd46_1)) ?_
  refine tk 4 rfl (by kernel_rfl) q58 (pv (fun _ y64 => rldb (v := .slice _ _ _) rfl sc44 (r60.ext y64) rfl)) ?_
  refine ef 2 (by kernel_rfl) rfl ?_
  refine xcall e198 (halves_ok _ _ _ _ _ _ _ (hx.ext z57) (by omega) (TT.up _)) rfl rfl ?_
  rintro _ W66 ⟨_, _, _, rfl, x67, hh65, hh65n⟩
  have s68 := x67.sz
  have z69 := z57.trans x67
  replace b3 := b3.ext x67
  have q70 := q58.trans x67
  refine ⟨_, rfl, ?_⟩
  refine ⟨fun _ => q70, ?_⟩
  refine ef 5 (by kernel_rfl) rfl ?_
  refine xcall e198 (halves_ok _ _ _ _ _ _ _ (hy.ext z69) (by omega) (TT.up _)) rfl rfl ?_
  rintro _ W72 ⟨_, _, _, rfl, x73, hh71, hh71n⟩
  have s74 := x73.sz
  have z75 := z69.trans x73
  replace b3 := b3.ext x73
  have q76 := q70.trans x73
  refine ⟨_, rfl, ?_⟩
  refine ⟨fun _ => q76, ?_⟩
  refine ef 6 (by kernel_rfl) rfl ?_
  refine xcall e202 (rcmp_ok _ _ _ _ _ _ _ _ _ _ _ (hh65.ext x73) (Dg.dg (by decide) _) hh71 (Dg.dg (by decide) _)) rfl rfl ?_
  rintro _ _ ⟨rfl, rfl⟩
  rw [vl_dg (by decide) hv1, vl_dg (by decide) hv2]
  have hcr := cmpI_range (vl b32 xs) (vl b32 ys)
  refine ⟨_, rfl, ?_⟩
  refine ⟨fun _ => q76, ?_⟩
  refine tk 7 rfl (by kernel_rfl) q76 (pv (fun _ y78 => ras (v := .int _ _) rfl)) ?_
  refine dn (by kernel_rfl) ?_
  refine V.seq ?_
  refine V.seq (V.reg rfl ?_)
  refine vv (rldb2 rfl ag46 b3 rfl rfl ) ?_
  refine vo ?_
  refine xcall e172 (rSign_ok _ _ _ _ _ _ _ _ (h1.ext z75) (by omega)) rfl rfl ?_
  rintro _ W79 ⟨rfl, x80⟩
  have s81 := x80.sz
  have z82 := z75.trans x80
  refine ⟨_, rfl, ?_⟩
  refine vlt rfl rfl ?_ ?_
  ·intro c83
   refine vnil ?_
   refine V.condT rfl ?_
   refine V.seq (V.reg rfl ?_)
   refine mvi rfl ?_
   refine vv (rneg rfl (wi (by omega))) ?_
   refine asi rfl ?_
   refine vnil ?_
   refine V.ret ?_
   refine ⟨[.int _ _], ⟨rfl, trivial⟩, ?_⟩
   have hcz : cmpI (vl b32 xs) (vl b32 ys) = 0 ↔ z1 = z2 := cmpI_zero.trans (by have he := cmpZ_eq n1 n2 hv1 hv2 (by rw [← hz1, ← hz2]; simpa using c0); rw [← hz1, ← hz2] at he; exact he)
   exact ⟨_, rfl, z82, fun h => hcz.1 (by omega), fun h => by have := hcz.2 h; omega⟩
  ·intro c83
   refine vnil ?_
   refine V.condF rfl ?_
   refine V.skip ?_
   refine V.seq (V.reg rfl ?_)
   refine mvi rfl ?_
   refine asi rfl ?_
   refine vnil ?_
   refine V.ret ?_
   refine ⟨[.int _ _], ⟨rfl, trivial⟩, ?_⟩
   have hcz : cmpI (vl b32 xs) (vl b32 ys) = 0 ↔ z1 = z2 := cmpI_zero.trans (by have he := cmpZ_eq n1 n2 hv1 hv2 (by rw [← hz1, ← hz2]; simpa using c0); rw [← hz1, ← hz2] at he; exact he)
   exact ⟨_, rfl, z82, hcz⟩
end Go.Proofs.YtknbjfefeeojlaaGreat
/- Package pylonref02: one den num over Least Of Neg Sign Mul. -/
namespace Go.Proofs.YtknbjfefeeojlaaGreat
open Go.RowKit
attribute [local irreducible] RV VH V OpF Calls
def dnq (y : Int) : Int := if y = 0 then 1 else (y.natAbs : Int)
def nmq (x y : Int) : Int := if y < 0 then -x else x
theorem dn_pos (y : Int) : 0 < dnq y := by unfold dnq; split <;> omega
theorem qv_nd (x y : Int) : Rat.divInt (nmq x y) (dnq y) = qv x y := by
  unfold nmq dnq
  by_cases h : y = 0
  · subst h; rw [if_pos rfl, if_neg (by omega), qv0]
  · rw [if_neg h, qvn h]
    by_cases h1 : y < 0
    · rw [if_pos h1, show ((y.natAbs : Nat) : Int) = -y by omega, Rat.neg_divInt_neg]
    · rw [if_neg h1, show ((y.natAbs : Nat) : Int) = y by omega]
theorem nm_abs (x y : Int) : ((nmq x y).natAbs : Int) = x.natAbs := by unfold nmq; split <;> simp
theorem one_lt_pow {L : Nat} (hL : 1 ≤ L) : (1 : Int) < b32 ^ L := by
  have := pow_mono (n := 1) (m := L) hL
  have e : b32 ^ 1 = 4294967296 := by decide
  omega
theorem dn_abs {y : Int} {L : Nat} (hL : 1 ≤ L) (h : (y.natAbs : Int) < b32 ^ L) : ((dnq y).natAbs : Int) < b32 ^ L := by
  have := one_lt_pow hL
  unfold dnq; split
  · simpa using this
  · simpa using h
theorem nm_lt {x y : Int} {L : Nat} (h : (x.natAbs : Int) < b32 ^ L) : ((nmq x y).natAbs : Int) < b32 ^ L := by rw [nm_abs]; exact h

set_option maxHeartbeats 400000 in
theorem rOne_ok (S : Nat → Prop) (w : World) (hu : Up S w) :
    Calls Tryz.prog 193 #[] w (PZ S 1 w) := by
 have z0 := Ext.refl w; have hLX : LX = 17592186044416 := rfl; have hLY : LY = 8796093022208 := rfl
 have hu2 : ∀ W : World, w.heap.size + 1 ≤ W.heap.size → Up (SX S [w.heap.size]) W := fun W hW => SX.up (hu.mono (by omega)) (by simp <;> omega)
 refine enter (args := []) Tryz.func193 rfl rfl (Nat.le_of_ble_eq_true rfl) ?_
 refine V.seq (V.reg rfl ?_)
 refine vo ?_
 refine xal zc46 ?_
 intro W1 x2 b3 nn4
 have s5 := x2.sz
 have z6 := x2
 refine vnil ?_
 refine V.seq (V.reg rfl ?_)
 refine vo ?_
 refine xcall e165 (rFrom_ok _ _ _ (by omega) (hu2 _ (by omega))) rfl rfl ?_
 rintro _ W8 ⟨_, _, _, _, rfl, x9, hz7⟩
 have s10 := x9.sz
 have z11 := z6.trans x9
 replace b3 := b3.ext x9
 refine ⟨_, rfl, ?_⟩
 refine vo ?_
 refine sta (cs' := [_, _]) b3 rfl rfl sz46 rfl rfl rfl ?_
 intro W12 y13 b3
 have z14 := z11.below (y13.below (by omega))
 have s15 := y13.size
 refine vnil ?_
 refine V.ret ?_
 refine ⟨[_], ⟨⟨_, rfl, lvb ag46 b3 rfl⟩, trivial⟩, ?_⟩
 exact ⟨_, _, _, _, rfl, z14, ((hz7.ck (y13.ck (by intro hh; first | (simp [SX] at hh <;> omega) | omega)))).un⟩
set_option maxHeartbeats 400000 in
theorem rDen_ok (q : List Value) (x y : Int) (L : Nat) (S S1 : Nat → Prop) (w : World) (h : PA L S1 w q x y) (hL : L ≤ LX / 64) (hu : Up S w) :
    Calls Tryz.prog 161 #[.agg q.toArray] w (PZ S (dnq y) w) := by
 have z0 := Ext.refl w; have hLX : LX = 17592186044416 := rfl; have hLY : LY = 8796093022208 := rfl
 obtain ⟨n1, a1, l1, c1, n2, a2, l2, c2, rfl⟩ := h.form
 obtain ⟨hx, hy⟩ := h.one
 have hu2 : ∀ W : World, w.heap.size + 2 ≤ W.heap.size → Up (SX S [w.heap.size + 1]) W := fun W hW => SX.up (hu.mono (by omega)) (by simp <;> omega)
 refine enter (args := [.agg #[.bool n1, .slice a1 l1 c1, .bool n2, .slice a2 l2 c2]]) Tryz.func161 rfl rfl (Nat.le_of_ble_eq_true rfl) ?_
 refine V.seq (V.reg rfl ?_)
 refine vo ?_
 refine bxa rfl ?_
 intro W1 x2 b3 nn4
 have s5 := x2.sz
 have z6 := x2
 refine vo ?_
 refine xal zc46 ?_
 intro W7 x8 b9 nn10
 have s11 := x8.sz
 have z12 := z6.trans x8
 replace b3 := b3.ext x8
 refine vnil ?_
 refine V.seq ?_
 refine V.seq (V.reg rfl ?_)
 refine vv (rfa rfl fd48_1) ?_
 refine vv (rldb2 rfl ag46 b3 rfl rfl ) ?_
 refine vo ?_
 refine xcall e172 (rSign_ok _ _ _ _ _ _ _ _ (hy.ext z12) (by omega)) rfl rfl ?_
 rintro _ W13 ⟨rfl, x14⟩
 have s15 := x14.sz
 have z16 := z12.trans x14
 replace b3 := b3.ext x14
 replace b9 := b9.ext x14
 refine ⟨_, rfl, ?_⟩
 refine veq rfl rfl ?_ ?_
 ·intro cs
  refine vnil ?_
  refine V.condT rfl ?_
  refine V.seq (V.reg rfl ?_)
  refine vo ?_
  refine xcall e193 (rOne_ok _ _ (hu2 _ (by omega))) rfl rfl ?_
  rintro _ W18 ⟨_, _, _, _, rfl, x19, hz17⟩
  have s20 := x19.sz
  have z21 := z16.trans x19
  replace b9 := b9.ext x19
  refine ⟨_, rfl, ?_⟩
  refine vo ?_
  refine sta (cs' := [_, _]) b9 rfl rfl sz46 rfl rfl rfl ?_
  intro W22 y23 b9
  have z24 := z21.below (y23.below (by omega))
  have s25 := y23.size
  refine vnil ?_
  refine V.ret ?_
  refine ⟨[_], ⟨⟨_, rfl, lvb ag46 b9 rfl⟩, trivial⟩, ?_⟩
  exact ⟨_, _, _, _, rfl, z24, ((hz17.ck (y23.ck (by intro hh; first | (simp [SX] at hh <;> omega) | omega)))).un.cast (by rw [dnq, if_pos (sg_eq0 cs)])⟩
 ·intro cs
  refine vnil ?_
  refine V.condF rfl ?_
  refine V.skip ?_
  refine V.seq (V.reg rfl ?_)
  refine vv (rfa rfl fd48_1) ?_
  refine vv (rldb2 rfl ag46 b3 rfl rfl ) ?_
  refine vo ?_
  refine xcall e195 (rAbs_ok _ _ _ _ _ _ _ _ _ (hy.ext z16) (by omega) (hu2 _ (by omega))) rfl rfl ?_
  rintro _ W27 ⟨_, _, _, _, rfl, x28, hz26⟩
  have s29 := x28.sz
  have z30 := z16.trans x28
  replace b9 := b9.ext x28
  refine ⟨_, rfl, ?_⟩
  refine vo ?_
  refine sta (cs' := [_, _]) b9 rfl rfl sz46 rfl rfl rfl ?_
  intro W31 y32 b9
  have z33 := z30.below (y32.below (by omega))
  have s34 := y32.size
  refine vnil ?_
  refine V.ret ?_
  refine ⟨[_], ⟨⟨_, rfl, lvb ag46 b9 rfl⟩, trivial⟩, ?_⟩
  exact ⟨_, _, _, _, rfl, z33, ((hz26.ck (y32.ck (by intro hh; first | (simp [SX] at hh <;> omega) | omega)))).un.cast (by rw [dnq, if_neg (fun h => cs (by rw [h]; rfl))])⟩

theorem sg_lt0 {y : Int} (h : sg y < 0) : y < 0 := by unfold sg at h; (repeat' split at h) <;> omega
theorem sg_ge0 {y : Int} (h : 0 ≤ sg y) : ¬ y < 0 := by unfold sg at h; (repeat' split at h) <;> omega

set_option maxHeartbeats 400000 in
theorem rNum_ok (q : List Value) (x y : Int) (L : Nat) (S S1 : Nat → Prop) (w : World) (h : PA L S1 w q x y) (hL : L ≤ LX / 64) (hu : Up S w) :
    Calls Tryz.prog 160 #[.agg q.toArray] w (PZ S (nmq x y) w) := by
 have z0 := Ext.refl w; have hLX : LX = 17592186044416 := rfl; have hLY : LY = 8796093022208 := rfl
 obtain ⟨n1, a1, l1, c1, n2, a2, l2, c2, rfl⟩ := h.form
 obtain ⟨hx, hy⟩ := h.one
 have hu2 : ∀ W : World, w.heap.size + 2 ≤ W.heap.size → Up (SX S [w.heap.size + 1]) W := fun W hW => SX.up (hu.mono (by omega)) (by simp <;> omega)
 refine enter (args := [.agg #[.bool n1, .slice a1 l1 c1, .bool n2, .slice a2 l2 c2]]) Tryz.func160 rfl rfl (Nat.le_of_ble_eq_true rfl) ?_
 refine V.seq (V.reg rfl ?_)
 refine vo ?_
 refine bxa rfl ?_
 intro W1 x2 b3 nn4
 have s5 := x2.sz
 have z6 := x2
 refine vo ?_
 refine xal zc46 ?_
 intro W7 x8 b9 nn10
 have s11 := x8.sz
 have z12 := z6.trans x8
 replace b3 := b3.ext x8
 refine vnil ?_
 refine V.seq ?_
 refine V.seq (V.reg rfl ?_)
 refine vv (rfa rfl fd48_1) ?_
 refine vv (rldb2 rfl ag46 b3 rfl rfl ) ?_
 refine vo ?_
 refine xcall e172 (rSign_ok _ _ _ _ _ _ _ _ (hy.ext z12) (by omega)) rfl rfl ?_
 rintro _ W13 ⟨rfl, x14⟩
 have s15 := x14.sz
 have z16 := z12.trans x14
 replace b3 := b3.ext x14
 replace b9 := b9.ext x14
 refine ⟨_, rfl, ?_⟩
 refine vlt rfl rfl ?_ ?_
 ·intro cs
  refine vnil ?_
  refine V.condT rfl ?_
  refine V.seq (V.reg rfl ?_)
  refine vv (rfa rfl fd48_0) ?_
  refine vv (rldb2 rfl ag46 b3 rfl rfl ) ?_
  refine vo ?_
  refine xcall e166 (rNeg_ok _ _ _ _ _ _ _ _ _ (hx.ext z16) (by omega) (hu2 _ (by omega))) rfl rfl ?_
  rintro _ W18 ⟨_, _, _, _, rfl, x19, hz17⟩
  have s20 := x19.sz
  have z21 := z16.trans x19
  replace b9 := b9.ext x19
  refine ⟨_, rfl, ?_⟩
  refine vo ?_
  refine sta (cs' := [_, _]) b9 rfl rfl sz46 rfl rfl rfl ?_
  intro W22 y23 b9
  have z24 := z21.below (y23.below (by omega))
  have s25 := y23.size
  refine vnil ?_
  refine V.ret ?_
  refine ⟨[_], ⟨⟨_, rfl, lvb ag46 b9 rfl⟩, trivial⟩, ?_⟩
  exact ⟨_, _, _, _, rfl, z24, ((hz17.ck (y23.ck (by intro hh; first | (simp [SX] at hh <;> omega) | omega)))).un.cast (by rw [nmq, if_pos (sg_lt0 cs)])⟩
 ·intro cs
  refine vnil ?_
  refine V.condF rfl ?_
  refine V.skip ?_
  refine V.seq (V.reg rfl ?_)
  refine vv (rfa rfl fd48_0) ?_
  refine vv (rldb2 rfl ag46 b3 rfl rfl ) ?_
  refine vo ?_
  refine xcall e194 (rLeastZ_ok _ _ _ _ _ _ _ _ _ (hx.ext z16) (by omega) (hu2 _ (by omega))) rfl rfl ?_
  rintro _ W27 ⟨_, _, _, _, rfl, x28, hz26⟩
  have s29 := x28.sz
  have z30 := z16.trans x28
  replace b9 := b9.ext x28
  refine ⟨_, rfl, ?_⟩
  refine vo ?_
  refine sta (cs' := [_, _]) b9 rfl rfl sz46 rfl rfl rfl ?_
  intro W31 y32 b9
  have z33 := z30.below (y32.below (by omega))
  have s34 := y32.size
  refine vnil ?_
  refine V.ret ?_
  refine ⟨[_], ⟨⟨_, rfl, lvb ag46 b9 rfl⟩, trivial⟩, ?_⟩
  exact ⟨_, _, _, _, rfl, z33, ((hz26.ck (y32.ck (by intro hh; first | (simp [SX] at hh <;> omega) | omega)))).un.cast (by rw [nmq, if_neg (sg_ge0 cs)])⟩
set_option maxHeartbeats 400000 in
theorem rOver_ok (n1 : Bool) (a1 : Option Addr) (l1 c1 : Nat) (n : Int) (L1 : Nat) (n2 : Bool) (a2 : Option Addr) (l2 c2 : Nat) (d : Int) (L2 : Nat) (S S1 S2 : Nat → Prop) (w : World) (h1 : ZA L1 S1 w n1 a1 l1 c1 n) (hL1 : L1 ≤ LX / 64) (h2 : ZA L2 S2 w n2 a2 l2 c2 d) (hL2 : L2 ≤ LX / 64) (hd : 0 < d) (hu : Up S w) :
    Calls Tryz.prog 159 #[.agg #[.bool n1, .slice a1 l1 c1], .agg #[.bool n2, .slice a2 l2 c2]] w (PQ S (Rat.divInt n d) w) := by
 have z0 := Ext.refl w; have hLX : LX = 17592186044416 := rfl; have hLY : LY = 8796093022208 := rfl
 have hu2 : ∀ W : World, w.heap.size + 3 ≤ W.heap.size → Up (SX S [w.heap.size + 2]) W := fun W hW => SX.up (hu.mono (by omega)) (by simp <;> omega)
 refine enter (args := [.agg #[.bool n1, .slice a1 l1 c1], .agg #[.bool n2, .slice a2 l2 c2]]) Tryz.func159 rfl rfl (Nat.le_of_ble_eq_true rfl) ?_
 refine V.seq (V.reg rfl ?_)
 refine vo ?_
 refine bxa rfl ?_
 intro W1 x2 b3 nn4
 have s5 := x2.sz
 have z6 := x2
 refine vo ?_
 refine bxa rfl ?_
 intro W7 x8 b9 nn10
 have s11 := x8.sz
 have z12 := z6.trans x8
 replace b3 := b3.ext x8
 refine vo ?_
 refine xal zc48 ?_
 intro W13 x14 b15 nn16
 have s17 := x14.sz
 have z18 := z12.trans x14
 replace b3 := b3.ext x14
 replace b9 := b9.ext x14
 refine vnil ?_
 refine V.seq (V.reg rfl ?_)
 refine vv (rldb2 rfl ag46 b3 rfl rfl ) ?_
 refine vv (rldb2 rfl ag46 b9 rfl rfl ) ?_
 refine vo ?_
 refine xcall e190 (rGcd_ok _ _ _ _ _ _ _ _ _ _ _ _ _ _ _ _ (h1.ext z18) hL1 (h2.ext z18) hL2 (hu2 _ (by omega))) rfl rfl ?_
 rintro _ W20 ⟨_, _, _, _, rfl, x21, hz19⟩
 have s22 := x21.sz
 have z23 := z18.trans x21
 replace b3 := b3.ext x21
 replace b9 := b9.ext x21
 replace b15 := b15.ext x21
 have hg := (ZC.zaH (L := L2) hz19 (by have := gcd_le (x := n) (y := d) hd; have := h2.lt; omega)).un
 refine ⟨_, rfl, ?_⟩
 refine vo ?_
 refine xal zc46 ?_
 intro W25 x26 b27 nn28
 have s29 := x26.sz
 have z30 := z23.trans x26
 have z31 := x26
 replace b3 := b3.ext x26
 replace b9 := b9.ext x26
 replace b15 := b15.ext x26
 refine vo ?_
 refine sta (cs' := [_, _]) b27 rfl rfl sz46 rfl rfl rfl ?_
 intro W32 y33 b27
 have z34 := z30.below (y33.below (by omega))
 have z35 := z31.below (y33.below (by omega))
 replace b3 := b3.wr y33 (by omega)
 replace b9 := b9.wr y33 (by omega)
 replace b15 := b15.wr y33 (by omega)
 have s36 := y33.size
 refine vnil ?_
 refine V.seq (V.reg rfl ?_)
 refine vv (rldb2 rfl ag46 b3 rfl rfl ) ?_
 refine vv (rldb2 rfl ag46 b27 rfl rfl ) ?_
 refine vo ?_
 refine xcall e191 (rDivZ_ok _ _ _ _ _ _ _ _ _ _ _ _ _ _ _ _ (h1.ext z34) (by omega) (hg.ext z35) hL2 (gcd_le hd).2 (hu2 _ (by omega))) rfl rfl ?_
 rintro _ W38 ⟨_, _, _, _, _, _, _, _, rfl, x39, hp, _⟩
 have s40 := x39.sz
 have z41 := z34.trans x39
 have z42 := z35.trans x39
 replace b3 := b3.ext x39
 replace b9 := b9.ext x39
 replace b15 := b15.ext x39
 replace b27 := b27.ext x39
 refine ⟨_, rfl, ?_⟩
 refine mvt rfl ?_
 refine vv (rext (v := .agg #[_, _]) rfl rfl) ?_
 refine vv (rext (v := .agg #[_, _]) rfl rfl) ?_
 refine vv (rext (v := .int _ _) rfl rfl) ?_
 refine vo ?_
 refine xal zc46 ?_
 intro W44 x45 b46 nn47
 have s48 := x45.sz
 have z49 := z41.trans x45
 have z50 := z42.trans x45
 have z51 := x45
 replace b3 := b3.ext x45
 replace b9 := b9.ext x45
 replace b15 := b15.ext x45
 replace b27 := b27.ext x45
 refine vo ?_
 refine xal zc46 ?_
 intro W52 x53 b54 nn55
 have s56 := x53.sz
 have z57 := z49.trans x53
 have z58 := z50.trans x53
 have z59 := z51.trans x53
 replace b3 := b3.ext x53
 replace b9 := b9.ext x53
 replace b15 := b15.ext x53
 replace b27 := b27.ext x53
 replace b46 := b46.ext x53
 refine vo ?_
 refine sta (cs' := [_, _]) b46 rfl rfl sz46 rfl rfl rfl ?_
 intro W60 y61 b46
 have z62 := z57.below (y61.below (by omega))
 have z63 := z58.below (y61.below (by omega))
 have z64 := z59.below (y61.below (by omega))
 replace b3 := b3.wr y61 (by omega)
 replace b9 := b9.wr y61 (by omega)
 replace b15 := b15.wr y61 (by omega)
 replace b27 := b27.wr y61 (by omega)
 replace b54 := b54.wr y61 (by omega)
 have s65 := y61.size
 refine vo ?_
 refine sta (cs' := [_, _]) b54 rfl rfl sz46 rfl rfl rfl ?_
 intro W66 y67 b54
 have z68 := z62.below (y67.below (by omega))
 have z69 := z63.below (y67.below (by omega))
 have z70 := z64.below (y67.below (by omega))
 replace b3 := b3.wr y67 (by omega)
 replace b9 := b9.wr y67 (by omega)
 replace b15 := b15.wr y67 (by omega)
 replace b27 := b27.wr y67 (by omega)
 replace b46 := b46.wr y67 (by omega)
 have s71 := y67.size
 refine asi rfl ?_
 refine vnil ?_
 refine V.seq (V.reg rfl ?_)
 refine vv (rldb2 rfl ag46 b9 rfl rfl ) ?_
 refine vv (rldb2 rfl ag46 b27 rfl rfl ) ?_
 refine vo ?_
 refine xcall e191 (rDivZ_ok _ _ _ _ _ _ _ _ _ _ _ _ _ _ _ _ (h2.ext z68) (by omega) (hg.ext z69) hL2 (gcd_le hd).2 (hu2 _ (by omega))) rfl rfl ?_
 rintro _ W73 ⟨_, _, _, _, _, _, _, _, rfl, x74, hq, _⟩
 have s75 := x74.sz
 have z76 := z68.trans x74
 have z78 := z70.trans x74
 replace b3 := b3.ext x74
 replace b9 := b9.ext x74
 replace b15 := b15.ext x74
 replace b27 := b27.ext x74
 replace b46 := b46.ext x74
 replace b54 := b54.ext x74
 refine ⟨_, rfl, ?_⟩
 refine mvt rfl ?_
 refine vv (rext (v := .agg #[_, _]) rfl rfl) ?_
 refine vv (rext (v := .agg #[_, _]) rfl rfl) ?_
 refine vv (rext (v := .int _ _) rfl rfl) ?_
 refine vo ?_
 refine xal zc46 ?_
 intro W80 x81 b82 nn83
 have s84 := x81.sz
 have z85 := z76.trans x81
 have z87 := z78.trans x81
 have z88 := x81
 replace b3 := b3.ext x81
 replace b9 := b9.ext x81
 replace b15 := b15.ext x81
 replace b27 := b27.ext x81
 replace b46 := b46.ext x81
 replace b54 := b54.ext x81
 refine vo ?_
 refine xal zc46 ?_
 intro W89 x90 b91 nn92
 have s93 := x90.sz
 have z94 := z85.trans x90
 have z96 := z87.trans x90
 have z97 := z88.trans x90
 replace b3 := b3.ext x90
 replace b9 := b9.ext x90
 replace b15 := b15.ext x90
 replace b27 := b27.ext x90
 replace b46 := b46.ext x90
 replace b54 := b54.ext x90
 replace b82 := b82.ext x90
 refine vo ?_
 refine sta (cs' := [_, _]) b82 rfl rfl sz46 rfl rfl rfl ?_
 intro W98 y99 b82
 have z100 := z94.below (y99.below (by omega))
 have z102 := z96.below (y99.below (by omega))
 have z103 := z97.below (y99.below (by omega))
 replace b3 := b3.wr y99 (by omega)
 replace b9 := b9.wr y99 (by omega)
 replace b15 := b15.wr y99 (by omega)
 replace b27 := b27.wr y99 (by omega)
 replace b46 := b46.wr y99 (by omega)
 replace b54 := b54.wr y99 (by omega)
 replace b91 := b91.wr y99 (by omega)
 have s104 := y99.size
 refine vo ?_
 refine sta (cs' := [_, _]) b91 rfl rfl sz46 rfl rfl rfl ?_
 intro W105 y106 b91
 have z107 := z100.below (y106.below (by omega))
 have z109 := z102.below (y106.below (by omega))
 have z110 := z103.below (y106.below (by omega))
 replace b3 := b3.wr y106 (by omega)
 replace b9 := b9.wr y106 (by omega)
 replace b15 := b15.wr y106 (by omega)
 replace b27 := b27.wr y106 (by omega)
 replace b46 := b46.wr y106 (by omega)
 replace b54 := b54.wr y106 (by omega)
 replace b82 := b82.wr y106 (by omega)
 have s111 := y106.size
 refine asi rfl ?_
 refine vnil ?_
 refine V.seq ?_
 refine V.seq (V.regD mixed rfl ?_)
 intro W112 x113
 have s114 := x113.sz
 have z115 := z107.trans x113
 have z117 := z109.trans x113
 have z118 := z110.trans x113
 replace b3 := b3.ext x113
 replace b9 := b9.ext x113
 replace b15 := b15.ext x113
 replace b27 := b27.ext x113
 replace b46 := b46.ext x113
 replace b54 := b54.ext x113
 replace b82 := b82.ext x113
 replace b91 := b91.ext x113
 have q119 := Ext.refl W112
 have r120 := b3
 have r121 := b9
 have r122 := b15
 have r123 := b27
 have r124 := b46
 have r125 := b54
 have r126 := b82
 have r127 := b91
 refine tk 0 rfl (by kernel_rfl) q119 (pv (fun _ y128 => rldb2 rfl ag46 (r126.ext y128) rfl rfl )) ?_
 refine ef 1 (by kernel_rfl) rfl ?_
 refine xcall e193 (rOne_ok _ _ (hu2 _ (by omega))) rfl rfl ?_
 rintro _ W130 ⟨_, _, _, _, rfl, x131, hz129⟩
 have s132 := x131.sz
 have z133 := z115.trans x131
 have z135 := z117.trans x131
 have z136 := z118.trans x131
 replace b15 := b15.ext x131
 replace b46 := b46.ext x131
 replace b82 := b82.ext x131
 have q137 := q119.trans x131
 have hone := ZC.zaH (L := 1) hz129 (by decide)
 refine ⟨_, rfl, ?_⟩
 refine ⟨fun _ => q137, ?_⟩
 refine ef 2 (by kernel_rfl) rfl ?_
 have hq2 := ZC.zaH (L := L2) (hq.ext z136) (by have := h2.lt; have h3 := Int.natAbs_ediv_le_natAbs d (Int.gcd n d : Int); omega)
 refine xcall e192 (rCmpZ_ok _ _ _ _ _ _ _ _ _ _ _ _ _ _ _ hq2 hL2 hone (by omega)) rfl rfl ?_
 rintro _ W139 ⟨_, rfl, x140, hcz⟩
 have s141 := x140.sz
 have z142 := z133.trans x140
 have z144 := z135.trans x140
 have z145 := z136.trans x140
 replace b15 := b15.ext x140
 replace b46 := b46.ext x140
 replace b82 := b82.ext x140
 have q147 := q137.trans x140
 refine ⟨_, rfl, ?_⟩
 refine ⟨fun _ => q147, ?_⟩
 refine tk 3 rfl (by kernel_rfl) q147 (pv (fun _ y148 => rcmp (cEq rfl) rfl rfl rfl)) ?_
 refine dn (by kernel_rfl) ?_
 refine V.condB rfl ?_ ?_
 ·intro c1
  refine V.seq (V.reg rfl ?_)
  refine vv (rldb2 rfl ag46 b46 rfl rfl ) ?_
  refine vv (rbd (ps := [(0, .agg #[_, _])]) (cs := [.bool _, .slice _ _ _, .bool false, .slice _ _ _]) pl48 rfl rfl) ?_
  refine vo ?_
  refine sta (cs' := [_, _, _, _]) b15 rfl rfl sz48 rfl rfl rfl ?_
  intro W149 y150 b15
  have z151 := z142.below (y150.below (by omega))
  have s152 := y150.size
  refine vnil ?_
  refine V.ret ?_
  refine ⟨[_], ⟨⟨_, rfl, lvb ag48 b15 rfl⟩, trivial⟩, ?_⟩
  have hd1 := hcz.1 (of_decide_eq_true c1)
  exact ⟨_, rfl, z151, QC.mk1 (((((hp.ext z144).ck (y150.ck (by intro hh; first | (simp [SX] at hh <;> omega) | omega)))).un).cast (num_dv hd).symm) (by have := den_dv (x := n) hd; omega)⟩
 ·intro c1
  refine V.skip ?_
  refine V.seq (V.reg rfl ?_)
  refine vv (rldb2 rfl ag46 b46 rfl rfl ) ?_
  refine vv (rldb2 rfl ag46 b82 rfl rfl ) ?_
  refine vv (rbd (ps := [(0, .agg #[_, _]), (1, .agg #[_, _])]) (cs := [.bool _, .slice _ _ _, .bool _, .slice _ _ _]) pl48 rfl rfl) ?_
  refine vo ?_
  refine sta (cs' := [_, _, _, _]) b15 rfl rfl sz48 rfl rfl rfl ?_
  intro W153 y154 b15
  have z155 := z142.below (y154.below (by omega))
  have s156 := y154.size
  refine vnil ?_
  refine V.ret ?_
  refine ⟨[_], ⟨⟨_, rfl, lvb ag48 b15 rfl⟩, trivial⟩, ?_⟩
  have hd1 : d / (Int.gcd n d : Int) ≠ 1 := fun h => of_decide_eq_false c1 (hcz.2 h)
  exact ⟨_, rfl, z155, QC.mk2 (((((hp.ext z144).ck (y154.ck (by intro hh; first | (simp [SX] at hh <;> omega) | omega)))).un).cast (num_dv hd).symm) (((((hq.ext z145).ck (y154.ck (by intro hh; first | (simp [SX] at hh <;> omega) | omega)))).un).cast (den_dv hd).symm) (by have := den_dv (x := n) hd; omega)⟩
end Go.Proofs.YtknbjfefeeojlaaGreat
/- Package pylonref02: Least Of Neg Sign Mul. -/
namespace Go.Proofs.YtknbjfefeeojlaaGreat
open Go.RowKit
attribute [local irreducible] RV VH V OpF Calls
theorem qv_neg (x y : Int) : Rat.divInt (-nmq x y) (dnq y) = -qv x y := by rw [← Rat.neg_divInt, qv_nd]
theorem int_lt2 {n : Int} (h : -9223372036854775808 ≤ n ∧ n ≤ 9223372036854775807) : (n.natAbs : Int) < b32 ^ 2 := by
  have e : b32 ^ 2 = 18446744073709551616 := by decide
  omega

set_option maxHeartbeats 400000 in
theorem rLeastQ_ok (q : List Value) (r : Rat) (L : Nat) (S S1 : Nat → Prop) (w : World) (h : QA L S1 w q r) (hL : L ≤ LX / 128) (hl : 1 ≤ L) (hu : Up S w) :
    Calls Tryz.prog 106 #[.agg q.toArray] w (PQ S r w) := by
 have z0 := Ext.refl w; have hLX : LX = 17592186044416 := rfl; have hLY : LY = 8796093022208 := rfl
 obtain ⟨n1, a1, l1, c1, n2, a2, l2, c2, rfl⟩ := h.form
 obtain ⟨px, py, hx, hy, er⟩ := h.two
 have hu2 : ∀ W : World, w.heap.size + 2 ≤ W.heap.size → Up (SX S [w.heap.size + 1]) W := fun W hW => SX.up (hu.mono (by omega)) (by simp <;> omega)
 refine enter (args := [.agg #[.bool n1, .slice a1 l1 c1, .bool n2, .slice a2 l2 c2]]) Tryz.func106 rfl rfl (Nat.le_of_ble_eq_true rfl) ?_
 refine V.seq (V.reg rfl ?_)
 refine vo ?_
 refine bxa rfl ?_
 intro W1 x2 b3 nn4
 have s5 := x2.sz
 have z6 := x2
 refine vo ?_
 refine xal zc48 ?_
 intro W7 x8 b9 nn10
 have s11 := x8.sz
 have z12 := z6.trans x8
 replace b3 := b3.ext x8
 refine vnil ?_
 refine V.seq (V.regD mixed rfl ?_)
 intro W13 x14
 have s15 := x14.sz
 have z16 := z12.trans x14
 replace b3 := b3.ext x14
 replace b9 := b9.ext x14
 have q17 := Ext.refl W13
 have r18 := b3
 have r19 := b9
 refine tk 0 rfl (by kernel_rfl) q17 (pv (fun _ y20 => rldb4 rfl ag48 (r18.ext y20) rfl rfl rfl rfl )) ?_
 refine tk 2 rfl (by kernel_rfl) q17 (pv (fun _ y21 => rldb4 rfl ag48 (r18.ext y21) rfl rfl rfl rfl )) ?_
 refine ef 1 (by kernel_rfl) rfl ?_
 refine xcall e160 (rNum_ok [_, _, _, _] _ _ _ _ _ _ (PA.mk' (hx.ext z16) (hy.ext z16)) (by omega) (TT.up _)) rfl rfl ?_
 rintro _ W22 ⟨_, _, _, _, rfl, x23, hz4c⟩
 have s24 := x23.sz
 have z25 := z16.trans x23
 replace b9 := b9.ext x23
 have q26 := q17.trans x23
 have hz4 := ZC.zaH (L := L) hz4c (nm_lt hx.lt)
 refine ⟨_, rfl, ?_⟩
 refine ⟨fun _ => q26, ?_⟩
 refine ef 3 (by kernel_rfl) rfl ?_
 refine xcall e161 (rDen_ok [_, _, _, _] _ _ _ _ _ _ (PA.mk' (hx.ext z25) (hy.ext z25)) (by omega) (TT.up _)) rfl rfl ?_
 rintro _ W27 ⟨_, _, _, _, rfl, x28, hz6c⟩
 have s29 := x28.sz
 have z30 := z25.trans x28
 replace b9 := b9.ext x28
 have q31 := q26.trans x28
 have hz6 := ZC.zaH (L := L) hz6c (dn_abs (by omega) hy.lt)
 refine ⟨_, rfl, ?_⟩
 refine ⟨fun _ => q31, ?_⟩
 refine ef 4 (by kernel_rfl) rfl ?_
 refine xcall e159 (rOver_ok _ _ _ _ _ _ _ _ _ _ _ _ _ _ _ _ (hz4.ext x28) (by omega) hz6 (by omega) (dn_pos _) (hu2 _ (by omega))) rfl rfl ?_
 rintro _ W33 ⟨_, rfl, x34, hq32⟩
 have s35 := x34.sz
 have z36 := z30.trans x34
 replace b9 := b9.ext x34
 have q37 := q31.trans x34
 obtain ⟨_, _, _, _, _, _, _, _, rfl⟩ := hq32.form
 refine ⟨_, rfl, ?_⟩
 refine ⟨fun _ => q37, ?_⟩
 refine ef 5 (by kernel_rfl) rfl ?_
 refine sta (cs' := [_, _, _, _]) b9 rfl rfl sz48 rfl rfl rfl ?_
 intro W38 y39 b9
 have z40 := z36.below (y39.below (by omega))
 have s41 := y39.size
 refine lastT (by kernel_rfl) ?_
 refine dn (by kernel_rfl) ?_
 refine V.ret ?_
 refine ⟨[_], ⟨⟨_, rfl, lvb ag48 b9 rfl⟩, trivial⟩, ?_⟩
 exact ⟨_, rfl, z40, ((hq32.ck (y39.ck (by intro hh; first | (simp [SX] at hh <;> omega) | omega)))).un.cast (by rw [qv_nd, er])⟩
set_option maxHeartbeats 400000 in
theorem rOf_ok (n d : Int) (S : Nat → Prop) (w : World) (hn : -9223372036854775808 ≤ n ∧ n ≤ 9223372036854775807) (hd : -9223372036854775808 ≤ d ∧ d ≤ 9223372036854775807) (hu : Up S w) :
    Calls Tryz.prog 121 #[.int .i64 n, .int .i64 d] w (PQ S (qv n d) w) := by
 have z0 := Ext.refl w; have hLX : LX = 17592186044416 := rfl; have hLY : LY = 8796093022208 := rfl
 have hu2 : ∀ W : World, w.heap.size + 1 ≤ W.heap.size → Up (SX S [w.heap.size]) W := fun W hW => SX.up (hu.mono (by omega)) (by simp <;> omega)
 refine enter (args := [.int .i64 n, .int .i64 d]) Tryz.func121 rfl rfl (Nat.le_of_ble_eq_true rfl) ?_
 refine V.seq (V.reg rfl ?_)
 refine vo ?_
 refine xal zc48 ?_
 intro W1 x2 b3 nn4
 have s5 := x2.sz
 have z6 := x2
 refine vnil ?_
 refine V.seq (V.reg rfl ?_)
 refine mvi rfl ?_
 refine vo ?_
 refine xcall e165 (rFrom_ok _ _ _ hn (TT.up _)) rfl rfl ?_
 rintro _ W7 ⟨_, _, _, _, rfl, x8, hznc⟩
 have s9 := x8.sz
 have z10 := z6.trans x8
 replace b3 := b3.ext x8
 have hzn := ZC.zaH (L := 2) hznc (int_lt2 hn)
 refine ⟨_, rfl, ?_⟩
 refine mvi rfl ?_
 refine vo ?_
 refine xcall e165 (rFrom_ok _ _ _ hd (TT.up _)) rfl rfl ?_
 rintro _ W11 ⟨_, _, _, _, rfl, x12, hzdc⟩
 have s13 := x12.sz
 have z14 := z10.trans x12
 replace b3 := b3.ext x12
 have hzd := ZC.zaH (L := 2) hzdc (int_lt2 hd)
 refine ⟨_, rfl, ?_⟩
 refine vv (rbd (ps := [(0, .agg #[_, _]), (1, .agg #[_, _])]) (cs := [.bool _, .slice _ _ _, .bool _, .slice _ _ _]) pl48 rfl rfl) ?_
 refine vo ?_
 refine xcall e106 (rLeastQ_ok [_, _, _, _] _ _ _ _ _ (QA.mk2 (hzn.ext x12) hzd) (by omega) (by omega) (hu2 _ (by omega))) rfl rfl ?_
 rintro _ W16 ⟨_, rfl, x17, hq15⟩
 have s18 := x17.sz
 have z19 := z14.trans x17
 replace b3 := b3.ext x17
 obtain ⟨_, _, _, _, _, _, _, _, rfl⟩ := hq15.form
 refine ⟨_, rfl, ?_⟩
 refine vo ?_
 refine sta (cs' := [_, _, _, _]) b3 rfl rfl sz48 rfl rfl rfl ?_
 intro W20 y21 b3
 have z22 := z19.below (y21.below (by omega))
 have s23 := y21.size
 refine vnil ?_
 refine V.ret ?_
 refine ⟨[_], ⟨⟨_, rfl, lvb ag48 b3 rfl⟩, trivial⟩, ?_⟩
 exact ⟨_, rfl, z22, ((hq15.ck (y21.ck (by intro hh; first | (simp [SX] at hh <;> omega) | omega)))).un.cast (rfl)⟩
set_option maxHeartbeats 400000 in
theorem rNegQ_ok (q : List Value) (r : Rat) (L : Nat) (S S1 : Nat → Prop) (w : World) (h : QA L S1 w q r) (hL : L ≤ LX / 128) (hl : 1 ≤ L) (hu : Up S w) :
    Calls Tryz.prog 122 #[.agg q.toArray] w (PQ S (-r) w) := by
 have z0 := Ext.refl w; have hLX : LX = 17592186044416 := rfl; have hLY : LY = 8796093022208 := rfl
 obtain ⟨n1, a1, l1, c1, n2, a2, l2, c2, rfl⟩ := h.form
 obtain ⟨px, py, hx, hy, er⟩ := h.two
 have hu2 : ∀ W : World, w.heap.size + 2 ≤ W.heap.size → Up (SX S [w.heap.size + 1]) W := fun W hW => SX.up (hu.mono (by omega)) (by simp <;> omega)
 refine enter (args := [.agg #[.bool n1, .slice a1 l1 c1, .bool n2, .slice a2 l2 c2]]) Tryz.func122 rfl rfl (Nat.le_of_ble_eq_true rfl) ?_
 refine V.seq (V.reg rfl ?_)
 refine vo ?_
 refine bxa rfl ?_
 intro W1 x2 b3 nn4
 have s5 := x2.sz
 have z6 := x2
 refine vo ?_
 refine xal zc48 ?_
 intro W7 x8 b9 nn10
 have s11 := x8.sz
 have z12 := z6.trans x8
 replace b3 := b3.ext x8
 refine vnil ?_
 refine V.seq (V.regD mixed rfl ?_)
 intro W13 x14
 have s15 := x14.sz
 have z16 := z12.trans x14
 replace b3 := b3.ext x14
 replace b9 := b9.ext x14
 have q17 := Ext.refl W13
 have r18 := b3
 have r19 := b9
 refine tk 0 rfl (by kernel_rfl) q17 (pv (fun _ y20 => rldb4 rfl ag48 (r18.ext y20) rfl rfl rfl rfl )) ?_
 refine tk 3 rfl (by kernel_rfl) q17 (pv (fun _ y21 => rldb4 rfl ag48 (r18.ext y21) rfl rfl rfl rfl )) ?_
 refine ef 1 (by kernel_rfl) rfl ?_
 refine xcall e160 (rNum_ok [_, _, _, _] _ _ _ _ _ _ (PA.mk' (hx.ext z16) (hy.ext z16)) (by omega) (TT.up _)) rfl rfl ?_
 rintro _ W22 ⟨_, _, _, _, rfl, x23, hz4c⟩
 have s24 := x23.sz
 have z25 := z16.trans x23
 replace b9 := b9.ext x23
 have q26 := q17.trans x23
 have hz4 := ZC.zaH (L := L) hz4c (nm_lt hx.lt)
 refine ⟨_, rfl, ?_⟩
 refine ⟨fun _ => q26, ?_⟩
 refine ef 2 (by kernel_rfl) rfl ?_
 refine xcall e166 (rNeg_ok _ _ _ _ _ _ _ _ _ hz4 (by omega) (TT.up _)) rfl rfl ?_
 rintro _ W27 ⟨_, _, _, _, rfl, x28, hz5c⟩
 have s29 := x28.sz
 have z30 := z25.trans x28
 replace b9 := b9.ext x28
 have q31 := q26.trans x28
 have hz5 := ZC.zaH (L := L) hz5c (by rw [Int.natAbs_neg]; exact hz4.lt)
 refine ⟨_, rfl, ?_⟩
 refine ⟨fun _ => q31, ?_⟩
 refine ef 4 (by kernel_rfl) rfl ?_
 refine xcall e161 (rDen_ok [_, _, _, _] _ _ _ _ _ _ (PA.mk' (hx.ext z30) (hy.ext z30)) (by omega) (TT.up _)) rfl rfl ?_
 rintro _ W32 ⟨_, _, _, _, rfl, x33, hz7c⟩
 have s34 := x33.sz
 have z35 := z30.trans x33
 replace b9 := b9.ext x33
 have q36 := q31.trans x33
 have hz7 := ZC.zaH (L := L) hz7c (dn_abs (by omega) hy.lt)
 refine ⟨_, rfl, ?_⟩
 refine ⟨fun _ => q36, ?_⟩
 refine ef 5 (by kernel_rfl) rfl ?_
 refine xcall e159 (rOver_ok _ _ _ _ _ _ _ _ _ _ _ _ _ _ _ _ (hz5.ext x33) (by omega) hz7 (by omega) (dn_pos _) (hu2 _ (by omega))) rfl rfl ?_
 rintro _ W38 ⟨_, rfl, x39, hq37⟩
 have s40 := x39.sz
 have z41 := z35.trans x39
 replace b9 := b9.ext x39
 have q42 := q36.trans x39
 obtain ⟨_, _, _, _, _, _, _, _, rfl⟩ := hq37.form
 refine ⟨_, rfl, ?_⟩
 refine ⟨fun _ => q42, ?_⟩
 refine ef 6 (by kernel_rfl) rfl ?_
 refine sta (cs' := [_, _, _, _]) b9 rfl rfl sz48 rfl rfl rfl ?_
 intro W43 y44 b9
 have z45 := z41.below (y44.below (by omega))
 have s46 := y44.size
 refine lastT (by kernel_rfl) ?_
 refine dn (by kernel_rfl) ?_
 refine V.ret ?_
 refine ⟨[_], ⟨⟨_, rfl, lvb ag48 b9 rfl⟩, trivial⟩, ?_⟩
 exact ⟨_, rfl, z45, ((hq37.ck (y44.ck (by intro hh; first | (simp [SX] at hh <;> omega) | omega)))).un.cast (by rw [qv_neg, er])⟩
end Go.Proofs.YtknbjfefeeojlaaGreat
/- Packages pylonref02: Sub Cmp; pylonref03: At Lex Unit; pylonref04: At row Same. -/
namespace Go.Proofs.YtknbjfefeeojlaaGreat
open Go.RowKit
attribute [local irreducible] RV VH V OpF Calls
theorem QA.cast {L : Nat} {S : Nat → Prop} {W : World} {q : List Value} {r r' : Rat} (h : QA L S W q r) (e : r = r') : QA L S W q r' := e ▸ h
end Go.Proofs.YtknbjfefeeojlaaGreat
/- Packages pylonref03: Unit; pylonref04: cut place made Fit Turn Unit. -/
namespace Go.Proofs.YtknbjfefeeojlaaGreat
open Go.RowKit
attribute [local irreducible] RV VH V OpF Calls
theorem szOne' : sz 1 ((1 : Int) : Rat) := by constructor <;> decide
theorem GO.lt {ρt : Type} {El : (Nat → Prop) → World → List Value → ρt → Prop} {S : Nat → Prop} {s B : Nat} {W : World} {e : TypeId} {v : Value} {rs : List ρt} (h : GO s El S B W e v rs) : ∀ b, W.heap.size ≤ b → v.ownBlock ≠ some b := fun b hb e => by
  obtain ⟨qs, h1, _⟩ := h
  have := (h1.low b e).2; omega

end Go.Proofs.YtknbjfefeeojlaaGreat
/- Packages pylonlaw01 to pylonlaw04: Own. -/
namespace Go.Proofs.YtknbjfefeeojlaaGreat
open Go.RowKit
attribute [local irreducible] RV VH V OpF Calls
theorem QX.mk' {S : Nat → Prop} {W : World} {ρ : RawQ} {a1 a2 : Option Addr} {l1 c1 l2 c2 : Nat} {n1 n2 : Bool} (e1 : n1 = ρ.n1) (h1 : RN .u32 S W a1 l1 c1 ρ.xs) (e2 : n2 = ρ.n2) (h2 : RN .u32 S W a2 l2 c2 ρ.ys) : QX S W [.bool n1, .slice a1 l1 c1, .bool n2, .slice a2 l2 c2] ρ := by
  subst e1 e2; exact ⟨_, _, _, _, _, _, rfl, h1, h2⟩

end Go.Proofs.YtknbjfefeeojlaaGreat
/- A body that lies in a scope (it holds a label), without jumps to it. -/
namespace Go.Proofs.YtknbjfefeeojlaaGreat
open Go.RowKit
section
variable {P : Program} {F : Fence} {n : Nat} {a : Act} {w : World} {Q : Exit → Act → World → Prop}
theorem stepR_scope {b : Frame} {k : List Item} {cs : List Frame} {c : Code} : step P (lone (b.atR a (.code (.scope c) :: k)) cs w) = .next (lone (b.atR a (.code c :: .inScope c :: k)) cs w) :=
  step_lone_go (by simp [stepG, stepG.exec, Frame.atR])
theorem stepR_inScope {b : Frame} {k : List Item} {cs : List Frame} {c : Code} : step P (lone (b.atR a (.inScope c :: k)) cs w) = .next (lone (b.atR a k) cs w) :=
  step_lone_go (by simp [stepG, stepG.exec, Frame.atR])
theorem wpIn_scope {c : Code} (h : c.wpIn F n P (Exit.noGoto Q) a w) : (Code.scope c).wpIn F n P Q a w := by
  intro b k cs hro hb hr
  have h0 : (lone (b.atR a (.code (.scope c) :: k)) cs w).fenced P F := fenced_calm hb hr rfl
  obtain ⟨e, a₁, w₁, hq, harr⟩ := h b (.inScope c :: k) cs hro hb hr
  cases e with
  | normal => exact ⟨.normal, a₁, w₁, hq, .head h0 stepR_scope (StepsIn.trans harr (.one (fenced_calm hb hr rfl) stepR_inScope))⟩
  | exit id =>
    have hx : exitTo id (.inScope c :: k) = exitTo id k := by simp [exitTo]
    exact ⟨.exit id, a₁, w₁, hq, fun k' hk => .head h0 stepR_scope (harr.1 k' (by rw [hx]; exact hk)),
      fun hr' hk => let ⟨k₁, h1, h2⟩ := harr.2 hr' (by rw [hx]; exact hk); ⟨k₁, h1, .head h0 stepR_scope h2⟩⟩
  | goto l => exact hq.elim
  | ret => exact ⟨.ret, a₁, w₁, hq, fun hr' => let ⟨todo, hs⟩ := harr.1 hr'; ⟨todo, .head h0 stepR_scope hs⟩, fun hr' => let ⟨k₁, hs⟩ := harr.2 hr'; ⟨k₁, .head h0 stepR_scope hs⟩⟩
  | panic ch => obtain ⟨todo, hs⟩ := harr; exact ⟨.panic ch, a₁, w₁, hq, todo, .head h0 stepR_scope hs⟩
  | outgrown => exact ⟨.outgrown, a₁, w₁, hq, harr.imp id (Outgrown.of_steps (StepsIn.one h0 stepR_scope).steps)⟩
end
section
variable {r : Option Nat} {P : Program} {N : Nat} {ds : List Deferred} {Q : EQ} {E : Env} {W : World}
def noG (Q : EQ) : EQ
  | .goto _, _, _, _ => False
  | e, E, ds, W => Q e E ds W
theorem V.scope {c : Code} (h : V r P N ds c (noG Q) E W) : V r P N ds (.scope c) Q E W := fun a hrep hd =>
  wpIn_scope (wpIn_mono (h a hrep hd) fun x a' W' ⟨E', h1, h2⟩ => by
    cases x with
    | goto l => exact h2.elim
    | normal => exact ⟨E', h1, h2⟩
    | exit id => exact ⟨E', h1, h2⟩
    | ret => exact ⟨E', h1, h2⟩
    | panic ch => exact ⟨E', h1, h2⟩
    | outgrown => exact ⟨E', h1, h2⟩)
end
end Go.Proofs.YtknbjfefeeojlaaGreat
/- A region that draws its order, in which some operations break what the loads rest on; every such load stands ahead of them. -/
namespace Go.Proofs.YtknbjfefeeojlaaGreat
open Go.RowKit
section
variable {r : Option Nat} {P : Program} {N : Nat} {ops : Array Oper} {S S' : World → Prop} {R : Env → World → Prop} {fuel i : Nat} {listed : Array Bool} {E : Env} {W : World} {d : Option Tmp} {op : Op} {t : Tmp} {ty : TypeId} {pos : String} {af : Array Edge} {ds : List Deferred} {Q : EQ} {v : Value} {bs : List Nat} {oi : Oper}
/-- No breaking operation was done. -/
def whole (bs : List Nat) (listed : Array Bool) : Bool := bs.all fun j => !(listed.getD j true)
def VB (bs : List Nat) (r : Option Nat) (P : Program) (ops : Array Oper) (S : World → Prop) (R : Env → World → Prop) : Nat → Array Bool → Env → World → Prop
  | 0, listed, E, W => Region.ready .any ops listed = [] ∧ R E W
  | fuel + 1, listed, E, W => (Region.ready .any ops listed = [] → R E W) ∧
      ∀ i ∈ Region.ready .any ops listed, opI r P ops i (fun E' W' => (whole bs (listed.setIfInBounds i true) = true → S W') ∧ VB bs r P ops S R fuel (listed.setIfInBounds i true) E' W') E W
theorem VB.va : ∀ (fuel : Nat) (listed : Array Bool) (E : Env) (W : World), VB bs r P ops S R fuel listed E W → VA r P ops R fuel listed E W
  | 0, _, _, _, h => h
  | fuel + 1, _, _, _, h => ⟨h.1, fun i hi => (h.2 i hi).mono fun E' W' h' => VB.va fuel _ E' W' h'.2⟩
def depB (ops : Array Oper) (bs : List Nat) (i : Nat) : Bool := bs.all fun j => !(j == i) && match ops[j]? with
  | none => true
  | some o => o.after.any fun e => Region.binds .any e && e.on == i
theorem whole_set {j : Nat} (h : whole bs listed = true) (hj : bs.contains j = false) : whole bs (listed.setIfInBounds j true) = true := by
  unfold whole at *
  rw [List.all_eq_true] at *
  intro k hk
  have hkj : j ≠ k := fun e => by subst e; simp at hj; exact hj hk
  rw [getD_set_ne true hkj]; exact h k hk
theorem whole_un {j : Nat} (h : whole bs (listed.setIfInBounds j true) = true) : whole bs listed = true := by
  unfold whole at *
  rw [List.all_eq_true] at *
  intro k hk
  have := h k hk
  by_cases e : j = k
  · subst e
    rcases Nat.lt_or_ge j listed.size with h' | h'
    · simp [h'] at this
    · simp [Array.getElem?_eq_none h'] at this
  · rwa [getD_set_ne true e] at this
theorem VB.first (hi : ops[i]? = some oi) (hbi : bs.contains i = false) (hsel : ∀ (j : Nat) (o : Oper) cs b, ops[j]? = some o → o.op ≠ .select cs b) (hk : (depB ops bs i = true ∧ ∀ W, S W → S' W) ∨ (∀ W, S' W)) :
    ∀ (fuel : Nat) (listed : Array Bool) (E : Env) (W : World),
      (∀ j oj, ops[j]? = some oj → j ≠ i → listed.getD j true = false → (∀ e ∈ oj.after, Region.binds .any e = true → e.on ≠ i) → oi.apart ops oj = true) →
      i ∈ Region.ready .any ops listed → PureIf P ops S' oi v E → (depB ops bs i = true → whole bs listed = true) → (whole bs listed = true → S W) →
      VB bs r P ops S R fuel (listed.setIfInBounds i true) (puto E oi.dst v) W → VB bs r P ops S R (fuel + 1) listed E W := by
  intro fuel
  have hS' : ∀ {listed : Array Bool} {W : World}, (depB ops bs i = true → whole bs listed = true) → (whole bs listed = true → S W) → S' W := fun h1 h2 => by
    rcases hk with ⟨h3, h4⟩ | h4
    · exact h4 _ (h2 (h1 h3))
    · exact h4 _
  induction fuel with
  | zero =>
    intro listed E W _ hr hy hw hS H
    refine ⟨fun h => (by rw [h] at hr; cases hr), fun j hj => ?_⟩
    by_cases hji : j = i
    · subst hji
      exact hy.opI hi (hS' hw hS) ⟨fun hb => hS (whole_un hb), H⟩
    · have := ready_mono hj hji
      rw [H.1] at this
      cases this
  | succ fuel ih =>
    intro listed E W hfree hr hy hw hS H
    refine ⟨fun h => (by rw [h] at hr; cases hr), fun j hj => ?_⟩
    by_cases hji : j = i
    · subst hji
      exact hy.opI hi (hS' hw hS) ⟨fun hb => hS (whole_un hb), H⟩
    · have h1 := H.2 j (ready_mono hj hji)
      obtain ⟨hjun, oj, hoj, hall⟩ := mem_ready.1 hj
      have hnot : ∀ e ∈ oj.after, Region.binds .any e = true → e.on ≠ i := fun e he hb heq => by
        have h1 := hall e he hb
        have h0 := (mem_ready.1 hr).1
        rw [heq] at h1
        rcases Nat.lt_or_ge i listed.size with h' | h'
        · simp [h'] at h0 h1; rw [h0] at h1; cases h1
        · simp [Array.getElem?_eq_none h'] at h1
      have h2 := opI_put (r := r) hoj (hfree j oj hoj hji hjun hnot) (fun cs b => hsel i oi cs b hi) (fun cs b => hsel j oj cs b hoj) hy h1
      have hfree' : ∀ k ok, ops[k]? = some ok → k ≠ i → (listed.setIfInBounds j true).getD k true = false →
          (∀ e ∈ ok.after, Region.binds .any e = true → e.on ≠ i) → oi.apart ops ok = true := fun k ok hk hki hun hno => by
        refine hfree k ok hk hki ?_ hno
        by_cases hjk : j = k
        · subst hjk; exact hjun
        · rw [getD_set_ne true hjk] at hun; exact hun
      have hnb : depB ops bs i = true → bs.contains j = false := fun hd => by
        cases hc : bs.contains j with
        | false => rfl
        | true =>
          have h5 := (List.all_eq_true.1 hd) j (by simpa using hc)
          simp only [hoj, Bool.and_eq_true] at h5
          obtain ⟨e, he, hb⟩ := Array.any_eq_true'.1 h5.2
          simp only [Bool.and_eq_true, beq_iff_eq] at hb
          exact absurd hb.2 (hnot e he hb.1)
      refine h2.mono fun E' W' h3 => ⟨fun hb => ?_, ih (listed.setIfInBounds j true) E' W' hfree' (ready_mono hr (Ne.symm hji)) h3.1 (fun hd => whole_set (hw hd) (hnb hd)) (fun hb => ?_) ?_⟩
      · refine h3.2.1 ?_
        rw [Array.setIfInBounds_comm _ _ (Ne.symm hji)]; exact whole_set hb hbi
      · refine h3.2.1 ?_
        rw [Array.setIfInBounds_comm _ _ (Ne.symm hji)]; exact whole_set hb hbi
      · rw [Array.setIfInBounds_comm _ _ hji]
        exact h3.2.2
theorem V.regB {id : Nat} (bs : List Nat) (hm : P.follows .mixedOrders = true) (hl : dstsOK N ops.toList = true)
    (h : ∀ W1, Ext W W1 → VB bs r P ops (Ext W1) (fun E W => Q .normal E ds W) ops.size (Array.replicate ops.size false) E W1) : V r P N ds (.region id ops true) Q E W := fun a hrep hd =>
  wpIn_region_any hm (VA.wp (ds := ds) hl (fun a E W hr hd h => ⟨E, hr, by rw [hd]; exact h⟩) _ _ a E _ hrep hd (VB.va _ _ _ _ (h _ ((Ext.refl W).drew))))
/-- An operation that rests on no world. -/
theorem tkP {g : Option (Nat × Bool)} (i : Nat) (hi : ops[i]? = some ⟨some t, op, ty, pos, af, g⟩) (hf : (Region.noSelect ops && Region.free .any ops listed i && (Region.ready .any ops listed).contains i && !(bs.contains i)) = true) (hw : (!(depB ops bs i) || whole bs listed) = true) (hS : whole bs listed = true → S W) (hy : PureIf P ops (fun _ => True) ⟨some t, op, ty, pos, af, g⟩ v E)
    (k : VB bs r P ops S R fuel (listed.setIfInBounds i true) (up E t v) W) : VB bs r P ops S R (fuel + 1) listed E W := by
  simp only [Bool.and_eq_true, Bool.not_eq_true'] at hf
  refine VB.first hi hf.2 (Region.noSelect_spec hf.1.1.1) (.inr fun _ => trivial) fuel listed E W (Region.free_spec hi hf.1.1.2) (by simpa using hf.1.2) hy (fun hd => ?_) hS k
  rw [hd] at hw; simpa using hw
/-- A load: it stands ahead of all that break. -/
theorem tkB {g : Option (Nat × Bool)} (i : Nat) (hi : ops[i]? = some ⟨some t, op, ty, pos, af, g⟩) (hf : (Region.noSelect ops && Region.free .any ops listed i && (Region.ready .any ops listed).contains i && !(bs.contains i) && depB ops bs i && whole bs listed) = true) (hS : S W) (hy : PureIf P ops S ⟨some t, op, ty, pos, af, g⟩ v E)
    (k : VB bs r P ops S R fuel (listed.setIfInBounds i true) (up E t v) W) : VB bs r P ops S R (fuel + 1) listed E W := by
  simp only [Bool.and_eq_true, Bool.not_eq_true'] at hf
  exact VB.first hi hf.1.1.2 (Region.noSelect_spec hf.1.1.1.1.1) (.inl ⟨hf.1.2, fun _ h => h⟩) fuel listed E W (Region.free_spec hi hf.1.1.1.1.2) (by simpa using hf.1.1.1.2) hy (fun _ => hf.2) (fun _ => hS) k
theorem efB (i : Nat) (hr : Region.ready .any ops listed = [i]) (hi : ops[i]? = some ⟨d, op, ty, pos, af, none⟩) (h : OpF r P (ev E) ⟨d, op, ty, pos, af, none⟩ W fun v W' => (whole bs (listed.setIfInBounds i true) = true → S W') ∧ VB bs r P ops S R fuel (listed.setIfInBounds i true) (puto E d v) W') : VB bs r P ops S R (fuel + 1) listed E W := by
  refine ⟨fun h0 => (by rw [hr] at h0; cases h0), fun j hj => ?_⟩
  rw [hr] at hj
  obtain rfl : j = i := by simpa using hj
  unfold opI
  simp only [hi]
  rw [if_pos (by rfl)]; exact h
theorem dnB (hr : Region.ready .any ops listed = []) (h : R E W) : VB bs r P ops S R fuel listed E W := by
  cases fuel with
  | zero => exact ⟨hr, h⟩
  | succ n => exact ⟨fun _ => h, by rw [hr]; simp⟩
theorem notWf {p : Prop} (h : whole bs listed = false) : whole bs listed = true → p := fun h' => (by rw [h] at h'; cases h')
theorem notW {p q : Prop} (h : whole bs listed = false) (k : q) : (whole bs listed = true → p) ∧ q := ⟨fun h' => (by rw [h] at h'; cases h'), k⟩
end
end Go.Proofs.YtknbjfefeeojlaaGreat
/- A slice of the call's own whose elements are stored anew; a matrix under elimination. -/
namespace Go.Proofs.YtknbjfefeeojlaaGreat
open Go.RowKit
attribute [local irreducible] RV VH V OpF Calls
section
variable {P : Program} {ρ : Operand → Value} {W W' : World} {d : Option Tmp} {ty T e : TypeId} {pos : String} {af : Array Edge} {g : Option (Nat × Bool)} {x y : Operand} {v u : Value} {K : Value → World → Prop} {s B n c : Nat} {a : Option Addr} {qs : List (List Value)}
theorem OS.own (h : OS s B W e v qs) (hn : 0 < qs.length) : ∃ b c cur, v = .slice (some ⟨b, 0, none⟩) qs.length c ∧ v.ownBlock = some b ∧ B ≤ b ∧ BoxAt W b cur e ∧ qs.length ≤ c ∧ c ≤ maxLen ∧ cur.length = c * s ∧ cur.take (qs.length * s) = qs.flatten := by
  rcases h.row.2 with ⟨_, h0⟩ | ⟨b, cap, cur, rfl, hb, hh, h1, h2, h3, h4⟩
  · omega
  · exact ⟨b, cap, cur.toList, rfl, rfl, hb, by unfold BoxAt; simpa using hh, h1, h2, by simpa using h3, h4⟩
theorem OS.of {b c : Nat} {cur : List Value} (hw : ∀ q ∈ qs, q.length = s) (hB : B ≤ b) (hb : BoxAt W b cur e) (h1 : qs.length ≤ c) (h2 : c ≤ maxLen) (h3 : cur.length = c * s) (h4 : cur.take (qs.length * s) = qs.flatten) : OS s B W e (.slice (some ⟨b, 0, none⟩) qs.length c) qs :=
  ⟨⟨flat_len hw, .inr ⟨b, c, cur.toArray, rfl, hB, hb, h1, h2, by simpa using h3, by simpa using h4⟩⟩, hw⟩
theorem take_set_flat {cur : List Value} {q : List Value} {i m : Nat} (hi : i + q.length ≤ m) (hm : m ≤ cur.length) : (cur.take i ++ q ++ cur.drop (i + q.length)).take m = (cur.take m).take i ++ q ++ (cur.take m).drop (i + q.length) := by
  have h1 : (cur.take m).take i = cur.take i := by rw [List.take_take]; congr 1; omega
  have h2 : (cur.take m).drop (i + q.length) = (cur.drop (i + q.length)).take (m - (i + q.length)) := List.drop_take
  have h3 : (cur.take i ++ q).length = i + q.length := by rw [List.length_append, List.length_take]; omega
  rw [h1, h2, List.take_append, List.take_of_length_le (by omega), h3]
/-- v[i] = u, in a slice of the call's own. -/
theorem xstS {r : Option Nat} {i : Int} {q : List Value} (h : OS s B W e v qs) (hv : v = .slice a n c) (hx : ρ x = .pointer (some (adr a i s))) (hy : ρ y = u) (hu : u.cells = q.toArray) (hT : Sz P T q.length) (hq : q.length = s) (ho : (q.all Value.oneCell') = true) (h0 : 0 ≤ i) (h1 : i < n)
    (hk2 : ∀ b W', v.ownBlock = some b → Wr b W W' → OS s B W' e v (qs.set i.toNat q) → K undef W') : OpF r P ρ ⟨d, .store T x y, ty, pos, af, g⟩ W K := by
  obtain ⟨a1, c1, e1⟩ := h.form
  have en : n = qs.length := by rw [hv] at e1; injection e1
  obtain ⟨b, cap, cur, e2, e3, hB, hb, h2, h3, h4, h5⟩ := h.own (by omega)
  have ea : a = some ⟨b, 0, none⟩ := by rw [hv] at e2; injection e2
  subst ea
  have hlt : i.toNat < qs.length := by omega
  have hle : i.toNat * s + s ≤ qs.length * s := by rw [← Nat.succ_mul]; exact Nat.mul_le_mul_right _ hlt
  have hcl : qs.length * s ≤ cur.length := by rw [h4]; exact Nat.mul_le_mul_right _ h2
  refine xst (o := i.toNat * s) (vs := q) (cs' := cur.take (i.toNat * s) ++ q ++ cur.drop (i.toNat * s + q.length)) ?_ hy hT hu ho hb (by omega) rfl ?_
  · rw [hx]; simp [adr, addO]
  · intro W' y' hb'
    refine hk2 b W' e3 y' ?_
    rw [e2]
    have hw : ∀ p ∈ qs.set i.toNat q, p.length = s := fun p hp => by
      rcases List.mem_or_eq_of_mem_set hp with h | h'
      · exact (by assumption : OS s B W e v qs).wd p h
      · subst h'; exact hq
    have hl : (qs.set i.toNat q).length = qs.length := List.length_set
    have := OS.of (W := W') (e := e) (c := cap) (qs := qs.set i.toNat q) hw hB hb' (by omega) h3 ?_ ?_
    · rwa [hl] at this
    · simp; omega
    · rw [hl, take_set_flat (by omega) hcl, h5, flat_set h.wd hlt hq, hq]
end
section
variable {ρt : Type} {El : (Nat → Prop) → World → List Value → ρt → Prop} {S : Nat → Prop} {P : Program} {ρ : Operand → Value} {W W' : World} {d : Option Tmp} {ty T e : TypeId} {pos : String} {af : Array Edge} {g : Option (Nat × Bool)} {x y : Operand} {v u : Value} {K : Value → World → Prop} {s B n c : Nat} {a : Option Addr} {rs : List ρt} {rr : ρt}
theorem xstG {r : Option Nat} {i : Int} {q : List Value} (ok : ElOK El) (h : GO s El S B W e v rs) (hv : v = .slice a n c) (hx : ρ x = .pointer (some (adr a i s))) (hy : ρ y = u) (hu : u.cells = q.toArray) (hT : Sz P T q.length) (hq : q.length = s) (ho : (q.all Value.oneCell') = true) (h0 : 0 ≤ i) (h1 : i < n)
    (hel : El (SO S v) W q rr) (hk2 : ∀ b W', v.ownBlock = some b → Wr b W W' → GO s El S B W' e v (rs.set i.toNat rr) → K undef W') : OpF r P ρ ⟨d, .store T x y, ty, pos, af, g⟩ W K := by
  obtain ⟨qs, h2, h3⟩ := h
  refine xstS h2 hv hx hy hu hT hq ho h0 h1 ?_
  intro b W' hb y' hO
  refine hk2 b W' hb y' ⟨_, hO, ?_⟩
  have := h3.set (k := i.toNat) hel
  exact this.imp fun q r hq => ok.ck hq (y'.ck (fun hh => hh.2 hb))
/-- What is read of such a slice. -/
theorem GO.rd {El : (Nat → Prop) → World → List Value → ρt → Prop} (ok : ElOK El) (h : GO s El S B W e (.slice a n c) rs) : ∃ qs, RS s TT W a n c qs ∧ All2 (El TT W) qs rs := by
  obtain ⟨qs, h2, h3⟩ := h
  exact ⟨qs, h2.rs (fun _ _ _ => trivial), h3.imp fun _ _ hq => ok.sub hq fun _ _ _ => trivial⟩
end
end Go.Proofs.YtknbjfefeeojlaaGreat
/- A matrix under elimination: what is reckoned, and the state of the call. -/
namespace Go.Proofs.YtknbjfefeeojlaaGreat
open Go.RowKit
attribute [local irreducible] RV VH V OpF Calls
def sclR (r : Rat) (xs : List Rat) : List Rat := zipf (fun a b => r * a + b) xs [] (max xs.length 0)
def axR (r : Rat) (xs ys : List Rat) : List Rat := zipf (fun a b => r * a + b) xs ys (max xs.length ys.length)
theorem sclR_len (r : Rat) (xs : List Rat) : (sclR r xs).length = xs.length := by simp [sclR, zipf]
theorem axR_len (r : Rat) (xs ys : List Rat) : (axR r xs ys).length = max xs.length ys.length := by simp [axR, zipf]
/-- p: the first row at d or behind it whose element k is not 0; the number of rows, if there is none. -/
def IsP (rows : List (List Rat)) (k d p : Nat) : Prop := d ≤ p ∧ p ≤ rows.length ∧ (∀ j, d ≤ j → j < p → mat rows j k = 0) ∧ (p < rows.length → mat rows p k ≠ 0)
theorem IsP.uniq {rows : List (List Rat)} {k d p q : Nat} (h : IsP rows k d p) (h' : IsP rows k d q) : p = q := by
  rcases Nat.lt_trichotomy p q with hl | hl | hl
  · exact absurd (h'.2.2.1 p h.1 hl) (h.2.2.2 (by have := h'.2.1; omega))
  · exact hl
  · exact absurd (h.2.2.1 q h'.1 hl) (h'.2.2.2 (by have := h.2.1; omega))
def pfind (rows : List (List Rat)) (k : Nat) : Nat → Nat → Nat
  | 0, d => d
  | n + 1, d => if mat rows d k = 0 then pfind rows k n (d + 1) else d
def pf (rows : List (List Rat)) (k d : Nat) : Nat := pfind rows k (rows.length - d) d
theorem pfind_is (rows : List (List Rat)) (k : Nat) : ∀ (n d : Nat), d + n = rows.length → IsP rows k d (pfind rows k n d)
  | 0, d, h => ⟨Nat.le_refl _, by unfold pfind; omega, fun j h1 h2 => by unfold pfind at h2; omega, fun hh => by unfold pfind at hh; omega⟩
  | n + 1, d, h => by
    unfold pfind
    split
    · rename_i h0
      obtain ⟨h1, h2, h3, h4⟩ := pfind_is rows k n (d + 1) (by omega)
      refine ⟨by omega, h2, fun j hj hj2 => ?_, h4⟩
      rcases Nat.lt_or_eq_of_le hj with hj | rfl
      · exact h3 j hj hj2
      · exact h0
    · rename_i h0
      exact ⟨Nat.le_refl _, by omega, fun j h1 h2 => by omega, fun _ => h0⟩
theorem pf_is {rows : List (List Rat)} {k d : Nat} (h : d ≤ rows.length) : IsP rows k d (pf rows k d) := pfind_is rows k _ d (by omega)
theorem IsP.pf {rows : List (List Rat)} {k d p : Nat} (h : IsP rows k d p) : pf rows k d = p := (pf_is (Nat.le_trans h.1 h.2.1)).uniq h
def swapR (rows : List (List Rat)) (i j : Nat) : List (List Rat) := (rows.set i (rowat rows j)).set j (rowat rows i)
theorem set_rowat (rows : List (List Rat)) (i : Nat) : rows.set i (rowat rows i) = rows := by
  refine List.ext_getElem? fun j => ?_
  rw [List.getElem?_set]
  split
  · rename_i h; subst h
    split
    · rename_i h; unfold rowat; simp [h]
    · rename_i h; rw [List.getElem?_eq_none (by omega)]
  · rfl
theorem swapR_self (rows : List (List Rat)) (i : Nat) : swapR rows i i = rows := by unfold swapR; rw [set_rowat, set_rowat]
theorem swapR_len (rows : List (List Rat)) (i j : Nat) : (swapR rows i j).length = rows.length := by simp [swapR]
/-- The elimination in column k, by row d, in the rows ahead of row i. -/
def elimT (rows : List (List Rat)) (d k j : Nat) : List Rat := if j = d ∨ mat rows j k = 0 then rowat rows j else axR (-(mat rows j k)) (rowat rows d) (rowat rows j)
def elimS (rows : List (List Rat)) (d k i : Nat) : List (List Rat) := (List.range rows.length).map fun j => if j < i then elimT rows d k j else rowat rows j
theorem elimS_len (rows : List (List Rat)) (d k i : Nat) : (elimS rows d k i).length = rows.length := by simp [elimS]
theorem elimS_row {rows : List (List Rat)} {d k i j : Nat} (h : j < rows.length) : rowat (elimS rows d k i) j = if j < i then elimT rows d k j else rowat rows j := by
  unfold elimS; rw [rowat, List.getD_eq_getElem?_getD, List.getElem?_map, List.getElem?_range h]; simp
theorem rows_ext {rows mows : List (List Rat)} (hl : rows.length = mows.length) (h : ∀ j, j < rows.length → rowat rows j = rowat mows j) : rows = mows := by
  refine List.ext_getElem hl fun j h1 h2 => ?_
  have := h j h1
  simpa [rowat, h1, h2] using this
theorem elimS_zero (rows : List (List Rat)) (d k : Nat) : elimS rows d k 0 = rows := rows_ext (elimS_len _ _ _ _) fun j hj => by rw [elimS_len] at hj; rw [elimS_row hj, if_neg (by omega)]
theorem rowat_set {rows : List (List Rat)} {i j : Nat} {r : List Rat} (h : i < rows.length) : rowat (rows.set i r) j = if j = i then r else rowat rows j := by
  unfold rowat
  rw [List.getD_eq_getElem?_getD, List.getElem?_set]
  by_cases e : i = j
  · subst e; simp [h]
  · rw [if_neg e, if_neg (fun h => e h.symm)]; simp
theorem elimS_succ {rows : List (List Rat)} {d k i : Nat} (h : i < rows.length) : elimS rows d k (i + 1) = (elimS rows d k i).set i (elimT rows d k i) := by
  refine rows_ext (by simp [elimS_len]) fun j hj => ?_
  rw [elimS_len] at hj
  rw [rowat_set (by rw [elimS_len]; exact h), elimS_row hj, elimS_row hj]
  by_cases e : j = i
  · subst e; rw [if_pos (by omega), if_pos rfl]
  · rw [if_neg e]; by_cases e2 : j < i
    · rw [if_pos (by omega), if_pos e2]
    · rw [if_neg (by omega), if_neg e2]
theorem elimS_keep {rows : List (List Rat)} {d k i : Nat} (h : i < rows.length) (e : i = d ∨ mat rows i k = 0) : elimS rows d k (i + 1) = elimS rows d k i := by
  rw [elimS_succ h, elimT, if_pos e]
  have := set_rowat (elimS rows d k i) i
  rwa [elimS_row h, if_neg (by omega)] at this
/-- Row d is divided by its element k. -/
def divR (rows : List (List Rat)) (d k : Nat) : List (List Rat) := rows.set d (sclR (1 / mat rows d k) (rowat rows d))
theorem divR_len (rows : List (List Rat)) (d k : Nat) : (divR rows d k).length = rows.length := by simp [divR]
def colR (rows : List (List Rat)) (d k p : Nat) : List (List Rat) := elimS (divR (swapR rows p d) d k) d k rows.length
theorem colR_len (rows : List (List Rat)) (d k p : Nat) : (colR rows d k p).length = rows.length := by simp [colR, elimS_len, divR_len, swapR_len]
/-- One column. -/
def colS (s : List (List Rat) × List Int × Rat) (k : Nat) : List (List Rat) × List Int × Rat :=
  if pf s.1 k s.2.1.length < s.1.length then
    (colR s.1 s.2.1.length k (pf s.1 k s.2.1.length), s.2.1 ++ [(k : Int)], (if pf s.1 k s.2.1.length = s.2.1.length then s.2.2 else -s.2.2) * mat (swapR s.1 (pf s.1 k s.2.1.length) s.2.1.length) s.2.1.length k)
  else s
theorem colS_of {rows : List (List Rat)} {piv : List Int} {δ : Rat} {k p : Nat} (h : IsP rows k piv.length p) (hp : p < rows.length) : colS (rows, piv, δ) k = (colR rows piv.length k p, piv ++ [(k : Int)], (if p = piv.length then δ else -δ) * mat (swapR rows p piv.length) piv.length k) := by
  unfold colS; simp only [h.pf]; rw [if_pos hp]
theorem colS_no {rows : List (List Rat)} {piv : List Int} {δ : Rat} {k : Nat} (h : IsP rows k piv.length rows.length) : colS (rows, piv, δ) k = (rows, piv, δ) := by
  unfold colS; simp only [h.pf]; rw [if_neg (by omega)]
def redS (rows : List (List Rat)) : Nat → List (List Rat) × List Int × Rat
  | 0 => (rows, [], 1)
  | n + 1 => colS (redS rows n) n
/-! ### Lengths and sizes -/
def rect (N : Nat) (rows : List (List Rat)) : Prop := ∀ r ∈ rows, r.length = N
theorem rect.row {N : Nat} {rows : List (List Rat)} (h : rect N rows) {i : Nat} (hi : i < rows.length) : (rowat rows i).length = N := by
  refine h _ ?_; unfold rowat; simp [hi]
theorem rect.set {N : Nat} {rows : List (List Rat)} (h : rect N rows) {i : Nat} {r : List Rat} (hr : r.length = N) : rect N (rows.set i r) := fun x hx => by
  rcases List.mem_or_eq_of_mem_set hx with h' | rfl
  · exact h x h'
  · exact hr
theorem rect.of {N : Nat} {rows : List (List Rat)} (h : ∀ i, i < rows.length → (rowat rows i).length = N) : rect N rows := fun x hx => by
  obtain ⟨i, hi⟩ := List.getElem?_of_mem hx
  have hl := (List.getElem?_eq_some_iff.1 hi).1
  have := h i hl
  unfold rowat at this; rw [List.getD_eq_getElem?_getD, hi] at this; exact this
theorem rect.swap {N : Nat} {rows : List (List Rat)} (h : rect N rows) {i j : Nat} (hi : i < rows.length) (hj : j < rows.length) : rect N (swapR rows i j) := (h.set (h.row hj)).set (h.row hi)
theorem rect.div {N : Nat} {rows : List (List Rat)} (h : rect N rows) {d k : Nat} (hd : d < rows.length) : rect N (divR rows d k) := h.set (by rw [sclR_len]; exact h.row hd)
theorem rect.elimT {N : Nat} {rows : List (List Rat)} (h : rect N rows) {d k j : Nat} (hd : d < rows.length) (hj : j < rows.length) : (elimT rows d k j).length = N := by
  unfold Proofs.YtknbjfefeeojlaaGreat.elimT
  split
  · exact h.row hj
  · rw [axR_len, h.row hd, h.row hj]; omega
theorem rect.elim {N : Nat} {rows : List (List Rat)} (h : rect N rows) {d k i : Nat} (hd : d < rows.length) : rect N (elimS rows d k i) := rect.of fun j hj => by
  rw [elimS_len] at hj
  rw [elimS_row hj]
  split
  · exact h.elimT hd hj
  · exact h.row hj
theorem rect.col {N : Nat} {rows : List (List Rat)} (h : rect N rows) {d k p : Nat} (hd : d < rows.length) (hp : p < rows.length) : rect N (colR rows d k p) :=
  ((h.swap hp hd).div (by rw [swapR_len]; exact hd)).elim (by rw [divR_len, swapR_len]; exact hd)
def szR (L : Nat) (rows : List (List Rat)) : Prop := ∀ r ∈ rows, szV L r
theorem szR.mono {L L' : Nat} {rows : List (List Rat)} (h : szR L rows) (hL : L ≤ L') : szR L' rows := fun r hr q hq => (h r hr q hq).mono hL
theorem szR.row {L : Nat} {rows : List (List Rat)} (h : szR L rows) (i : Nat) : szV L (rowat rows i) := by
  unfold rowat; rw [List.getD_eq_getElem?_getD]
  cases hq : rows[i]? with
  | none => intro q hq; simp at hq
  | some r => exact h r (List.mem_of_getElem? hq)
theorem szR.at {L : Nat} {rows : List (List Rat)} (h : szR L rows) (hL : 1 ≤ L) (i k : Nat) : sz L (mat rows i k) := szV_at (h.row i) hL k
theorem szR.set {L : Nat} {rows : List (List Rat)} (h : szR L rows) {i : Nat} {r : List Rat} (hr : szV L r) : szR L (rows.set i r) := fun x hx => by
  rcases List.mem_or_eq_of_mem_set hx with h' | rfl
  · exact h x h'
  · exact hr
theorem szR.swap {L : Nat} {rows : List (List Rat)} (h : szR L rows) (i j : Nat) : szR L (swapR rows i j) := (h.set (h.row j)).set (h.row i)
theorem sz_inv {L : Nat} {r : Rat} (h : sz L r) (hL : 1 ≤ L) : sz L (1 / r) := by
  rw [Rat.div_def, Rat.one_mul]
  by_cases h0 : r = 0
  · subst h0; rw [Rat.inv_zero]; exact sz_zero.mono hL
  · have e : r⁻¹ = Rat.divInt r.den r.num := by rw [Rat.inv_def]
    rw [e]
    have hd : (0 : Int) < r.den := by have := r.den_pos; omega
    rcases Int.lt_trichotomy r.num 0 with hn | hn | hn
    · have e2 := Rat.neg_divInt_neg (r.den : Int) r.num
      rw [← e2]
      exact sz_divInt (by have := h.2; rw [Int.natAbs_neg]; simpa using this) (by omega) (by have := h.1; omega)
    · exact absurd (Rat.num_eq_zero.1 hn) h0
    · exact sz_divInt (by have := h.2; simpa using this) hn (by have := h.1; omega)
theorem sclR_sz {a b L : Nat} {r : Rat} {xs : List Rat} (hr : sz a r) (hx : szV b xs) (hb : 1 ≤ b) (hL : a + b ≤ L) : szV L (sclR r xs) := szV_zip fun i _ => by
  rw [show vat ([] : List Rat) i = 0 from rfl, Rat.add_zero]; exact (sz_mul hr (szV_at hx hb i)).mono hL
theorem axR_sz {a b c L : Nat} {r : Rat} {xs ys : List Rat} (hr : sz a r) (hx : szV b xs) (hy : szV c ys) (hb : 1 ≤ b) (hc : 1 ≤ c) (hL : a + b + c + 1 ≤ L) : szV L (axR r xs ys) := szV_zip fun i _ =>
  (sz_add (sz_mul hr (szV_at hx hb i)) (szV_at hy hc i)).mono (by omega)
theorem szR.div {L : Nat} {rows : List (List Rat)} (h : szR L rows) (hL : 1 ≤ L) (d k : Nat) : szR (2 * L) (divR rows d k) :=
  (h.mono (by omega)).set (sclR_sz (sz_inv (h.at hL d k) hL) (h.row d) hL (by omega))
theorem elimS_sz {L : Nat} {rows : List (List Rat)} (h : szR L rows) (hL : 1 ≤ L) {d : Nat} (hd : d < rows.length) (k i : Nat) : szR (5 * L) (elimS (divR rows d k) d k i) := by
  have h2 := h.div hL d k
  intro x hx
  obtain ⟨j, hj, rfl⟩ := List.mem_map.1 hx
  rw [List.mem_range, divR_len] at hj
  have hj2 : j < (divR rows d k).length := by rw [divR_len]; exact hj
  have e : ∀ j, j ≠ d → rowat (divR rows d k) j = rowat rows j := fun j hj => by unfold divR; rw [rowat_set hd, if_neg hj]
  have hr : szV (5 * L) (rowat (divR rows d k) j) := (h2.mono (by omega)).row j
  split
  · unfold elimT
    split
    · exact hr
    · rename_i h3
      have h4 : j ≠ d := fun h => h3 (.inl h)
      refine axR_sz (a := L) (b := 2 * L) (c := L) (sz_neg ?_) (h2.row d) ?_ (by omega) hL (by omega)
      · unfold mat; rw [e j h4]; exact h.at hL j k
      · rw [e j h4]; exact h.row j
  · exact hr
theorem colR_sz {L : Nat} {rows : List (List Rat)} (h : szR L rows) (hL : 1 ≤ L) {d : Nat} (hd : d < rows.length) (k p : Nat) : szR (5 * L) (colR rows d k p) := elimS_sz (h.swap p d) hL (by rw [swapR_len]; exact hd) k _
theorem colS_len (s : List (List Rat) × List Int × Rat) (k : Nat) : (colS s k).1.length = s.1.length := by unfold colS; split <;> simp [colR_len]
theorem colS_piv {s : List (List Rat) × List Int × Rat} {k : Nat} (h : s.2.1.length ≤ s.1.length) : (colS s k).2.1.length ≤ s.1.length := by
  unfold colS
  split
  · have := (pf_is (k := k) h).1; simp; omega
  · exact h
theorem colS_rect {N : Nat} {s : List (List Rat) × List Int × Rat} {k : Nat} (hr : rect N s.1) (h : s.2.1.length ≤ s.1.length) : rect N (colS s k).1 := by
  unfold colS
  split
  · have := (pf_is (k := k) h).1; exact hr.col (by omega) (by assumption)
  · exact hr
theorem colS_sz {L : Nat} {s : List (List Rat) × List Int × Rat} {k : Nat} (hz : szR L s.1) (hL : 1 ≤ L) (h : s.2.1.length ≤ s.1.length) : szR (5 * L) (colS s k).1 := by
  unfold colS
  split
  · have := (pf_is (k := k) h).1; exact colR_sz hz hL (by omega) _ _
  · exact hz.mono (by omega)
theorem redS_all {N L : Nat} {rows : List (List Rat)} (hr : rect N rows) (hz : szR L rows) (hL : 1 ≤ L) : ∀ n, (redS rows n).1.length = rows.length ∧ (redS rows n).2.1.length ≤ rows.length ∧ rect N (redS rows n).1 ∧ szR (L * 5 ^ n) (redS rows n).1
  | 0 => ⟨rfl, Nat.zero_le _, hr, by simpa [redS] using hz⟩
  | n + 1 => by
    obtain ⟨h1, h2, h3, h4⟩ := redS_all hr hz hL n
    have h5 : (redS rows n).2.1.length ≤ (redS rows n).1.length := by omega
    have hp : 1 ≤ L * 5 ^ n := Nat.mul_pos hL (Nat.pow_pos (by omega))
    refine ⟨by rw [redS, colS_len, h1], by rw [redS]; have := colS_piv (k := n) h5; omega, by rw [redS]; exact colS_rect h3 h5, ?_⟩
    rw [redS, Nat.pow_succ, ← Nat.mul_assoc, Nat.mul_comm (L * 5 ^ n)]; exact colS_sz h4 hp h5
end Go.Proofs.YtknbjfefeeojlaaGreat
/- The state of a matrix under elimination in the store. -/
namespace Go.Proofs.YtknbjfefeeojlaaGreat
open Go.RowKit
attribute [local irreducible] RV VH V OpF Calls
theorem rnc {P : Program} {ρ : Operand → Value} {d : Option Tmp} {ty : TypeId} {pos : String} {af : Array Edge} {g : Option (Nat × Bool)} {x : Operand} {v : Value} {ad : Addr} {W : World} (hx : ρ x = v) (hv : v = .pointer (some ad)) : (execOp ρ ⟨d, .nilCheck x, ty, pos, af, g⟩).run P W = .ok (.value v) W := by
  subst hx; unfold execOp; simp [hv]
def XS (B bw : Nat) (pv : Value) : Nat → Prop := fun b => B ≤ b ∧ b ≠ bw ∧ pv.ownBlock ≠ some b
def KQ (bw : Nat) (v pv : Value) : Nat → Prop := fun b => b ≠ bw ∧ v.ownBlock ≠ some b ∧ pv.ownBlock ≠ some b
/-- The two callbacks of a work: what they hold, and what they do. -/
structure CL (xd : Nat → Prop) (fs fd : Value) (CX : Nat → (Nat → Prop) → World → Rat → Prop) : Prop where
  ck : ∀ {L : Nat} {S S' : Nat → Prop} {W W' : World} {δ : Rat}, CX L S W δ → CK S' W W' → (∀ b, b < W.heap.size → S b → S' b) → (∀ b, xd b → S' b) → CX L S W' δ
  sub : ∀ {L : Nat} {S S' : Nat → Prop} {W : World} {δ : Rat}, CX L S W δ → (∀ b, b < W.heap.size → S b → S' b) → CX L S' W δ
  mono : ∀ {L L' : Nat} {S : Nat → Prop} {W : World} {δ : Rat}, CX L S W δ → L ≤ L' → CX L' S W δ
  sw : ∃ (f : Nat) (cap : List Value), fs = .func (.func f) #[] cap.toArray ∧ Ent Tryz.prog f ∧ ∀ (L : Nat) (S : Nat → Prop) (W : World) (δ : Rat), CX L S W δ → Up S W → L + 1 < LY → Calls Tryz.prog f (([] : List Value) ++ cap).toArray W fun e W' => e = .returned (.tuple #[]) ∧ KD (fun b => ¬ xd b) W W' ∧ CX L S W' (-δ)
  dv : ∃ (f : Nat) (cap : List Value), fd = .func (.func f) #[] cap.toArray ∧ Ent Tryz.prog f ∧ ∀ (L M : Nat) (S : Nat → Prop) (W : World) (δ : Rat) (q : List Value) (r : Rat), CX L S W δ → Up S W → QA M TT W q r → 1 ≤ M → L + M + 1 < LY → Calls Tryz.prog f (([.agg q.toArray] : List Value) ++ cap).toArray W fun e W' => e = .returned (.tuple #[]) ∧ KD (fun b => ¬ xd b) W W' ∧ CX (L + M) S W' (δ * r)
structure WS (B bw : Nat) (fs fd : Value) (xd : Nat → Prop) (CX : Nat → (Nat → Prop) → World → Rat → Prop) (v pv : Value) (L : Nat) (rows : List (List Rat)) (piv : List Int) (δ : Rat) (W : World) : Prop where
  cl : CL xd fs fd CX
  x : BoxAt W bw [v, pv, fs, fd] 141
  g : GO 1 (RowOf GC) (XS B bw pv) B W 23 v rows
  p : OI .i64 B W 3 pv piv
  c : CX L (KQ bw v pv) W δ
  hB : B ≤ bw
  hx : ∀ b, xd b → b < B
theorem OS.obox {s B : Nat} {W : World} {e : TypeId} {v : Value} {qs : List (List Value)} (h : OS s B W e v qs) {b : Nat} (hb : v.ownBlock = some b) : ∃ cur, BoxAt W b cur e := by
  rcases h.row.2 with ⟨rfl, _⟩ | ⟨b', cap, cur, rfl, _, hh, _⟩
  · simp [Value.ownBlock] at hb
  · simp only [Value.ownBlock, Option.some.injEq] at hb
    subst hb
    exact ⟨cur.toList, by unfold BoxAt; simpa using hh⟩
section
variable {B bw L n c : Nat} {fs fd v pv pv' : Value} {xd : Nat → Prop} {CX : Nat → (Nat → Prop) → World → Rat → Prop} {rows : List (List Rat)} {piv : List Int} {δ : Rat} {W W' : World} {a : Option Addr}
theorem WS.ext (h : WS B bw fs fd xd CX v pv L rows piv δ W) (y : Ext W W') : WS B bw fs fd xd CX v pv L rows piv δ W' :=
  ⟨h.cl, h.x.ext y, h.g.ext okRowC y, h.p.ext y, h.cl.ck h.c (y.ck fun _ => True) (fun _ _ _ => trivial) (fun _ _ => trivial), h.hB, h.hx⟩
theorem WS.vb (h : WS B bw fs fd xd CX v pv L rows piv δ W) : v.ownBlock ≠ some bw := by
  obtain ⟨qs, h1, _⟩ := h.g; exact h1.neBox h.x (by decide)
theorem WS.pb (h : WS B bw fs fd xd CX v pv L rows piv δ W) : pv.ownBlock ≠ some bw := h.p.neBox h.x (by decide)
theorem WS.vp (h : WS B bw fs fd xd CX v pv L rows piv δ W) {b : Nat} (e : v.ownBlock = some b) : pv.ownBlock ≠ some b := by
  obtain ⟨qs, h1, _⟩ := h.g
  obtain ⟨cur, hb⟩ := h1.obox e
  exact h.p.neBox hb (by decide)
theorem WS.vlow (h : WS B bw fs fd xd CX v pv L rows piv δ W) : ∀ b, v.ownBlock = some b → B ≤ b ∧ b < W.heap.size := by
  obtain ⟨qs, h1, _⟩ := h.g; exact h1.low
theorem WS.up (h : WS B bw fs fd xd CX v pv L rows piv δ W) : Up (SO (XS B bw pv) v) W := fun b hb => by
  have := h.x.lt; have := h.hB
  exact ⟨⟨by omega, by omega, fun e => by have := (h.p.low b e).2; omega⟩, fun e => by have := (h.vlow b e).2; omega⟩
theorem WS.upq (h : WS B bw fs fd xd CX v pv L rows piv δ W) : Up (KQ bw v pv) W := fun b hb => by
  have := h.x.lt
  exact ⟨by omega, fun e => by have := (h.vlow b e).2; omega, fun e => by have := (h.p.low b e).2; omega⟩
theorem WS.mc (h : WS B bw fs fd xd CX v pv L rows piv δ W) (hv : v = .slice a n c) : MC TT W a n c rows := by
  subst hv; exact GO.rd okRowC h.g
theorem WS.pn (h : WS B bw fs fd xd CX v pv L rows piv δ W) (hv : pv = .slice a n c) : RN .i64 TT W a n c piv := by
  subst hv; exact h.p.rn fun _ _ _ => trivial
theorem WS.row (h : WS B bw fs fd xd CX v pv L rows piv δ W) (hv : v = .slice a n c) {i : Int} (h0 : 0 ≤ i) (h1 : i < n) : ∃ a' n' c', W.cell? (adr a i 1) = some (.slice a' n' c') ∧ GC (SO (XS B bw pv) v) W a' n' c' (rowat rows i.toNat) := by
  obtain ⟨qs, h2, h3⟩ := h.g
  have h2' := h2
  rw [hv] at h2'
  have hr : RS 1 TT W a n c qs := h2'.rs fun _ _ _ => trivial
  obtain ⟨q, h4, h5, h6⟩ := hr.el h0 h1
  obtain ⟨r, h7, a', n', c', rfl, h8⟩ := h3.get h4
  have e : rowat rows i.toNat = r := by unfold rowat; rw [List.getD_eq_getElem?_getD, h7]; rfl
  refine ⟨a', n', c', ?_, e ▸ h8⟩
  have := h6 0 _ rfl
  rwa [add0] at this
theorem WS.ckB (h : WS B bw fs fd xd CX v pv L rows piv δ W) {L' : Nat} {δ' : Rat} (k : KD (fun b => ¬ xd b) W W') (hc : CX L' (KQ bw v pv) W' δ') : WS B bw fs fd xd CX v pv L' rows piv δ' W' := by
  have nx : ∀ b, B ≤ b → ¬ xd b := fun b hb hx => by have := h.hx b hx; omega
  refine ⟨h.cl, h.x.kd k (nx _ h.hB), ?_, h.p.ck k.ck fun b e => nx b (h.p.low b e).1, hc, h.hB, h.hx⟩
  obtain ⟨qs, h1, h2⟩ := h.g
  refine ⟨qs, h1.ck k.ck fun b e => nx b (h1.low b e).1, h2.imp fun _ _ hq => ?_⟩
  have h3 := okRowC.sub (S' := fun b => SO (XS B bw pv) v b ∧ ¬ xd b) hq fun b _ hs => ⟨hs, nx b hs.1.1⟩
  exact okRowC.sub (okRowC.ck h3 (k.ck.sub fun _ hs => hs.2)) fun b _ hs => hs.1
theorem WS.sz (h : WS B bw fs fd xd CX v pv L rows piv δ W) {L' : Nat} (hL : L ≤ L') : WS B bw fs fd xd CX v pv L' rows piv δ W := ⟨h.cl, h.x, h.g, h.p, h.cl.mono h.c hL, h.hB, h.hx⟩
theorem WS.kq (h : WS B bw fs fd xd CX v pv L rows piv δ W) {b : Nat} (hb : b < B) : KQ bw v pv b := ⟨by have := h.hB; omega, fun e => by have := (h.vlow b e).1; omega, fun e => by have := (h.p.low b e).1; omega⟩
/-- One element more in the list of the pivots, and the new list is stored. -/
theorem WS.push {W1 W2 : World} {z : Int} (h : WS B bw fs fd xd CX v pv L rows piv δ W) (hO : OI .i64 B W1 3 pv' (piv ++ [z])) (hg : W.grownBy W1 pv.ownBlock) (ho : pv'.ownBlock = pv.ownBlock ∨ pv'.ownBlock = some W.heap.size) (hos : Below 0 W W1) (y : Wr bw W1 W2) (hb : BoxAt W2 bw [v, pv', fs, fd] 141) :
    WS B bw fs fd xd CX v pv' L rows (piv ++ [z]) δ W2 ∧ KD (KQ bw v pv) W W2 := by
  have nb : ∀ b, b < W.heap.size → pv.ownBlock ≠ some b → pv'.ownBlock ≠ some b := fun b hb hp e => by
    rcases ho with h' | h'
    · exact hp (h' ▸ e)
    · rw [h'] at e; injection e with e; omega
  have kg : CK (fun b => pv.ownBlock ≠ some b) W W1 := grown_ck hg fun b e h => h e
  have kd : KD (KQ bw v pv) W W2 := (grown_kd hg (fun b e hd => hd.2.2 e) hos).trans (y.kd fun hd => hd.1 rfl)
  refine ⟨⟨h.cl, hb, ?_, ?_, ?_, h.hB, h.hx⟩, kd⟩
  · obtain ⟨qs, h1, h2⟩ := h.g
    have o1 : OS 1 B W1 23 v qs := h1.ck kg fun b e => h.vp e
    refine ⟨qs, o1.ck (y.ck (S := fun b => b ≠ bw) fun hh => hh rfl) (fun b e => fun hh => h.vb (hh ▸ e)), h2.imp fun _ _ hq => ?_⟩
    have h3 := okRowC.sub (S' := fun b => SO (XS B bw pv) v b ∧ pv'.ownBlock ≠ some b) hq fun b hb hs => ⟨hs, nb b hb hs.1.2.2⟩
    have h4 := okRowC.ck h3 (kg.sub fun b hs => hs.1.1.2.2)
    have h5 := okRowC.ck h4 (y.ck (fun hh => hh.1.1.2.1 rfl))
    exact okRowC.sub h5 fun b _ hs => ⟨⟨hs.1.1.1, hs.1.1.2.1, hs.2⟩, hs.1.2⟩
  · refine hO.ck (y.ck (S := fun b => b ≠ bw) fun hh => hh rfl) (fun b e hh => ?_)
    subst hh
    rcases ho with h' | h'
    · exact h.pb (h' ▸ e)
    · rw [h'] at e; injection e with e; have := h.x.lt; omega
  · exact h.cl.ck (h.cl.sub h.c (S' := fun b => KQ bw v pv b ∧ pv'.ownBlock ≠ some b) fun b hb hs => ⟨hs, nb b hb hs.2.2⟩) kd.ck (fun b _ hs => hs.1) (fun b hx => h.kq (h.hx b hx)) |> fun c => h.cl.sub c fun b _ hs => ⟨hs.1.1, hs.1.2.1, hs.2⟩
theorem WS.nb (h : WS B bw fs fd xd CX v pv L rows piv δ W) {b : Nat} {cs : List Value} {T : TypeId} (hb : BoxAt W b cs T) (h1 : T ≠ 23) (h2 : T ≠ 3) (h3 : b ≠ bw) : KQ bw v pv b := by
  obtain ⟨qs, h4, _⟩ := h.g
  exact ⟨h3, h4.neBox hb h1, h.p.neBox hb h2⟩
theorem WS.nx (h : WS B bw fs fd xd CX v pv L rows piv δ W) {b : Nat} (hb : B ≤ b) : ¬ xd b := fun hx => by have := h.hx b hx; omega
theorem WS.ma {L' : Nat} (h : WS B bw fs fd xd CX v pv L rows piv δ W) (hv : v = .slice a n c) (hs : szR L' rows) : MA L' TT W a n c rows := (h.mc hv).ma hs
theorem so_kq {b : Nat} (h : SO (XS B bw pv) v b) : KQ bw v pv b := ⟨h.1.2.1, h.2, h.1.2.2⟩
end
section
variable {B bw L n c n' c' : Nat} {fs fd v pv u : Value} {xd : Nat → Prop} {CX : Nat → (Nat → Prop) → World → Rat → Prop} {rows : List (List Rat)} {piv : List Int} {δ : Rat} {W W' : World} {a a' : Option Addr} {ρ : Operand → Value} {d : Option Tmp} {ty T : TypeId} {pos : String} {af : Array Edge} {gd : Option (Nat × Bool)} {x y : Operand} {K : Value → World → Prop} {rr : List Rat}
/-- w.rows[i] = u -/
theorem xstW {r : Option Nat} {i : Int} (h : WS B bw fs fd xd CX v pv L rows piv δ W) (hv : v = .slice a n c) (hx : ρ x = .pointer (some (adr a i 1))) (hy : ρ y = .slice a' n' c') (hT : Sz Tryz.prog T 1) (h0 : 0 ≤ i) (h1 : i < n) (hel : GC (SO (XS B bw pv) v) W a' n' c' rr)
    (hk2 : ∀ W', WS B bw fs fd xd CX v pv L (rows.set i.toNat rr) piv δ W' → KD (KQ bw v pv) W W' → K undef W') : OpF r Tryz.prog ρ ⟨d, .store T x y, ty, pos, af, gd⟩ W K := by
  refine xstG (q := [.slice a' n' c']) okRowC h.g hv hx hy rfl hT rfl rfl h0 h1 ⟨_, _, _, rfl, hel⟩ ?_
  intro b W' hb y' hG
  have kd : KD (KQ bw v pv) W W' := y'.kd fun hd => hd.2.1 hb
  exact hk2 W' ⟨h.cl, h.x.wr y' (fun e => h.vb (e ▸ hb)), hG, h.p.ck (y'.ck (S := fun q => q ≠ b) fun hh => hh rfl) (fun q e hh => h.vp hb (hh ▸ e)), h.cl.ck h.c kd.ck (fun _ _ hs => hs) (fun b hx => h.kq (h.hx b hx)), h.hB, h.hx⟩ kd
end
end Go.Proofs.YtknbjfefeeojlaaGreat

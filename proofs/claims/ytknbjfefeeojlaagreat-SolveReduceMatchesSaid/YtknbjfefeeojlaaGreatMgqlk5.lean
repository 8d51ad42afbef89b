/- Package pylonref01: small, back, times, add, sub, cmp. -/
import Derived.Test.YtknbjfefeeojlaaGreatMgqlk4
namespace Go.Proofs.YtknbjfefeeojlaaGreat
open Go.RowKit
attribute [local irreducible] RV VH V OpF Calls

set_option maxHeartbeats 400000 in
theorem rsmall_ok (a : Option Addr) (n c : Nat) (xs : List Int) (S : Nat → Prop) (w : World) (h : RN .i64 S w a n c xs) (hd : Dg b16 xs) (hn : n ≤ 3) :
    Calls Tryz.prog 214 #[.slice a n c] w (fun e w' => e = .returned (.int .i64 (vl b16 xs)) ∧ w = w') := by
 have z0 := Ext.refl w; have hLX : LX = 17592186044416 := rfl; have hLY : LY = 8796093022208 := rfl
 have hl := h.len
 refine enter (args := [.slice a n c]) Tryz.func214 rfl rfl (Nat.le_of_ble_eq_true rfl) ?_
 refine V.seq (V.reg rfl ?_)
 refine asi rfl ?_
 refine vnil ?_
 refine V.seq (V.reg rfl ?_)
 refine asi rfl ?_
 refine vnil ?_
 refine V.seq ?_
 refine V.seq (V.reg rfl ?_)
 refine mvs rfl ?_
 refine vv (rlen sl73 rfl) ?_
 refine vv (rbin (bSub (wi (by omega))) rfl rfl) ?_
 refine asi rfl ?_
 refine vnil ?_
 refine V.block ?_
 refine V.loopK (ι := Nat × Int) [(0, .slice _ _ _), (2, .int _ _)] (fun ⟨k, v⟩ => [(4, .int .i64 ((k : Int) - 1)), (3, .int .i64 v)]) (fun ⟨k, v⟩ W => w = W ∧ k ≤ n ∧ v = vl b16 (xs.drop k)) (fun ⟨k, v⟩ => k) ((n, 0)) ⟨rfl, rfl, trivial⟩ ⟨rfl, rfl, trivial⟩ ⟨rfl, Nat.le_refl _, by rw [List.drop_eq_nil_of_le (by omega)]; rfl⟩ ?_
 intro i2 E3 W1 h4
 obtain ⟨k, v⟩ := i2
 simp only at h4
 show V _ _ _ _ _ _ (ups (ups _ _) [(4, .int .i64 ((k : Int) - 1)), (3, .int .i64 v)]) _
 obtain ⟨rfl, hk, hv⟩ := h4
 refine V.seq ?_
 refine V.seq (V.reg rfl ?_)
 refine mvi rfl ?_
 refine vge rfl rfl ?_ ?_
 ·intro c5
  have hvb : 0 ≤ v ∧ v ≤ 4294967295 := by rw [hv]; exact small_bd hd (by omega) (by omega)
  have hwb := wd_dg (B := b16) (by decide) hd ((k : Int) - 1)
  unfold b16 at hwb
  refine vnil ?_
  refine V.condT rfl ?_
  refine V.skip ?_
  refine V.seq ?_
  refine V.block ?_
  refine V.reg rfl ?_
  refine mvi rfl ?_
  refine vv (rbin (bMul (wi (by omega))) rfl rfl) ?_
  refine mvs rfl ?_
  refine mvi rfl ?_
  refine vv (rixn h sl73 sz3 rfl rfl (by omega) (by omega)) ?_
  refine vldN h rfl sc3 (by omega) (by omega) ?_
  intro q6 hq6 hk7
  simp only [kb] at hk7
  refine vv (rbin (bAdd (wi (by omega))) rfl rfl) ?_
  refine asi rfl ?_
  refine vnil ?_
  refine V.reg rfl ?_
  refine mvi rfl ?_
  refine vv (rbin (bSub (show IntKind.i64.wrap ((k : Int) - 1 - 1) = ((k - 1 : Nat) : Int) - 1 by rw [wi (by omega)]; omega)) rfl rfl) ?_
  refine asi rfl ?_
  refine vnil ?_
  refine ⟨rfl, (k - 1, _), ⟨rfl, rfl, trivial⟩, ⟨rfl, rfl, trivial⟩, ⟨rfl, by omega, small_step16 (by omega) (by omega) hv hq6⟩, ?_⟩
  show k - 1 < k
  omega
 ·intro c5
  refine vnil ?_
  refine V.condF rfl ?_
  refine V.exit ?_
  refine V.seq (V.reg rfl ?_)
  refine mvi rfl ?_
  refine asi rfl ?_
  refine vnil ?_
  refine V.ret ?_
  refine ⟨[.int _ _], ⟨rfl, trivial⟩, ?_⟩
  have e0 : k = 0 := (by omega)
  subst e0
  exact ⟨by rw [hv]; rfl, rfl⟩
set_option maxHeartbeats 400000 in
theorem rback_ok (v : Int) (S : Nat → Prop) (w : World) (h0 : 0 ≤ v) (h1 : v < 281474976710656) (hu : Up S w) :
    Calls Tryz.prog 213 #[.int .i64 v] w (fun e w' => ∃ a n' c, e = .returned (.slice a n' c) ∧ Ext w w' ∧ RN .i64 S w' a n' c (dg b16 (v))) := by
 have z0 := Ext.refl w; have hLX : LX = 17592186044416 := rfl; have hLY : LY = 8796093022208 := rfl
 refine enter (args := [.int .i64 v]) Tryz.func213 rfl rfl (Nat.le_of_ble_eq_true rfl) ?_
 refine V.seq (V.reg rfl ?_)
 refine ass rfl ?_
 refine vnil ?_
 refine V.seq (V.reg rfl ?_)
 refine mvi rfl ?_
 refine vv (rbin (bRem (by omega) (Int.tmod_eq_emod_of_nonneg (by omega))) rfl rfl) ?_
 refine mvi rfl ?_
 refine vv (rbin (bQuo (by omega) (wiq (by rw [Int.tdiv_eq_ediv_of_nonneg (by omega)]; omega) (Int.tdiv_eq_ediv_of_nonneg (by omega)))) rfl rfl) ?_
 refine vv (rbin (bRem (by omega) (Int.tmod_eq_emod_of_nonneg (by omega))) rfl rfl) ?_
 refine mvi rfl ?_
 refine vv (rbin (bQuo (by omega) (wiq (by rw [Int.tdiv_eq_ediv_of_nonneg (by omega)]; omega) (Int.tdiv_eq_ediv_of_nonneg (by omega)))) rfl rfl) ?_
 refine vv (rbin (bQuo (by omega) (wiq (by rw [Int.tdiv_eq_ediv_of_nonneg (by omega)]; omega) (Int.tdiv_eq_ediv_of_nonneg (by omega)))) rfl rfl) ?_
 refine vo ?_
 refine xbs (ps := [(0, .int _ _), (1, .int _ _), (2, .int _ _)]) (cs := [.int _ _, .int _ _, .int _ _]) sl73 zr3 sz3 rfl rfl rfl rfl rfl rfl ?_
 intro W1 x2 b3 nn4
 have s5 := x2.sz
 have z6 := x2
 have hl7 := RN.lit (k := .i64) (xs := [_, _, _]) 3 b3 (by intro q hq; simp only [List.mem_cons, List.not_mem_nil, or_false] at hq; simp only [kb]; omega) ((hu.mono (show w.heap.size ≤ w.heap.size by omega)) _ (Nat.le_refl _))
 refine vo ?_
 refine xcall e211 (rtrim_ok _ _ _ _ _ _ hl7) rfl rfl ?_
 rintro _ _ ⟨m9, rfl, hr8, hm10, rfl⟩
 refine ⟨_, rfl, ?_⟩
 refine ass rfl ?_
 refine vnil ?_
 refine V.ret ?_
 refine ⟨[.slice _ _ _], ⟨rfl, trivial⟩, ?_⟩
 exact ⟨_, _, _, rfl, z6, (hr8).cast (back_eq h0 h1)⟩
set_option maxHeartbeats 400000 in
theorem rtimes_ok (a : Option Addr) (n c : Nat) (xs : List Int) (z : Int) (S S1 : Nat → Prop) (w : World) (h : RN .i64 S1 w a n c xs) (hd : Dg b16 xs) (hn : n ≤ LX / 2) (hz : 0 ≤ z ∧ z ≤ 65536) (hu : Up S w) :
    Calls Tryz.prog 215 #[.slice a n c, .int .i64 z] w (fun e w' => ∃ a n' c, e = .returned (.slice a n' c) ∧ Ext w w' ∧ RN .i64 S w' a n' c (dg b16 (vl b16 xs * z)) ∧ n' ≤ n + 2) := by
 have z0 := Ext.refl w; have hLX : LX = 17592186044416 := rfl; have hLY : LY = 8796093022208 := rfl
 have hl := h.len
 refine enter (args := [.slice a n c, .int .i64 z]) Tryz.func215 rfl rfl (Nat.le_of_ble_eq_true rfl) ?_
 refine V.seq (V.reg rfl ?_)
 refine ass rfl ?_
 refine vnil ?_
 refine V.seq (V.reg rfl ?_)
 refine ass rfl ?_
 refine vnil ?_
 refine V.seq (V.reg rfl ?_)
 refine asi rfl ?_
 refine vnil ?_
 refine V.seq ?_
 refine V.seq (V.reg rfl ?_)
 refine asi rfl ?_
 refine vnil ?_
 refine V.block ?_
 refine V.loopK (ι := Nat × Int × Value) [(0, .slice _ _ _), (1, .int _ _), (4, .slice _ _ _)] (fun ⟨k, cy, v⟩ => [(7, .int .i64 (k : Int)), (6, .int .i64 cy), (5, v)]) (fun ⟨k, cy, v⟩ W => Ext w W ∧ 0 ≤ cy ∧ cy ≤ 65536 ∧ (k ≤ n ∨ (k = n + 1 ∧ cy ≤ 1) ∨ (k = n + 2 ∧ cy = 0)) ∧ ∃ os, OI .i64 w.heap.size W 3 v os ∧ os.length = k ∧ Dg b16 os ∧ vl b16 os + b16 ^ k * cy = z * vl b16 (xs.take k)) (fun ⟨k, cy, v⟩ => (n - k) * 65538 + cy.toNat) ((0, 0, _)) ⟨rfl, rfl, rfl, trivial⟩ ⟨rfl, rfl, rfl, trivial⟩ ⟨Ext.refl _, by omega, by omega, by omega, [], OI.nil .i64 _ _ _, rfl, Dg.nil _, by simp [vl]⟩ ?_
 intro i2 E3 W1 h4
 obtain ⟨k, cy, v⟩ := i2
 simp only at h4
 show V _ _ _ _ _ _ (ups (ups _ _) [(7, .int .i64 (k : Int)), (6, .int .i64 cy), (5, v)]) _
 obtain ⟨x5, hc0, hc1, hk, os, hO, hol, hod, hov⟩ := h4
 have s6 := x5.sz
 have z7 := x5
 refine V.seq ?_
 refine V.seq (V.reg rfl ?_)
 refine mvi rfl ?_
 refine mvs rfl ?_
 refine vv (rlen sl73 rfl) ?_
 refine vlt rfl rfl ?_ ?_
 ·intro c8
  have hwb := wd_dg (B := b16) (by decide) hd (k : Int)
  unfold b16 at hwb
  have hm := mul_bd hwb.1 (show wd xs (k : Int) ≤ 65535 by omega) hz.1 hz.2
  refine mvb rfl ?_
  refine vgn (b := true) rfl rfl ?_
  refine vgn (b := true) rfl rfl ?_
  refine vv (rpk (v := .bool true) rfl rfl) ?_
  refine vnil ?_
  refine V.condT rfl ?_
  refine V.skip ?_
  refine V.seq ?_
  refine V.block ?_
  refine V.seq (V.reg rfl ?_)
  refine mvs rfl ?_
  refine mvi rfl ?_
  refine vo ?_
  refine xcall e212 (rat_ok _ _ _ _ _ _ _ (h.ext z7) (by omega)) rfl rfl ?_
  rintro _ _ ⟨rfl, rfl⟩
  refine ⟨_, rfl, ?_⟩
  refine mvi rfl ?_
  refine vv (rbin (bMul (wi (by omega))) rfl rfl) ?_
  refine mvi rfl ?_
  refine vv (rbin (bAdd (wi (by omega))) rfl rfl) ?_
  refine asi rfl ?_
  refine vnil ?_
  refine V.seq (V.reg rfl ?_)
  refine vv (rmv (v := v) rfl) ?_
  refine mvi rfl ?_
  refine vv (rbin (bRem (by omega) (Int.tmod_eq_emod_of_nonneg (by omega))) rfl rfl) ?_
  refine vo ?_
  refine xbs (ps := [(0, .int _ _)]) (cs := [.int _ _]) sl73 zr3 sz3 rfl rfl rfl rfl rfl rfl ?_
  intro W10 x11 b12 nn13
  have s14 := x11.sz
  have z15 := z7.trans x11
  replace hO := hO.ext x11
  refine vo ?_
  refine xapp sl73 in3 hO rfl rfl b12 (by simp only [kb]; omega) (by omega) (by decide) (by omega) ?_
  intro v16 W17 hO18 hg19 ho20
  have y21 := grown_below hg19 (by omega) (fun b e => (hO.low b e).1)
  have s22 := y21.size
  have z23 := z15.below (y21.mono (by omega))
  refine vv (ras (v := v16) rfl) ?_
  refine vnil ?_
  refine V.reg rfl ?_
  refine mvi rfl ?_
  refine vv (rbin (bQuo (by omega) (wiq (by rw [Int.tdiv_eq_ediv_of_nonneg (by omega)]; omega) (Int.tdiv_eq_ediv_of_nonneg (by omega)))) rfl rfl) ?_
  refine asi rfl ?_
  refine vnil ?_
  refine V.reg rfl ?_
  refine mvi rfl ?_
  refine vv (rbin (bAdd (wi (by omega))) rfl rfl) ?_
  refine asi rfl ?_
  refine vnil ?_
  refine ⟨rfl, (k + 1, _, _), ⟨rfl, rfl, rfl, trivial⟩, ⟨rfl, rfl, rfl, trivial⟩, ⟨z23, by omega, by omega, by omega, _, hO18, by rw [List.length_append, hol]; rfl, Dg.append.2 ⟨hod, by intro x hx; simp only [List.mem_cons, List.not_mem_nil, or_false] at hx; unfold b16; omega⟩, times_step hol hov rfl (by unfold b16; omega)⟩, ?_⟩
  show (n - (k + 1)) * 65538 + Int.toNat _ < (n - k) * 65538 + cy.toNat
  omega
 ·intro c8
  refine mvb rfl ?_
  refine vg rfl ?_
  refine mvi rfl ?_
  refine vg rfl ?_
  refine vgt rfl rfl ?_ ?_
  ·intro c24
   have hwb : wd xs (k : Int) = 0 := wd_ge (by omega)
   have hm : wd xs (k : Int) * z = 0 := by rw [hwb, Int.zero_mul]
   refine vv (rpk (v := .bool true) rfl rfl) ?_
   refine vnil ?_
   refine V.condT rfl ?_
   refine V.skip ?_
   refine V.seq ?_
   refine V.block ?_
   refine V.seq (V.reg rfl ?_)
   refine mvs rfl ?_
   refine mvi rfl ?_
   refine vo ?_
   refine xcall e212 (rat_ok _ _ _ _ _ _ _ (h.ext z7) (by omega)) rfl rfl ?_
   rintro _ _ ⟨rfl, rfl⟩
   refine ⟨_, rfl, ?_⟩
   refine mvi rfl ?_
   refine vv (rbin (bMul (wi (by omega))) rfl rfl) ?_
   refine mvi rfl ?_
   refine vv (rbin (bAdd (wi (by omega))) rfl rfl) ?_
   refine asi rfl ?_
   refine vnil ?_
   refine V.seq (V.reg rfl ?_)
   refine vv (rmv (v := v) rfl) ?_
   refine mvi rfl ?_
   refine vv (rbin (bRem (by omega) (Int.tmod_eq_emod_of_nonneg (by omega))) rfl rfl) ?_
   refine vo ?_
   refine xbs (ps := [(0, .int _ _)]) (cs := [.int _ _]) sl73 zr3 sz3 rfl rfl rfl rfl rfl rfl ?_
   intro W26 x27 b28 nn29
   have s30 := x27.sz
   have z31 := z7.trans x27
   replace hO := hO.ext x27
   refine vo ?_
   refine xapp sl73 in3 hO rfl rfl b28 (by simp only [kb]; omega) (by omega) (by decide) (by omega) ?_
   intro v32 W33 hO34 hg35 ho36
   have y37 := grown_below hg35 (by omega) (fun b e => (hO.low b e).1)
   have s38 := y37.size
   have z39 := z31.below (y37.mono (by omega))
   refine vv (ras (v := v32) rfl) ?_
   refine vnil ?_
   refine V.reg rfl ?_
   refine mvi rfl ?_
   refine vv (rbin (bQuo (by omega) (wiq (by rw [Int.tdiv_eq_ediv_of_nonneg (by omega)]; omega) (Int.tdiv_eq_ediv_of_nonneg (by omega)))) rfl rfl) ?_
   refine asi rfl ?_
   refine vnil ?_
   refine V.reg rfl ?_
   refine mvi rfl ?_
   refine vv (rbin (bAdd (wi (by omega))) rfl rfl) ?_
   refine asi rfl ?_
   refine vnil ?_
   refine ⟨rfl, (k + 1, _, _), ⟨rfl, rfl, rfl, trivial⟩, ⟨rfl, rfl, rfl, trivial⟩, ⟨z39, by omega, by omega, by omega, _, hO34, by rw [List.length_append, hol]; rfl, Dg.append.2 ⟨hod, by intro x hx; simp only [List.mem_cons, List.not_mem_nil, or_false] at hx; unfold b16; omega⟩, times_step hol hov rfl (by unfold b16; omega)⟩, ?_⟩
   show (n - (k + 1)) * 65538 + Int.toNat _ < (n - k) * 65538 + cy.toNat
   omega
  ·intro c24
   refine vv (rpk (v := .bool false) rfl rfl) ?_
   refine vnil ?_
   refine V.condF rfl ?_
   refine V.exit ?_
   refine V.seq (V.reg rfl ?_)
   refine vv (rmv (v := v) rfl) ?_
   refine vo ?_
   obtain ⟨a', c', rfl⟩ := hO.form
   have hrn := hO.rn (S := S) (fun b hb _ => hu b (by omega))
   refine xcall e211 (rtrim_ok _ _ _ _ _ _ hrn) rfl rfl ?_
   rintro _ _ ⟨m1, rfl, hr1, hm1, rfl⟩
   refine ⟨_, rfl, ?_⟩
   refine ass rfl ?_
   refine vnil ?_
   refine V.ret ?_
   refine ⟨[.slice _ _ _], ⟨rfl, trivial⟩, ?_⟩
   have e0 : cy = 0 := (by omega)
   subst e0
   rw [Int.mul_zero, Int.add_zero, List.take_of_length_le (by omega)] at hov
   exact ⟨_, _, _, rfl, z7, hr1.cast (by rw [← dg_vl (by decide) hod, hov, Int.mul_comm]), by omega⟩
set_option maxHeartbeats 400000 in
theorem radd_ok (a : Option Addr) (n c : Nat) (xs : List Int) (b : Option Addr) (m d : Nat) (ys : List Int) (S S1 S2 : Nat → Prop) (w : World) (h : RN .i64 S1 w a n c xs) (hd : Dg b16 xs) (h2 : RN .i64 S2 w b m d ys) (hd2 : Dg b16 ys) (hn : n ≤ LX / 2) (hm : m ≤ LX / 2) (hu : Up S w) :
    Calls Tryz.prog 201 #[.slice a n c, .slice b m d] w (fun e w' => ∃ a n' c, e = .returned (.slice a n' c) ∧ Ext w w' ∧ RN .i64 S w' a n' c (dg b16 (vl b16 xs + vl b16 ys)) ∧ n' ≤ max n m + 1) := by
 have z0 := Ext.refl w; have hLX : LX = 17592186044416 := rfl; have hLY : LY = 8796093022208 := rfl
 have hl := h.len; have hl2 := h2.len
 refine enter (args := [.slice a n c, .slice b m d]) Tryz.func201 rfl rfl (Nat.le_of_ble_eq_true rfl) ?_
 refine V.seq (V.reg rfl ?_)
 refine ass rfl ?_
 refine vnil ?_
 refine V.seq (V.reg rfl ?_)
 refine ass rfl ?_
 refine vnil ?_
 refine V.seq (V.reg rfl ?_)
 refine asi rfl ?_
 refine vnil ?_
 refine V.seq ?_
 refine V.seq (V.reg rfl ?_)
 refine asi rfl ?_
 refine vnil ?_
 refine V.block ?_
 refine V.loopK (ι := Nat × Int × Value) [(0, .slice _ _ _), (1, .slice _ _ _), (4, .slice _ _ _)] (fun ⟨k, cy, v⟩ => [(7, .int .i64 (k : Int)), (6, .int .i64 cy), (5, v)]) (fun ⟨k, cy, v⟩ W => Ext w W ∧ 0 ≤ cy ∧ cy ≤ 1 ∧ (k ≤ max n m ∨ (k = max n m + 1 ∧ cy = 0)) ∧ ∃ os, OI .i64 w.heap.size W 3 v os ∧ os.length = k ∧ Dg b16 os ∧ vl b16 os + b16 ^ k * cy = vl b16 (xs.take k) + vl b16 (ys.take k)) (fun ⟨k, cy, v⟩ => (max n m - k) * 2 + cy.toNat) ((0, 0, _)) ⟨rfl, rfl, rfl, trivial⟩ ⟨rfl, rfl, rfl, trivial⟩ ⟨Ext.refl _, by omega, by omega, by omega, [], OI.nil .i64 _ _ _, rfl, Dg.nil _, by simp [vl]⟩ ?_
 intro i2 E3 W1 h4
 obtain ⟨k, cy, v⟩ := i2
 simp only at h4
 show V _ _ _ _ _ _ (ups (ups _ _) [(7, .int .i64 (k : Int)), (6, .int .i64 cy), (5, v)]) _
 obtain ⟨x5, hc0, hc1, hk, os, hO, hol, hod, hov⟩ := h4
 have s6 := x5.sz
 have z7 := x5
 refine V.seq ?_
 refine V.seq (V.reg rfl ?_)
 refine mvi rfl ?_
 refine mvs rfl ?_
 refine vv (rlen sl73 rfl) ?_
 refine vlt rfl rfl ?_ ?_
 ·intro c8
  have hwb := wd_dg (B := b16) (by decide) hd (k : Int); have hwb2 := wd_dg (B := b16) (by decide) hd2 (k : Int)
  unfold b16 at hwb hwb2
  refine mvb rfl ?_
  refine vgn (b := true) rfl rfl ?_
  refine vgn (b := true) rfl rfl ?_
  refine vgn (b := true) rfl rfl ?_
  refine vgn (b := true) rfl rfl ?_
  refine vv (rpk (v := .bool true) rfl rfl) ?_
  refine mvb rfl ?_
  refine vgn (b := true) rfl rfl ?_
  refine vgn (b := true) rfl rfl ?_
  refine vv (rpk (v := .bool true) rfl rfl) ?_
  refine vnil ?_
  refine V.condT rfl ?_
  refine V.skip ?_
  refine V.seq ?_
  refine V.block ?_
  refine V.seq (V.reg rfl ?_)
  refine mvs rfl ?_
  refine mvi rfl ?_
  refine vo ?_
  refine xcall e212 (rat_ok _ _ _ _ _ _ _ (h.ext z7) (by omega)) rfl rfl ?_
  rintro _ _ ⟨rfl, rfl⟩
  refine ⟨_, rfl, ?_⟩
  refine mvs rfl ?_
  refine mvi rfl ?_
  refine vo ?_
  refine xcall e212 (rat_ok _ _ _ _ _ _ _ (h2.ext z7) (by omega)) rfl rfl ?_
  rintro _ _ ⟨rfl, rfl⟩
  refine ⟨_, rfl, ?_⟩
  refine vv (rbin (bAdd (wi (by omega))) rfl rfl) ?_
  refine mvi rfl ?_
  refine vv (rbin (bAdd (wi (by omega))) rfl rfl) ?_
  refine asi rfl ?_
  refine vnil ?_
  refine V.seq (V.reg rfl ?_)
  refine vv (rmv (v := v) rfl) ?_
  refine mvi rfl ?_
  refine vv (rbin (bRem (by omega) (Int.tmod_eq_emod_of_nonneg (by omega))) rfl rfl) ?_
  refine vo ?_
  refine xbs (ps := [(0, .int _ _)]) (cs := [.int _ _]) sl73 zr3 sz3 rfl rfl rfl rfl rfl rfl ?_
  intro W11 x12 b13 nn14
  have s15 := x12.sz
  have z16 := z7.trans x12
  replace hO := hO.ext x12
  refine vo ?_
  refine xapp sl73 in3 hO rfl rfl b13 (by simp only [kb]; omega) (by omega) (by decide) (by omega) ?_
  intro v17 W18 hO19 hg20 ho21
  have y22 := grown_below hg20 (by omega) (fun b e => (hO.low b e).1)
  have s23 := y22.size
  have z24 := z16.below (y22.mono (by omega))
  refine vv (ras (v := v17) rfl) ?_
  refine vnil ?_
  refine V.reg rfl ?_
  refine mvi rfl ?_
  refine vv (rbin (bQuo (by omega) (wiq (by rw [Int.tdiv_eq_ediv_of_nonneg (by omega)]; omega) (Int.tdiv_eq_ediv_of_nonneg (by omega)))) rfl rfl) ?_
  refine asi rfl ?_
  refine vnil ?_
  refine V.reg rfl ?_
  refine mvi rfl ?_
  refine vv (rbin (bAdd (wi (by omega))) rfl rfl) ?_
  refine asi rfl ?_
  refine vnil ?_
  refine ⟨rfl, (k + 1, _, _), ⟨rfl, rfl, rfl, trivial⟩, ⟨rfl, rfl, rfl, trivial⟩, ⟨z24, by omega, by omega, by omega, _, hO19, by rw [List.length_append, hol]; rfl, Dg.append.2 ⟨hod, by intro x hx; simp only [List.mem_cons, List.not_mem_nil, or_false] at hx; unfold b16; omega⟩, add_step hol hov rfl (by unfold b16; omega)⟩, ?_⟩
  show (max n m - (k + 1)) * 2 + Int.toNat _ < (max n m - k) * 2 + cy.toNat
  omega
 ·intro c8
  refine mvb rfl ?_
  refine vg rfl ?_
  refine mvi rfl ?_
  refine vg rfl ?_
  refine mvs rfl ?_
  refine vg rfl ?_
  refine vv (rlen sl73 rfl) ?_
  refine vg rfl ?_
  refine vlt rfl rfl ?_ ?_
  ·intro c25
   have hwb := wd_dg (B := b16) (by decide) hd (k : Int); have hwb2 := wd_dg (B := b16) (by decide) hd2 (k : Int)
   unfold b16 at hwb hwb2
   refine vv (rpk (v := .bool true) rfl rfl) ?_
   refine mvb rfl ?_
   refine vgn (b := true) rfl rfl ?_
   refine vgn (b := true) rfl rfl ?_
   refine vv (rpk (v := .bool true) rfl rfl) ?_
   refine vnil ?_
   refine V.condT rfl ?_
   refine V.skip ?_
   refine V.seq ?_
   refine V.block ?_
   refine V.seq (V.reg rfl ?_)
   refine mvs rfl ?_
   refine mvi rfl ?_
   refine vo ?_
   refine xcall e212 (rat_ok _ _ _ _ _ _ _ (h.ext z7) (by omega)) rfl rfl ?_
   rintro _ _ ⟨rfl, rfl⟩
   refine ⟨_, rfl, ?_⟩
   refine mvs rfl ?_
   refine mvi rfl ?_
   refine vo ?_
   refine xcall e212 (rat_ok _ _ _ _ _ _ _ (h2.ext z7) (by omega)) rfl rfl ?_
   rintro _ _ ⟨rfl, rfl⟩
   refine ⟨_, rfl, ?_⟩
   refine vv (rbin (bAdd (wi (by omega))) rfl rfl) ?_
   refine mvi rfl ?_
   refine vv (rbin (bAdd (wi (by omega))) rfl rfl) ?_
   refine asi rfl ?_
   refine vnil ?_
   refine V.seq (V.reg rfl ?_)
   refine vv (rmv (v := v) rfl) ?_
   refine mvi rfl ?_
   refine vv (rbin (bRem (by omega) (Int.tmod_eq_emod_of_nonneg (by omega))) rfl rfl) ?_
   refine vo ?_
   refine xbs (ps := [(0, .int _ _)]) (cs := [.int _ _]) sl73 zr3 sz3 rfl rfl rfl rfl rfl rfl ?_
   intro W28 x29 b30 nn31
   have s32 := x29.sz
   have z33 := z7.trans x29
   replace hO := hO.ext x29
   refine vo ?_
   refine xapp sl73 in3 hO rfl rfl b30 (by simp only [kb]; omega) (by omega) (by decide) (by omega) ?_
   intro v34 W35 hO36 hg37 ho38
   have y39 := grown_below hg37 (by omega) (fun b e => (hO.low b e).1)
   have s40 := y39.size
   have z41 := z33.below (y39.mono (by omega))
   refine vv (ras (v := v34) rfl) ?_
   refine vnil ?_
   refine V.reg rfl ?_
   refine mvi rfl ?_
   refine vv (rbin (bQuo (by omega) (wiq (by rw [Int.tdiv_eq_ediv_of_nonneg (by omega)]; omega) (Int.tdiv_eq_ediv_of_nonneg (by omega)))) rfl rfl) ?_
   refine asi rfl ?_
   refine vnil ?_
   refine V.reg rfl ?_
   refine mvi rfl ?_
   refine vv (rbin (bAdd (wi (by omega))) rfl rfl) ?_
   refine asi rfl ?_
   refine vnil ?_
   refine ⟨rfl, (k + 1, _, _), ⟨rfl, rfl, rfl, trivial⟩, ⟨rfl, rfl, rfl, trivial⟩, ⟨z41, by omega, by omega, by omega, _, hO36, by rw [List.length_append, hol]; rfl, Dg.append.2 ⟨hod, by intro x hx; simp only [List.mem_cons, List.not_mem_nil, or_false] at hx; unfold b16; omega⟩, add_step hol hov rfl (by unfold b16; omega)⟩, ?_⟩
   show (max n m - (k + 1)) * 2 + Int.toNat _ < (max n m - k) * 2 + cy.toNat
   omega
  ·intro c25
   refine vv (rpk (v := .bool false) rfl rfl) ?_
   refine mvb rfl ?_
   refine vg rfl ?_
   refine mvi rfl ?_
   refine vg rfl ?_
   refine vgt rfl rfl ?_ ?_
   ·intro c42
    have hwb : wd xs (k : Int) = 0 := wd_ge (by omega)
    have hwb2 : wd ys (k : Int) = 0 := wd_ge (by omega)
    refine vv (rpk (v := .bool true) rfl rfl) ?_
    refine vnil ?_
    refine V.condT rfl ?_
    refine V.skip ?_
    refine V.seq ?_
    refine V.block ?_
    refine V.seq (V.reg rfl ?_)
    refine mvs rfl ?_
    refine mvi rfl ?_
    refine vo ?_
    refine xcall e212 (rat_ok _ _ _ _ _ _ _ (h.ext z7) (by omega)) rfl rfl ?_
    rintro _ _ ⟨rfl, rfl⟩
    refine ⟨_, rfl, ?_⟩
    refine mvs rfl ?_
    refine mvi rfl ?_
    refine vo ?_
    refine xcall e212 (rat_ok _ _ _ _ _ _ _ (h2.ext z7) (by omega)) rfl rfl ?_
    rintro _ _ ⟨rfl, rfl⟩
    refine ⟨_, rfl, ?_⟩
    refine vv (rbin (bAdd (wi (by omega))) rfl rfl) ?_
    refine mvi rfl ?_
    refine vv (rbin (bAdd (wi (by omega))) rfl rfl) ?_
    refine asi rfl ?_
    refine vnil ?_
    refine V.seq (V.reg rfl ?_)
    refine vv (rmv (v := v) rfl) ?_
    refine mvi rfl ?_
    refine vv (rbin (bRem (by omega) (Int.tmod_eq_emod_of_nonneg (by omega))) rfl rfl) ?_
    refine vo ?_
    refine xbs (ps := [(0, .int _ _)]) (cs := [.int _ _]) sl73 zr3 sz3 rfl rfl rfl rfl rfl rfl ?_
    intro W45 x46 b47 nn48
    have s49 := x46.sz
    have z50 := z7.trans x46
    replace hO := hO.ext x46
    refine vo ?_
    refine xapp sl73 in3 hO rfl rfl b47 (by simp only [kb]; omega) (by omega) (by decide) (by omega) ?_
    intro v51 W52 hO53 hg54 ho55
    have y56 := grown_below hg54 (by omega) (fun b e => (hO.low b e).1)
    have s57 := y56.size
    have z58 := z50.below (y56.mono (by omega))
    refine vv (ras (v := v51) rfl) ?_
    refine vnil ?_
    refine V.reg rfl ?_
    refine mvi rfl ?_
    refine vv (rbin (bQuo (by omega) (wiq (by rw [Int.tdiv_eq_ediv_of_nonneg (by omega)]; omega) (Int.tdiv_eq_ediv_of_nonneg (by omega)))) rfl rfl) ?_
    refine asi rfl ?_
    refine vnil ?_
    refine V.reg rfl ?_
    refine mvi rfl ?_
    refine vv (rbin (bAdd (wi (by omega))) rfl rfl) ?_
    refine asi rfl ?_
    refine vnil ?_
    refine ⟨rfl, (k + 1, _, _), ⟨rfl, rfl, rfl, trivial⟩, ⟨rfl, rfl, rfl, trivial⟩, ⟨z58, by omega, by omega, by omega, _, hO53, by rw [List.length_append, hol]; rfl, Dg.append.2 ⟨hod, by intro x hx; simp only [List.mem_cons, List.not_mem_nil, or_false] at hx; unfold b16; omega⟩, add_step hol hov rfl (by unfold b16; omega)⟩, ?_⟩
    show (max n m - (k + 1)) * 2 + Int.toNat _ < (max n m - k) * 2 + cy.toNat
    omega
   ·intro c42
    refine vv (rpk (v := .bool false) rfl rfl) ?_
    refine vnil ?_
    refine V.condF rfl ?_
    refine V.exit ?_
    refine V.seq (V.reg rfl ?_)
    refine vv (rmv (v := v) rfl) ?_
    refine vo ?_
    obtain ⟨a', c', rfl⟩ := hO.form
    have hrn := hO.rn (S := S) (fun b hb _ => hu b (by omega))
    refine xcall e211 (rtrim_ok _ _ _ _ _ _ hrn) rfl rfl ?_
    rintro _ _ ⟨m1, rfl, hr1, hm1, rfl⟩
    refine ⟨_, rfl, ?_⟩
    refine ass rfl ?_
    refine vnil ?_
    refine V.ret ?_
    refine ⟨[.slice _ _ _], ⟨rfl, trivial⟩, ?_⟩
    have e0 : cy = 0 := (by omega)
    subst e0
    rw [Int.mul_zero, Int.add_zero, List.take_of_length_le (by omega), List.take_of_length_le (by omega)] at hov
    exact ⟨_, _, _, rfl, z7, hr1.cast (by rw [← dg_vl (by decide) hod, hov]), by omega⟩
set_option maxHeartbeats 400000 in
theorem rsub_ok (a : Option Addr) (n c : Nat) (xs : List Int) (b : Option Addr) (m d : Nat) (u : Int) (S S1 S2 : Nat → Prop) (w : World) (h : RN .i64 S1 w a n c xs) (hd : Dg b16 xs) (h2 : RN .i64 S2 w b m d (dg b16 u)) (hu0 : 0 ≤ u) (hle : u ≤ vl b16 xs) (hn : n ≤ LX / 2) (hu : Up S w) :
    Calls Tryz.prog 203 #[.slice a n c, .slice b m d] w (fun e w' => ∃ a n' c, e = .returned (.slice a n' c) ∧ Ext w w' ∧ RN .i64 S w' a n' c (dg b16 (vl b16 xs - u)) ∧ n' ≤ n) := by
 have z0 := Ext.refl w; have hLX : LX = 17592186044416 := rfl; have hLY : LY = 8796093022208 := rfl
 have hl := h.len; have hl2 := h2.len
 refine enter (args := [.slice a n c, .slice b m d]) Tryz.func203 rfl rfl (Nat.le_of_ble_eq_true rfl) ?_
 refine V.seq (V.reg rfl ?_)
 refine ass rfl ?_
 refine vnil ?_
 refine V.seq (V.reg rfl ?_)
 refine ass rfl ?_
 refine vnil ?_
 refine V.seq (V.reg rfl ?_)
 refine asi rfl ?_
 refine vnil ?_
 refine V.seq ?_
 refine V.seq (V.reg rfl ?_)
 refine asi rfl ?_
 refine vnil ?_
 refine V.block ?_
 refine V.loopK (ι := Nat × Int × Value) [(0, .slice _ _ _), (1, .slice _ _ _), (4, .slice _ _ _)] (fun ⟨k, cy, v⟩ => [(7, .int .i64 (k : Int)), (6, .int .i64 cy), (5, v)]) (fun ⟨k, cy, v⟩ W => Ext w W ∧ 0 ≤ cy ∧ cy ≤ 1 ∧ k ≤ n ∧ ∃ os, OI .i64 w.heap.size W 3 v os ∧ os.length = k ∧ Dg b16 os ∧ vl b16 os = vl b16 (xs.take k) - vl b16 ((dg b16 u).take k) + b16 ^ k * cy) (fun ⟨k, cy, v⟩ => n - k) ((0, 0, _)) ⟨rfl, rfl, rfl, trivial⟩ ⟨rfl, rfl, rfl, trivial⟩ ⟨Ext.refl _, by omega, by omega, by omega, [], OI.nil .i64 _ _ _, rfl, Dg.nil _, by simp [vl]⟩ ?_
 intro i2 E3 W1 h4
 obtain ⟨k, cy, v⟩ := i2
 simp only at h4
 show V _ _ _ _ _ _ (ups (ups _ _) [(7, .int .i64 (k : Int)), (6, .int .i64 cy), (5, v)]) _
 obtain ⟨x5, hc0, hc1, hk, os, hO, hol, hod, hov⟩ := h4
 have s6 := x5.sz
 have z7 := x5
 refine V.seq ?_
 refine V.seq (V.reg rfl ?_)
 refine mvi rfl ?_
 refine mvs rfl ?_
 refine vv (rlen sl73 rfl) ?_
 refine vlt rfl rfl ?_ ?_
 ·intro c8
  have hwb : 0 ≤ wd xs (k : Int) ∧ wd xs (k : Int) < 65536 := wd_dg (B := b16) (by decide) hd (k : Int)
  have hwb2 : 0 ≤ wd (dg b16 u) (k : Int) ∧ wd (dg b16 u) (k : Int) < 65536 := wd_dg (B := b16) (by decide) (Dg.dg (B := b16) (by decide) u) (k : Int)
  refine vnil ?_
  refine V.condT rfl ?_
  refine V.skip ?_
  refine V.seq ?_
  refine V.block ?_
  refine V.seq (V.reg rfl ?_)
  refine mvs rfl ?_
  refine mvi rfl ?_
  refine vo ?_
  refine xcall e212 (rat_ok _ _ _ _ _ _ _ (h.ext z7) (by omega)) rfl rfl ?_
  rintro _ _ ⟨rfl, rfl⟩
  refine ⟨_, rfl, ?_⟩
  refine mvs rfl ?_
  refine mvi rfl ?_
  refine vo ?_
  refine xcall e212 (rat_ok _ _ _ _ _ _ _ (h2.ext z7) (by omega)) rfl rfl ?_
  rintro _ _ ⟨rfl, rfl⟩
  refine ⟨_, rfl, ?_⟩
  refine vv (rbin (bSub (wi (by omega))) rfl rfl) ?_
  refine mvi rfl ?_
  refine vv (rbin (bSub (wi (by omega))) rfl rfl) ?_
  refine asi rfl ?_
  refine vnil ?_
  refine V.seq (V.reg rfl ?_)
  refine asi rfl ?_
  refine vnil ?_
  refine V.seq ?_
  refine V.seq (V.reg rfl ?_)
  refine mvi rfl ?_
  refine vlt rfl rfl ?_ ?_
  ·intro c11
   refine vnil ?_
   refine V.condT rfl ?_
   refine V.seq (V.reg rfl ?_)
   refine mvi rfl ?_
   refine vv (rbin (bAdd (wi (by omega))) rfl rfl) ?_
   refine asi rfl ?_
   refine vnil ?_
   refine V.reg rfl ?_
   refine asi rfl ?_
   refine vnil ?_
   refine V.reg rfl ?_
   refine vv (rmv (v := v) rfl) ?_
   refine mvi rfl ?_
   refine vo ?_
   refine xbs (ps := [(0, .int _ _)]) (cs := [.int _ _]) sl73 zr3 sz3 rfl rfl rfl rfl rfl rfl ?_
   intro W12 x13 b14 nn15
   have s16 := x13.sz
   have z17 := z7.trans x13
   replace hO := hO.ext x13
   refine vo ?_
   refine xapp sl73 in3 hO rfl rfl b14 (by simp only [kb]; omega) (by omega) (by decide) (by omega) ?_
   intro v18 W19 hO20 hg21 ho22
   have y23 := grown_below hg21 (by omega) (fun b e => (hO.low b e).1)
   have s24 := y23.size
   have z25 := z17.below (y23.mono (by omega))
   refine vv (ras (v := v18) rfl) ?_
   refine vnil ?_
   refine V.reg rfl ?_
   refine mvi rfl ?_
   refine vv (rbin (bAdd (wi (by omega))) rfl rfl) ?_
   refine asi rfl ?_
   refine vnil ?_
   refine ⟨rfl, (k + 1, _, _), ⟨rfl, rfl, rfl, trivial⟩, ⟨rfl, rfl, rfl, trivial⟩, ⟨z25, by omega, by omega, by omega, _, hO20, by rw [List.length_append, hol]; rfl, Dg.append.2 ⟨hod, by intro x hx; simp only [List.mem_cons, List.not_mem_nil, or_false] at hx; subst hx; unfold b16 at *; omega⟩, sub_step16 hol hov rfl (by unfold b16 at *; omega)⟩, ?_⟩
   show n - (k + 1) < n - k
   omega
  ·intro c11
   refine vnil ?_
   refine V.condF rfl ?_
   refine V.skip ?_
   refine V.reg rfl ?_
   refine vv (rmv (v := v) rfl) ?_
   refine mvi rfl ?_
   refine vo ?_
   refine xbs (ps := [(0, .int _ _)]) (cs := [.int _ _]) sl73 zr3 sz3 rfl rfl rfl rfl rfl rfl ?_
   intro W26 x27 b28 nn29
   have s30 := x27.sz
   have z31 := z7.trans x27
   replace hO := hO.ext x27
   refine vo ?_
   refine xapp sl73 in3 hO rfl rfl b28 (by simp only [kb]; omega) (by omega) (by decide) (by omega) ?_
   intro v32 W33 hO34 hg35 ho36
   have y37 := grown_below hg35 (by omega) (fun b e => (hO.low b e).1)
   have s38 := y37.size
   have z39 := z31.below (y37.mono (by omega))
   refine vv (ras (v := v32) rfl) ?_
   refine vnil ?_
   refine V.reg rfl ?_
   refine mvi rfl ?_
   refine vv (rbin (bAdd (wi (by omega))) rfl rfl) ?_
   refine asi rfl ?_
   refine vnil ?_
   refine ⟨rfl, (k + 1, _, _), ⟨rfl, rfl, rfl, trivial⟩, ⟨rfl, rfl, rfl, trivial⟩, ⟨z39, by omega, by omega, by omega, _, hO34, by rw [List.length_append, hol]; rfl, Dg.append.2 ⟨hod, by intro x hx; simp only [List.mem_cons, List.not_mem_nil, or_false] at hx; subst hx; unfold b16 at *; omega⟩, sub_step16 hol hov rfl (by unfold b16 at *; omega)⟩, ?_⟩
   show n - (k + 1) < n - k
   omega
 ·intro c8
  refine vnil ?_
  refine V.condF rfl ?_
  refine V.exit ?_
  refine V.seq (V.reg rfl ?_)
  refine vv (rmv (v := v) rfl) ?_
  refine vo ?_
  obtain ⟨a', c', rfl⟩ := hO.form
  have hrn := hO.rn (S := S) (fun b hb _ => hu b (by omega))
  refine xcall e211 (rtrim_ok _ _ _ _ _ _ hrn) rfl rfl ?_
  rintro _ _ ⟨m1, rfl, hr1, hm1, rfl⟩
  refine ⟨_, rfl, ?_⟩
  refine ass rfl ?_
  refine vnil ?_
  refine V.ret ?_
  refine ⟨[.slice _ _ _], ⟨rfl, trivial⟩, ?_⟩
  have e0 : k = n := (by omega)
  subst e0
  exact ⟨_, _, _, rfl, z7, hr1.cast (by rw [← dg_vl (by decide) hod, sub_end16 hl hd hod hol hc0 hle hu0 hov]), by omega⟩
set_option maxHeartbeats 400000 in
theorem rcmp_ok (a : Option Addr) (n c : Nat) (xs : List Int) (b : Option Addr) (m d : Nat) (ys : List Int) (S1 S2 : Nat → Prop) (w : World) (h : RN .i64 S1 w a n c xs) (hd : Dg b16 xs) (h2 : RN .i64 S2 w b m d ys) (hd2 : Dg b16 ys) :
    Calls Tryz.prog 202 #[.slice a n c, .slice b m d] w (fun e w' => e = .returned (.int .i64 (cmpI (vl b16 xs) (vl b16 ys))) ∧ w = w') := by
 have z0 := Ext.refl w; have hLX : LX = 17592186044416 := rfl; have hLY : LY = 8796093022208 := rfl
 have hl := h.len; have hl2 := h2.len; have q1 := h.cap; have q2 := h.max; have q3 := h2.cap; have q4 := h2.max
 refine enter (args := [.slice a n c, .slice b m d]) Tryz.func202 rfl rfl (Nat.le_of_ble_eq_true rfl) ?_
 refine V.seq (V.reg rfl ?_)
 refine asi rfl ?_
 refine vnil ?_
 refine V.seq ?_
 refine V.seq (V.reg rfl ?_)
 refine mvs rfl ?_
 refine vv (rlen sl73 rfl) ?_
 refine mvs rfl ?_
 refine vv (rlen sl73 rfl) ?_
 refine vv (rmax rfl rfl (show max (n : Int) (m : Int) = ((max n m : Nat) : Int) by omega)) ?_
 refine vv (rbin (bSub (wi (by omega))) rfl rfl) ?_
 refine asi rfl ?_
 refine vnil ?_
 refine V.block ?_
 refine V.loopK (ι := Nat) [(0, .slice _ _ _), (1, .slice _ _ _)] (fun k => [(5, .int .i64 ((k : Int) - 1))]) (fun k W => w = W ∧ k ≤ max n m ∧ ∀ j : Nat, k ≤ j → wd xs j = wd ys j) (fun k => k) (max n m) ⟨rfl, rfl, trivial⟩ ⟨rfl, trivial⟩ ⟨rfl, Nat.le_refl _, fun j hj => by rw [wd_ge (by simp; omega), wd_ge (by simp; omega)]⟩ ?_
 intro k E2 W1 h3
 obtain ⟨rfl, hk, hq⟩ := h3
 refine V.seq ?_
 refine V.seq (V.reg rfl ?_)
 refine mvi rfl ?_
 refine vge rfl rfl ?_ ?_
 ·intro c4
  refine vnil ?_
  refine V.condT rfl ?_
  refine V.skip ?_
  refine V.seq ?_
  refine V.block ?_
  refine V.seq ?_
  refine V.seq (V.reg rfl ?_)
  refine mvs rfl ?_
  refine mvi rfl ?_
  refine vo ?_
  refine xcall e212 (rat_ok _ _ _ _ _ _ _ h (by omega)) rfl rfl ?_
  rintro _ _ ⟨rfl, rfl⟩
  refine ⟨_, rfl, ?_⟩
  refine mvs rfl ?_
  refine mvi rfl ?_
  refine vo ?_
  refine xcall e212 (rat_ok _ _ _ _ _ _ _ h2 (by omega)) rfl rfl ?_
  rintro _ _ ⟨rfl, rfl⟩
  refine ⟨_, rfl, ?_⟩
  refine vlt rfl rfl ?_ ?_
  ·intro c7
   refine vnil ?_
   refine V.condT rfl ?_
   refine V.seq (V.reg rfl ?_)
   refine asi rfl ?_
   refine vnil ?_
   refine V.ret ?_
   refine ⟨[.int _ _], ⟨rfl, trivial⟩, ?_⟩
   exact ⟨by rw [cmpI_lt (dig_lt (k := k - 1) hd hd2 (by rw [show ((k - 1 : Nat) : Int) = (k : Int) - 1 by omega]; omega) (fun j hj => hq j (by omega)))]; rfl, rfl⟩
  ·intro c7
   refine vnil ?_
   refine V.condF rfl ?_
   refine V.skip ?_
   refine V.seq (V.reg rfl ?_)
   refine mvs rfl ?_
   refine mvi rfl ?_
   refine vo ?_
   refine xcall e212 (rat_ok _ _ _ _ _ _ _ h (by omega)) rfl rfl ?_
   rintro _ _ ⟨rfl, rfl⟩
   refine ⟨_, rfl, ?_⟩
   refine mvs rfl ?_
   refine mvi rfl ?_
   refine vo ?_
   refine xcall e212 (rat_ok _ _ _ _ _ _ _ h2 (by omega)) rfl rfl ?_
   rintro _ _ ⟨rfl, rfl⟩
   refine ⟨_, rfl, ?_⟩
   refine vgt rfl rfl ?_ ?_
   ·intro c10
    refine vnil ?_
    refine V.condT rfl ?_
    refine V.seq (V.reg rfl ?_)
    refine asi rfl ?_
    refine vnil ?_
    refine V.ret ?_
    refine ⟨[.int _ _], ⟨rfl, trivial⟩, ?_⟩
    exact ⟨by rw [cmpI_gt (dig_lt (k := k - 1) hd2 hd (by rw [show ((k - 1 : Nat) : Int) = (k : Int) - 1 by omega]; omega) (fun j hj => (hq j (by omega)).symm))]; rfl, rfl⟩
   ·intro c10
    refine vnil ?_
    refine V.condF rfl ?_
    refine V.skip ?_
    refine V.reg rfl ?_
    refine mvi rfl ?_
    refine vv (rbin (bSub (show IntKind.i64.wrap ((k : Int) - 1 - 1) = ((k - 1 : Nat) : Int) - 1 by rw [wi (by omega)]; omega)) rfl rfl) ?_
    refine asi rfl ?_
    refine vnil ?_
    refine ⟨rfl, k - 1, ⟨rfl, rfl, trivial⟩, ⟨rfl, trivial⟩, ⟨rfl, by omega, fun j hj => by rcases Nat.lt_or_ge j k with h | h; rw [show (j : Int) = (k : Int) - 1 by omega]; omega; exact hq j h⟩, ?_⟩
    show k - 1 < k
    omega
 ·intro c4
  refine vnil ?_
  refine V.condF rfl ?_
  refine V.exit ?_
  refine V.seq (V.reg rfl ?_)
  refine asi rfl ?_
  refine vnil ?_
  refine V.ret ?_
  refine ⟨[.int _ _], ⟨rfl, trivial⟩, ?_⟩
  have e0 : k = 0 := (by omega)
  subst e0
  exact ⟨by rw [cmpI_eq (dig_eq fun j => hq j (Nat.zero_le _))]; rfl, rfl⟩
end Go.Proofs.YtknbjfefeeojlaaGreat
/- Package pylonref01: mul, div. -/
namespace Go.Proofs.YtknbjfefeeojlaaGreat
open Go.RowKit
attribute [local irreducible] RV VH V OpF Calls

set_option maxHeartbeats 400000 in
theorem rmul_ok (a : Option Addr) (n c : Nat) (xs : List Int) (b : Option Addr) (m d : Nat) (ys : List Int) (S S1 S2 : Nat → Prop) (w : World) (h : RN .i64 S1 w a n c xs) (hd : Dg b16 xs) (h2 : RN .i64 S2 w b m d ys) (hd2 : Dg b16 ys) (hn : n ≤ LX / 8) (hm : m ≤ LX / 8) (hu : Up S w) :
    Calls Tryz.prog 200 #[.slice a n c, .slice b m d] w (fun e w' => ∃ a n' c, e = .returned (.slice a n' c) ∧ Ext w w' ∧ RN .i64 S w' a n' c (dg b16 (vl b16 xs * vl b16 ys))) := by
 have z0 := Ext.refl w; have hLX : LX = 17592186044416 := rfl; have hLY : LY = 8796093022208 := rfl
 have hl := h.len; have hl2 := h2.len
 refine enter (args := [.slice a n c, .slice b m d]) Tryz.func200 rfl rfl (Nat.le_of_ble_eq_true rfl) ?_
 refine V.seq (V.reg rfl ?_)
 refine ass rfl ?_
 refine vnil ?_
 refine V.seq ?_
 refine V.seq (V.reg rfl ?_)
 refine mvs rfl ?_
 refine vv (rlen sl73 rfl) ?_
 refine mvs rfl ?_
 refine vv (rlen sl73 rfl) ?_
 refine vv (rbin (bAdd (wi (by omega))) rfl rfl) ?_
 refine vle rfl rfl ?_ ?_
 ·intro c1
  refine vnil ?_
  refine V.condT rfl ?_
  refine V.seq (V.reg rfl ?_)
  refine mvs rfl ?_
  refine vo ?_
  refine xcall e214 (rsmall_ok _ _ _ _ _ _ h ((by first | exact hd | exact hd2)) (by omega)) rfl rfl ?_
  rintro _ _ ⟨rfl, rfl⟩
  refine ⟨_, rfl, ?_⟩
  refine mvs rfl ?_
  refine vo ?_
  refine xcall e214 (rsmall_ok _ _ _ _ _ _ h2 ((by first | exact hd | exact hd2)) (by omega)) rfl rfl ?_
  rintro _ _ ⟨rfl, rfl⟩
  refine ⟨_, rfl, ?_⟩
  have hsp := small_prod hd hd2 (by omega)
  refine vv (rbin (bMul (wi (by omega))) rfl rfl) ?_
  refine vo ?_
  refine xcall e213 (rback_ok _ _ _ (by omega) (by omega) (hu.mono (by omega))) rfl rfl ?_
  rintro _ W5 ⟨_, _, _, rfl, x6, hh4⟩
  have s7 := x6.sz
  have z8 := x6
  have hh4l := hh4.len
  refine ⟨_, rfl, ?_⟩
  refine ass rfl ?_
  refine vnil ?_
  refine V.ret ?_
  refine ⟨[.slice _ _ _], ⟨rfl, trivial⟩, ?_⟩
  exact ⟨_, _, _, rfl, z8, hh4⟩
 ·intro c1
  refine vnil ?_
  refine V.condF rfl ?_
  refine V.skip ?_
  refine V.seq (V.reg rfl ?_)
  refine ass rfl ?_
  refine vnil ?_
  refine V.seq ?_
  refine V.seq (V.reg rfl ?_)
  refine mvs rfl ?_
  refine vv (rlen sl73 rfl) ?_
  refine vv (rbin (bSub (wi (by omega))) rfl rfl) ?_
  refine asi rfl ?_
  refine vnil ?_
  refine V.block ?_
  refine V.loopK (ι := Nat × Option Addr × Nat × Nat × List Int) [(0, .slice _ _ _), (1, .slice _ _ _), (4, .slice _ _ _)] (fun ⟨k, oa, on, oc, ws⟩ => [(6, .int .i64 ((k : Int) - 1)), (5, .slice oa on oc)]) (fun ⟨k, oa, on, oc, ws⟩ W => Ext w W ∧ k ≤ n ∧ on + k ≤ n + m ∧ RN .i64 S W oa on oc ws ∧ Dg b16 ws ∧ vl b16 ws = vl b16 (xs.drop k) * vl b16 ys) (fun ⟨k, oa, on, oc, ws⟩ => k) ((n, _, _, _, [])) ⟨rfl, rfl, rfl, trivial⟩ ⟨rfl, rfl, trivial⟩ ⟨Ext.refl _, Nat.le_refl _, by omega, RN.nil _ _ _ _ _ (by omega), Dg.nil _, by rw [List.drop_eq_nil_of_le (by omega)]; simp [vl]⟩ ?_
  intro i10 E11 W9 h12
  obtain ⟨k, oa, on, oc, ws⟩ := i10
  simp only at h12
  show V _ _ _ _ _ _ (ups (ups _ _) [(6, .int .i64 ((k : Int) - 1)), (5, .slice oa on oc)]) _
  obtain ⟨x13, hk, hon, hM, hdw, hMv⟩ := h12
  have s14 := x13.sz
  have z15 := x13
  refine V.seq ?_
  refine V.seq (V.reg rfl ?_)
  refine mvi rfl ?_
  refine vge rfl rfl ?_ ?_
  ·intro c16
   have hwb : 0 ≤ wd xs ((k : Int) - 1) ∧ wd xs ((k : Int) - 1) < 65536 := wd_dg (B := b16) (by decide) hd ((k : Int) - 1)
   have hml := hM.len
   refine vnil ?_
   refine V.condT rfl ?_
   refine V.skip ?_
   refine V.seq ?_
   refine V.block ?_
   refine V.seq (V.reg rfl ?_)
   refine vo ?_
   refine xbs (ps := [(0, .int _ _)]) (cs := [.int _ _]) sl73 zr3 sz3 rfl rfl rfl rfl rfl rfl ?_
   intro W17 x18 b19 nn20
   have s21 := x18.sz
   have z22 := z15.trans x18
   refine mvs rfl ?_
   refine vo ?_
   refine xappN sl73 in3 (OI.lit (B := W9.heap.size) (k := .i64) (xs := [_]) b19 (by intro q hq; simp only [List.mem_cons, List.not_mem_nil, or_false] at hq; simp only [kb]; omega) (by omega)) rfl rfl (hM.ext x18) (by simp only [List.length_cons, List.length_nil]; omega) (by decide) (by omega) ?_
   intro v23 W24 hO25 hg26 ho27
   have y28 := grown_below hg26 (by omega) (fun b e => ((OI.lit (B := W9.heap.size) (k := .i64) (xs := [_]) b19 (by intro q hq; simp only [List.mem_cons, List.not_mem_nil, or_false] at hq; simp only [kb]; omega) (by omega)).low b e).1)
   have s29 := y28.size
   have z30 := z22.below (y28.mono (by omega))
   refine vv (ras (v := v23) rfl) ?_
   refine vnil ?_
   refine V.seq (V.reg rfl ?_)
   obtain ⟨a', c', rfl⟩ := hO25.form
   have hO1 := hO25.rn (S := S) (fun b hb _ => hu b (by omega))
   refine asi rfl ?_
   refine vnil ?_
   refine V.block ?_
   refine V.loopK (ι := Int × Option Addr × Nat × Nat × List Int) [(0, .slice _ _ _), (1, .slice _ _ _), (4, .slice _ _ _), (6, .int _ _), (23, .int _ _), (24, .bool true), (27, .slice _ _ _), (28, .slice _ _ _), (29, .slice _ _ _)] (fun ⟨j, pa, pn, pc, vs⟩ => [(7, .int .i64 j), (5, .slice pa pn pc)]) (fun ⟨j, pa, pn, pc, vs⟩ W => Ext W24 W ∧ 0 ≤ j ∧ pn + k ≤ n + m + 1 ∧ RN .i64 S W pa pn pc vs ∧ Dg b16 vs ∧ vl b16 vs = 65536 * (vl b16 (xs.drop k) * vl b16 ys) + min j (wd xs ((k : Int) - 1)) * vl b16 ys) (fun ⟨j, pa, pn, pc, vs⟩ => (wd xs ((k : Int) - 1) - j).toNat) ((0, _, _, _, _)) ⟨rfl, rfl, rfl, rfl, rfl, rfl, rfl, rfl, rfl, trivial⟩ ⟨rfl, rfl, trivial⟩ ⟨Ext.refl _, by omega, by simp only [List.length_append, List.length_cons, List.length_nil]; omega, hO1, Dg.append.2 ⟨by intro x hx; simp at hx; subst hx; decide, hdw⟩, by rw [show min (0 : Int) (wd xs ((k : Int) - 1)) = 0 by omega]; simp only [List.cons_append, List.nil_append, vl]; rw [hMv]; unfold b16; omega⟩ ?_
   intro i33 E34 W32 h35
   obtain ⟨j, pa, pn, pc, vs⟩ := i33
   simp only at h35
   show V _ _ _ _ _ _ (ups (ups _ _) [(7, .int .i64 j), (5, .slice pa pn pc)]) _
   obtain ⟨x36, hj0, hpn, hV, hdv, hval⟩ := h35
   have s37 := x36.sz
   have z38 := z30.trans x36
   have z39 := x36
   have hvl2 := hV.len
   refine V.seq ?_
   refine V.seq (V.reg rfl ?_)
   refine mvi rfl ?_
   refine mvs rfl ?_
   refine mvi rfl ?_
   refine vv (rixn (h.ext z38) sl73 sz3 rfl rfl (by omega) (by omega)) ?_
   refine vldN (h.ext z38) rfl sc3 (by omega) (by omega) ?_
   intro q40 hq40 hk41
   simp only [kb] at hk41
   refine vlt rfl rfl ?_ ?_
   ·intro c42
    refine vnil ?_
    refine V.condT rfl ?_
    refine V.skip ?_
    refine V.seq ?_
    refine V.block ?_
    refine V.reg rfl ?_
    refine mvs rfl ?_
    refine mvs rfl ?_
    refine mvs rfl ?_
    refine mvi rfl ?_
    refine vv (rixn (h.ext z38) sl73 sz3 rfl rfl (by omega) (by omega)) ?_
    refine vldN (h.ext z38) rfl sc3 (by omega) (by omega) ?_
    intro q43 hq43 hk44
    simp only [kb] at hk44
    refine mvi rfl ?_
    refine vv (rbin (bSub (wi (by omega))) rfl rfl) ?_
    refine vv (rmin rfl rfl rfl) ?_
    refine vo ?_
    refine xcall e215 (rtimes_ok _ _ _ _ _ S _ _ (h2.ext z38) hd2 (by omega) ⟨by omega, by omega⟩ (hu.mono (by omega))) rfl rfl ?_
    rintro _ W46 ⟨_, _, _, rfl, x47, hh45, hh45b⟩
    have s48 := x47.sz
    have z50 := z39.trans x47
    have hh45l := hh45.len
    refine ⟨_, rfl, ?_⟩
    refine vo ?_
    have hvn := mul_in16 hval (a := wd xs ((k : Int) - 1)) (by omega) (show min (1024 : Int) (q43 - j) = min 1024 (wd xs ((k : Int) - 1) - j) by rw [hq43])
    have hvp : 0 ≤ vl b16 vs + vl b16 ys * min (1024 : Int) (q43 - j) := by rw [hvn]; exact (mul_len16 hd hd2 (k := k) (by omega) (by omega) (by omega) (by omega)).1
    have hvy : 0 ≤ vl b16 ys * min (1024 : Int) (q43 - j) := Int.mul_nonneg (vl_nonneg (by decide) hd2) (by omega)
    refine xcall e201 (radd_ok _ _ _ _ _ _ _ _ S _ _ _ (hV.ext x47) hdv hh45 (Dg.dg (by decide) _) (by omega) (by omega) (hu.mono (by omega))) rfl rfl ?_
    rintro _ W52 ⟨_, _, _, rfl, x53, hh51, hh51b⟩
    have s54 := x53.sz
    have z56 := z50.trans x53
    rw [vl_dg (by decide) hvy] at hh51
    have hh51l := hh51.len
    refine ⟨_, rfl, ?_⟩
    refine ass rfl ?_
    refine vnil ?_
    refine V.reg rfl ?_
    refine mvi rfl ?_
    refine vv (rbin (bAdd (wi (by omega))) rfl rfl) ?_
    refine asi rfl ?_
    refine vnil ?_
    refine ⟨rfl, (j + 1024, _, _, _, _), ⟨rfl, rfl, rfl, rfl, rfl, rfl, rfl, rfl, rfl, trivial⟩, ⟨rfl, rfl, trivial⟩, ⟨z56, by omega, by have := (mul_len16 hd hd2 (k := k) (t := min (j + 1024) (wd xs ((k : Int) - 1))) (by omega) (by omega) (by omega) (by omega)).2; rw [← hvn] at this; omega, hh51, Dg.dg (by decide) _, by rw [vl_dg (by decide) hvp]; exact hvn⟩, ?_⟩
    show (wd xs ((k : Int) - 1) - (j + 1024)).toNat < (wd xs ((k : Int) - 1) - j).toNat
    omega
   ·intro c42
    refine vnil ?_
    refine V.condF rfl ?_
    refine V.exit ?_
    refine V.reg rfl ?_
    refine mvi rfl ?_
    refine vv (rbin (bSub (show IntKind.i64.wrap ((k : Int) - 1 - 1) = ((k - 1 : Nat) : Int) - 1 by rw [wi (by omega)]; omega)) rfl rfl) ?_
    refine asi rfl ?_
    refine vnil ?_
    refine ⟨rfl, (k - 1, _, _, _, _), ⟨rfl, rfl, rfl, trivial⟩, ⟨rfl, rfl, trivial⟩, ⟨z38, by omega, by omega, hV, hdv, mul_out16 (by omega) (by omega) hval (by omega)⟩, ?_⟩
    show k - 1 < k
    omega
  ·intro c16
   refine vnil ?_
   refine V.condF rfl ?_
   refine V.exit ?_
   refine V.seq (V.reg rfl ?_)
   refine mvs rfl ?_
   refine vo ?_
   refine xcall e211 (rtrim_ok _ _ _ _ _ _ hM) rfl rfl ?_
   rintro _ _ ⟨m1, rfl, hr1, hm1, rfl⟩
   refine ⟨_, rfl, ?_⟩
   refine ass rfl ?_
   refine vnil ?_
   refine V.ret ?_
   refine ⟨[.slice _ _ _], ⟨rfl, trivial⟩, ?_⟩
   have e0 : k = 0 := (by omega)
   subst e0
   exact ⟨_, _, _, rfl, z15, hr1.cast (by rw [← dg_vl (by decide) hdw, hMv]; rfl)⟩
end Go.Proofs.YtknbjfefeeojlaaGreat
/- Package pylonref01: div. -/
namespace Go.Proofs.YtknbjfefeeojlaaGreat
open Go.RowKit
attribute [local irreducible] RV VH V OpF Calls
theorem rsmall_dg (a : Option Addr) (n c : Nat) (x : Int) (S : Nat → Prop) (w : World) (h : RN .i64 S w a n c (dg b16 x)) (hx : 0 ≤ x) (hn : n ≤ 3) : Calls Tryz.prog 214 #[.slice a n c] w fun e w' => e = .returned (.int .i64 x) ∧ w = w' := by
  have := rsmall_ok a n c (dg b16 x) S w h (Dg.dg (by decide) _) hn
  rwa [vl_dg (by decide) hx] at this
theorem small_val {x : Int} {n : Nat} (h : (dg b16 x).length = n) (hx : 0 ≤ x) (hn : n ≤ 3) : x < 281474976710656 := by
  have := vl_lt (B := b16) (by decide) (Dg.dg (B := b16) (by decide) x)
  rw [vl_dg (by decide) hx] at this
  have h2 := pow16_le (show (dg b16 x).length ≤ 3 by omega)
  have e : b16 ^ 3 = 281474976710656 := by decide
  omega
theorem ediv_le' {x y : Int} (hx : 0 ≤ x) (hy : 0 < y) : 0 ≤ x / y ∧ x / y ≤ x ∧ 0 ≤ x % y ∧ x % y < y ∧ x % y ≤ x := by
  have h := Int.mul_ediv_add_emod x y
  have h0 := Int.ediv_nonneg hx (show 0 ≤ y by omega)
  have h1 := Int.mul_nonneg (show 0 ≤ y by omega) h0
  exact ⟨h0, Int.ediv_le_self _ hx, Int.emod_nonneg _ (by omega), Int.emod_lt_of_pos _ hy, by omega⟩
theorem bs_lo {Y R mid : Int} (h : cmpI (Y * mid) R ≤ 0) : mid * Y ≤ R := by
  rw [Int.mul_comm]
  unfold cmpI at h
  split at h
  · omega
  · split at h <;> omega
theorem bs_hi {Y R mid : Int} (h : 0 < cmpI (Y * mid) R) : R < mid * Y := by
  rw [Int.mul_comm]
  unfold cmpI at h
  split at h
  · omega
  · split at h <;> omega
theorem bs_end {lo hi Y R : Int} (h : hi - lo ≤ 1) (hl : lo < hi) (h2 : R < hi * Y) : R - Y * lo < Y := by
  obtain rfl : hi = lo + 1 := by omega
  rw [Int.add_mul, Int.mul_comm lo Y] at h2; omega
theorem zeros_at {qs : List Int} {k : Nat} (h1 : 1 ≤ k) (h : ∀ j : Nat, j < k → wd qs j = 0) : ∀ j : Nat, j ≤ k - 1 → wd qs j = 0 := fun j hj => h j (by omega)

set_option maxHeartbeats 400000 in
theorem rdiv_ok (a : Option Addr) (n c : Nat) (x : Int) (b : Option Addr) (m d : Nat) (y : Int) (S S1 S2 : Nat → Prop) (w : World) (h : RN .i64 S1 w a n c (dg b16 x)) (hx : 0 ≤ x) (h2 : RN .i64 S2 w b m d (dg b16 y)) (hy : 0 < y) (hn : n ≤ LX / 8) (hm : m ≤ LX / 8) (hu : Up S w) :
    Calls Tryz.prog 210 #[.slice a n c, .slice b m d] w (fun e w' => ∃ a' n' c' b' m' d', e = .returned (.tuple #[.slice a' n' c', .slice b' m' d']) ∧ Ext w w' ∧ RN .i64 S w' a' n' c' (dg b16 (x / y)) ∧ RN .i64 S w' b' m' d' (dg b16 (x % y))) := by
 have z0 := Ext.refl w; have hLX : LX = 17592186044416 := rfl; have hLY : LY = 8796093022208 := rfl
 replace h := h.sub (S' := fun q => q < w.heap.size) (fun b hb _ => hb); replace h2 := h2.sub (S' := fun q => q < w.heap.size) (fun b hb _ => hb)
 have hl := h.len; have hl2 := h2.len
 refine enter (args := [.slice a n c, .slice b m d]) Tryz.func210 rfl rfl (Nat.le_of_ble_eq_true rfl) ?_
 refine V.seq (V.reg rfl ?_)
 refine ass rfl ?_
 refine ass rfl ?_
 refine vnil ?_
 refine V.seq ?_
 refine V.seq (V.reg rfl ?_)
 refine mvs rfl ?_
 refine vv (rlen sl73 rfl) ?_
 refine vle rfl rfl ?_ ?_
 ·intro c1
  refine mvb rfl ?_
  refine vg rfl ?_
  refine mvs rfl ?_
  refine vg rfl ?_
  refine vv (rlen sl73 rfl) ?_
  refine vg rfl ?_
  refine vle rfl rfl ?_ ?_
  ·intro c2
   refine vv (rpk (v := .bool true) rfl rfl) ?_
   refine vnil ?_
   refine V.condT rfl ?_
   refine V.seq (V.reg rfl ?_)
   refine mvs rfl ?_
   refine vo ?_
   refine xcall e214 (rsmall_dg _ _ _ _ _ _ h (by omega) (by omega)) rfl rfl ?_
   rintro _ _ ⟨rfl, rfl⟩
   refine ⟨_, rfl, ?_⟩
   refine mvs rfl ?_
   refine vo ?_
   refine xcall e214 (rsmall_dg _ _ _ _ _ _ h2 (by omega) (by omega)) rfl rfl ?_
   rintro _ _ ⟨rfl, rfl⟩
   refine ⟨_, rfl, ?_⟩
   have hbx := small_val hl hx (by omega); have hdd := ediv_le' hx hy
   refine vv (rbin (bQuo (by omega) (wiq (by rw [Int.tdiv_eq_ediv_of_nonneg (by omega)]; omega) (Int.tdiv_eq_ediv_of_nonneg (by omega)))) rfl rfl) ?_
   refine vo ?_
   refine xcall e213 (rback_ok _ _ _ (by omega) (by omega) (hu.mono (by omega))) rfl rfl ?_
   rintro _ W6 ⟨_, _, _, rfl, x7, hh5⟩
   have s8 := x7.sz
   have z9 := x7
   have hh5l := hh5.len
   refine ⟨_, rfl, ?_⟩
   refine mvs rfl ?_
   refine vo ?_
   refine xcall e214 (rsmall_dg _ _ _ _ _ _ (h.ext z9) (by omega) (by omega)) rfl rfl ?_
   rintro _ _ ⟨rfl, rfl⟩
   refine ⟨_, rfl, ?_⟩
   refine mvs rfl ?_
   refine vo ?_
   refine xcall e214 (rsmall_dg _ _ _ _ _ _ (h2.ext z9) (by omega) (by omega)) rfl rfl ?_
   rintro _ _ ⟨rfl, rfl⟩
   refine ⟨_, rfl, ?_⟩
   refine vv (rbin (bRem (by omega) (Int.tmod_eq_emod_of_nonneg (by omega))) rfl rfl) ?_
   refine vo ?_
   refine xcall e213 (rback_ok _ _ _ (by omega) (by omega) (hu.mono (by omega))) rfl rfl ?_
   rintro _ W13 ⟨_, _, _, rfl, x14, hh12⟩
   have s15 := x14.sz
   have z16 := z9.trans x14
   have hh12l := hh12.len
   refine ⟨_, rfl, ?_⟩
   refine ass rfl ?_
   refine ass rfl ?_
   refine vnil ?_
   refine V.ret ?_
   refine ⟨[.slice _ _ _, .slice _ _ _], ⟨rfl, rfl, trivial⟩, ?_⟩
   exact ⟨_, _, _, _, _, _, rfl, z16, (hh5.ext x14), hh12⟩
  ·intro c2
   refine vv (rpk (v := .bool false) rfl rfl) ?_
   refine vnil ?_
   refine V.condF rfl ?_
   refine V.skip ?_
   refine V.seq (V.reg rfl ?_)
   refine mvs rfl ?_
   refine vv (rlen sl73 rfl) ?_
   refine vo ?_
   refine xmk (n) sl73 in3 (by simp [kb]) rfl rfl (by omega) (by omega) (by omega) ?_
   intro W17 x18 q n19
   have s20 := x18.sz
   have z21 := x18
   refine ass rfl ?_
   refine vnil ?_
   refine V.seq ?_
   refine V.seq (V.reg rfl ?_)
   refine mvs rfl ?_
   refine vv (rlen sl73 rfl) ?_
   refine veq rfl rfl ?_ ?_
   ·intro c22
    refine vnil ?_
    refine V.condT rfl ?_
    refine V.seq (V.reg rfl ?_)
    have hY : wd (dg b16 y) 0 = y := dg16_one (by omega) (by omega)
    have hy16 : y < 65536 := by have := vl_lt (B := b16) (by decide) (Dg.dg (B := b16) (by decide) y); rw [vl_dg (by decide) (by omega), show (dg b16 y).length = 1 by omega] at this; have e : b16 ^ 1 = 65536 := (by decide); omega
    refine asi rfl ?_
    refine vnil ?_
    refine V.seq ?_
    refine V.seq (V.reg rfl ?_)
    refine mvs rfl ?_
    refine vv (rlen sl73 rfl) ?_
    refine vv (rbin (bSub (wi (by omega))) rfl rfl) ?_
    refine asi rfl ?_
    refine vnil ?_
    refine V.block ?_
    refine V.loopK (ι := Nat × Int × List Int) [(0, .slice _ _ _), (1, .slice _ _ _), (4, .slice _ _ _), (5, .slice _ _ _), (6, .slice _ _ _)] (fun ⟨k, r, qs⟩ => [(8, .int .i64 ((k : Int) - 1)), (7, .int .i64 r)]) (fun ⟨k, r, qs⟩ W => Ext w W ∧ k ≤ n ∧ 0 ≤ r ∧ r < y ∧ AR .i64 W (w.heap.size) 3 n qs ∧ (∀ j : Nat, j < k → wd qs j = 0) ∧ Dg b16 qs ∧ x = vl b16 qs * y + b16 ^ k * r + vl b16 ((dg b16 x).take k)) (fun ⟨k, r, qs⟩ => k) ((n, 0, _)) ⟨rfl, rfl, rfl, rfl, rfl, trivial⟩ ⟨rfl, rfl, trivial⟩ ⟨z21, Nat.le_refl _, by omega, by omega, q, fun j _ => wd_zeros _ _, Dg.zeros _, by rw [vl_zeros, List.take_of_length_le (by omega), vl_dg (by decide) hx]; omega⟩ ?_
    intro i24 E25 W23 h26
    obtain ⟨k, r, qs⟩ := i24
    simp only at h26
    show V _ _ _ _ _ _ (ups (ups _ _) [(8, .int .i64 ((k : Int) - 1)), (7, .int .i64 r)]) _
    obtain ⟨x27, hk, r0, r1, hA, hz, hdq, hinv⟩ := h26
    have s28 := x27.sz
    have z29 := x27
    have lA := hA.len; have lbq := hA.box.lt
    refine V.seq ?_
    refine V.seq (V.reg rfl ?_)
    refine mvi rfl ?_
    refine vge rfl rfl ?_ ?_
    ·intro c30
     have hwb : 0 ≤ wd (dg b16 x) ((k : Int) - 1) ∧ wd (dg b16 x) ((k : Int) - 1) < 65536 := wd_dg (B := b16) (by decide) (Dg.dg (B := b16) (by decide) x) ((k : Int) - 1)
     refine vnil ?_
     refine V.condT rfl ?_
     refine V.skip ?_
     refine V.seq ?_
     refine V.block ?_
     refine V.seq (V.reg rfl ?_)
     refine mvi rfl ?_
     refine vv (rbin (bMul (wi (by omega))) rfl rfl) ?_
     refine mvs rfl ?_
     refine mvi rfl ?_
     refine vv (rixn (h.ext z29) sl73 sz3 rfl rfl (by omega) (by omega)) ?_
     refine vldN (h.ext z29) rfl sc3 (by omega) (by omega) ?_
     intro q31 hq31 hk32
     simp only [kb] at hk32
     have hxq : 0 ≤ q31 ∧ q31 < 65536 := by rw [hq31]; exact hwb
     have hdf := div_facts16 (v := wd (dg b16 y) 0) (by omega) r0 (by omega) hxq.1 hxq.2
     refine vv (rbin (bAdd (wi (by omega))) rfl rfl) ?_
     refine asi rfl ?_
     refine vnil ?_
     refine V.regS (fun W => KD (fun q => q < w.heap.size) W) mixed rfl ?_
     intro W33 x34
     have s35 := x34.sz
     have z36 := z29.trans x34
     replace hA := hA.ext x34
     have q38 := KD.refl (fun q => q < w.heap.size) W33
     have r39 := hA
     refine tk 0 rfl (by kernel_rfl) q38 (pv (fun _ y40 => rmv (v := .slice _ _ _) rfl)) ?_
     refine tk 1 rfl (by kernel_rfl) q38 (pv (fun _ y41 => rmv (v := .int _ _) rfl)) ?_
     refine tk 2 rfl (by kernel_rfl) q38 (pv (fun _ y42 => rmv (v := .int _ _) rfl)) ?_
     refine tk 3 rfl (by kernel_rfl) q38 (pv (fun _ y43 => rmv (v := .slice _ _ _) rfl)) ?_
     refine tk 4 rfl (by kernel_rfl) q38 (pv (fun _ y44 => rixn ((h2.ext z36).ck (y44).ck) sl73 sz3 rfl rfl (by omega) (by omega))) ?_
     refine tk 5 rfl (by kernel_rfl) q38 (pv (fun _ y45 => rldN ((h2.ext z36).ck (y45).ck) rfl sc3 (by omega) (by omega))) ?_
     refine tk 6 rfl (by kernel_rfl) q38 (pv (fun _ y46 => rbin (bQuo (by omega) (wiq (by rw [Int.tdiv_eq_ediv_of_nonneg (by omega)]; omega) (Int.tdiv_eq_ediv_of_nonneg (by omega)))) rfl rfl)) ?_
     refine tk 7 rfl (by kernel_rfl) q38 (pv (fun _ y47 => rmv (v := .int _ _) rfl)) ?_
     refine tk 8 rfl (by kernel_rfl) q38 (pv (fun _ y48 => rmv (v := .slice _ _ _) rfl)) ?_
     refine tk 9 rfl (by kernel_rfl) q38 (pv (fun _ y49 => rixn ((h2.ext z36).ck (y49).ck) sl73 sz3 rfl rfl (by omega) (by omega))) ?_
     refine tk 10 rfl (by kernel_rfl) q38 (pv (fun _ y50 => rldN ((h2.ext z36).ck (y50).ck) rfl sc3 (by omega) (by omega))) ?_
     refine tk 11 rfl (by kernel_rfl) q38 (pv (fun _ y51 => rbin (bRem (by omega) (Int.tmod_eq_emod_of_nonneg (by omega))) rfl rfl)) ?_
     refine tk 12 rfl (by kernel_rfl) q38 (pv (fun _ y52 => rix sl73 sz3 rfl rfl (by omega) (by omega) rfl)) ?_
     refine ef 13 (by kernel_rfl) rfl ?_
     refine xsti hA rfl rfl sz3 (by simp only [kb]; omega) (by omega) (by omega) ?_
     intro W53 y54 hA
     have z55 := z36.below (y54.below (by omega))
     have q56 := q38.trans (y54.kd (fun hh => by have hh2 : w.heap.size < w.heap.size := hh; omega))
     have s57 := y54.size
     refine ⟨fun _ => q56, ?_⟩
     refine tk 14 rfl (by kernel_rfl) q56 (pv (fun _ y58 => ras (v := .int _ _) rfl)) ?_
     refine dn (by kernel_rfl) ?_
     refine V.reg rfl ?_
     refine mvi rfl ?_
     refine vv (rbin (bSub (show IntKind.i64.wrap ((k : Int) - 1 - 1) = ((k - 1 : Nat) : Int) - 1 by rw [wi (by omega)]; omega)) rfl rfl) ?_
     refine asi rfl ?_
     refine vnil ?_
     refine ⟨rfl, (k - 1, _, _), ⟨rfl, rfl, rfl, rfl, rfl, trivial⟩, ⟨rfl, rfl, trivial⟩, ⟨z55, by omega, by omega, by omega, hA, by rw [show ((k : Int) - 1).toNat = k - 1 by omega]; exact wd_zero_set (zeros_at (by omega) hz), by rw [show ((k : Int) - 1).toNat = k - 1 by omega]; exact Dg.set16 hdq hdf.1 hdf.2.1, by rw [show ((k : Int) - 1).toNat = k - 1 by omega]; exact quo_step (by omega) (zeros_at (by omega) hz) (by rw [show k - 1 + 1 = k by omega]; exact hinv) (by rw [show ((k - 1 : Nat) : Int) = (k : Int) - 1 by omega, ← hq31, hdf.2.2.2.2, hY])⟩, ?_⟩
     show k - 1 < k
     omega
    ·intro c30
     refine vnil ?_
     refine V.condF rfl ?_
     refine V.exit ?_
     refine V.seq (V.reg rfl ?_)
     refine mvs rfl ?_
     refine vo ?_
     have hrq := hA.rn (S := S) (hu _ (by omega))
     refine xcall e211 (rtrim_ok _ _ _ _ _ _ hrq) rfl rfl ?_
     rintro _ _ ⟨m1, rfl, hr1, hm1, rfl⟩
     refine ⟨_, rfl, ?_⟩
     refine mvi rfl ?_
     refine vo ?_
     refine xbs (ps := [(0, .int _ _)]) (cs := [.int _ _]) sl73 zr3 sz3 rfl rfl rfl rfl rfl rfl ?_
     intro W60 x61 b62 nn63
     have s64 := x61.sz
     have z65 := z29.trans x61
     replace hA := hA.ext x61
     refine vo ?_
     have hl66 := RN.lit (k := .i64) (xs := [_]) 1 b62 (by intro q hq; simp only [List.mem_cons, List.not_mem_nil, or_false] at hq; simp only [kb]; omega) ((hu.mono (show w.heap.size ≤ W23.heap.size by omega)) _ (Nat.le_refl _))
     refine xcall e211 (rtrim_ok _ _ _ _ _ _ hl66) rfl rfl ?_
     rintro _ _ ⟨m2, rfl, hr2, hm2, rfl⟩
     refine ⟨_, rfl, ?_⟩
     refine ass rfl ?_
     refine ass rfl ?_
     refine vnil ?_
     refine V.ret ?_
     refine ⟨[.slice _ _ _, .slice _ _ _], ⟨rfl, rfl, trivial⟩, ?_⟩
     have e0 : k = 0 := (by omega)
     subst e0
     have hdm := divmod_of (u := x) (v := y) (q := vl b16 qs) (r := r) (by rw [hinv]; simp [vl]) r0 r1
     exact ⟨_, _, _, _, _, _, rfl, z65, (hr1.ext x61).cast (by rw [← dg_vl (by decide) hdq, hdm.1]), hr2.cast (by rw [dg16_small r0 (by omega), hdm.2])⟩
   ·intro c22
    refine vnil ?_
    refine V.condF rfl ?_
    refine V.skip ?_
    refine V.seq (V.reg rfl ?_)
    refine ass rfl ?_
    refine vnil ?_
    refine V.seq ?_
    refine V.seq (V.reg rfl ?_)
    refine mvs rfl ?_
    refine vv (rlen sl73 rfl) ?_
    refine vv (rbin (bSub (wi (by omega))) rfl rfl) ?_
    refine asi rfl ?_
    refine vnil ?_
    refine V.block ?_
    refine V.loopK (ι := Nat × Int × List Int × Option Addr × Nat × Nat) [(0, .slice _ _ _), (1, .slice _ _ _), (4, .slice _ _ _), (5, .slice _ _ _), (6, .slice _ _ _)] (fun ⟨k, R, qs, ra, rn, rc⟩ => [(10, .int .i64 ((k : Int) - 1)), (9, .slice ra rn rc)]) (fun ⟨k, R, qs, ra, rn, rc⟩ W => Ext w W ∧ k ≤ n ∧ 0 ≤ R ∧ R < y ∧ AR .i64 W (w.heap.size) 3 n qs ∧ (∀ j : Nat, j < k → wd qs j = 0) ∧ Dg b16 qs ∧ RN .i64 (SX S [w.heap.size]) W ra rn rc (dg b16 R) ∧ x = vl b16 qs * y + b16 ^ k * R + vl b16 ((dg b16 x).take k)) (fun ⟨k, R, qs, ra, rn, rc⟩ => k) ((n, 0, _, _, _, _)) ⟨rfl, rfl, rfl, rfl, rfl, trivial⟩ ⟨rfl, rfl, trivial⟩ ⟨z21, Nat.le_refl _, by omega, by omega, q, fun j _ => wd_zeros _ _, Dg.zeros _, by rw [dg_zero]; exact RN.nil _ _ _ _ _ (by omega), by rw [vl_zeros, List.take_of_length_le (by omega), vl_dg (by decide) hx]; omega⟩ ?_
    intro i69 E70 W68 h71
    obtain ⟨k, R, qs, ra, rn, rc⟩ := i69
    simp only at h71
    show V _ _ _ _ _ _ (ups (ups _ _) [(10, .int .i64 ((k : Int) - 1)), (9, .slice ra rn rc)]) _
    obtain ⟨x72, hk, r0, r1, hA, hz, hdq, hR, hinv⟩ := h71
    have s73 := x72.sz
    have z74 := x72
    have lA := hA.len; have lbq := hA.box.lt
    have hRl := hR.len; have hRm := dg16_mono r0 (show R ≤ y by omega)
    refine V.seq ?_
    refine V.seq (V.reg rfl ?_)
    refine mvi rfl ?_
    refine vge rfl rfl ?_ ?_
    ·intro c75
     have hwb : 0 ≤ wd (dg b16 x) ((k : Int) - 1) ∧ wd (dg b16 x) ((k : Int) - 1) < 65536 := wd_dg (B := b16) (by decide) (Dg.dg (B := b16) (by decide) x) ((k : Int) - 1)
     refine vnil ?_
     refine V.condT rfl ?_
     refine V.skip ?_
     refine V.seq ?_
     refine V.block ?_
     refine V.seq (V.reg rfl ?_)
     refine mvs rfl ?_
     refine mvi rfl ?_
     refine vv (rixn (h.ext z74) sl73 sz3 rfl rfl (by omega) (by omega)) ?_
     refine vldN (h.ext z74) rfl sc3 (by omega) (by omega) ?_
     intro q76 hq76 hk77
     simp only [kb] at hk77
     refine vo ?_
     refine xbs (ps := [(0, .int _ _)]) (cs := [.int _ _]) sl73 zr3 sz3 rfl rfl rfl rfl rfl rfl ?_
     intro W78 x79 b80 nn81
     have s82 := x79.sz
     have z83 := z74.trans x79
     replace hA := hA.ext x79
     refine mvs rfl ?_
     refine vo ?_
     refine xappN sl73 in3 (OI.lit (B := W68.heap.size) (k := .i64) (xs := [_]) b80 (by intro q hq; simp only [List.mem_cons, List.not_mem_nil, or_false] at hq; simp only [kb]; omega) (by omega)) rfl rfl (hR.ext x79) (by simp only [List.length_cons, List.length_nil]; omega) (by decide) (by omega) ?_
     intro v84 W85 hO86 hg87 ho88
     have y89 := grown_below hg87 (by omega) (fun b e => ((OI.lit (B := W68.heap.size) (k := .i64) (xs := [_]) b80 (by intro q hq; simp only [List.mem_cons, List.not_mem_nil, or_false] at hq; simp only [kb]; omega) (by omega)).low b e).1)
     have s90 := y89.size
     have z91 := z83.below (y89.mono (by omega))
     replace hA := hA.bl y89 (by omega)
     refine vo ?_
     obtain ⟨a', c', rfl⟩ := hO86.form
     have hrn := hO86.rn (S := SX S [w.heap.size]) (fun b hb _ => (SX.up (hu.mono (show w.heap.size ≤ W68.heap.size by omega)) (by simp; omega) : Up (SX S [w.heap.size]) W68) b (by omega))
     refine xcall e211 (rtrim_ok _ _ _ _ _ _ hrn) rfl rfl ?_
     rintro _ _ ⟨m1, rfl, hr1, hm1, rfl⟩
     have hxq : 0 ≤ q76 ∧ q76 < 65536 := by rw [hq76]; exact hwb
     obtain ⟨T, hT⟩ : ∃ T, T = R * 65536 + q76 := ⟨_, rfl⟩
     replace hr1 : RN .i64 (SX S [w.heap.size]) _ _ _ _ (dg b16 T) := hr1.cast (by rw [hT]; exact dg16_cons hxq.1 hxq.2 r0)
     have hrl := hr1.len
     simp only [List.length_append, List.length_cons, List.length_nil] at hm1
     have hTb : 0 ≤ T ∧ T < 65536 * y := by rw [hT]; exact R_bd r0 r1 hxq.1 hxq.2
     refine ⟨_, rfl, ?_⟩
     refine ass rfl ?_
     refine vnil ?_
     refine V.seq (V.reg rfl ?_)
     refine asi rfl ?_
     refine asi rfl ?_
     refine vnil ?_
     refine V.seq ?_
     refine V.seq (V.reg rfl ?_)
     refine mvs rfl ?_
     refine vv (rlen sl73 rfl) ?_
     refine mvs rfl ?_
     refine vv (rlen sl73 rfl) ?_
     refine vlt rfl rfl ?_ ?_
     ·intro c93
      refine vnil ?_
      refine V.condT rfl ?_
      refine V.reg rfl ?_
      refine asi rfl ?_
      refine vnil ?_
      refine V.seq ?_
      refine V.block ?_
      refine V.loopK (ι := Int × Int) [(0, .slice _ _ _), (1, .slice _ _ _), (4, .slice _ _ _), (5, .slice _ _ _), (6, .slice _ _ _), (9, .slice _ _ _), (10, .int _ _), (75, .int _ _), (76, .bool true), (79, .slice _ _ _), (80, .int _ _), (81, .pointer _), (82, .int _ _), (83, .slice _ _ _), (84, .slice _ _ _), (85, .slice _ _ _), (86, .slice _ _ _), (87, .slice _ _ _), (88, .int _ _), (89, .slice _ _ _), (90, .int _ _), (91, .bool true)] (fun ⟨lo, hi⟩ => [(11, .int .i64 lo), (12, .int .i64 hi)]) (fun ⟨lo, hi⟩ W => Ext W85 W ∧ 0 ≤ lo ∧ lo < hi ∧ hi ≤ 65536 ∧ lo * y ≤ T ∧ T < hi * y) (fun ⟨lo, hi⟩ => (hi - lo).toNat) ((_, _)) ⟨rfl, rfl, rfl, rfl, rfl, rfl, rfl, rfl, rfl, rfl, rfl, rfl, rfl, rfl, rfl, rfl, rfl, rfl, rfl, rfl, rfl, rfl, trivial⟩ ⟨rfl, rfl, trivial⟩ ⟨Ext.refl _, by omega, by omega, by omega, by omega, by have := dg16_len_lt (by omega) hTb.1 (show (dg b16 T).length < (dg b16 y).length by omega); omega⟩ ?_
      intro i95 E96 W94 h97
      obtain ⟨lo, hi⟩ := i95
      simp only at h97
      show V _ _ _ _ _ _ (ups (ups _ _) [(11, .int .i64 lo), (12, .int .i64 hi)]) _
      obtain ⟨x98, lo0, lohi, hi1, lo2, hi2⟩ := h97
      have s99 := x98.sz
      have z100 := z91.trans x98
      have z101 := x98
      replace hA := hA.ext x98
      refine V.seq ?_
      refine V.seq (V.reg rfl ?_)
      refine mvi rfl ?_
      refine mvi rfl ?_
      refine vv (rbin (bSub (wi (by omega))) rfl rfl) ?_
      refine vgt rfl rfl ?_ ?_
      ·intro c102
       refine vnil ?_
       refine V.condT rfl ?_
       refine V.skip ?_
       refine V.block ?_
       refine V.seq (V.reg rfl ?_)
       refine mvi rfl ?_
       refine mvi rfl ?_
       refine vv (rbin (bAdd (wi (by omega))) rfl rfl) ?_
       refine vv (rbin (bQuo (by omega) (wiq (by rw [Int.tdiv_eq_ediv_of_nonneg (by omega)]; omega) (Int.tdiv_eq_ediv_of_nonneg (by omega)))) rfl rfl) ?_
       refine asi rfl ?_
       refine vnil ?_
       refine V.seq (V.reg rfl ?_)
       refine mvs rfl ?_
       refine mvi rfl ?_
       refine vo ?_
       refine xcall e215 (rtimes_ok _ _ _ _ _ (SX S [w.heap.size]) _ _ (h2.ext z100) (Dg.dg (by decide) _) (by omega) ⟨by omega, by omega⟩ (SX.up (hu.mono (by omega)) (by simp; omega))) rfl rfl ?_
       rintro _ W104 ⟨_, _, _, rfl, x105, hh103, hh103b⟩
       have s106 := x105.sz
       have z108 := z101.trans x105
       replace hA := hA.ext x105
       rw [vl_dg (by decide) (by omega : 0 ≤ y)] at hh103
       have hh103l := hh103.len
       refine ⟨_, rfl, ?_⟩
       refine mvs rfl ?_
       refine vo ?_
       refine xcall e202 (rcmp_ok _ _ _ _ _ _ _ _ _ _ _ hh103 (Dg.dg (by decide) _) (hr1.ext z108) (Dg.dg (by decide) _)) rfl rfl ?_
       rintro _ _ ⟨rfl, rfl⟩
       refine ⟨_, rfl, ?_⟩
       refine vle rfl rfl ?_ ?_
       ·intro hcm
        have hmy : 0 ≤ y * ((lo + hi) / 2) := Int.mul_nonneg (by omega) (by omega)
        rw [vl_dg (by decide) hmy, vl_dg (by decide) hTb.1] at hcm
        refine vnil ?_
        refine V.condT rfl ?_
        refine V.reg rfl ?_
        refine mvi rfl ?_
        refine asi rfl ?_
        refine vnil ?_
        refine ⟨rfl, (_, _), ⟨rfl, rfl, rfl, rfl, rfl, rfl, rfl, rfl, rfl, rfl, rfl, rfl, rfl, rfl, rfl, rfl, rfl, rfl, rfl, rfl, rfl, rfl, trivial⟩, ⟨rfl, rfl, trivial⟩, ⟨z108, by omega, by omega, by omega, bs_lo hcm, hi2⟩, ?_⟩
        show (hi - _).toNat < (hi - lo).toNat
        omega
       ·intro hcm
        have hmy : 0 ≤ y * ((lo + hi) / 2) := Int.mul_nonneg (by omega) (by omega)
        rw [vl_dg (by decide) hmy, vl_dg (by decide) hTb.1] at hcm
        refine vnil ?_
        refine V.condF rfl ?_
        refine V.reg rfl ?_
        refine mvi rfl ?_
        refine asi rfl ?_
        refine vnil ?_
        refine ⟨rfl, (_, _), ⟨rfl, rfl, rfl, rfl, rfl, rfl, rfl, rfl, rfl, rfl, rfl, rfl, rfl, rfl, rfl, rfl, rfl, rfl, rfl, rfl, rfl, rfl, trivial⟩, ⟨rfl, rfl, trivial⟩, ⟨z108, by omega, by omega, by omega, lo2, bs_hi hcm⟩, ?_⟩
        show (_ - lo).toNat < (hi - lo).toNat
        omega
      ·intro c102
       refine vnil ?_
       refine V.condF rfl ?_
       refine V.exit ?_
       refine V.reg rfl ?_
       refine mvs rfl ?_
       refine mvi rfl ?_
       refine mvi rfl ?_
       refine mvs rfl ?_
       refine mvs rfl ?_
       refine mvi rfl ?_
       refine vo ?_
       refine xcall e215 (rtimes_ok _ _ _ _ _ (SX S [w.heap.size]) _ _ (h2.ext z100) (Dg.dg (by decide) _) (by omega) ⟨by omega, by omega⟩ (SX.up (hu.mono (by omega)) (by simp; omega))) rfl rfl ?_
       rintro _ W111 ⟨_, _, _, rfl, x112, hh110, hh110b⟩
       have s113 := x112.sz
       have z114 := z100.trans x112
       have z115 := z101.trans x112
       replace hA := hA.ext x112
       rw [vl_dg (by decide) (by omega : 0 ≤ y)] at hh110
       have hh110l := hh110.len
       refine ⟨_, rfl, ?_⟩
       refine vo ?_
       refine xcall e203 (rsub_ok _ _ _ _ _ _ _ _ (SX S [w.heap.size]) _ _ _ (hr1.ext z115) (Dg.dg (by decide) _) hh110 (Int.mul_nonneg (by omega) lo0) (by rw [vl_dg (by decide) hTb.1, Int.mul_comm]; exact lo2) (by omega) (SX.up (hu.mono (by omega)) (by simp; omega))) rfl rfl ?_
       rintro _ W117 ⟨_, _, _, rfl, x118, hh116, hh116b⟩
       have s119 := x118.sz
       have z120 := z114.trans x118
       replace hA := hA.ext x118
       rw [vl_dg (by decide) hTb.1] at hh116
       have hh116l := hh116.len
       have hbe := bs_end (by omega) (by omega) hi2
       refine ⟨_, rfl, ?_⟩
       refine vv (rix sl73 sz3 rfl rfl (by omega) (by omega) rfl) ?_
       refine vo ?_
       refine xsti hA rfl rfl sz3 (by simp only [kb]; omega) (by omega) (by omega) ?_
       intro W122 y123 hA
       have z124 := z120.below (y123.below (by omega))
       have s125 := y123.size
       refine ass rfl ?_
       refine vnil ?_
       refine V.reg rfl ?_
       refine mvi rfl ?_
       refine vv (rbin (bSub (show IntKind.i64.wrap ((k : Int) - 1 - 1) = ((k - 1 : Nat) : Int) - 1 by rw [wi (by omega)]; omega)) rfl rfl) ?_
       refine asi rfl ?_
       refine vnil ?_
       refine ⟨rfl, (k - 1, _, _, _, _, _), ⟨rfl, rfl, rfl, rfl, rfl, trivial⟩, ⟨rfl, rfl, trivial⟩, ⟨z124, by omega, by rw [Int.mul_comm] at lo2; omega, by omega, hA, by rw [show ((k : Int) - 1).toNat = k - 1 by omega]; exact wd_zero_set (zeros_at (by omega) hz), by rw [show ((k : Int) - 1).toNat = k - 1 by omega]; exact Dg.set16 hdq lo0 (by omega), (hh116.ck (y123.ck (by intro hh; first | (simp [SX] at hh <;> omega) | omega))), by rw [show ((k : Int) - 1).toNat = k - 1 by omega]; exact quo_step (by omega) (zeros_at (by omega) hz) (by rw [show k - 1 + 1 = k by omega]; exact hinv) (by rw [show ((k - 1 : Nat) : Int) = (k : Int) - 1 by omega, ← hq76, Int.mul_comm y lo, hT])⟩, ?_⟩
       show k - 1 < k
       omega
     ·intro c93
      refine vnil ?_
      refine V.condF rfl ?_
      refine V.skip ?_
      refine V.seq ?_
      refine V.block ?_
      refine V.loopK (ι := Int × Int) [(0, .slice _ _ _), (1, .slice _ _ _), (4, .slice _ _ _), (5, .slice _ _ _), (6, .slice _ _ _), (9, .slice _ _ _), (10, .int _ _), (75, .int _ _), (76, .bool true), (79, .slice _ _ _), (80, .int _ _), (81, .pointer _), (82, .int _ _), (83, .slice _ _ _), (84, .slice _ _ _), (85, .slice _ _ _), (86, .slice _ _ _), (87, .slice _ _ _), (88, .int _ _), (89, .slice _ _ _), (90, .int _ _), (91, .bool false)] (fun ⟨lo, hi⟩ => [(11, .int .i64 lo), (12, .int .i64 hi)]) (fun ⟨lo, hi⟩ W => Ext W85 W ∧ 0 ≤ lo ∧ lo < hi ∧ hi ≤ 65536 ∧ lo * y ≤ T ∧ T < hi * y) (fun ⟨lo, hi⟩ => (hi - lo).toNat) ((_, _)) ⟨rfl, rfl, rfl, rfl, rfl, rfl, rfl, rfl, rfl, rfl, rfl, rfl, rfl, rfl, rfl, rfl, rfl, rfl, rfl, rfl, rfl, rfl, trivial⟩ ⟨rfl, rfl, trivial⟩ ⟨Ext.refl _, by omega, by omega, by omega, by omega, by omega⟩ ?_
      intro i127 E128 W126 h129
      obtain ⟨lo, hi⟩ := i127
      simp only at h129
      show V _ _ _ _ _ _ (ups (ups _ _) [(11, .int .i64 lo), (12, .int .i64 hi)]) _
      obtain ⟨x130, lo0, lohi, hi1, lo2, hi2⟩ := h129
      have s131 := x130.sz
      have z132 := z91.trans x130
      have z133 := x130
      replace hA := hA.ext x130
      refine V.seq ?_
      refine V.seq (V.reg rfl ?_)
      refine mvi rfl ?_
      refine mvi rfl ?_
      refine vv (rbin (bSub (wi (by omega))) rfl rfl) ?_
      refine vgt rfl rfl ?_ ?_
      ·intro c134
       refine vnil ?_
       refine V.condT rfl ?_
       refine V.skip ?_
       refine V.block ?_
       refine V.seq (V.reg rfl ?_)
       refine mvi rfl ?_
       refine mvi rfl ?_
       refine vv (rbin (bAdd (wi (by omega))) rfl rfl) ?_
       refine vv (rbin (bQuo (by omega) (wiq (by rw [Int.tdiv_eq_ediv_of_nonneg (by omega)]; omega) (Int.tdiv_eq_ediv_of_nonneg (by omega)))) rfl rfl) ?_
       refine asi rfl ?_
       refine vnil ?_
       refine V.seq (V.reg rfl ?_)
       refine mvs rfl ?_
       refine mvi rfl ?_
       refine vo ?_
       refine xcall e215 (rtimes_ok _ _ _ _ _ (SX S [w.heap.size]) _ _ (h2.ext z132) (Dg.dg (by decide) _) (by omega) ⟨by omega, by omega⟩ (SX.up (hu.mono (by omega)) (by simp; omega))) rfl rfl ?_
       rintro _ W136 ⟨_, _, _, rfl, x137, hh135, hh135b⟩
       have s138 := x137.sz
       have z140 := z133.trans x137
       replace hA := hA.ext x137
       rw [vl_dg (by decide) (by omega : 0 ≤ y)] at hh135
       have hh135l := hh135.len
       refine ⟨_, rfl, ?_⟩
       refine mvs rfl ?_
       refine vo ?_
       refine xcall e202 (rcmp_ok _ _ _ _ _ _ _ _ _ _ _ hh135 (Dg.dg (by decide) _) (hr1.ext z140) (Dg.dg (by decide) _)) rfl rfl ?_
       rintro _ _ ⟨rfl, rfl⟩
       refine ⟨_, rfl, ?_⟩
       refine vle rfl rfl ?_ ?_
       ·intro hcm
        have hmy : 0 ≤ y * ((lo + hi) / 2) := Int.mul_nonneg (by omega) (by omega)
        rw [vl_dg (by decide) hmy, vl_dg (by decide) hTb.1] at hcm
        refine vnil ?_
        refine V.condT rfl ?_
        refine V.reg rfl ?_
        refine mvi rfl ?_
        refine asi rfl ?_
        refine vnil ?_
        refine ⟨rfl, (_, _), ⟨rfl, rfl, rfl, rfl, rfl, rfl, rfl, rfl, rfl, rfl, rfl, rfl, rfl, rfl, rfl, rfl, rfl, rfl, rfl, rfl, rfl, rfl, trivial⟩, ⟨rfl, rfl, trivial⟩, ⟨z140, by omega, by omega, by omega, bs_lo hcm, hi2⟩, ?_⟩
        show (hi - _).toNat < (hi - lo).toNat
        omega
       ·intro hcm
        have hmy : 0 ≤ y * ((lo + hi) / 2) := Int.mul_nonneg (by omega) (by omega)
        rw [vl_dg (by decide) hmy, vl_dg (by decide) hTb.1] at hcm
        refine vnil ?_
        refine V.condF rfl ?_
        refine V.reg rfl ?_
        refine mvi rfl ?_
        refine asi rfl ?_
        refine vnil ?_
        refine ⟨rfl, (_, _), ⟨rfl, rfl, rfl, rfl, rfl, rfl, rfl, rfl, rfl, rfl, rfl, rfl, rfl, rfl, rfl, rfl, rfl, rfl, rfl, rfl, rfl, rfl, trivial⟩, ⟨rfl, rfl, trivial⟩, ⟨z140, by omega, by omega, by omega, lo2, bs_hi hcm⟩, ?_⟩
        show (_ - lo).toNat < (hi - lo).toNat
        omega
      ·intro c134
       refine vnil ?_
       refine V.condF rfl ?_
       refine V.exit ?_
       refine V.reg rfl ?_
       refine mvs rfl ?_
       refine mvi rfl ?_
       refine mvi rfl ?_
       refine mvs rfl ?_
       refine mvs rfl ?_
       refine mvi rfl ?_
       refine vo ?_
       refine xcall e215 (rtimes_ok _ _ _ _ _ (SX S [w.heap.size]) _ _ (h2.ext z132) (Dg.dg (by decide) _) (by omega) ⟨by omega, by omega⟩ (SX.up (hu.mono (by omega)) (by simp; omega))) rfl rfl ?_
       rintro _ W143 ⟨_, _, _, rfl, x144, hh142, hh142b⟩
       have s145 := x144.sz
       have z146 := z132.trans x144
       have z147 := z133.trans x144
       replace hA := hA.ext x144
       rw [vl_dg (by decide) (by omega : 0 ≤ y)] at hh142
       have hh142l := hh142.len
       refine ⟨_, rfl, ?_⟩
       refine vo ?_
       refine xcall e203 (rsub_ok _ _ _ _ _ _ _ _ (SX S [w.heap.size]) _ _ _ (hr1.ext z147) (Dg.dg (by decide) _) hh142 (Int.mul_nonneg (by omega) lo0) (by rw [vl_dg (by decide) hTb.1, Int.mul_comm]; exact lo2) (by omega) (SX.up (hu.mono (by omega)) (by simp; omega))) rfl rfl ?_
       rintro _ W149 ⟨_, _, _, rfl, x150, hh148, hh148b⟩
       have s151 := x150.sz
       have z152 := z146.trans x150
       replace hA := hA.ext x150
       rw [vl_dg (by decide) hTb.1] at hh148
       have hh148l := hh148.len
       have hbe := bs_end (by omega) (by omega) hi2
       refine ⟨_, rfl, ?_⟩
       refine vv (rix sl73 sz3 rfl rfl (by omega) (by omega) rfl) ?_
       refine vo ?_
       refine xsti hA rfl rfl sz3 (by simp only [kb]; omega) (by omega) (by omega) ?_
       intro W154 y155 hA
       have z156 := z152.below (y155.below (by omega))
       have s157 := y155.size
       refine ass rfl ?_
       refine vnil ?_
       refine V.reg rfl ?_
       refine mvi rfl ?_
       refine vv (rbin (bSub (show IntKind.i64.wrap ((k : Int) - 1 - 1) = ((k - 1 : Nat) : Int) - 1 by rw [wi (by omega)]; omega)) rfl rfl) ?_
       refine asi rfl ?_
       refine vnil ?_
       refine ⟨rfl, (k - 1, _, _, _, _, _), ⟨rfl, rfl, rfl, rfl, rfl, trivial⟩, ⟨rfl, rfl, trivial⟩, ⟨z156, by omega, by rw [Int.mul_comm] at lo2; omega, by omega, hA, by rw [show ((k : Int) - 1).toNat = k - 1 by omega]; exact wd_zero_set (zeros_at (by omega) hz), by rw [show ((k : Int) - 1).toNat = k - 1 by omega]; exact Dg.set16 hdq lo0 (by omega), (hh148.ck (y155.ck (by intro hh; first | (simp [SX] at hh <;> omega) | omega))), by rw [show ((k : Int) - 1).toNat = k - 1 by omega]; exact quo_step (by omega) (zeros_at (by omega) hz) (by rw [show k - 1 + 1 = k by omega]; exact hinv) (by rw [show ((k - 1 : Nat) : Int) = (k : Int) - 1 by omega, ← hq76, Int.mul_comm y lo, hT])⟩, ?_⟩
       show k - 1 < k
       omega
    ·intro c75
     refine vnil ?_
     refine V.condF rfl ?_
     refine V.exit ?_
     refine V.seq (V.reg rfl ?_)
     refine mvs rfl ?_
     refine vo ?_
     have hrq := hA.rn (S := S) (hu _ (by omega))
     refine xcall e211 (rtrim_ok _ _ _ _ _ _ hrq) rfl rfl ?_
     rintro _ _ ⟨m1, rfl, hr1, hm1, rfl⟩
     refine ⟨_, rfl, ?_⟩
     refine mvs rfl ?_
     refine ass rfl ?_
     refine ass rfl ?_
     refine vnil ?_
     refine V.ret ?_
     refine ⟨[.slice _ _ _, .slice _ _ _], ⟨rfl, rfl, trivial⟩, ?_⟩
     have e0 : k = 0 := (by omega)
     subst e0
     have hdm := divmod_of (u := x) (v := y) (q := vl b16 qs) (r := R) (by rw [hinv]; simp [vl]) r0 r1
     exact ⟨_, _, _, _, _, _, rfl, z74, hr1.cast (by rw [← dg_vl (by decide) hdq, hdm.1]), (hR).un.cast (by rw [hdm.2])⟩
 ·intro c1
  refine mvb rfl ?_
  refine vgn (b := false) rfl rfl ?_
  refine vgn (b := false) rfl rfl ?_
  refine vgn (b := false) rfl rfl ?_
  refine vv (rpk (v := .bool false) rfl rfl) ?_
  refine vnil ?_
  refine V.condF rfl ?_
  refine V.skip ?_
  refine V.seq (V.reg rfl ?_)
  refine mvs rfl ?_
  refine vv (rlen sl73 rfl) ?_
  refine vo ?_
  refine xmk (n) sl73 in3 (by simp [kb]) rfl rfl (by omega) (by omega) (by omega) ?_
  intro W159 x160 q n161
  have s162 := x160.sz
  have z163 := x160
  refine ass rfl ?_
  refine vnil ?_
  refine V.seq ?_
  refine V.seq (V.reg rfl ?_)
  refine mvs rfl ?_
  refine vv (rlen sl73 rfl) ?_
  refine veq rfl rfl ?_ ?_
  ·intro c164
   refine vnil ?_
   refine V.condT rfl ?_
   refine V.seq (V.reg rfl ?_)
   have hY : wd (dg b16 y) 0 = y := dg16_one (by omega) (by omega)
   have hy16 : y < 65536 := by have := vl_lt (B := b16) (by decide) (Dg.dg (B := b16) (by decide) y); rw [vl_dg (by decide) (by omega), show (dg b16 y).length = 1 by omega] at this; have e : b16 ^ 1 = 65536 := (by decide); omega
   refine asi rfl ?_
   refine vnil ?_
   refine V.seq ?_
   refine V.seq (V.reg rfl ?_)
   refine mvs rfl ?_
   refine vv (rlen sl73 rfl) ?_
   refine vv (rbin (bSub (wi (by omega))) rfl rfl) ?_
   refine asi rfl ?_
   refine vnil ?_
   refine V.block ?_
   refine V.loopK (ι := Nat × Int × List Int) [(0, .slice _ _ _), (1, .slice _ _ _), (4, .slice _ _ _), (5, .slice _ _ _), (6, .slice _ _ _)] (fun ⟨k, r, qs⟩ => [(8, .int .i64 ((k : Int) - 1)), (7, .int .i64 r)]) (fun ⟨k, r, qs⟩ W => Ext w W ∧ k ≤ n ∧ 0 ≤ r ∧ r < y ∧ AR .i64 W (w.heap.size) 3 n qs ∧ (∀ j : Nat, j < k → wd qs j = 0) ∧ Dg b16 qs ∧ x = vl b16 qs * y + b16 ^ k * r + vl b16 ((dg b16 x).take k)) (fun ⟨k, r, qs⟩ => k) ((n, 0, _)) ⟨rfl, rfl, rfl, rfl, rfl, trivial⟩ ⟨rfl, rfl, trivial⟩ ⟨z163, Nat.le_refl _, by omega, by omega, q, fun j _ => wd_zeros _ _, Dg.zeros _, by rw [vl_zeros, List.take_of_length_le (by omega), vl_dg (by decide) hx]; omega⟩ ?_
   intro i166 E167 W165 h168
   obtain ⟨k, r, qs⟩ := i166
   simp only at h168
   show V _ _ _ _ _ _ (ups (ups _ _) [(8, .int .i64 ((k : Int) - 1)), (7, .int .i64 r)]) _
   obtain ⟨x169, hk, r0, r1, hA, hz, hdq, hinv⟩ := h168
   have s170 := x169.sz
   have z171 := x169
   have lA := hA.len; have lbq := hA.box.lt
   refine V.seq ?_
   refine V.seq (V.reg rfl ?_)
   refine mvi rfl ?_
   refine vge rfl rfl ?_ ?_
   ·intro c172
    have hwb : 0 ≤ wd (dg b16 x) ((k : Int) - 1) ∧ wd (dg b16 x) ((k : Int) - 1) < 65536 := wd_dg (B := b16) (by decide) (Dg.dg (B := b16) (by decide) x) ((k : Int) - 1)
    refine vnil ?_
    refine V.condT rfl ?_
    refine V.skip ?_
    refine V.seq ?_
    refine V.block ?_
    refine V.seq (V.reg rfl ?_)
    refine mvi rfl ?_
    refine vv (rbin (bMul (wi (by omega))) rfl rfl) ?_
    refine mvs rfl ?_
    refine mvi rfl ?_
    refine vv (rixn (h.ext z171) sl73 sz3 rfl rfl (by omega) (by omega)) ?_
    refine vldN (h.ext z171) rfl sc3 (by omega) (by omega) ?_
    intro q173 hq173 hk174
    simp only [kb] at hk174
    have hxq : 0 ≤ q173 ∧ q173 < 65536 := by rw [hq173]; exact hwb
    have hdf := div_facts16 (v := wd (dg b16 y) 0) (by omega) r0 (by omega) hxq.1 hxq.2
    refine vv (rbin (bAdd (wi (by omega))) rfl rfl) ?_
    refine asi rfl ?_
    refine vnil ?_
    refine V.regS (fun W => KD (fun q => q < w.heap.size) W) mixed rfl ?_
    intro W175 x176
    have s177 := x176.sz
    have z178 := z171.trans x176
    replace hA := hA.ext x176
    have q180 := KD.refl (fun q => q < w.heap.size) W175
    have r181 := hA
    refine tk 0 rfl (by kernel_rfl) q180 (pv (fun _ y182 => rmv (v := .slice _ _ _) rfl)) ?_
    refine tk 1 rfl (by kernel_rfl) q180 (pv (fun _ y183 => rmv (v := .int _ _) rfl)) ?_
    refine tk 2 rfl (by kernel_rfl) q180 (pv (fun _ y184 => rmv (v := .int _ _) rfl)) ?_
    refine tk 3 rfl (by kernel_rfl) q180 (pv (fun _ y185 => rmv (v := .slice _ _ _) rfl)) ?_
    refine tk 4 rfl (by kernel_rfl) q180 (pv (fun _ y186 => rixn ((h2.ext z178).ck (y186).ck) sl73 sz3 rfl rfl (by omega) (by omega))) ?_
    refine tk 5 rfl (by kernel_rfl) q180 (pv (fun _ y187 => rldN ((h2.ext z178).ck (y187).ck) rfl sc3 (by omega) (by omega))) ?_
    refine tk 6 rfl (by kernel_rfl) q180 (pv (fun _ y188 => rbin (bQuo (by omega) (wiq (by rw [Int.tdiv_eq_ediv_of_nonneg (by omega)]; omega) (Int.tdiv_eq_ediv_of_nonneg (by omega)))) rfl rfl)) ?_
    refine tk 7 rfl (by kernel_rfl) q180 (pv (fun _ y189 => rmv (v := .int _ _) rfl)) ?_
    refine tk 8 rfl (by kernel_rfl) q180 (pv (fun _ y190 => rmv (v := .slice _ _ _) rfl)) ?_
    refine tk 9 rfl (by kernel_rfl) q180 (pv (fun _ y191 => rixn ((h2.ext z178).ck (y191).ck) sl73 sz3 rfl rfl (by omega) (by omega))) ?_
    refine tk 10 rfl (by kernel_rfl) q180 (pv (fun _ y192 => rldN ((h2.ext z178).ck (y192).ck) rfl sc3 (by omega) (by omega))) ?_
    refine tk 11 rfl (by kernel_rfl) q180 (pv (fun _ y193 => rbin (bRem (by omega) (Int.tmod_eq_emod_of_nonneg (by omega))) rfl rfl)) ?_
    refine tk 12 rfl (by kernel_rfl) q180 (pv (fun _ y194 => rix sl73 sz3 rfl rfl (by omega) (by omega) rfl)) ?_
    refine ef 13 (by kernel_rfl) rfl ?_
    refine xsti hA rfl rfl sz3 (by simp only [kb]; omega) (by omega) (by omega) ?_
    intro W195 y196 hA
    have z197 := z178.below (y196.below (by omega))
    have q198 := q180.trans (y196.kd (fun hh => by have hh2 : w.heap.size < w.heap.size := hh; omega))
    have s199 := y196.size
    refine ⟨fun _ => q198, ?_⟩
    refine tk 14 rfl (by kernel_rfl) q198 (pv (fun _ y200 => ras (v := .int _ _) rfl)) ?_
    refine dn (by kernel_rfl) ?_
    refine V.reg rfl ?_
    refine mvi rfl ?_
    refine vv (rbin (bSub (show IntKind.i64.wrap ((k : Int) - 1 - 1) = ((k - 1 : Nat) : Int) - 1 by rw [wi (by omega)]; omega)) rfl rfl) ?_
    refine asi rfl ?_
    refine vnil ?_
    refine ⟨rfl, (k - 1, _, _), ⟨rfl, rfl, rfl, rfl, rfl, trivial⟩, ⟨rfl, rfl, trivial⟩, ⟨z197, by omega, by omega, by omega, hA, by rw [show ((k : Int) - 1).toNat = k - 1 by omega]; exact wd_zero_set (zeros_at (by omega) hz), by rw [show ((k : Int) - 1).toNat = k - 1 by omega]; exact Dg.set16 hdq hdf.1 hdf.2.1, by rw [show ((k : Int) - 1).toNat = k - 1 by omega]; exact quo_step (by omega) (zeros_at (by omega) hz) (by rw [show k - 1 + 1 = k by omega]; exact hinv) (by rw [show ((k - 1 : Nat) : Int) = (k : Int) - 1 by omega, ← hq173, hdf.2.2.2.2, hY])⟩, ?_⟩
    show k - 1 < k
    omega
   ·intro c172
    refine vnil ?_
    refine V.condF rfl ?_
    refine V.exit ?_
    refine V.seq (V.reg rfl ?_)
    refine mvs rfl ?_
    refine vo ?_
    have hrq := hA.rn (S := S) (hu _ (by omega))
    refine xcall e211 (rtrim_ok _ _ _ _ _ _ hrq) rfl rfl ?_
    rintro _ _ ⟨m1, rfl, hr1, hm1, rfl⟩
    refine ⟨_, rfl, ?_⟩
    refine mvi rfl ?_
    refine vo ?_
    refine xbs (ps := [(0, .int _ _)]) (cs := [.int _ _]) sl73 zr3 sz3 rfl rfl rfl rfl rfl rfl ?_
    intro W202 x203 b204 nn205
    have s206 := x203.sz
    have z207 := z171.trans x203
    replace hA := hA.ext x203
    refine vo ?_
    have hl208 := RN.lit (k := .i64) (xs := [_]) 1 b204 (by intro q hq; simp only [List.mem_cons, List.not_mem_nil, or_false] at hq; simp only [kb]; omega) ((hu.mono (show w.heap.size ≤ W165.heap.size by omega)) _ (Nat.le_refl _))
    refine xcall e211 (rtrim_ok _ _ _ _ _ _ hl208) rfl rfl ?_
    rintro _ _ ⟨m2, rfl, hr2, hm2, rfl⟩
    refine ⟨_, rfl, ?_⟩
    refine ass rfl ?_
    refine ass rfl ?_
    refine vnil ?_
    refine V.ret ?_
    refine ⟨[.slice _ _ _, .slice _ _ _], ⟨rfl, rfl, trivial⟩, ?_⟩
    have e0 : k = 0 := (by omega)
    subst e0
    have hdm := divmod_of (u := x) (v := y) (q := vl b16 qs) (r := r) (by rw [hinv]; simp [vl]) r0 r1
    exact ⟨_, _, _, _, _, _, rfl, z207, (hr1.ext x203).cast (by rw [← dg_vl (by decide) hdq, hdm.1]), hr2.cast (by rw [dg16_small r0 (by omega), hdm.2])⟩
  ·intro c164
   refine vnil ?_
   refine V.condF rfl ?_
   refine V.skip ?_
   refine V.seq (V.reg rfl ?_)
   refine ass rfl ?_
   refine vnil ?_
   refine V.seq ?_
   refine V.seq (V.reg rfl ?_)
   refine mvs rfl ?_
   refine vv (rlen sl73 rfl) ?_
   refine vv (rbin (bSub (wi (by omega))) rfl rfl) ?_
   refine asi rfl ?_
   refine vnil ?_
   refine V.block ?_
   refine V.loopK (ι := Nat × Int × List Int × Option Addr × Nat × Nat) [(0, .slice _ _ _), (1, .slice _ _ _), (4, .slice _ _ _), (5, .slice _ _ _), (6, .slice _ _ _)] (fun ⟨k, R, qs, ra, rn, rc⟩ => [(10, .int .i64 ((k : Int) - 1)), (9, .slice ra rn rc)]) (fun ⟨k, R, qs, ra, rn, rc⟩ W => Ext w W ∧ k ≤ n ∧ 0 ≤ R ∧ R < y ∧ AR .i64 W (w.heap.size) 3 n qs ∧ (∀ j : Nat, j < k → wd qs j = 0) ∧ Dg b16 qs ∧ RN .i64 (SX S [w.heap.size]) W ra rn rc (dg b16 R) ∧ x = vl b16 qs * y + b16 ^ k * R + vl b16 ((dg b16 x).take k)) (fun ⟨k, R, qs, ra, rn, rc⟩ => k) ((n, 0, _, _, _, _)) ⟨rfl, rfl, rfl, rfl, rfl, trivial⟩ ⟨rfl, rfl, trivial⟩ ⟨z163, Nat.le_refl _, by omega, by omega, q, fun j _ => wd_zeros _ _, Dg.zeros _, by rw [dg_zero]; exact RN.nil _ _ _ _ _ (by omega), by rw [vl_zeros, List.take_of_length_le (by omega), vl_dg (by decide) hx]; omega⟩ ?_
   intro i211 E212 W210 h213
   obtain ⟨k, R, qs, ra, rn, rc⟩ := i211
   simp only at h213
   show V _ _ _ _ _ _ (ups (ups _ _) [(10, .int .i64 ((k : Int) - 1)), (9, .slice ra rn rc)]) _
   obtain ⟨x214, hk, r0, r1, hA, hz, hdq, hR, hinv⟩ := h213
   have s215 := x214.sz
   have z216 := x214
   have lA := hA.len; have lbq := hA.box.lt
   have hRl := hR.len; have hRm := dg16_mono r0 (show R ≤ y by omega)
   refine V.seq ?_
   refine V.seq (V.reg rfl ?_)
   refine mvi rfl ?_
   refine vge rfl rfl ?_ ?_
   ·intro c217
    have hwb : 0 ≤ wd (dg b16 x) ((k : Int) - 1) ∧ wd (dg b16 x) ((k : Int) - 1) < 65536 := wd_dg (B := b16) (by decide) (Dg.dg (B := b16) (by decide) x) ((k : Int) - 1)
    refine vnil ?_
    refine V.condT rfl ?_
    refine V.skip ?_
    refine V.seq ?_
    refine V.block ?_
    refine V.seq (V.reg rfl ?_)
    refine mvs rfl ?_
    refine mvi rfl ?_
    refine vv (rixn (h.ext z216) sl73 sz3 rfl rfl (by omega) (by omega)) ?_
    refine vldN (h.ext z216) rfl sc3 (by omega) (by omega) ?_
    intro q218 hq218 hk219
    simp only [kb] at hk219
    refine vo ?_
    refine xbs (ps := [(0, .int _ _)]) (cs := [.int _ _]) sl73 zr3 sz3 rfl rfl rfl rfl rfl rfl ?_
    intro W220 x221 b222 nn223
    have s224 := x221.sz
    have z225 := z216.trans x221
    replace hA := hA.ext x221
    refine mvs rfl ?_
    refine vo ?_
    refine xappN sl73 in3 (OI.lit (B := W210.heap.size) (k := .i64) (xs := [_]) b222 (by intro q hq; simp only [List.mem_cons, List.not_mem_nil, or_false] at hq; simp only [kb]; omega) (by omega)) rfl rfl (hR.ext x221) (by simp only [List.length_cons, List.length_nil]; omega) (by decide) (by omega) ?_
    intro v226 W227 hO228 hg229 ho230
    have y231 := grown_below hg229 (by omega) (fun b e => ((OI.lit (B := W210.heap.size) (k := .i64) (xs := [_]) b222 (by intro q hq; simp only [List.mem_cons, List.not_mem_nil, or_false] at hq; simp only [kb]; omega) (by omega)).low b e).1)
    have s232 := y231.size
    have z233 := z225.below (y231.mono (by omega))
    replace hA := hA.bl y231 (by omega)
    refine vo ?_
    obtain ⟨a', c', rfl⟩ := hO228.form
    have hrn := hO228.rn (S := SX S [w.heap.size]) (fun b hb _ => (SX.up (hu.mono (show w.heap.size ≤ W210.heap.size by omega)) (by simp; omega) : Up (SX S [w.heap.size]) W210) b (by omega))
    refine xcall e211 (rtrim_ok _ _ _ _ _ _ hrn) rfl rfl ?_
    rintro _ _ ⟨m1, rfl, hr1, hm1, rfl⟩
    have hxq : 0 ≤ q218 ∧ q218 < 65536 := by rw [hq218]; exact hwb
    obtain ⟨T, hT⟩ : ∃ T, T = R * 65536 + q218 := ⟨_, rfl⟩
    replace hr1 : RN .i64 (SX S [w.heap.size]) _ _ _ _ (dg b16 T) := hr1.cast (by rw [hT]; exact dg16_cons hxq.1 hxq.2 r0)
    have hrl := hr1.len
    simp only [List.length_append, List.length_cons, List.length_nil] at hm1
    have hTb : 0 ≤ T ∧ T < 65536 * y := by rw [hT]; exact R_bd r0 r1 hxq.1 hxq.2
    refine ⟨_, rfl, ?_⟩
    refine ass rfl ?_
    refine vnil ?_
    refine V.seq (V.reg rfl ?_)
    refine asi rfl ?_
    refine asi rfl ?_
    refine vnil ?_
    refine V.seq ?_
    refine V.seq (V.reg rfl ?_)
    refine mvs rfl ?_
    refine vv (rlen sl73 rfl) ?_
    refine mvs rfl ?_
    refine vv (rlen sl73 rfl) ?_
    refine vlt rfl rfl ?_ ?_
    ·intro c235
     refine vnil ?_
     refine V.condT rfl ?_
     refine V.reg rfl ?_
     refine asi rfl ?_
     refine vnil ?_
     refine V.seq ?_
     refine V.block ?_
     refine V.loopK (ι := Int × Int) [(0, .slice _ _ _), (1, .slice _ _ _), (4, .slice _ _ _), (5, .slice _ _ _), (6, .slice _ _ _), (9, .slice _ _ _), (10, .int _ _), (75, .int _ _), (76, .bool true), (79, .slice _ _ _), (80, .int _ _), (81, .pointer _), (82, .int _ _), (83, .slice _ _ _), (84, .slice _ _ _), (85, .slice _ _ _), (86, .slice _ _ _), (87, .slice _ _ _), (88, .int _ _), (89, .slice _ _ _), (90, .int _ _), (91, .bool true)] (fun ⟨lo, hi⟩ => [(11, .int .i64 lo), (12, .int .i64 hi)]) (fun ⟨lo, hi⟩ W => Ext W227 W ∧ 0 ≤ lo ∧ lo < hi ∧ hi ≤ 65536 ∧ lo * y ≤ T ∧ T < hi * y) (fun ⟨lo, hi⟩ => (hi - lo).toNat) ((_, _)) ⟨rfl, rfl, rfl, rfl, rfl, rfl, rfl, rfl, rfl, rfl, rfl, rfl, rfl, rfl, rfl, rfl, rfl, rfl, rfl, rfl, rfl, rfl, trivial⟩ ⟨rfl, rfl, trivial⟩ ⟨Ext.refl _, by omega, by omega, by omega, by omega, by have := dg16_len_lt (by omega) hTb.1 (show (dg b16 T).length < (dg b16 y).length by omega); omega⟩ ?_
     intro i237 E238 W236 h239
     obtain ⟨lo, hi⟩ := i237
     simp only at h239
     show V _ _ _ _ _ _ (ups (ups _ _) [(11, .int .i64 lo), (12, .int .i64 hi)]) _
     obtain ⟨x240, lo0, lohi, hi1, lo2, hi2⟩ := h239
     have s241 := x240.sz
     have z242 := z233.trans x240
     have z243 := x240
     replace hA := hA.ext x240
     refine V.seq ?_
     refine V.seq (V.reg rfl ?_)
     refine mvi rfl ?_
     refine mvi rfl ?_
     refine vv (rbin (bSub (wi (by omega))) rfl rfl) ?_
     refine vgt rfl rfl ?_ ?_
     ·intro c244
      refine vnil ?_
      refine V.condT rfl ?_
      refine V.skip ?_
      refine V.block ?_
      refine V.seq (V.reg rfl ?_)
      refine mvi rfl ?_
      refine mvi rfl ?_
      refine vv (rbin (bAdd (wi (by omega))) rfl rfl) ?_
      refine vv (rbin (bQuo (by omega) (wiq (by rw [Int.tdiv_eq_ediv_of_nonneg (by omega)]; omega) (Int.tdiv_eq_ediv_of_nonneg (by omega)))) rfl rfl) ?_
      refine asi rfl ?_
      refine vnil ?_
      refine V.seq (V.reg rfl ?_)
      refine mvs rfl ?_
      refine mvi rfl ?_
      refine vo ?_
      refine xcall e215 (rtimes_ok _ _ _ _ _ (SX S [w.heap.size]) _ _ (h2.ext z242) (Dg.dg (by decide) _) (by omega) ⟨by omega, by omega⟩ (SX.up (hu.mono (by omega)) (by simp; omega))) rfl rfl ?_
      rintro _ W246 ⟨_, _, _, rfl, x247, hh245, hh245b⟩
      have s248 := x247.sz
      have z250 := z243.trans x247
      replace hA := hA.ext x247
      rw [vl_dg (by decide) (by omega : 0 ≤ y)] at hh245
      have hh245l := hh245.len
      refine ⟨_, rfl, ?_⟩
      refine mvs rfl ?_
      refine vo ?_
      refine xcall e202 (rcmp_ok _ _ _ _ _ _ _ _ _ _ _ hh245 (Dg.dg (by decide) _) (hr1.ext z250) (Dg.dg (by decide) _)) rfl rfl ?_
      rintro _ _ ⟨rfl, rfl⟩
      refine ⟨_, rfl, ?_⟩
      refine vle rfl rfl ?_ ?_
      ·intro hcm
       have hmy : 0 ≤ y * ((lo + hi) / 2) := Int.mul_nonneg (by omega) (by omega)
       rw [vl_dg (by decide) hmy, vl_dg (by decide) hTb.1] at hcm
       refine vnil ?_
       refine V.condT rfl ?_
       refine V.reg rfl ?_
       refine mvi rfl ?_
       refine asi rfl ?_
       refine vnil ?_
       refine ⟨rfl, (_, _), ⟨rfl, rfl, rfl, rfl, rfl, rfl, rfl, rfl, rfl, rfl, rfl, rfl, rfl, rfl, rfl, rfl, rfl, rfl, rfl, rfl, rfl, rfl, trivial⟩, ⟨rfl, rfl, trivial⟩, ⟨z250, by omega, by omega, by omega, bs_lo hcm, hi2⟩, ?_⟩
       show (hi - _).toNat < (hi - lo).toNat
       omega
      ·intro hcm
       have hmy : 0 ≤ y * ((lo + hi) / 2) := Int.mul_nonneg (by omega) (by omega)
       rw [vl_dg (by decide) hmy, vl_dg (by decide) hTb.1] at hcm
       refine vnil ?_
       refine V.condF rfl ?_
       refine V.reg rfl ?_
       refine mvi rfl ?_
       refine asi rfl ?_
       refine vnil ?_
       refine ⟨rfl, (_, _), ⟨rfl, rfl, rfl, rfl, rfl, rfl, rfl, rfl, rfl, rfl, rfl, rfl, rfl, rfl, rfl, rfl, rfl, rfl, rfl, rfl, rfl, rfl, trivial⟩, ⟨rfl, rfl, trivial⟩, ⟨z250, by omega, by omega, by omega, lo2, bs_hi hcm⟩, ?_⟩
       show (_ - lo).toNat < (hi - lo).toNat
       omega
     ·intro c244
      refine vnil ?_
      refine V.condF rfl ?_
      refine V.exit ?_
      refine V.reg rfl ?_
      refine mvs rfl ?_
      refine mvi rfl ?_
      refine mvi rfl ?_
      refine mvs rfl ?_
      refine mvs rfl ?_
      refine mvi rfl ?_
      refine vo ?_
      refine xcall e215 (rtimes_ok _ _ _ _ _ (SX S [w.heap.size]) _ _ (h2.ext z242) (Dg.dg (by decide) _) (by omega) ⟨by omega, by omega⟩ (SX.up (hu.mono (by omega)) (by simp; omega))) rfl rfl ?_
      rintro _ W253 ⟨_, _, _, rfl, x254, hh252, hh252b⟩
      have s255 := x254.sz
      have z256 := z242.trans x254
      have z257 := z243.trans x254
      replace hA := hA.ext x254
      rw [vl_dg (by decide) (by omega : 0 ≤ y)] at hh252
      have hh252l := hh252.len
      refine ⟨_, rfl, ?_⟩
      refine vo ?_
      refine xcall e203 (rsub_ok _ _ _ _ _ _ _ _ (SX S [w.heap.size]) _ _ _ (hr1.ext z257) (Dg.dg (by decide) _) hh252 (Int.mul_nonneg (by omega) lo0) (by rw [vl_dg (by decide) hTb.1, Int.mul_comm]; exact lo2) (by omega) (SX.up (hu.mono (by omega)) (by simp; omega))) rfl rfl ?_
      rintro _ W259 ⟨_, _, _, rfl, x260, hh258, hh258b⟩
      have s261 := x260.sz
      have z262 := z256.trans x260
      replace hA := hA.ext x260
      rw [vl_dg (by decide) hTb.1] at hh258
      have hh258l := hh258.len
      have hbe := bs_end (by omega) (by omega) hi2
      refine ⟨_, rfl, ?_⟩
      refine vv (rix sl73 sz3 rfl rfl (by omega) (by omega) rfl) ?_
      refine vo ?_
      refine xsti hA rfl rfl sz3 (by simp only [kb]; omega) (by omega) (by omega) ?_
      intro W264 y265 hA
      have z266 := z262.below (y265.below (by omega))
      have s267 := y265.size
      refine ass rfl ?_
      refine vnil ?_
      refine V.reg rfl ?_
      refine mvi rfl ?_
      refine vv (rbin (bSub (show IntKind.i64.wrap ((k : Int) - 1 - 1) = ((k - 1 : Nat) : Int) - 1 by rw [wi (by omega)]; omega)) rfl rfl) ?_
      refine asi rfl ?_
      refine vnil ?_
      refine ⟨rfl, (k - 1, _, _, _, _, _), ⟨rfl, rfl, rfl, rfl, rfl, trivial⟩, ⟨rfl, rfl, trivial⟩, ⟨z266, by omega, by rw [Int.mul_comm] at lo2; omega, by omega, hA, by rw [show ((k : Int) - 1).toNat = k - 1 by omega]; exact wd_zero_set (zeros_at (by omega) hz), by rw [show ((k : Int) - 1).toNat = k - 1 by omega]; exact Dg.set16 hdq lo0 (by omega), (hh258.ck (y265.ck (by intro hh; first | (simp [SX] at hh <;> omega) | omega))), by rw [show ((k : Int) - 1).toNat = k - 1 by omega]; exact quo_step (by omega) (zeros_at (by omega) hz) (by rw [show k - 1 + 1 = k by omega]; exact hinv) (by rw [show ((k - 1 : Nat) : Int) = (k : Int) - 1 by omega, ← hq218, Int.mul_comm y lo, hT])⟩, ?_⟩
      show k - 1 < k
      omega
    ·intro c235
     refine vnil ?_
     refine V.condF rfl ?_
     refine V.skip ?_
     refine V.seq ?_
     refine V.block ?_
     refine V.loopK (ι := Int × Int) [(0, .slice _ _ _), (1, .slice _ _ _), (4, .slice _ _ _), (5, .slice _ _ _), (6, .slice _ _ _), (9, .slice _ _ _), (10, .int _ _), (75, .int _ _), (76, .bool true), (79, .slice _ _ _), (80, .int _ _), (81, .pointer _), (82, .int _ _), (83, .slice _ _ _), (84, .slice _ _ _), (85, .slice _ _ _), (86, .slice _ _ _), (87, .slice _ _ _), (88, .int _ _), (89, .slice _ _ _), (90, .int _ _), (91, .bool false)] (fun ⟨lo, hi⟩ => [(11, .int .i64 lo), (12, .int .i64 hi)]) (fun ⟨lo, hi⟩ W => Ext W227 W ∧ 0 ≤ lo ∧ lo < hi ∧ hi ≤ 65536 ∧ lo * y ≤ T ∧ T < hi * y) (fun ⟨lo, hi⟩ => (hi - lo).toNat) ((_, _)) ⟨rfl, rfl, rfl, rfl, rfl, rfl, rfl, rfl, rfl, rfl, rfl, rfl, rfl, rfl, rfl, rfl, rfl, rfl, rfl, rfl, rfl, rfl, trivial⟩ ⟨rfl, rfl, trivial⟩ ⟨Ext.refl _, by omega, by omega, by omega, by omega, by omega⟩ ?_
     intro i269 E270 W268 h271
     obtain ⟨lo, hi⟩ := i269
     simp only at h271
     show V _ _ _ _ _ _ (ups (ups _ _) [(11, .int .i64 lo), (12, .int .i64 hi)]) _
     obtain ⟨x272, lo0, lohi, hi1, lo2, hi2⟩ := h271
     have s273 := x272.sz
     have z274 := z233.trans x272
     have z275 := x272
     replace hA := hA.ext x272
     refine V.seq ?_
     refine V.seq (V.reg rfl ?_)
     refine mvi rfl ?_
     refine mvi rfl ?_
     refine vv (rbin (bSub (wi (by omega))) rfl rfl) ?_
     refine vgt rfl rfl ?_ ?_
     ·intro c276
      refine vnil ?_
      refine V.condT rfl ?_
      refine V.skip ?_
      refine V.block ?_
      refine V.seq (V.reg rfl ?_)
      refine mvi rfl ?_
      refine mvi rfl ?_
      refine vv (rbin (bAdd (wi (by omega))) rfl rfl) ?_
      refine vv (rbin (bQuo (by omega) (wiq (by rw [Int.tdiv_eq_ediv_of_nonneg (by omega)]; omega) (Int.tdiv_eq_ediv_of_nonneg (by omega)))) rfl rfl) ?_
      refine asi rfl ?_
      refine vnil ?_
      refine V.seq (V.reg rfl ?_)
      refine mvs rfl ?_
      refine mvi rfl ?_
      refine vo ?_
      refine xcall e215 (rtimes_ok _ _ _ _ _ (SX S [w.heap.size]) _ _ (h2.ext z274) (Dg.dg (by decide) _) (by omega) ⟨by omega, by omega⟩ (SX.up (hu.mono (by omega)) (by simp; omega))) rfl rfl ?_
      rintro _ W278 ⟨_, _, _, rfl, x279, hh277, hh277b⟩
      have s280 := x279.sz
      have z282 := z275.trans x279
      replace hA := hA.ext x279
      rw [vl_dg (by decide) (by omega : 0 ≤ y)] at hh277
      have hh277l := hh277.len
      refine ⟨_, rfl, ?_⟩
      refine mvs rfl ?_
      refine vo ?_
      refine xcall e202 (rcmp_ok _ _ _ _ _ _ _ _ _ _ _ hh277 (Dg.dg (by decide) _) (hr1.ext z282) (Dg.dg (by decide) _)) rfl rfl ?_
      rintro _ _ ⟨rfl, rfl⟩
      refine ⟨_, rfl, ?_⟩
      refine vle rfl rfl ?_ ?_
      ·intro hcm
       have hmy : 0 ≤ y * ((lo + hi) / 2) := Int.mul_nonneg (by omega) (by omega)
       rw [vl_dg (by decide) hmy, vl_dg (by decide) hTb.1] at hcm
       refine vnil ?_
       refine V.condT rfl ?_
       refine V.reg rfl ?_
       refine mvi rfl ?_
       refine asi rfl ?_
       refine vnil ?_
       refine ⟨rfl, (_, _), ⟨rfl, rfl, rfl, rfl, rfl, rfl, rfl, rfl, rfl, rfl, rfl, rfl, rfl, rfl, rfl, rfl, rfl, rfl, rfl, rfl, rfl, rfl, trivial⟩, ⟨rfl, rfl, trivial⟩, ⟨z282, by omega, by omega, by omega, bs_lo hcm, hi2⟩, ?_⟩
       show (hi - _).toNat < (hi - lo).toNat
       omega
      ·intro hcm
       have hmy : 0 ≤ y * ((lo + hi) / 2) := Int.mul_nonneg (by omega) (by omega)
       rw [vl_dg (by decide) hmy, vl_dg (by decide) hTb.1] at hcm
       refine vnil ?_
       refine V.condF rfl ?_
       refine V.reg rfl ?_
       refine mvi rfl ?_
       refine asi rfl ?_
       refine vnil ?_
       refine ⟨rfl, (_, _), ⟨rfl, rfl, rfl, rfl, rfl, rfl, rfl, rfl, rfl, rfl, rfl, rfl, rfl, rfl, rfl, rfl, rfl, rfl, rfl, rfl, rfl, rfl, trivial⟩, ⟨rfl, rfl, trivial⟩, ⟨z282, by omega, by omega, by omega, lo2, bs_hi hcm⟩, ?_⟩
       show (_ - lo).toNat < (hi - lo).toNat
       omega
     ·intro c276
      refine vnil ?_
      refine V.condF rfl ?_
      refine V.exit ?_
      refine V.reg rfl ?_
      refine mvs rfl ?_
      refine mvi rfl ?_
      refine mvi rfl ?_
      refine mvs rfl ?_
      refine mvs rfl ?_
      refine mvi rfl ?_
      refine vo ?_
      refine xcall e215 (rtimes_ok _ _ _ _ _ (SX S [w.heap.size]) _ _ (h2.ext z274) (Dg.dg (by decide) _) (by omega) ⟨by omega, by omega⟩ (SX.up (hu.mono (by omega)) (by simp; omega))) rfl rfl ?_
      rintro _ W285 ⟨_, _, _, rfl, x286, hh284, hh284b⟩
      have s287 := x286.sz
      have z288 := z274.trans x286
      have z289 := z275.trans x286
      replace hA := hA.ext x286
      rw [vl_dg (by decide) (by omega : 0 ≤ y)] at hh284
      have hh284l := hh284.len
      refine ⟨_, rfl, ?_⟩
      refine vo ?_
      refine xcall e203 (rsub_ok _ _ _ _ _ _ _ _ (SX S [w.heap.size]) _ _ _ (hr1.ext z289) (Dg.dg (by decide) _) hh284 (Int.mul_nonneg (by omega) lo0) (by rw [vl_dg (by decide) hTb.1, Int.mul_comm]; exact lo2) (by omega) (SX.up (hu.mono (by omega)) (by simp; omega))) rfl rfl ?_
      rintro _ W291 ⟨_, _, _, rfl, x292, hh290, hh290b⟩
      have s293 := x292.sz
      have z294 := z288.trans x292
      replace hA := hA.ext x292
      rw [vl_dg (by decide) hTb.1] at hh290
      have hh290l := hh290.len
      have hbe := bs_end (by omega) (by omega) hi2
      refine ⟨_, rfl, ?_⟩
      refine vv (rix sl73 sz3 rfl rfl (by omega) (by omega) rfl) ?_
      refine vo ?_
      refine xsti hA rfl rfl sz3 (by simp only [kb]; omega) (by omega) (by omega) ?_
      intro W296 y297 hA
      have z298 := z294.below (y297.below (by omega))
      have s299 := y297.size
      refine ass rfl ?_
      refine vnil ?_
      refine V.reg rfl ?_
      refine mvi rfl ?_
      refine vv (rbin (bSub (show IntKind.i64.wrap ((k : Int) - 1 - 1) = ((k - 1 : Nat) : Int) - 1 by rw [wi (by omega)]; omega)) rfl rfl) ?_
      refine asi rfl ?_
      refine vnil ?_
      refine ⟨rfl, (k - 1, _, _, _, _, _), ⟨rfl, rfl, rfl, rfl, rfl, trivial⟩, ⟨rfl, rfl, trivial⟩, ⟨z298, by omega, by rw [Int.mul_comm] at lo2; omega, by omega, hA, by rw [show ((k : Int) - 1).toNat = k - 1 by omega]; exact wd_zero_set (zeros_at (by omega) hz), by rw [show ((k : Int) - 1).toNat = k - 1 by omega]; exact Dg.set16 hdq lo0 (by omega), (hh290.ck (y297.ck (by intro hh; first | (simp [SX] at hh <;> omega) | omega))), by rw [show ((k : Int) - 1).toNat = k - 1 by omega]; exact quo_step (by omega) (zeros_at (by omega) hz) (by rw [show k - 1 + 1 = k by omega]; exact hinv) (by rw [show ((k - 1 : Nat) : Int) = (k : Int) - 1 by omega, ← hq218, Int.mul_comm y lo, hT])⟩, ?_⟩
      show k - 1 < k
      omega
   ·intro c217
    refine vnil ?_
    refine V.condF rfl ?_
    refine V.exit ?_
    refine V.seq (V.reg rfl ?_)
    refine mvs rfl ?_
    refine vo ?_
    have hrq := hA.rn (S := S) (hu _ (by omega))
    refine xcall e211 (rtrim_ok _ _ _ _ _ _ hrq) rfl rfl ?_
    rintro _ _ ⟨m1, rfl, hr1, hm1, rfl⟩
    refine ⟨_, rfl, ?_⟩
    refine mvs rfl ?_
    refine ass rfl ?_
    refine ass rfl ?_
    refine vnil ?_
    refine V.ret ?_
    refine ⟨[.slice _ _ _, .slice _ _ _], ⟨rfl, rfl, trivial⟩, ?_⟩
    have e0 : k = 0 := (by omega)
    subst e0
    have hdm := divmod_of (u := x) (v := y) (q := vl b16 qs) (r := R) (by rw [hinv]; simp [vl]) r0 r1
    exact ⟨_, _, _, _, _, _, rfl, z216, hr1.cast (by rw [← dg_vl (by decide) hdq, hdm.1]), (hR).un.cast (by rw [hdm.2])⟩
end Go.Proofs.YtknbjfefeeojlaaGreat
/- Package pylonref01: the operations on integers. -/
namespace Go.Proofs.YtknbjfefeeojlaaGreat
open Go.RowKit
attribute [local irreducible] RV VH V OpF Calls
theorem ifn_mul (n1 n2 : Bool) (u v : Int) : (if (!(n1 == n2)) then -(u * v) else u * v) = (if n1 then -u else u) * (if n2 then -v else v) := by
  cases n1 <;> cases n2 <;> simp [Int.neg_mul, Int.mul_neg]
theorem ifn_neg (n : Bool) (u : Int) : (if (!n) then -u else u) = -(if n then -u else u) := by cases n <;> simp
theorem ifn_add (n1 n2 : Bool) (u v : Int) (h : (n1 == n2) = true) : (if n1 then -(u + v) else u + v) = (if n1 then -u else u) + (if n2 then -v else v) := by
  have : n1 = n2 := by simpa using h
  subst this; cases n1 <;> simp; omega
theorem ifn_sub1 (n1 n2 : Bool) (u v : Int) (h : (n1 == n2) = false) : (if n1 then -(u - v) else u - v) = (if n1 then -u else u) + (if n2 then -v else v) := by
  cases n1 <;> cases n2 <;> simp_all <;> omega
theorem ifn_sub2 (n1 n2 : Bool) (u v : Int) (h : (n1 == n2) = false) : (if n2 then -(v - u) else v - u) = (if n1 then -u else u) + (if n2 then -v else v) := by
  cases n1 <;> cases n2 <;> simp_all <;> omega
theorem ifn_abs (n : Bool) {u : Int} (h : 0 ≤ u) : (((if n then -u else u).natAbs : Nat) : Int) = u := by cases n <;> simp <;> omega
theorem cmpI_ge {u v : Int} (h : 0 ≤ cmpI u v) : v ≤ u := by unfold cmpI at h; (repeat' split at h) <;> omega
theorem cmpI_lt0 {u v : Int} (h : cmpI u v < 0) : u < v := by unfold cmpI at h; (repeat' split at h) <;> omega
theorem cmpI_zero {u v : Int} : cmpI u v = 0 ↔ u = v := by unfold cmpI; (repeat' split) <;> omega
theorem cmpZ_ne {x y : Int} (h : sg x ≠ sg y) : x ≠ y := fun e => h (by rw [e])
theorem cmpZ_eq (n1 n2 : Bool) {u v : Int} (hu : 0 ≤ u) (hv : 0 ≤ v) (h : sg (if n1 then -u else u) = sg (if n2 then -v else v)) : u = v ↔ (if n1 then -u else u) = (if n2 then -v else v) := by
  unfold sg at h
  cases n1 <;> cases n2 <;> simp at h ⊢ <;> (repeat' split at h) <;> omega

set_option maxHeartbeats 400000 in
theorem rSign_ok (n1 : Bool) (a1 : Option Addr) (l1 c1 : Nat) (z1 : Int) (L1 : Nat) (S1 : Nat → Prop) (w : World) (h1 : ZA L1 S1 w n1 a1 l1 c1 z1) (hL1 : L1 ≤ LX / 64) :
    Calls Tryz.prog 172 #[.agg #[.bool n1, .slice a1 l1 c1]] w (fun e w' => e = .returned (.int .i64 (sg z1)) ∧ Ext w w') := by
 have z0 := Ext.refl w; have hLX : LX = 17592186044416 := rfl; have hLY : LY = 8796093022208 := rfl
 obtain ⟨xs, hx, hq1, rfl⟩ := h1; have hv1 := vl_nonneg (B := b32) (by decide) hx.dg32
 refine enter (args := [.agg #[.bool n1, .slice a1 l1 c1]]) Tryz.func172 rfl rfl (Nat.le_of_ble_eq_true rfl) ?_
 refine V.seq (V.reg rfl ?_)
 refine vo ?_
 refine bxa rfl ?_
 intro W1 x2 b3 nn4
 have s5 := x2.sz
 have z6 := x2
 refine asi rfl ?_
 refine vnil ?_
 refine V.seq ?_
 refine V.seq (V.reg rfl ?_)
 refine vv (rfa rfl fd46_1) ?_
 refine vv (rldb (v := .slice _ _ _) rfl sc44 b3 rfl) ?_
 refine vo ?_
 refine xcall e198 (halves_ok _ _ _ _ _ _ _ (hx.ext z6) (by omega) (TT.up _)) rfl rfl ?_
 rintro _ W8 ⟨_, _, _, rfl, x9, hh7, hh7n⟩
 have s10 := x9.sz
 have z11 := z6.trans x9
 replace b3 := b3.ext x9
 refine ⟨_, rfl, ?_⟩
 refine vv (rlen sl73 rfl) ?_
 refine veq rfl rfl ?_ ?_
 ·intro c12
  refine vnil ?_
  refine V.condT rfl ?_
  refine V.seq (V.reg rfl ?_)
  refine asi rfl ?_
  refine vnil ?_
  refine V.ret ?_
  refine ⟨[.int _ _], ⟨rfl, trivial⟩, ?_⟩
  refine ⟨?_, z11⟩
  rw [← sg_of (neg := n1) hv1 (dg16_pos hv1 hh7.len) (s := 0) (by first | exact .inl ⟨by omega, rfl⟩ | exact .inr (.inl ⟨by omega, cn, rfl⟩) | exact .inr (.inr ⟨by omega, cn, rfl⟩))]; rfl
 ·intro c12
  refine vnil ?_
  refine V.condF rfl ?_
  refine V.skip ?_
  refine V.seq ?_
  refine V.seq (V.reg rfl ?_)
  refine vv (rfa rfl fd46_0) ?_
  refine vv (rldb (v := .bool _) rfl sc4 b3 rfl) ?_
  refine vnil ?_
  refine V.condB rfl ?_ ?_
  ·intro cn
   refine V.seq (V.reg rfl ?_)
   refine asi rfl ?_
   refine vnil ?_
   refine V.ret ?_
   refine ⟨[.int _ _], ⟨rfl, trivial⟩, ?_⟩
   refine ⟨?_, z11⟩
   rw [← sg_of (neg := n1) hv1 (dg16_pos hv1 hh7.len) (s := -1) (by first | exact .inl ⟨by omega, rfl⟩ | exact .inr (.inl ⟨by omega, cn, rfl⟩) | exact .inr (.inr ⟨by omega, cn, rfl⟩))]; rfl
  ·intro cn
   refine V.skip ?_
   refine V.seq (V.reg rfl ?_)
   refine asi rfl ?_
   refine vnil ?_
   refine V.ret ?_
   refine ⟨[.int _ _], ⟨rfl, trivial⟩, ?_⟩
   refine ⟨?_, z11⟩
   rw [← sg_of (neg := n1) hv1 (dg16_pos hv1 hh7.len) (s := 1) (by first | exact .inl ⟨by omega, rfl⟩ | exact .inr (.inl ⟨by omega, cn, rfl⟩) | exact .inr (.inr ⟨by omega, cn, rfl⟩))]; rfl
set_option maxHeartbeats 400000 in
theorem rNeg_ok (n1 : Bool) (a1 : Option Addr) (l1 c1 : Nat) (z1 : Int) (L1 : Nat) (S S1 : Nat → Prop) (w : World) (h1 : ZA L1 S1 w n1 a1 l1 c1 z1) (hL1 : L1 ≤ LX / 64) (hu : Up S w) :
    Calls Tryz.prog 166 #[.agg #[.bool n1, .slice a1 l1 c1]] w (PZ S (-z1) w) := by
 have z0 := Ext.refl w; have hLX : LX = 17592186044416 := rfl; have hLY : LY = 8796093022208 := rfl
 obtain ⟨xs, hx, hq1, rfl⟩ := h1; have hv1 := vl_nonneg (B := b32) (by decide) hx.dg32
 have hu2 : ∀ W : World, w.heap.size + 2 ≤ W.heap.size → Up (SX S [w.heap.size + 1]) W := fun W hW => SX.up (hu.mono (by omega)) (by simp <;> omega)
 refine enter (args := [.agg #[.bool n1, .slice a1 l1 c1]]) Tryz.func166 rfl rfl (Nat.le_of_ble_eq_true rfl) ?_
 refine V.seq (V.reg rfl ?_)
 refine vo ?_
 refine bxa rfl ?_
 intro W1 x2 b3 nn4
 have s5 := x2.sz
 have z6 := x2
 refine vo ?_
 refine xal zc46 ?_
 intro W7 x8 b9 nn10
 have s11 := x8.sz
 have z12 := z6.trans x8
 replace b3 := b3.ext x8
 refine vnil ?_
 refine V.seq (V.regD mixed rfl ?_)
 intro W13 x14
 have s15 := x14.sz
 have z16 := z12.trans x14
 replace b3 := b3.ext x14
 replace b9 := b9.ext x14
 have q17 := Ext.refl W13
 have r18 := b3
 have r19 := b9
 refine tk 0 rfl (by kernel_rfl) q17 (pv (fun _ y20 => rfa rfl fd46_0)) ?_
 refine tk 1 rfl (by kernel_rfl) q17 (pv (fun _ y21 => rldb (v := .bool _) rfl sc4 (r18.ext y21) rfl)) ?_
 refine tk 2 rfl (by kernel_rfl) q17 (pv (fun _ y22 => rnot (q := _) rfl rfl)) ?_
 refine tk 3 rfl (by kernel_rfl) q17 (pv (fun _ y23 => rfa rfl fd46_1)) ?_
 refine tk 4 rfl (by kernel_rfl) q17 (pv (fun _ y24 => rldb (v := .slice _ _ _) rfl sc44 (r18.ext y24) rfl)) ?_
 refine ef 5 (by kernel_rfl) rfl ?_
 refine xcall e198 (halves_ok _ _ _ _ _ _ _ (hx.ext z16) (by omega) (TT.up _)) rfl rfl ?_
 rintro _ W26 ⟨_, _, _, rfl, x27, hh25, hh25n⟩
 have s28 := x27.sz
 have z29 := z16.trans x27
 replace b9 := b9.ext x27
 have q30 := q17.trans x27
 refine ⟨_, rfl, ?_⟩
 refine ⟨fun _ => q30, ?_⟩
 refine ef 6 (by kernel_rfl) rfl ?_
 refine xcall e197 (rof_ok _ _ _ _ _ _ _ _ hh25 (Dg.dg (by decide) _) (by omega) (hu2 _ (by omega))) rfl rfl ?_
 rintro _ W32 ⟨_, _, _, _, rfl, x33, hz31⟩
 have s34 := x33.sz
 have z35 := z29.trans x33
 replace b9 := b9.ext x33
 have q36 := q30.trans x33
 refine ⟨_, rfl, ?_⟩
 refine ⟨fun _ => q36, ?_⟩
 refine ef 7 (by kernel_rfl) rfl ?_
 refine sta (cs' := [_, _]) b9 rfl rfl sz46 rfl rfl rfl ?_
 intro W37 y38 b9
 have z39 := z35.below (y38.below (by omega))
 have s40 := y38.size
 refine lastT (by kernel_rfl) ?_
 refine dn (by kernel_rfl) ?_
 refine V.ret ?_
 refine ⟨[_], ⟨⟨_, rfl, lvb ag46 b9 rfl⟩, trivial⟩, ?_⟩
 exact ⟨_, _, _, _, rfl, z39, ((hz31.ck (y38.ck (by intro hh; first | (simp [SX] at hh <;> omega) | omega)))).un.cast (by rw [vl_dg (by decide) hv1, ifn_neg])⟩
set_option maxHeartbeats 400000 in
theorem rAbs_ok (n1 : Bool) (a1 : Option Addr) (l1 c1 : Nat) (z1 : Int) (L1 : Nat) (S S1 : Nat → Prop) (w : World) (h1 : ZA L1 S1 w n1 a1 l1 c1 z1) (hL1 : L1 ≤ LX / 64) (hu : Up S w) :
    Calls Tryz.prog 195 #[.agg #[.bool n1, .slice a1 l1 c1]] w (PZ S (z1.natAbs : Int) w) := by
 have z0 := Ext.refl w; have hLX : LX = 17592186044416 := rfl; have hLY : LY = 8796093022208 := rfl
 obtain ⟨xs, hx, hq1, rfl⟩ := h1; have hv1 := vl_nonneg (B := b32) (by decide) hx.dg32
 have hu2 : ∀ W : World, w.heap.size + 2 ≤ W.heap.size → Up (SX S [w.heap.size + 1]) W := fun W hW => SX.up (hu.mono (by omega)) (by simp <;> omega)
 refine enter (args := [.agg #[.bool n1, .slice a1 l1 c1]]) Tryz.func195 rfl rfl (Nat.le_of_ble_eq_true rfl) ?_
 refine V.seq (V.reg rfl ?_)
 refine vo ?_
 refine bxa rfl ?_
 intro W1 x2 b3 nn4
 have s5 := x2.sz
 have z6 := x2
 refine vo ?_
 refine xal zc46 ?_
 intro W7 x8 b9 nn10
 have s11 := x8.sz
 have z12 := z6.trans x8
 replace b3 := b3.ext x8
 refine vnil ?_
 refine V.seq (V.reg rfl ?_)
 refine vv (rfa rfl fd46_1) ?_
 refine vv (rldb (v := .slice _ _ _) rfl sc44 b3 rfl) ?_
 refine vo ?_
 refine xcall e198 (halves_ok _ _ _ _ _ _ _ (hx.ext z12) (by omega) (TT.up _)) rfl rfl ?_
 rintro _ W14 ⟨_, _, _, rfl, x15, hh13, hh13n⟩
 have s16 := x15.sz
 have z17 := z12.trans x15
 replace b9 := b9.ext x15
 refine ⟨_, rfl, ?_⟩
 refine vo ?_
 refine xcall e197 (rof_ok _ _ _ _ _ _ _ _ hh13 (Dg.dg (by decide) _) (by omega) (hu2 _ (by omega))) rfl rfl ?_
 rintro _ W19 ⟨_, _, _, _, rfl, x20, hz18⟩
 have s21 := x20.sz
 have z22 := z17.trans x20
 replace b9 := b9.ext x20
 refine ⟨_, rfl, ?_⟩
 refine vo ?_
 refine sta (cs' := [_, _]) b9 rfl rfl sz46 rfl rfl rfl ?_
 intro W23 y24 b9
 have z25 := z22.below (y24.below (by omega))
 have s26 := y24.size
 refine vnil ?_
 refine V.ret ?_
 refine ⟨[_], ⟨⟨_, rfl, lvb ag46 b9 rfl⟩, trivial⟩, ?_⟩
 exact ⟨_, _, _, _, rfl, z25, ((hz18.ck (y24.ck (by intro hh; first | (simp [SX] at hh <;> omega) | omega)))).un.cast (by rw [vl_dg (by decide) hv1, ifn_abs n1 hv1]; rfl)⟩

theorem rLeastZ_ok (n1 : Bool) (a1 : Option Addr) (l1 c1 : Nat) (z1 : Int) (L1 : Nat) (S S1 : Nat → Prop) (w : World) (h1 : ZA L1 S1 w n1 a1 l1 c1 z1) (hL1 : L1 ≤ LX / 64) (hu : Up S w) : Calls Tryz.prog 194 #[.agg #[.bool n1, .slice a1 l1 c1]] w (PZ S z1 w) := by
  obtain ⟨xs, hx, hq1, rfl⟩ := h1
  have hLX : LX = 17592186044416 := rfl
  exact rLeast_ok _ _ _ _ _ _ _ w hx (by omega) hu

set_option maxHeartbeats 400000 in
theorem rMulZ_ok (n1 : Bool) (a1 : Option Addr) (l1 c1 : Nat) (z1 : Int) (L1 : Nat) (n2 : Bool) (a2 : Option Addr) (l2 c2 : Nat) (z2 : Int) (L2 : Nat) (S S1 S2 : Nat → Prop) (w : World) (h1 : ZA L1 S1 w n1 a1 l1 c1 z1) (hL1 : L1 ≤ LX / 64) (h2 : ZA L2 S2 w n2 a2 l2 c2 z2) (hL2 : L2 ≤ LX / 64) (hu : Up S w) :
    Calls Tryz.prog 173 #[.agg #[.bool n1, .slice a1 l1 c1], .agg #[.bool n2, .slice a2 l2 c2]] w (PZ S (z1 * z2) w) := by
 have z0 := Ext.refl w; have hLX : LX = 17592186044416 := rfl; have hLY : LY = 8796093022208 := rfl
 obtain ⟨xs, hx, hq1, rfl⟩ := h1; have hv1 := vl_nonneg (B := b32) (by decide) hx.dg32
 obtain ⟨ys, hy, hq2, rfl⟩ := h2; have hv2 := vl_nonneg (B := b32) (by decide) hy.dg32
 have hu2 : ∀ W : World, w.heap.size + 3 ≤ W.heap.size → Up (SX S [w.heap.size + 2]) W := fun W hW => SX.up (hu.mono (by omega)) (by simp <;> omega)
 have hvm := Int.mul_nonneg hv1 hv2
 refine enter (args := [.agg #[.bool n1, .slice a1 l1 c1], .agg #[.bool n2, .slice a2 l2 c2]]) Tryz.func173 rfl rfl (Nat.le_of_ble_eq_true rfl) ?_
 refine V.seq (V.reg rfl ?_)
 refine vo ?_
 refine bxa rfl ?_
 intro W1 x2 b3 nn4
 have s5 := x2.sz
 have z6 := x2
 refine vo ?_
 refine bxa rfl ?_
 intro W7 x8 b9 nn10
 have s11 := x8.sz
 have z12 := z6.trans x8
 replace b3 := b3.ext x8
 refine vo ?_
 refine xal zc46 ?_
 intro W13 x14 b15 nn16
 have s17 := x14.sz
 have z18 := z12.trans x14
 replace b3 := b3.ext x14
 replace b9 := b9.ext x14
 refine vnil ?_
 refine V.seq (V.regD mixed rfl ?_)
 intro W19 x20
 have s21 := x20.sz
 have z22 := z18.trans x20
 replace b3 := b3.ext x20
 replace b9 := b9.ext x20
 replace b15 := b15.ext x20
 have q23 := Ext.refl W19
 have r24 := b3
 have r25 := b9
 have r26 := b15
 refine tk 0 rfl (by kernel_rfl) q23 (pv (fun _ y27 => rfa rfl fd46_0)) ?_
 refine tk 1 rfl (by kernel_rfl) q23 (pv (fun _ y28 => rldb (v := .bool _) rfl sc4 (r24.ext y28) rfl)) ?_
 refine tk 2 rfl (by kernel_rfl) q23 (pv (fun _ y29 => rfa rfl fd46_0)) ?_
 refine tk 3 rfl (by kernel_rfl) q23 (pv (fun _ y30 => rldb (v := .bool _) rfl sc4 (r25.ext y30) rfl)) ?_
 refine tk 4 rfl (by kernel_rfl) q23 (pv (fun _ y31 => rbne Tryz.underlying4 rfl rfl rfl)) ?_
 refine tk 5 rfl (by kernel_rfl) q23 (pv (fun _ y32 => rfa rfl fd46_1)) ?_
 refine tk 6 rfl (by kernel_rfl) q23 (pv (fun _ y33 => rldb (v := .slice _ _ _) rfl sc44 (r24.ext y33) rfl)) ?_
 refine tk 8 rfl (by kernel_rfl) q23 (pv (fun _ y34 => rfa rfl fd46_1)) ?_
 refine tk 9 rfl (by kernel_rfl) q23 (pv (fun _ y35 => rldb (v := .slice _ _ _) rfl sc44 (r25.ext y35) rfl)) ?_
 refine ef 7 (by kernel_rfl) rfl ?_
 refine xcall e198 (halves_ok _ _ _ _ _ _ _ (hx.ext z22) (by omega) (TT.up _)) rfl rfl ?_
 rintro _ W37 ⟨_, _, _, rfl, x38, hh36, hh36n⟩
 have s39 := x38.sz
 have z40 := z22.trans x38
 replace b15 := b15.ext x38
 have q41 := q23.trans x38
 refine ⟨_, rfl, ?_⟩
 refine ⟨fun _ => q41, ?_⟩
 refine ef 10 (by kernel_rfl) rfl ?_
 refine xcall e198 (halves_ok _ _ _ _ _ _ _ (hy.ext z40) (by omega) (TT.up _)) rfl rfl ?_
 rintro _ W43 ⟨_, _, _, rfl, x44, hh42, hh42n⟩
 have s45 := x44.sz
 have z46 := z40.trans x44
 replace b15 := b15.ext x44
 have q47 := q41.trans x44
 refine ⟨_, rfl, ?_⟩
 refine ⟨fun _ => q47, ?_⟩
 refine ef 11 (by kernel_rfl) rfl ?_
 refine xcall e200 (rmul_ok _ _ _ _ _ _ _ _ TT _ _ _ (hh36.ext x44) (Dg.dg (by decide) _) hh42 (Dg.dg (by decide) _) (by omega) (by omega) (TT.up _)) rfl rfl ?_
 rintro _ W49 ⟨_, _, _, rfl, x50, hh48⟩
 have s51 := x50.sz
 have z52 := z46.trans x50
 replace b15 := b15.ext x50
 have q53 := q47.trans x50
 rw [vl_dg (by decide) hv1, vl_dg (by decide) hv2] at hh48
 have hml := (dg16_len (v := vl b32 xs * vl b32 ys) (pow16_prod hv1 hv2 (hlen16 (by omega) (hh36.ext x44).len) (hlen16 (by omega) hh42.len)).2); have hml2 := hh48.len
 refine ⟨_, rfl, ?_⟩
 refine ⟨fun _ => q53, ?_⟩
 refine ef 12 (by kernel_rfl) rfl ?_
 refine xcall e197 (rof_ok _ _ _ _ _ _ _ _ hh48 (Dg.dg (by decide) _) (by omega) (hu2 _ (by omega))) rfl rfl ?_
 rintro _ W55 ⟨_, _, _, _, rfl, x56, hz54⟩
 have s57 := x56.sz
 have z58 := z52.trans x56
 replace b15 := b15.ext x56
 have q59 := q53.trans x56
 refine ⟨_, rfl, ?_⟩
 refine ⟨fun _ => q59, ?_⟩
 refine ef 13 (by kernel_rfl) rfl ?_
 refine sta (cs' := [_, _]) b15 rfl rfl sz46 rfl rfl rfl ?_
 intro W60 y61 b15
 have z62 := z58.below (y61.below (by omega))
 have s63 := y61.size
 refine lastT (by kernel_rfl) ?_
 refine dn (by kernel_rfl) ?_
 refine V.ret ?_
 refine ⟨[_], ⟨⟨_, rfl, lvb ag46 b15 rfl⟩, trivial⟩, ?_⟩
 exact ⟨_, _, _, _, rfl, z62, ((hz54.ck (y61.ck (by intro hh; first | (simp [SX] at hh <;> omega) | omega)))).un.cast (by rw [vl_dg (by decide) hvm, ifn_mul])⟩
set_option maxHeartbeats 400000 in
theorem rAddZ_ok (n1 : Bool) (a1 : Option Addr) (l1 c1 : Nat) (z1 : Int) (L1 : Nat) (n2 : Bool) (a2 : Option Addr) (l2 c2 : Nat) (z2 : Int) (L2 : Nat) (S S1 S2 : Nat → Prop) (w : World) (h1 : ZA L1 S1 w n1 a1 l1 c1 z1) (hL1 : L1 ≤ LX / 64) (h2 : ZA L2 S2 w n2 a2 l2 c2 z2) (hL2 : L2 ≤ LX / 64) (hu : Up S w) :
    Calls Tryz.prog 174 #[.agg #[.bool n1, .slice a1 l1 c1], .agg #[.bool n2, .slice a2 l2 c2]] w (PZ S (z1 + z2) w) := by
 have z0 := Ext.refl w; have hLX : LX = 17592186044416 := rfl; have hLY : LY = 8796093022208 := rfl
 obtain ⟨xs, hx, hq1, rfl⟩ := h1; have hv1 := vl_nonneg (B := b32) (by decide) hx.dg32
 obtain ⟨ys, hy, hq2, rfl⟩ := h2; have hv2 := vl_nonneg (B := b32) (by decide) hy.dg32
 have hu2 : ∀ W : World, w.heap.size + 3 ≤ W.heap.size → Up (SX S [w.heap.size + 2]) W := fun W hW => SX.up (hu.mono (by omega)) (by simp <;> omega)
 refine enter (args := [.agg #[.bool n1, .slice a1 l1 c1], .agg #[.bool n2, .slice a2 l2 c2]]) Tryz.func174 rfl rfl (Nat.le_of_ble_eq_true rfl) ?_
 refine V.seq (V.reg rfl ?_)
 refine vo ?_
 refine bxa rfl ?_
 intro W1 x2 b3 nn4
 have s5 := x2.sz
 have z6 := x2
 refine vo ?_
 refine bxa rfl ?_
 intro W7 x8 b9 nn10
 have s11 := x8.sz
 have z12 := z6.trans x8
 replace b3 := b3.ext x8
 refine vo ?_
 refine xal zc46 ?_
 intro W13 x14 b15 nn16
 have s17 := x14.sz
 have z18 := z12.trans x14
 replace b3 := b3.ext x14
 replace b9 := b9.ext x14
 refine vnil ?_
 refine V.seq (V.regD mixed rfl ?_)
 intro W19 x20
 have s21 := x20.sz
 have z22 := z18.trans x20
 replace b3 := b3.ext x20
 replace b9 := b9.ext x20
 replace b15 := b15.ext x20
 have q23 := Ext.refl W19
 have r24 := b3
 have r25 := b9
 have r26 := b15
 refine tk 0 rfl (by kernel_rfl) q23 (pv (fun _ y27 => rfa rfl fd46_1)) ?_
 refine tk 1 rfl (by kernel_rfl) q23 (pv (fun _ y28 => rldb (v := .slice _ _ _) rfl sc44 (r24.ext y28) rfl)) ?_
 refine tk 3 rfl (by kernel_rfl) q23 (pv (fun _ y29 => rfa rfl fd46_1)) ?_
 refine tk 4 rfl (by kernel_rfl) q23 (pv (fun _ y30 => rldb (v := .slice _ _ _) rfl sc44 (r25.ext y30) rfl)) ?_
 refine ef 2 (by kernel_rfl) rfl ?_
 refine xcall e198 (halves_ok _ _ _ _ _ _ _ (hx.ext z22) (by omega) (TT.up _)) rfl rfl ?_
 rintro _ W32 ⟨_, _, _, rfl, x33, hh31, hh31n⟩
 have s34 := x33.sz
 have z35 := z22.trans x33
 replace b3 := b3.ext x33
 replace b9 := b9.ext x33
 replace b15 := b15.ext x33
 have q36 := q23.trans x33
 refine ⟨_, rfl, ?_⟩
 refine ⟨fun _ => q36, ?_⟩
 refine ef 5 (by kernel_rfl) rfl ?_
 refine xcall e198 (halves_ok _ _ _ _ _ _ _ (hy.ext z35) (by omega) (TT.up _)) rfl rfl ?_
 rintro _ W38 ⟨_, _, _, rfl, x39, hh37, hh37n⟩
 have s40 := x39.sz
 have z41 := z35.trans x39
 replace b3 := b3.ext x39
 replace b9 := b9.ext x39
 replace b15 := b15.ext x39
 have q42 := q36.trans x39
 refine ⟨_, rfl, ?_⟩
 refine ⟨fun _ => q42, ?_⟩
 refine tk 6 rfl (by kernel_rfl) q42 (pv (fun _ y43 => ras (v := .slice _ _ _) rfl)) ?_
 refine tk 7 rfl (by kernel_rfl) q42 (pv (fun _ y44 => ras (v := .slice _ _ _) rfl)) ?_
 refine dn (by kernel_rfl) ?_
 refine V.seq ?_
 refine V.seq (V.reg rfl ?_)
 refine vv (rfa rfl fd46_0) ?_
 refine vv (rldb (v := .bool _) rfl sc4 b3 rfl) ?_
 refine vv (rfa rfl fd46_0) ?_
 refine vv (rldb (v := .bool _) rfl sc4 b9 rfl) ?_
 refine vv (rbeq Tryz.underlying4 rfl rfl rfl) ?_
 refine vnil ?_
 refine V.condB rfl ?_ ?_
 ·intro cn
  refine V.seq (V.regD mixed rfl ?_)
  intro W45 x46
  have s47 := x46.sz
  have z48 := z41.trans x46
  replace b3 := b3.ext x46
  replace b9 := b9.ext x46
  replace b15 := b15.ext x46
  have q49 := Ext.refl W45
  have r50 := b3
  have r51 := b9
  have r52 := b15
  refine tk 0 rfl (by kernel_rfl) q49 (pv (fun _ y53 => rfa rfl fd46_0)) ?_
  refine tk 1 rfl (by kernel_rfl) q49 (pv (fun _ y54 => rldb (v := .bool _) rfl sc4 (r50.ext y54) rfl)) ?_
  refine tk 2 rfl (by kernel_rfl) q49 (pv (fun _ y55 => rmv (v := .slice _ _ _) rfl)) ?_
  refine tk 3 rfl (by kernel_rfl) q49 (pv (fun _ y56 => rmv (v := .slice _ _ _) rfl)) ?_
  refine ef 4 (by kernel_rfl) rfl ?_
  refine xcall e201 (radd_ok _ _ _ _ _ _ _ _ TT _ _ _ (hh31.ext (x39.trans x46)) (Dg.dg (by decide) _) (hh37.ext x46) (Dg.dg (by decide) _) (by omega) (by omega) (TT.up _)) rfl rfl ?_
  rintro _ W58 ⟨_, _, _, rfl, x59, hh57, hh57b⟩
  have s60 := x59.sz
  have z61 := z48.trans x59
  replace b15 := b15.ext x59
  have q62 := q49.trans x59
  rw [vl_dg (by decide) hv1, vl_dg (by decide) hv2] at hh57
  refine ⟨_, rfl, ?_⟩
  refine ⟨fun _ => q62, ?_⟩
  refine ef 5 (by kernel_rfl) rfl ?_
  refine xcall e197 (rof_ok _ _ _ _ _ _ _ _ hh57 (Dg.dg (by decide) _) (by omega) (hu2 _ (by omega))) rfl rfl ?_
  rintro _ W64 ⟨_, _, _, _, rfl, x65, hz63⟩
  have s66 := x65.sz
  have z67 := z61.trans x65
  replace b15 := b15.ext x65
  have q68 := q62.trans x65
  refine ⟨_, rfl, ?_⟩
  refine ⟨fun _ => q68, ?_⟩
  refine ef 6 (by kernel_rfl) rfl ?_
  refine sta (cs' := [_, _]) b15 rfl rfl sz46 rfl rfl rfl ?_
  intro W69 y70 b15
  have z71 := z67.below (y70.below (by omega))
  have s72 := y70.size
  refine lastT (by kernel_rfl) ?_
  refine dn (by kernel_rfl) ?_
  refine V.ret ?_
  refine ⟨[_], ⟨⟨_, rfl, lvb ag46 b15 rfl⟩, trivial⟩, ?_⟩
  exact ⟨_, _, _, _, rfl, z71, ((hz63.ck (y70.ck (by intro hh; first | (simp [SX] at hh <;> omega) | omega)))).un.cast (by rw [vl_dg (by decide) (by omega), ifn_add n1 n2 _ _ cn])⟩
 ·intro cn
  refine V.skip ?_
  refine V.seq ?_
  refine V.seq (V.reg rfl ?_)
  refine mvs rfl ?_
  refine mvs rfl ?_
  refine vo ?_
  refine xcall e202 (rcmp_ok _ _ _ _ _ _ _ _ _ _ _ (hh31.ext x39) (Dg.dg (by decide) _) hh37 (Dg.dg (by decide) _)) rfl rfl ?_
  rintro _ _ ⟨rfl, rfl⟩
  refine ⟨_, rfl, ?_⟩
  refine vge rfl rfl ?_ ?_
  ·intro cm
   rw [vl_dg (by decide) hv1, vl_dg (by decide) hv2] at cm
   have hle := cmpI_ge cm
   refine vnil ?_
   refine V.condT rfl ?_
   refine V.seq (V.regD mixed rfl ?_)
   intro W74 x75
   have s76 := x75.sz
   have z77 := z41.trans x75
   replace b3 := b3.ext x75
   replace b9 := b9.ext x75
   replace b15 := b15.ext x75
   have q78 := Ext.refl W74
   have r79 := b3
   have r80 := b9
   have r81 := b15
   refine tk 0 rfl (by kernel_rfl) q78 (pv (fun _ y82 => rfa rfl fd46_0)) ?_
   refine tk 1 rfl (by kernel_rfl) q78 (pv (fun _ y83 => rldb (v := .bool _) rfl sc4 (r79.ext y83) rfl)) ?_
   refine tk 2 rfl (by kernel_rfl) q78 (pv (fun _ y84 => rmv (v := .slice _ _ _) rfl)) ?_
   refine tk 3 rfl (by kernel_rfl) q78 (pv (fun _ y85 => rmv (v := .slice _ _ _) rfl)) ?_
   refine ef 4 (by kernel_rfl) rfl ?_
   refine xcall e203 (rsub_ok _ _ _ _ _ _ _ _ TT _ _ _ (hh31.ext (x39.trans x75)) (Dg.dg (by decide) _) (hh37.ext x75) hv2 (by rw [vl_dg (by decide) hv1]; omega) (by omega) (TT.up _)) rfl rfl ?_
   rintro _ W87 ⟨_, _, _, rfl, x88, hh86, hh86b⟩
   have s89 := x88.sz
   have z90 := z77.trans x88
   replace b15 := b15.ext x88
   have q91 := q78.trans x88
   rw [vl_dg (by decide) hv1] at hh86
   refine ⟨_, rfl, ?_⟩
   refine ⟨fun _ => q91, ?_⟩
   refine ef 5 (by kernel_rfl) rfl ?_
   refine xcall e197 (rof_ok _ _ _ _ _ _ _ _ hh86 (Dg.dg (by decide) _) (by omega) (hu2 _ (by omega))) rfl rfl ?_
   rintro _ W93 ⟨_, _, _, _, rfl, x94, hz92⟩
   have s95 := x94.sz
   have z96 := z90.trans x94
   replace b15 := b15.ext x94
   have q97 := q91.trans x94
   refine ⟨_, rfl, ?_⟩
   refine ⟨fun _ => q97, ?_⟩
   refine ef 6 (by kernel_rfl) rfl ?_
   refine sta (cs' := [_, _]) b15 rfl rfl sz46 rfl rfl rfl ?_
   intro W98 y99 b15
   have z100 := z96.below (y99.below (by omega))
   have s101 := y99.size
   refine lastT (by kernel_rfl) ?_
   refine dn (by kernel_rfl) ?_
   refine V.ret ?_
   refine ⟨[_], ⟨⟨_, rfl, lvb ag46 b15 rfl⟩, trivial⟩, ?_⟩
   exact ⟨_, _, _, _, rfl, z100, ((hz92.ck (y99.ck (by intro hh; first | (simp [SX] at hh <;> omega) | omega)))).un.cast (by rw [vl_dg (by decide) (by omega), ifn_sub1 n1 n2 _ _ cn])⟩
  ·intro cm
   rw [vl_dg (by decide) hv1, vl_dg (by decide) hv2] at cm
   have hle := cmpI_lt0 cm
   refine vnil ?_
   refine V.condF rfl ?_
   refine V.skip ?_
   refine V.seq (V.regD mixed rfl ?_)
   intro W102 x103
   have s104 := x103.sz
   have z105 := z41.trans x103
   replace b3 := b3.ext x103
   replace b9 := b9.ext x103
   replace b15 := b15.ext x103
   have q106 := Ext.refl W102
   have r107 := b3
   have r108 := b9
   have r109 := b15
   refine tk 0 rfl (by kernel_rfl) q106 (pv (fun _ y110 => rfa rfl fd46_0)) ?_
   refine tk 1 rfl (by kernel_rfl) q106 (pv (fun _ y111 => rldb (v := .bool _) rfl sc4 (r108.ext y111) rfl)) ?_
   refine tk 2 rfl (by kernel_rfl) q106 (pv (fun _ y112 => rmv (v := .slice _ _ _) rfl)) ?_
   refine tk 3 rfl (by kernel_rfl) q106 (pv (fun _ y113 => rmv (v := .slice _ _ _) rfl)) ?_
   refine ef 4 (by kernel_rfl) rfl ?_
   refine xcall e203 (rsub_ok _ _ _ _ _ _ _ _ TT _ _ _ (hh37.ext x103) (Dg.dg (by decide) _) (hh31.ext (x39.trans x103)) hv1 (by rw [vl_dg (by decide) hv2]; omega) (by omega) (TT.up _)) rfl rfl ?_
   rintro _ W115 ⟨_, _, _, rfl, x116, hh114, hh114b⟩
   have s117 := x116.sz
   have z118 := z105.trans x116
   replace b15 := b15.ext x116
   have q119 := q106.trans x116
   rw [vl_dg (by decide) hv2] at hh114
   refine ⟨_, rfl, ?_⟩
   refine ⟨fun _ => q119, ?_⟩
   refine ef 5 (by kernel_rfl) rfl ?_
   refine xcall e197 (rof_ok _ _ _ _ _ _ _ _ hh114 (Dg.dg (by decide) _) (by omega) (hu2 _ (by omega))) rfl rfl ?_
   rintro _ W121 ⟨_, _, _, _, rfl, x122, hz120⟩
   have s123 := x122.sz
   have z124 := z118.trans x122
   replace b15 := b15.ext x122
   have q125 := q119.trans x122
   refine ⟨_, rfl, ?_⟩
   refine ⟨fun _ => q125, ?_⟩
   refine ef 6 (by kernel_rfl) rfl ?_
   refine sta (cs' := [_, _]) b15 rfl rfl sz46 rfl rfl rfl ?_
   intro W126 y127 b15
   have z128 := z124.below (y127.below (by omega))
   have s129 := y127.size
   refine lastT (by kernel_rfl) ?_
   refine dn (by kernel_rfl) ?_
   refine V.ret ?_
   refine ⟨[_], ⟨⟨_, rfl, lvb ag46 b15 rfl⟩, trivial⟩, ?_⟩
   exact ⟨_, _, _, _, rfl, z128, ((hz120.ck (y127.ck (by intro hh; first | (simp [SX] at hh <;> omega) | omega)))).un.cast (by rw [vl_dg (by decide) (by omega), ifn_sub2 n1 n2 _ _ cn])⟩
end Go.Proofs.YtknbjfefeeojlaaGreat
/- Package pylonref01: Gcd, Div, Cmp. -/
namespace Go.Proofs.YtknbjfefeeojlaaGreat
open Go.RowKit
attribute [local irreducible] RV VH V OpF Calls
theorem cmpI_range (u v : Int) : -1 ≤ cmpI u v ∧ cmpI u v ≤ 1 := by unfold cmpI; (repeat' split) <;> omega
theorem one16 : Dg b16 [1] := by intro x hx; simp at hx; subst hx; decide

set_option maxHeartbeats 400000 in
theorem rGcd_ok (n1 : Bool) (a1 : Option Addr) (l1 c1 : Nat) (z1 : Int) (L1 : Nat) (n2 : Bool) (a2 : Option Addr) (l2 c2 : Nat) (z2 : Int) (L2 : Nat) (S S1 S2 : Nat → Prop) (w : World) (h1 : ZA L1 S1 w n1 a1 l1 c1 z1) (hL1 : L1 ≤ LX / 64) (h2 : ZA L2 S2 w n2 a2 l2 c2 z2) (hL2 : L2 ≤ LX / 64) (hu : Up S w) :
    Calls Tryz.prog 190 #[.agg #[.bool n1, .slice a1 l1 c1], .agg #[.bool n2, .slice a2 l2 c2]] w (PZ S (Int.gcd z1 z2 : Int) w) := by
 have z0 := Ext.refl w; have hLX : LX = 17592186044416 := rfl; have hLY : LY = 8796093022208 := rfl
 obtain ⟨xs, hx, hq1, rfl⟩ := h1; have hv1 := vl_nonneg (B := b32) (by decide) hx.dg32
 obtain ⟨ys, hy, hq2, rfl⟩ := h2; have hv2 := vl_nonneg (B := b32) (by decide) hy.dg32
 have hu2 : ∀ W : World, w.heap.size + 3 ≤ W.heap.size → Up (SX S [w.heap.size + 2]) W := fun W hW => SX.up (hu.mono (by omega)) (by simp <;> omega)
 refine enter (args := [.agg #[.bool n1, .slice a1 l1 c1], .agg #[.bool n2, .slice a2 l2 c2]]) Tryz.func190 rfl rfl (Nat.le_of_ble_eq_true rfl) ?_
 refine V.seq (V.reg rfl ?_)
 refine vo ?_
 refine bxa rfl ?_
 intro W1 x2 b3 nn4
 have s5 := x2.sz
 have z6 := x2
 refine vo ?_
 refine bxa rfl ?_
 intro W7 x8 b9 nn10
 have s11 := x8.sz
 have z12 := z6.trans x8
 replace b3 := b3.ext x8
 refine vo ?_
 refine xal zc46 ?_
 intro W13 x14 b15 nn16
 have s17 := x14.sz
 have z18 := z12.trans x14
 replace b3 := b3.ext x14
 replace b9 := b9.ext x14
 refine vnil ?_
 refine V.seq (V.regD mixed rfl ?_)
 intro W19 x20
 have s21 := x20.sz
 have z22 := z18.trans x20
 replace b3 := b3.ext x20
 replace b9 := b9.ext x20
 replace b15 := b15.ext x20
 have q23 := Ext.refl W19
 have r24 := b3
 have r25 := b9
 have r26 := b15
 refine tk 0 rfl (by kernel_rfl) q23 (pv (fun _ y27 => rfa rfl fd46_1)) ?_
 refine tk 1 rfl (by kernel_rfl) q23 (pv (fun _ y28 => rldb (v := .slice _ _ _) rfl sc44 (r24.ext y28) rfl)) ?_
 refine tk 3 rfl (by kernel_rfl) q23 (pv (fun _ y29 => rfa rfl fd46_1)) ?_
 refine tk 4 rfl (by kernel_rfl) q23 (pv (fun _ y30 => rldb (v := .slice _ _ _) rfl sc44 (r25.ext y30) rfl)) ?_
 refine ef 2 (by kernel_rfl) rfl ?_
 refine xcall e198 (halves_ok _ _ _ _ _ _ _ (hx.ext z22) (by omega) (TT.up _)) rfl rfl ?_
 rintro _ W32 ⟨_, _, _, rfl, x33, hh31, hh31n⟩
 have s34 := x33.sz
 have z35 := z22.trans x33
 replace b15 := b15.ext x33
 have q36 := q23.trans x33
 refine ⟨_, rfl, ?_⟩
 refine ⟨fun _ => q36, ?_⟩
 refine ef 5 (by kernel_rfl) rfl ?_
 refine xcall e198 (halves_ok _ _ _ _ _ _ _ (hy.ext z35) (by omega) (TT.up _)) rfl rfl ?_
 rintro _ W38 ⟨_, _, _, rfl, x39, hh37, hh37n⟩
 have s40 := x39.sz
 have z41 := z35.trans x39
 replace b15 := b15.ext x39
 have q42 := q36.trans x39
 refine ⟨_, rfl, ?_⟩
 refine ⟨fun _ => q42, ?_⟩
 refine tk 6 rfl (by kernel_rfl) q42 (pv (fun _ y43 => ras (v := .slice _ _ _) rfl)) ?_
 refine tk 7 rfl (by kernel_rfl) q42 (pv (fun _ y44 => ras (v := .slice _ _ _) rfl)) ?_
 refine dn (by kernel_rfl) ?_
 refine V.seq ?_
 refine V.block ?_
 refine V.loopK (ι := Int × Int × Option Addr × Nat × Nat × Option Addr × Nat × Nat) [(4, .pointer (some ⟨_, _, none⟩))] (fun ⟨u, v, pa, pn, pc, qa, qn, qc⟩ => [(5, .slice pa pn pc), (6, .slice qa qn qc)]) (fun ⟨u, v, pa, pn, pc, qa, qn, qc⟩ W => Ext W38 W ∧ 0 ≤ u ∧ 0 ≤ v ∧ pn ≤ LX / 8 ∧ qn ≤ LX / 8 ∧ Int.gcd u v = Int.gcd (vl b32 xs) (vl b32 ys) ∧ RN .i64 TT W pa pn pc (dg b16 u) ∧ RN .i64 TT W qa qn qc (dg b16 v)) (fun ⟨u, v, pa, pn, pc, qa, qn, qc⟩ => v.toNat) ((vl b32 xs, vl b32 ys, _, _, _, _, _, _)) ⟨rfl, trivial⟩ ⟨rfl, rfl, trivial⟩ ⟨Ext.refl _, hv1, hv2, by omega, by omega, rfl, (hh31.ext x39), hh37⟩ ?_
 intro i46 E47 W45 h48
 obtain ⟨u, v, pa, pn, pc, qa, qn, qc⟩ := i46
 simp only at h48
 show V _ _ _ _ _ _ (ups (ups _ _) [(5, .slice pa pn pc), (6, .slice qa qn qc)]) _
 obtain ⟨x49, u0, v0, pl, ql, hg, hU, hV⟩ := h48
 have s50 := x49.sz
 have z51 := z41.trans x49
 have z52 := x49
 replace b15 := b15.ext x49
 have hul := hU.len; have hvl := hV.len
 refine V.seq ?_
 refine V.seq (V.reg rfl ?_)
 refine mvs rfl ?_
 refine vv (rlen sl73 rfl) ?_
 refine vgt rfl rfl ?_ ?_
 ·intro c53
  refine vnil ?_
  refine V.condT rfl ?_
  refine V.skip ?_
  refine V.block ?_
  refine V.seq (V.reg rfl ?_)
  refine mvs rfl ?_
  refine mvs rfl ?_
  refine vo ?_
  refine xcall e210 (rdiv_ok _ _ _ u _ _ _ v TT TT TT _ hU u0 hV (by have := dg16_pos v0 hvl; omega) pl ql (TT.up _)) rfl rfl ?_
  rintro _ W55 ⟨_, _, _, _, _, _, rfl, x56, hd54q, hd54r⟩
  have s57 := x56.sz
  have z59 := z52.trans x56
  have hrrl := hd54r.len
  refine ⟨_, rfl, ?_⟩
  refine mvt rfl ?_
  refine vv (rext (v := .slice _ _ _) rfl rfl) ?_
  refine vv (rext (v := .slice _ _ _) rfl rfl) ?_
  refine ass rfl ?_
  refine ass rfl ?_
  refine vnil ?_
  refine V.reg rfl ?_
  refine mvs rfl ?_
  refine mvs rfl ?_
  refine ass rfl ?_
  refine ass rfl ?_
  refine vnil ?_
  refine ⟨rfl, (v, u % v, _, _, _, _, _, _), ⟨rfl, trivial⟩, ⟨rfl, rfl, trivial⟩, ⟨z59, v0, Int.emod_nonneg _ (by have := dg16_pos v0 hvl; omega), ql, by have := dg16_mono (u := u % v) (v := v) (Int.emod_nonneg _ (by have := dg16_pos v0 hvl; omega)) (Int.le_of_lt (Int.emod_lt_of_pos _ (by have := dg16_pos v0 hvl; omega))); omega, (gcd_step u v).trans hg, (hV.ext x56), hd54r⟩, ?_⟩
  show (u % v).toNat < v.toNat
  have := dg16_pos v0 hvl
  have := Int.emod_lt_of_pos u (show 0 < v by omega)
  have := Int.emod_nonneg u (show v ≠ 0 by omega)
  omega
 ·intro c53
  refine vnil ?_
  refine V.condF rfl ?_
  refine V.exit ?_
  refine V.seq (V.reg rfl ?_)
  refine mvs rfl ?_
  refine vo ?_
  refine xcall e197 (rof_ok _ _ _ _ _ _ _ _ hU (Dg.dg (by decide) _) (by omega) (hu2 _ (by omega))) rfl rfl ?_
  rintro _ W61 ⟨_, _, _, _, rfl, x62, hz60⟩
  have s63 := x62.sz
  have z64 := z51.trans x62
  replace b15 := b15.ext x62
  refine ⟨_, rfl, ?_⟩
  refine vo ?_
  refine sta (cs' := [_, _]) b15 rfl rfl sz46 rfl rfl rfl ?_
  intro W66 y67 b15
  have z68 := z64.below (y67.below (by omega))
  have s69 := y67.size
  refine vnil ?_
  refine V.ret ?_
  refine ⟨[_], ⟨⟨_, rfl, lvb ag46 b15 rfl⟩, trivial⟩, ?_⟩
  have e0 : v = 0 := (by have := dg16_pos v0 hvl; omega)
  subst e0
  exact ⟨_, _, _, _, rfl, z68, ((hz60.ck (y67.ck (by intro hh; first | (simp [SX] at hh <;> omega) | omega)))).un.cast (by rw [vl_dg (by decide) u0, gcd_if, ← hg, Int.gcd_zero_right]; simp; omega)⟩
set_option maxHeartbeats 400000 in
theorem rDivZ_ok (n1 : Bool) (a1 : Option Addr) (l1 c1 : Nat) (z1 : Int) (L1 : Nat) (n2 : Bool) (a2 : Option Addr) (l2 c2 : Nat) (z2 : Int) (L2 : Nat) (S S1 S2 : Nat → Prop) (w : World) (h1 : ZA L1 S1 w n1 a1 l1 c1 z1) (hL1 : L1 ≤ LX / 64) (h2 : ZA L2 S2 w n2 a2 l2 c2 z2) (hL2 : L2 ≤ LX / 64) (hz : z2 ≠ 0) (hu : Up S w) :
    Calls Tryz.prog 191 #[.agg #[.bool n1, .slice a1 l1 c1], .agg #[.bool n2, .slice a2 l2 c2]] w (fun e w' => ∃ m1 b1 k1 d1 m2 b2 k2 d2, e = .returned (.tuple #[.agg #[.bool m1, .slice b1 k1 d1], .agg #[.bool m2, .slice b2 k2 d2], .int .i64 0]) ∧ Ext w w' ∧ ZC S w' m1 b1 k1 d1 (z1 / z2) ∧ ZC S w' m2 b2 k2 d2 (z1 % z2)) := by
 have z0 := Ext.refl w; have hLX : LX = 17592186044416 := rfl; have hLY : LY = 8796093022208 := rfl
 obtain ⟨xs, hx, hq1, rfl⟩ := h1; have hv1 := vl_nonneg (B := b32) (by decide) hx.dg32
 obtain ⟨ys, hy, hq2, rfl⟩ := h2; have hv2 := vl_nonneg (B := b32) (by decide) hy.dg32
 have hu2 : ∀ W : World, w.heap.size + 4 ≤ W.heap.size → Up (SX S [w.heap.size + 2, w.heap.size + 2 + 1]) W := fun W hW => SX.up (hu.mono (by omega)) (by simp <;> omega)
 have hvp : 0 < vl b32 ys := by cases n2 <;> simp at hz <;> omega
 cases n1
 ·skip
  refine enter (args := [.agg #[.bool false, .slice a1 l1 c1], .agg #[.bool n2, .slice a2 l2 c2]]) Tryz.func191 rfl rfl (Nat.le_of_ble_eq_true rfl) ?_
  refine V.seq (V.reg rfl ?_)
  refine vo ?_
  refine bxa rfl ?_
  intro W1 x2 b3 nn4
  have s5 := x2.sz
  have z6 := x2
  refine vo ?_
  refine bxa rfl ?_
  intro W7 x8 b9 nn10
  have s11 := x8.sz
  have z12 := z6.trans x8
  replace b3 := b3.ext x8
  refine vo ?_
  refine xal zc46 ?_
  intro W13 x14 b15 nn16
  have s17 := x14.sz
  have z18 := z12.trans x14
  replace b3 := b3.ext x14
  replace b9 := b9.ext x14
  refine vo ?_
  refine xal zc46 ?_
  intro W19 x20 b21 nn22
  have s23 := x20.sz
  have z24 := z18.trans x20
  replace b3 := b3.ext x20
  replace b9 := b9.ext x20
  replace b15 := b15.ext x20
  refine asi rfl ?_
  refine vnil ?_
  refine V.seq (V.regD mixed rfl ?_)
  intro W25 x26
  have s27 := x26.sz
  have z28 := z24.trans x26
  replace b3 := b3.ext x26
  replace b9 := b9.ext x26
  replace b15 := b15.ext x26
  replace b21 := b21.ext x26
  have q29 := Ext.refl W25
  have r30 := b3
  have r31 := b9
  have r32 := b15
  have r33 := b21
  refine tk 0 rfl (by kernel_rfl) q29 (pv (fun _ y34 => rfa rfl fd46_1)) ?_
  refine tk 1 rfl (by kernel_rfl) q29 (pv (fun _ y35 => rldb (v := .slice _ _ _) rfl sc44 (r30.ext y35) rfl)) ?_
  refine tk 3 rfl (by kernel_rfl) q29 (pv (fun _ y36 => rfa rfl fd46_1)) ?_
  refine tk 4 rfl (by kernel_rfl) q29 (pv (fun _ y37 => rldb (v := .slice _ _ _) rfl sc44 (r31.ext y37) rfl)) ?_
  refine ef 2 (by kernel_rfl) rfl ?_
  refine xcall e198 (halves_ok _ _ _ _ _ _ _ (hx.ext z28) (by omega) (TT.up _)) rfl rfl ?_
  rintro _ W39 ⟨_, _, _, rfl, x40, hh38, hh38n⟩
  have s41 := x40.sz
  have z42 := z28.trans x40
  replace b3 := b3.ext x40
  replace b9 := b9.ext x40
  replace b15 := b15.ext x40
  replace b21 := b21.ext x40
  have q43 := q29.trans x40
  refine ⟨_, rfl, ?_⟩
  refine ⟨fun _ => q43, ?_⟩
  refine ef 5 (by kernel_rfl) rfl ?_
  refine xcall e198 (halves_ok _ _ _ _ _ _ _ (hy.ext z42) (by omega) (TT.up _)) rfl rfl ?_
  rintro _ W45 ⟨_, _, _, rfl, x46, hh44, hh44n⟩
  have s47 := x46.sz
  have z48 := z42.trans x46
  replace b3 := b3.ext x46
  replace b9 := b9.ext x46
  replace b15 := b15.ext x46
  replace b21 := b21.ext x46
  have q49 := q43.trans x46
  refine ⟨_, rfl, ?_⟩
  refine ⟨fun _ => q49, ?_⟩
  refine tk 6 rfl (by kernel_rfl) q49 (pv (fun _ y50 => ras (v := .slice _ _ _) rfl)) ?_
  refine tk 7 rfl (by kernel_rfl) q49 (pv (fun _ y51 => ras (v := .slice _ _ _) rfl)) ?_
  refine dn (by kernel_rfl) ?_
  refine V.seq ?_
  refine V.seq (V.reg rfl ?_)
  refine mvs rfl ?_
  refine vv (rlen sl73 rfl) ?_
  refine veq rfl rfl ?_ ?_
  ·intro c52
   have := dg16_pos hv2 hh44.len; omega
  ·intro c52
   refine vnil ?_
   refine V.condF rfl ?_
   refine V.skip ?_
   refine V.seq (V.reg rfl ?_)
   refine mvs rfl ?_
   refine mvs rfl ?_
   refine vo ?_
   refine xcall e210 (rdiv_ok _ _ _ _ _ _ _ _ TT _ _ _ (hh38.ext x46) hv1 hh44 hvp (by omega) (by omega) (TT.up _)) rfl rfl ?_
   rintro _ W53 ⟨_, qn, _, _, rn, _, rfl, x54, hdq, hdr⟩
   have s55 := x54.sz
   have z56 := z48.trans x54
   replace b3 := b3.ext x54
   replace b9 := b9.ext x54
   replace b15 := b15.ext x54
   replace b21 := b21.ext x54
   have hql := hdq.len; have hrl := hdr.len
   have hnn := ediv_nn (u := vl b32 xs) (v := vl b32 ys) hv1 hvp
   have hrpos := dg16_pos hnn.2.1 hrl
   have hqb := dg16_mono hnn.1 (Int.ediv_le_self (vl b32 ys) hv1); have hxb := (hh38.ext x46).len
   have hrb := dg16_mono hnn.2.1 (Int.le_of_lt hnn.2.2.1); have hyb := hh44.len
   refine ⟨_, rfl, ?_⟩
   refine mvt rfl ?_
   refine vv (rext (v := .slice _ _ _) rfl rfl) ?_
   refine vv (rext (v := .slice _ _ _) rfl rfl) ?_
   refine ass rfl ?_
   refine ass rfl ?_
   refine vnil ?_
   refine V.seq ?_
   refine V.seq (V.reg rfl ?_)
   refine vv (rfa rfl fd46_0) ?_
   refine vv (rldb (v := .bool false) rfl sc4 b3 rfl) ?_
   refine mvb rfl ?_
   refine vgn (b := false) rfl rfl ?_
   refine vgn (b := false) rfl rfl ?_
   refine vgn (b := false) rfl rfl ?_
   refine vv (rpk (v := .bool false) rfl rfl) ?_
   refine vnil ?_
   refine V.condF rfl ?_
   refine V.skip ?_
   refine V.seq (V.reg rfl ?_)
   refine vv (rfa rfl fd46_0) ?_
   refine vv (rldb (v := .bool false) rfl sc4 b3 rfl) ?_
   refine vv (rfa rfl fd46_0) ?_
   refine vv (rldb (v := .bool _) rfl sc4 b9 rfl) ?_
   refine vv (rbne Tryz.underlying4 rfl rfl rfl) ?_
   refine mvs rfl ?_
   refine vo ?_
   refine xcall e197 (rof_ok _ _ _ _ _ _ _ _ hdq (Dg.dg (by decide) _) (by omega) (hu2 _ (by omega))) rfl rfl ?_
   rintro _ W58 ⟨_, _, _, _, rfl, x59, hz57⟩
   have s60 := x59.sz
   have z61 := z56.trans x59
   replace b15 := b15.ext x59
   replace b21 := b21.ext x59
   refine ⟨_, rfl, ?_⟩
   refine mvs rfl ?_
   refine vo ?_
   refine xcall e197 (rof_ok _ _ _ _ _ _ _ _ (hdr.ext x59) (Dg.dg (by decide) _) (by omega) (hu2 _ (by omega))) rfl rfl ?_
   rintro _ W63 ⟨_, _, _, _, rfl, x64, hz62⟩
   have s65 := x64.sz
   have z66 := z61.trans x64
   replace b15 := b15.ext x64
   replace b21 := b21.ext x64
   refine ⟨_, rfl, ?_⟩
   refine vo ?_
   refine sta (cs' := [_, _]) b15 rfl rfl sz46 rfl rfl rfl ?_
   intro W67 y68 b15
   have z69 := z66.below (y68.below (by omega))
   replace b21 := b21.wr y68 (by omega)
   have s70 := y68.size
   refine vo ?_
   refine sta (cs' := [_, _]) b21 rfl rfl sz46 rfl rfl rfl ?_
   intro W71 y72 b21
   have z73 := z69.below (y72.below (by omega))
   replace b15 := b15.wr y72 (by omega)
   have s74 := y72.size
   refine asi rfl ?_
   refine vnil ?_
   refine V.ret ?_
   refine ⟨[_, _, .int _ _], ⟨⟨_, rfl, lvb ag46 b15 rfl⟩, ⟨_, rfl, lvb ag46 b21 rfl⟩, rfl, trivial⟩, ?_⟩
   have hdm := dm_pos n2 (u := vl b32 xs) (v := vl b32 ys)
   exact ⟨_, _, _, _, _, _, _, _, rfl, z73, ((hz57.ck (((x64.ck _).trans (y68.ck (by intro hh; first | (simp [SX] at hh <;> omega) | omega))).trans (y72.ck (by intro hh; first | (simp [SX] at hh <;> omega) | omega))))).un.cast (by rw [vl_dg (by decide) hnn.1]; exact hdm.1), ((hz62.ck ((y68.ck (by intro hh; first | (simp [SX] at hh <;> omega) | omega)).trans (y72.ck (by intro hh; first | (simp [SX] at hh <;> omega) | omega))))).un.cast (by rw [vl_dg (by decide) hnn.2.1]; exact hdm.2)⟩
 ·skip
  refine enter (args := [.agg #[.bool true, .slice a1 l1 c1], .agg #[.bool n2, .slice a2 l2 c2]]) Tryz.func191 rfl rfl (Nat.le_of_ble_eq_true rfl) ?_
  refine V.seq (V.reg rfl ?_)
  refine vo ?_
  refine bxa rfl ?_
  intro W75 x76 b77 nn78
  have s79 := x76.sz
  have z80 := x76
  refine vo ?_
  refine bxa rfl ?_
  intro W81 x82 b83 nn84
  have s85 := x82.sz
  have z86 := z80.trans x82
  replace b77 := b77.ext x82
  refine vo ?_
  refine xal zc46 ?_
  intro W87 x88 b89 nn90
  have s91 := x88.sz
  have z92 := z86.trans x88
  replace b77 := b77.ext x88
  replace b83 := b83.ext x88
  refine vo ?_
  refine xal zc46 ?_
  intro W93 x94 b95 nn96
  have s97 := x94.sz
  have z98 := z92.trans x94
  replace b77 := b77.ext x94
  replace b83 := b83.ext x94
  replace b89 := b89.ext x94
  refine asi rfl ?_
  refine vnil ?_
  refine V.seq (V.regD mixed rfl ?_)
  intro W99 x100
  have s101 := x100.sz
  have z102 := z98.trans x100
  replace b77 := b77.ext x100
  replace b83 := b83.ext x100
  replace b89 := b89.ext x100
  replace b95 := b95.ext x100
  have q103 := Ext.refl W99
  have r104 := b77
  have r105 := b83
  have r106 := b89
  have r107 := b95
  refine tk 0 rfl (by kernel_rfl) q103 (pv (fun _ y108 => rfa rfl fd46_1)) ?_
  refine tk 1 rfl (by kernel_rfl) q103 (pv (fun _ y109 => rldb (v := .slice _ _ _) rfl sc44 (r104.ext y109) rfl)) ?_
  refine tk 3 rfl (by kernel_rfl) q103 (pv (fun _ y110 => rfa rfl fd46_1)) ?_
  refine tk 4 rfl (by kernel_rfl) q103 (pv (fun _ y111 => rldb (v := .slice _ _ _) rfl sc44 (r105.ext y111) rfl)) ?_
  refine ef 2 (by kernel_rfl) rfl ?_
  refine xcall e198 (halves_ok _ _ _ _ _ _ _ (hx.ext z102) (by omega) (TT.up _)) rfl rfl ?_
  rintro _ W113 ⟨_, _, _, rfl, x114, hh112, hh112n⟩
  have s115 := x114.sz
  have z116 := z102.trans x114
  replace b77 := b77.ext x114
  replace b83 := b83.ext x114
  replace b89 := b89.ext x114
  replace b95 := b95.ext x114
  have q117 := q103.trans x114
  refine ⟨_, rfl, ?_⟩
  refine ⟨fun _ => q117, ?_⟩
  refine ef 5 (by kernel_rfl) rfl ?_
  refine xcall e198 (halves_ok _ _ _ _ _ _ _ (hy.ext z116) (by omega) (TT.up _)) rfl rfl ?_
  rintro _ W119 ⟨_, _, _, rfl, x120, hh118, hh118n⟩
  have s121 := x120.sz
  have z122 := z116.trans x120
  replace b77 := b77.ext x120
  replace b83 := b83.ext x120
  replace b89 := b89.ext x120
  replace b95 := b95.ext x120
  have q123 := q117.trans x120
  refine ⟨_, rfl, ?_⟩
  refine ⟨fun _ => q123, ?_⟩
  refine tk 6 rfl (by kernel_rfl) q123 (pv (fun _ y124 => ras (v := .slice _ _ _) rfl)) ?_
  refine tk 7 rfl (by kernel_rfl) q123 (pv (fun _ y125 => ras (v := .slice _ _ _) rfl)) ?_
  refine dn (by kernel_rfl) ?_
  refine V.seq ?_
  refine V.seq (V.reg rfl ?_)
  refine mvs rfl ?_
  refine vv (rlen sl73 rfl) ?_
  refine veq rfl rfl ?_ ?_
  ·intro c126
   have := dg16_pos hv2 hh118.len; omega
  ·intro c126
   refine vnil ?_
   refine V.condF rfl ?_
   refine V.skip ?_
   refine V.seq (V.reg rfl ?_)
   refine mvs rfl ?_
   refine mvs rfl ?_
   refine vo ?_
   refine xcall e210 (rdiv_ok _ _ _ _ _ _ _ _ TT _ _ _ (hh112.ext x120) hv1 hh118 hvp (by omega) (by omega) (TT.up _)) rfl rfl ?_
   rintro _ W127 ⟨_, qn, _, _, rn, _, rfl, x128, hdq, hdr⟩
   have s129 := x128.sz
   have z130 := z122.trans x128
   replace b77 := b77.ext x128
   replace b83 := b83.ext x128
   replace b89 := b89.ext x128
   replace b95 := b95.ext x128
   have hql := hdq.len; have hrl := hdr.len
   have hnn := ediv_nn (u := vl b32 xs) (v := vl b32 ys) hv1 hvp
   have hrpos := dg16_pos hnn.2.1 hrl
   have hqb := dg16_mono hnn.1 (Int.ediv_le_self (vl b32 ys) hv1); have hxb := (hh112.ext x120).len
   have hrb := dg16_mono hnn.2.1 (Int.le_of_lt hnn.2.2.1); have hyb := hh118.len
   refine ⟨_, rfl, ?_⟩
   refine mvt rfl ?_
   refine vv (rext (v := .slice _ _ _) rfl rfl) ?_
   refine vv (rext (v := .slice _ _ _) rfl rfl) ?_
   refine ass rfl ?_
   refine ass rfl ?_
   refine vnil ?_
   refine V.seq ?_
   refine V.seq (V.reg rfl ?_)
   refine vv (rfa rfl fd46_0) ?_
   refine vv (rldb (v := .bool true) rfl sc4 b77 rfl) ?_
   refine mvb rfl ?_
   refine vg rfl ?_
   refine mvs rfl ?_
   refine vg rfl ?_
   refine vv (rlen sl73 rfl) ?_
   refine vg rfl ?_
   refine vgt rfl rfl ?_ ?_
   ·intro c131
    refine vv (rpk (v := .bool true) rfl rfl) ?_
    refine vnil ?_
    refine V.condT rfl ?_
    refine V.seq (V.reg rfl ?_)
    refine mvs rfl ?_
    refine vo ?_
    refine xbs (ps := [(0, .int _ _)]) (cs := [.int _ _]) sl73 zr3 sz3 rfl rfl rfl rfl rfl rfl ?_
    intro W132 x133 b134 nn135
    have s136 := x133.sz
    have z137 := z130.trans x133
    replace b77 := b77.ext x133
    replace b83 := b83.ext x133
    replace b89 := b89.ext x133
    replace b95 := b95.ext x133
    refine vo ?_
    have hl138 := RN.lit (k := .i64) (xs := [_]) 1 b134 (by intro q hq; simp only [List.mem_cons, List.not_mem_nil, or_false] at hq; simp only [kb]; omega) (TT.up W127 _ (Nat.le_refl _))
    refine xcall e201 (radd_ok _ _ _ _ _ _ _ _ TT _ _ _ (hdq.ext x133) (Dg.dg (by decide) _) hl138 one16 (by omega) (by omega) (TT.up _)) rfl rfl ?_
    rintro _ W139 ⟨_, qn2, _, rfl, x140, hdq2, hdq2b⟩
    have s141 := x140.sz
    have z142 := z137.trans x140
    replace b77 := b77.ext x140
    replace b83 := b83.ext x140
    replace b89 := b89.ext x140
    replace b95 := b95.ext x140
    rw [vl_dg (by decide) hnn.1, show vl b16 [1] = 1 from rfl] at hdq2
    refine ⟨_, rfl, ?_⟩
    refine ass rfl ?_
    refine vnil ?_
    refine V.reg rfl ?_
    refine mvs rfl ?_
    refine mvs rfl ?_
    refine vo ?_
    refine xcall e203 (rsub_ok _ _ _ _ _ _ _ _ TT _ _ _ (hh118.ext ((x128.trans x133).trans x140)) (Dg.dg (by decide) _) (hdr.ext (x133.trans x140)) hnn.2.1 (by rw [vl_dg (by decide) hv2]; omega) (by omega) (TT.up _)) rfl rfl ?_
    rintro _ W143 ⟨_, rn2, _, rfl, x144, hdr2, hdr2b⟩
    have s145 := x144.sz
    have z146 := z142.trans x144
    replace b77 := b77.ext x144
    replace b83 := b83.ext x144
    replace b89 := b89.ext x144
    replace b95 := b95.ext x144
    rw [vl_dg (by decide) hv2] at hdr2
    refine ⟨_, rfl, ?_⟩
    refine ass rfl ?_
    refine vnil ?_
    refine V.seq (V.reg rfl ?_)
    refine vv (rfa rfl fd46_0) ?_
    refine vv (rldb (v := .bool true) rfl sc4 b77 rfl) ?_
    refine vv (rfa rfl fd46_0) ?_
    refine vv (rldb (v := .bool _) rfl sc4 b83 rfl) ?_
    refine vv (rbne Tryz.underlying4 rfl rfl rfl) ?_
    refine mvs rfl ?_
    refine vo ?_
    refine xcall e197 (rof_ok _ _ _ _ _ _ _ _ (hdq2.ext x144) (Dg.dg (by decide) _) (by omega) (hu2 _ (by omega))) rfl rfl ?_
    rintro _ W148 ⟨_, _, _, _, rfl, x149, hz147⟩
    have s150 := x149.sz
    have z151 := z146.trans x149
    replace b89 := b89.ext x149
    replace b95 := b95.ext x149
    refine ⟨_, rfl, ?_⟩
    refine mvs rfl ?_
    refine vo ?_
    refine xcall e197 (rof_ok _ _ _ _ _ _ _ _ (hdr2.ext x149) (Dg.dg (by decide) _) (by omega) (hu2 _ (by omega))) rfl rfl ?_
    rintro _ W153 ⟨_, _, _, _, rfl, x154, hz152⟩
    have s155 := x154.sz
    have z156 := z151.trans x154
    replace b89 := b89.ext x154
    replace b95 := b95.ext x154
    refine ⟨_, rfl, ?_⟩
    refine vo ?_
    refine sta (cs' := [_, _]) b89 rfl rfl sz46 rfl rfl rfl ?_
    intro W157 y158 b89
    have z159 := z156.below (y158.below (by omega))
    replace b95 := b95.wr y158 (by omega)
    have s160 := y158.size
    refine vo ?_
    refine sta (cs' := [_, _]) b95 rfl rfl sz46 rfl rfl rfl ?_
    intro W161 y162 b95
    have z163 := z159.below (y162.below (by omega))
    replace b89 := b89.wr y162 (by omega)
    have s164 := y162.size
    refine asi rfl ?_
    refine vnil ?_
    refine V.ret ?_
    refine ⟨[_, _, .int _ _], ⟨⟨_, rfl, lvb ag46 b89 rfl⟩, ⟨_, rfl, lvb ag46 b95 rfl⟩, rfl, trivial⟩, ?_⟩
    have hdm := dm_neg1 (u := vl b32 xs) hvp (by omega) n2
    exact ⟨_, _, _, _, _, _, _, _, rfl, z163, ((hz147.ck (((x154.ck _).trans (y158.ck (by intro hh; first | (simp [SX] at hh <;> omega) | omega))).trans (y162.ck (by intro hh; first | (simp [SX] at hh <;> omega) | omega))))).un.cast (by rw [vl_dg (by decide) (by omega)]; exact hdm.1), ((hz152.ck ((y158.ck (by intro hh; first | (simp [SX] at hh <;> omega) | omega)).trans (y162.ck (by intro hh; first | (simp [SX] at hh <;> omega) | omega))))).un.cast (by rw [vl_dg (by decide) (by omega)]; exact hdm.2)⟩
   ·intro c131
    refine vv (rpk (v := .bool false) rfl rfl) ?_
    refine vnil ?_
    refine V.condF rfl ?_
    refine V.skip ?_
    refine V.seq (V.reg rfl ?_)
    refine vv (rfa rfl fd46_0) ?_
    refine vv (rldb (v := .bool true) rfl sc4 b77 rfl) ?_
    refine vv (rfa rfl fd46_0) ?_
    refine vv (rldb (v := .bool _) rfl sc4 b83 rfl) ?_
    refine vv (rbne Tryz.underlying4 rfl rfl rfl) ?_
    refine mvs rfl ?_
    refine vo ?_
    refine xcall e197 (rof_ok _ _ _ _ _ _ _ _ hdq (Dg.dg (by decide) _) (by omega) (hu2 _ (by omega))) rfl rfl ?_
    rintro _ W166 ⟨_, _, _, _, rfl, x167, hz165⟩
    have s168 := x167.sz
    have z169 := z130.trans x167
    replace b89 := b89.ext x167
    replace b95 := b95.ext x167
    refine ⟨_, rfl, ?_⟩
    refine mvs rfl ?_
    refine vo ?_
    refine xcall e197 (rof_ok _ _ _ _ _ _ _ _ (hdr.ext x167) (Dg.dg (by decide) _) (by omega) (hu2 _ (by omega))) rfl rfl ?_
    rintro _ W171 ⟨_, _, _, _, rfl, x172, hz170⟩
    have s173 := x172.sz
    have z174 := z169.trans x172
    replace b89 := b89.ext x172
    replace b95 := b95.ext x172
    refine ⟨_, rfl, ?_⟩
    refine vo ?_
    refine sta (cs' := [_, _]) b89 rfl rfl sz46 rfl rfl rfl ?_
    intro W175 y176 b89
    have z177 := z174.below (y176.below (by omega))
    replace b95 := b95.wr y176 (by omega)
    have s178 := y176.size
    refine vo ?_
    refine sta (cs' := [_, _]) b95 rfl rfl sz46 rfl rfl rfl ?_
    intro W179 y180 b95
    have z181 := z177.below (y180.below (by omega))
    replace b89 := b89.wr y180 (by omega)
    have s182 := y180.size
    refine asi rfl ?_
    refine vnil ?_
    refine V.ret ?_
    refine ⟨[_, _, .int _ _], ⟨⟨_, rfl, lvb ag46 b89 rfl⟩, ⟨_, rfl, lvb ag46 b95 rfl⟩, rfl, trivial⟩, ?_⟩
    have hdm := dm_neg0 (u := vl b32 xs) hvp (by omega) n2
    exact ⟨_, _, _, _, _, _, _, _, rfl, z181, ((hz165.ck (((x172.ck _).trans (y176.ck (by intro hh; first | (simp [SX] at hh <;> omega) | omega))).trans (y180.ck (by intro hh; first | (simp [SX] at hh <;> omega) | omega))))).un.cast (by rw [vl_dg (by decide) hnn.1]; exact hdm.1), ((hz170.ck ((y176.ck (by intro hh; first | (simp [SX] at hh <;> omega) | omega)).trans (y180.ck (by intro hh; first | (simp [SX] at hh <;> omega) | omega))))).un.cast (by rw [vl_dg (by decide) hnn.2.1]; exact hdm.2)⟩
set_option maxHeartbeats 400000 in
theorem rCmpZ_ok (n1 : Bool) (a1 : Option Addr) (l1 c1 : Nat) (z1 : Int) (L1 : Nat) (n2 : Bool) (a2 : Option Addr) (l2 c2 : Nat) (z2 : Int) (L2 : Nat) (S1 S2 : Nat → Prop) (w : World) (h1 : ZA L1 S1 w n1 a1 l1 c1 z1) (hL1 : L1 ≤ LX / 64) (h2 : ZA L2 S2 w n2 a2 l2 c2 z2) (hL2 : L2 ≤ LX / 64) :
    Calls Tryz.prog 192 #[.agg #[.bool n1, .slice a1 l1 c1], .agg #[.bool n2, .slice a2 l2 c2]] w (fun e w' => ∃ s, e = .returned (.int .i64 s) ∧ Ext w w' ∧ (s = 0 ↔ z1 = z2)) := by
 have z0 := Ext.refl w; have hLX : LX = 17592186044416 := rfl; have hLY : LY = 8796093022208 := rfl
 have h1' := h1; obtain ⟨xs, hx, hq1, hz1⟩ := h1'; have hv1 := vl_nonneg (B := b32) (by decide) hx.dg32
 have h2' := h2; obtain ⟨ys, hy, hq2, hz2⟩ := h2'; have hv2 := vl_nonneg (B := b32) (by decide) hy.dg32
 refine enter (args := [.agg #[.bool n1, .slice a1 l1 c1], .agg #[.bool n2, .slice a2 l2 c2]]) Tryz.func192 rfl rfl (Nat.le_of_ble_eq_true rfl) ?_
 refine V.seq (V.reg rfl ?_)
 refine vo ?_
 refine bxa rfl ?_
 intro W1 x2 b3 nn4
 have s5 := x2.sz
 have z6 := x2
 refine vo ?_
 refine bxa rfl ?_
 intro W7 x8 b9 nn10
 have s11 := x8.sz
 have z12 := z6.trans x8
 replace b3 := b3.ext x8
 refine asi rfl ?_
 refine vnil ?_
 refine V.seq ?_
 refine V.seq (V.regD mixed rfl ?_)
 intro W13 x14
 have s15 := x14.sz
 have z16 := z12.trans x14
 replace b3 := b3.ext x14
 replace b9 := b9.ext x14
 have q17 := Ext.refl W13
 have r18 := b3
 have r19 := b9
 refine tk 0 rfl (by kernel_rfl) q17 (pv (fun _ y20 => rldb2 rfl ag46 (r18.ext y20) rfl rfl )) ?_
 refine tk 2 rfl (by kernel_rfl) q17 (pv (fun _ y21 => rldb2 rfl ag46 (r19.ext y21) rfl rfl )) ?_
 refine ef 1 (by kernel_rfl) rfl ?_
 refine xcall e172 (rSign_ok _ _ _ _ _ _ _ _ (h1.ext z16) (by omega)) rfl rfl ?_
 rintro _ W22 ⟨rfl, x23⟩
 have s24 := x23.sz
 have z25 := z16.trans x23
 replace b3 := b3.ext x23
 replace b9 := b9.ext x23
 have q26 := q17.trans x23
 refine ⟨_, rfl, ?_⟩
 refine ⟨fun _ => q26, ?_⟩
 refine ef 3 (by kernel_rfl) rfl ?_
 refine xcall e172 (rSign_ok _ _ _ _ _ _ _ _ (h2.ext z25) (by omega)) rfl rfl ?_
 rintro _ W27 ⟨rfl, x28⟩
 have s29 := x28.sz
 have z30 := z25.trans x28
 replace b3 := b3.ext x28
 replace b9 := b9.ext x28
 have q31 := q26.trans x28
 refine ⟨_, rfl, ?_⟩
 refine ⟨fun _ => q31, ?_⟩
 refine tk 4 rfl (by kernel_rfl) q31 (pv (fun _ y32 => rcmp (cNe rfl) rfl rfl rfl)) ?_
 refine dn (by kernel_rfl) ?_
 refine V.condB rfl ?_ ?_
 ·intro c0
  refine V.seq ?_
  refine V.seq (V.regD mixed rfl ?_)
  intro W33 x34
  have s35 := x34.sz
  have z36 := z30.trans x34
  replace b3 := b3.ext x34
  replace b9 := b9.ext x34
  have q37 := Ext.refl W33
  have r38 := b3
  have r39 := b9
  refine tk 0 rfl (by kernel_rfl) q37 (pv (fun _ y40 => rldb2 rfl ag46 (r38.ext y40) rfl rfl )) ?_
  refine tk 2 rfl (by kernel_rfl) q37 (pv (fun _ y41 => rldb2 rfl ag46 (r39.ext y41) rfl rfl )) ?_
  refine ef 1 (by kernel_rfl) rfl ?_
  refine xcall e172 (rSign_ok _ _ _ _ _ _ _ _ (h1.ext z36) (by omega)) rfl rfl ?_
  rintro _ W42 ⟨rfl, x43⟩
  have s44 := x43.sz
  have z45 := z36.trans x43
  have q46 := q37.trans x43
  refine ⟨_, rfl, ?_⟩
  refine ⟨fun _ => q46, ?_⟩
  refine ef 3 (by kernel_rfl) rfl ?_
  refine xcall e172 (rSign_ok _ _ _ _ _ _ _ _ (h2.ext z45) (by omega)) rfl rfl ?_
  rintro _ W47 ⟨rfl, x48⟩
  have s49 := x48.sz
  have z50 := z45.trans x48
  have q51 := q46.trans x48
  refine ⟨_, rfl, ?_⟩
  refine ⟨fun _ => q51, ?_⟩
  refine tk 4 rfl (by kernel_rfl) q51 (pv (fun _ y52 => rcmp (cLt rfl) rfl rfl rfl)) ?_
  refine dn (by kernel_rfl) ?_
  refine V.condB rfl ?_ ?_
  ·intro c53
   refine V.seq (V.reg rfl ?_)
   refine asi rfl ?_
   refine vnil ?_
   refine V.ret ?_
   refine ⟨[.int _ _], ⟨rfl, trivial⟩, ?_⟩
   exact ⟨_, rfl, z50, ⟨fun h => absurd h (by decide), fun h => absurd h (cmpZ_ne (of_decide_eq_true c0))⟩⟩
  ·intro c53
   refine V.skip ?_
   refine V.seq (V.reg rfl ?_)
   refine asi rfl ?_
   refine vnil ?_
   refine V.ret ?_
   refine ⟨[.int _ _], ⟨rfl, trivial⟩, ?_⟩
   exact ⟨_, rfl, z50, ⟨fun h => absurd h (by decide), fun h => absurd h (cmpZ_ne (of_decide_eq_true c0))⟩⟩
 ·intro c0
  refine V.skip ?_
  refine V.seq (V.regD mixed rfl ?_)
  intro W54 x55
  have s56 := x55.sz
  have z57 := z30.trans x55
  replace b3 := b3.ext x55
  replace b9 := b9.ext x55
  have q58 := Ext.refl W54
  have r59 := b3
  have r60 := b9
  refine tk 0 rfl (by kernel_rfl) q58 (pv (fun _ y61 => rfa rfl fd46_1)) ?_
  refine tk 1 rfl (by kernel_rfl) q58 (pv (fun _ y62 => rldb (v := .slice _ _ _) rfl sc44 (r59.ext y62) rfl)) ?_
  refine tk 3 rfl (by kernel_rfl) q58 (pv (fun _ y63 => rfa rfl fd46_1)) ?_
  refine tk 4 rfl (by kernel_rfl) q58 (pv (fun _ y64 => rldb (v := .slice _ _ _) rfl sc44 (r60.ext y64) rfl)) ?_
  refine ef 2 (by kernel_rfl) rfl ?_
  refine xcall e198 (halves_ok _ _ _ _ _ _ _ (hx.ext z57) (by omega) (TT.up _)) rfl rfl ?_
  rintro _ W66 ⟨_, _, _, rfl, x67, hh65, hh65n⟩
  have s68 := x67.sz
  have z69 := z57.trans x67
  replace b3 := b3.ext x67
  have q70 := q58.trans x67
  refine ⟨_, rfl, ?_⟩
  refine ⟨fun _ => q70, ?_⟩
  refine ef 5 (by kernel_rfl) rfl ?_
  refine xcall e198 (halves_ok _ _ _ _ _ _ _ (hy.ext z69) (by omega) (TT.up _)) rfl rfl ?_
  rintro _ W72 ⟨_, _, _, rfl, x73, hh71, hh71n⟩
  have s74 := x73.sz
  have z75 := z69.trans x73
  replace b3 := b3.ext x73
  have q76 := q70.trans x73
  refine ⟨_, rfl, ?_⟩
  refine ⟨fun _ => q76, ?_⟩
  refine ef 6 (by kernel_rfl) rfl ?_
  refine xcall e202 (rcmp_ok _ _ _ _ _ _ _ _ _ _ _ (hh65.ext x73) (Dg.dg (by decide) _) hh71 (Dg.dg (by decide) _)) rfl rfl ?_
  rintro _ _ ⟨rfl, rfl⟩
  rw [vl_dg (by decide) hv1, vl_dg (by decide) hv2]
  have hcr := cmpI_range (vl b32 xs) (vl b32 ys)
  refine ⟨_, rfl, ?_⟩
  refine ⟨fun _ => q76, ?_⟩
  refine tk 7 rfl (by kernel_rfl) q76 (pv (fun _ y78 => ras (v := .int _ _) rfl)) ?_
  refine dn (by kernel_rfl) ?_
  refine V.seq ?_
  refine V.seq (V.reg rfl ?_)
  refine vv (rldb2 rfl ag46 b3 rfl rfl ) ?_
  refine vo ?_
  refine xcall e172 (rSign_ok _ _ _ _ _ _ _ _ (h1.ext z75) (by omega)) rfl rfl ?_
  rintro _ W79 ⟨rfl, x80⟩
  have s81 := x80.sz
  have z82 := z75.trans x80
  refine ⟨_, rfl, ?_⟩
  refine vlt rfl rfl ?_ ?_
  ·intro c83
   refine vnil ?_
   refine V.condT rfl ?_
   refine V.seq (V.reg rfl ?_)
   refine mvi rfl ?_
   refine vv (rneg rfl (wi (by omega))) ?_
   refine asi rfl ?_
   refine vnil ?_
   refine V.ret ?_
   refine ⟨[.int _ _], ⟨rfl, trivial⟩, ?_⟩
   have hcz : cmpI (vl b32 xs) (vl b32 ys) = 0 ↔ z1 = z2 := cmpI_zero.trans (by have he := cmpZ_eq n1 n2 hv1 hv2 (by rw [← hz1, ← hz2]; simpa using c0); rw [← hz1, ← hz2] at he; exact he)
   exact ⟨_, rfl, z82, fun h => hcz.1 (by omega), fun h => by have := hcz.2 h; omega⟩
  ·intro c83
   refine vnil ?_
   refine V.condF rfl ?_
   refine V.skip ?_
   refine V.seq (V.reg rfl ?_)
   refine mvi rfl ?_
   refine asi rfl ?_
   refine vnil ?_
   refine V.ret ?_
   refine ⟨[.int _ _], ⟨rfl, trivial⟩, ?_⟩
   have hcz : cmpI (vl b32 xs) (vl b32 ys) = 0 ↔ z1 = z2 := cmpI_zero.trans (by have he := cmpZ_eq n1 n2 hv1 hv2 (by rw [← hz1, ← hz2]; simpa using c0); rw [← hz1, ← hz2] at he; exact he)
   exact ⟨_, rfl, z82, hcz⟩
end Go.Proofs.YtknbjfefeeojlaaGreat
/- Package pylonref02: one den num over Least Of Neg Sign Mul. -/
namespace Go.Proofs.YtknbjfefeeojlaaGreat
open Go.RowKit
attribute [local irreducible] RV VH V OpF Calls
def dnq (y : Int) : Int := if y = 0 then 1 else (y.natAbs : Int)
def nmq (x y : Int) : Int := if y < 0 then -x else x
theorem dn_pos (y : Int) : 0 < dnq y := by unfold dnq; split <;> omega
theorem qv_nd (x y : Int) : Rat.divInt (nmq x y) (dnq y) = qv x y := by
  unfold nmq dnq
  by_cases h : y = 0
  · subst h; rw [if_pos rfl, if_neg (by omega), qv0]
  · rw [if_neg h, qvn h]
    by_cases h1 : y < 0
    · rw [if_pos h1, show ((y.natAbs : Nat) : Int) = -y by omega, Rat.neg_divInt_neg]
    · rw [if_neg h1, show ((y.natAbs : Nat) : Int) = y by omega]
theorem nm_abs (x y : Int) : ((nmq x y).natAbs : Int) = x.natAbs := by unfold nmq; split <;> simp
theorem one_lt_pow {L : Nat} (hL : 1 ≤ L) : (1 : Int) < b32 ^ L := by
  have := pow_mono (n := 1) (m := L) hL
  have e : b32 ^ 1 = 4294967296 := by decide
  omega
theorem dn_abs {y : Int} {L : Nat} (hL : 1 ≤ L) (h : (y.natAbs : Int) < b32 ^ L) : ((dnq y).natAbs : Int) < b32 ^ L := by
  have := one_lt_pow hL
  unfold dnq; split
  · simpa using this
  · simpa using h
theorem nm_lt {x y : Int} {L : Nat} (h : (x.natAbs : Int) < b32 ^ L) : ((nmq x y).natAbs : Int) < b32 ^ L := by rw [nm_abs]; exact h

set_option maxHeartbeats 400000 in
theorem rOne_ok (S : Nat → Prop) (w : World) (hu : Up S w) :
    Calls Tryz.prog 193 #[] w (PZ S 1 w) := by
 have z0 := Ext.refl w; have hLX : LX = 17592186044416 := rfl; have hLY : LY = 8796093022208 := rfl
 have hu2 : ∀ W : World, w.heap.size + 1 ≤ W.heap.size → Up (SX S [w.heap.size]) W := fun W hW => SX.up (hu.mono (by omega)) (by simp <;> omega)
 refine enter (args := []) Tryz.func193 rfl rfl (Nat.le_of_ble_eq_true rfl) ?_
 refine V.seq (V.reg rfl ?_)
 refine vo ?_
 refine xal zc46 ?_
 intro W1 x2 b3 nn4
 have s5 := x2.sz
 have z6 := x2
 refine vnil ?_
 refine V.seq (V.reg rfl ?_)
 refine vo ?_
 refine xcall e165 (rFrom_ok _ _ _ (by omega) (hu2 _ (by omega))) rfl rfl ?_
 rintro _ W8 ⟨_, _, _, _, rfl, x9, hz7⟩
 have s10 := x9.sz
 have z11 := z6.trans x9
 replace b3 := b3.ext x9
 refine ⟨_, rfl, ?_⟩
 refine vo ?_
 refine sta (cs' := [_, _]) b3 rfl rfl sz46 rfl rfl rfl ?_
 intro W12 y13 b3
 have z14 := z11.below (y13.below (by omega))
 have s15 := y13.size
 refine vnil ?_
 refine V.ret ?_
 refine ⟨[_], ⟨⟨_, rfl, lvb ag46 b3 rfl⟩, trivial⟩, ?_⟩
 exact ⟨_, _, _, _, rfl, z14, ((hz7.ck (y13.ck (by intro hh; first | (simp [SX] at hh <;> omega) | omega)))).un⟩
set_option maxHeartbeats 400000 in
theorem rDen_ok (q : List Value) (x y : Int) (L : Nat) (S S1 : Nat → Prop) (w : World) (h : PA L S1 w q x y) (hL : L ≤ LX / 64) (hu : Up S w) :
    Calls Tryz.prog 161 #[.agg q.toArray] w (PZ S (dnq y) w) := by
 have z0 := Ext.refl w; have hLX : LX = 17592186044416 := rfl; have hLY : LY = 8796093022208 := rfl
 obtain ⟨n1, a1, l1, c1, n2, a2, l2, c2, rfl⟩ := h.form
 obtain ⟨hx, hy⟩ := h.one
 have hu2 : ∀ W : World, w.heap.size + 2 ≤ W.heap.size → Up (SX S [w.heap.size + 1]) W := fun W hW => SX.up (hu.mono (by omega)) (by simp <;> omega)
 refine enter (args := [.agg #[.bool n1, .slice a1 l1 c1, .bool n2, .slice a2 l2 c2]]) Tryz.func161 rfl rfl (Nat.le_of_ble_eq_true rfl) ?_
 refine V.seq (V.reg rfl ?_)
 refine vo ?_
 refine bxa rfl ?_
 intro W1 x2 b3 nn4
 have s5 := x2.sz
 have z6 := x2
 refine vo ?_
 refine xal zc46 ?_
 intro W7 x8 b9 nn10
 have s11 := x8.sz
 have z12 := z6.trans x8
 replace b3 := b3.ext x8
 refine vnil ?_
 refine V.seq ?_
 refine V.seq (V.reg rfl ?_)
 refine vv (rfa rfl fd48_1) ?_
 refine vv (rldb2 rfl ag46 b3 rfl rfl ) ?_
 refine vo ?_
 refine xcall e172 (rSign_ok _ _ _ _ _ _ _ _ (hy.ext z12) (by omega)) rfl rfl ?_
 rintro _ W13 ⟨rfl, x14⟩
 have s15 := x14.sz
 have z16 := z12.trans x14
 replace b3 := b3.ext x14
 replace b9 := b9.ext x14
 refine ⟨_, rfl, ?_⟩
 refine veq rfl rfl ?_ ?_
 ·intro cs
  refine vnil ?_
  refine V.condT rfl ?_
  refine V.seq (V.reg rfl ?_)
  refine vo ?_
  refine xcall e193 (rOne_ok _ _ (hu2 _ (by omega))) rfl rfl ?_
  rintro _ W18 ⟨_, _, _, _, rfl, x19, hz17⟩
  have s20 := x19.sz
  have z21 := z16.trans x19
  replace b9 := b9.ext x19
  refine ⟨_, rfl, ?_⟩
  refine vo ?_
  refine sta (cs' := [_, _]) b9 rfl rfl sz46 rfl rfl rfl ?_
  intro W22 y23 b9
  have z24 := z21.below (y23.below (by omega))
  have s25 := y23.size
  refine vnil ?_
  refine V.ret ?_
  refine ⟨[_], ⟨⟨_, rfl, lvb ag46 b9 rfl⟩, trivial⟩, ?_⟩
  exact ⟨_, _, _, _, rfl, z24, ((hz17.ck (y23.ck (by intro hh; first | (simp [SX] at hh <;> omega) | omega)))).un.cast (by rw [dnq, if_pos (sg_eq0 cs)])⟩
 ·intro cs
  refine vnil ?_
  refine V.condF rfl ?_
  refine V.skip ?_
  refine V.seq (V.reg rfl ?_)
  refine vv (rfa rfl fd48_1) ?_
  refine vv (rldb2 rfl ag46 b3 rfl rfl ) ?_
  refine vo ?_
  refine xcall e195 (rAbs_ok _ _ _ _ _ _ _ _ _ (hy.ext z16) (by omega) (hu2 _ (by omega))) rfl rfl ?_
  rintro _ W27 ⟨_, _, _, _, rfl, x28, hz26⟩
  have s29 := x28.sz
  have z30 := z16.trans x28
  replace b9 := b9.ext x28
  refine ⟨_, rfl, ?_⟩
  refine vo ?_
  refine sta (cs' := [_, _]) b9 rfl rfl sz46 rfl rfl rfl ?_
  intro W31 y32 b9
  have z33 := z30.below (y32.below (by omega))
  have s34 := y32.size
  refine vnil ?_
  refine V.ret ?_
  refine ⟨[_], ⟨⟨_, rfl, lvb ag46 b9 rfl⟩, trivial⟩, ?_⟩
  exact ⟨_, _, _, _, rfl, z33, ((hz26.ck (y32.ck (by intro hh; first | (simp [SX] at hh <;> omega) | omega)))).un.cast (by rw [dnq, if_neg (fun h => cs (by rw [h]; rfl))])⟩

theorem sg_lt0 {y : Int} (h : sg y < 0) : y < 0 := by unfold sg at h; (repeat' split at h) <;> omega
theorem sg_ge0 {y : Int} (h : 0 ≤ sg y) : ¬ y < 0 := by unfold sg at h; (repeat' split at h) <;> omega

set_option maxHeartbeats 400000 in
theorem rNum_ok (q : List Value) (x y : Int) (L : Nat) (S S1 : Nat → Prop) (w : World) (h : PA L S1 w q x y) (hL : L ≤ LX / 64) (hu : Up S w) :
    Calls Tryz.prog 160 #[.agg q.toArray] w (PZ S (nmq x y) w) := by
 have z0 := Ext.refl w; have hLX : LX = 17592186044416 := rfl; have hLY : LY = 8796093022208 := rfl
 obtain ⟨n1, a1, l1, c1, n2, a2, l2, c2, rfl⟩ := h.form
 obtain ⟨hx, hy⟩ := h.one
 have hu2 : ∀ W : World, w.heap.size + 2 ≤ W.heap.size → Up (SX S [w.heap.size + 1]) W := fun W hW => SX.up (hu.mono (by omega)) (by simp <;> omega)
 refine enter (args := [.agg #[.bool n1, .slice a1 l1 c1, .bool n2, .slice a2 l2 c2]]) Tryz.func160 rfl rfl (Nat.le_of_ble_eq_true rfl) ?_
 refine V.seq (V.reg rfl ?_)
 refine vo ?_
 refine bxa rfl ?_
 intro W1 x2 b3 nn4
 have s5 := x2.sz
 have z6 := x2
 refine vo ?_
 refine xal zc46 ?_
 intro W7 x8 b9 nn10
 have s11 := x8.sz
 have z12 := z6.trans x8
 replace b3 := b3.ext x8
 refine vnil ?_
 refine V.seq ?_
 refine V.seq (V.reg rfl ?_)
 refine vv (rfa rfl fd48_1) ?_
 refine vv (rldb2 rfl ag46 b3 rfl rfl ) ?_
 refine vo ?_
 refine xcall e172 (rSign_ok _ _ _ _ _ _ _ _ (hy.ext z12) (by omega)) rfl rfl ?_
 rintro _ W13 ⟨rfl, x14⟩
 have s15 := x14.sz
 have z16 := z12.trans x14
 replace b3 := b3.ext x14
 replace b9 := b9.ext x14
 refine ⟨_, rfl, ?_⟩
 refine vlt rfl rfl ?_ ?_
 ·intro cs
  refine vnil ?_
  refine V.condT rfl ?_
  refine V.seq (V.reg rfl ?_)
  refine vv (rfa rfl fd48_0) ?_
  refine vv (rldb2 rfl ag46 b3 rfl rfl ) ?_
  refine vo ?_
  refine xcall e166 (rNeg_ok _ _ _ _ _ _ _ _ _ (hx.ext z16) (by omega) (hu2 _ (by omega))) rfl rfl ?_
  rintro _ W18 ⟨_, _, _, _, rfl, x19, hz17⟩
  have s20 := x19.sz
  have z21 := z16.trans x19
  replace b9 := b9.ext x19
  refine ⟨_, rfl, ?_⟩
  refine vo ?_
  refine sta (cs' := [_, _]) b9 rfl rfl sz46 rfl rfl rfl ?_
  intro W22 y23 b9
  have z24 := z21.below (y23.below (by omega))
  have s25 := y23.size
  refine vnil ?_
  refine V.ret ?_
  refine ⟨[_], ⟨⟨_, rfl, lvb ag46 b9 rfl⟩, trivial⟩, ?_⟩
  exact ⟨_, _, _, _, rfl, z24, ((hz17.ck (y23.ck (by intro hh; first | (simp [SX] at hh <;> omega) | omega)))).un.cast (by rw [nmq, if_pos (sg_lt0 cs)])⟩
 ·intro cs
  refine vnil ?_
  refine V.condF rfl ?_
  refine V.skip ?_
  refine V.seq (V.reg rfl ?_)
  refine vv (rfa rfl fd48_0) ?_
  refine vv (rldb2 rfl ag46 b3 rfl rfl ) ?_
  refine vo ?_
  refine xcall e194 (rLeastZ_ok _ _ _ _ _ _ _ _ _ (hx.ext z16) (by omega) (hu2 _ (by omega))) rfl rfl ?_
  rintro _ W27 ⟨_, _, _, _, rfl, x28, hz26⟩
  have s29 := x28.sz
  have z30 := z16.trans x28
  replace b9 := b9.ext x28
  refine ⟨_, rfl, ?_⟩
  refine vo ?_
  refine sta (cs' := [_, _]) b9 rfl rfl sz46 rfl rfl rfl ?_
  intro W31 y32 b9
  have z33 := z30.below (y32.below (by omega))
  have s34 := y32.size
  refine vnil ?_
  refine V.ret ?_
  refine ⟨[_], ⟨⟨_, rfl, lvb ag46 b9 rfl⟩, trivial⟩, ?_⟩
  exact ⟨_, _, _, _, rfl, z33, ((hz26.ck (y32.ck (by intro hh; first | (simp [SX] at hh <;> omega) | omega)))).un.cast (by rw [nmq, if_neg (sg_ge0 cs)])⟩
set_option maxHeartbeats 400000 in
theorem rOver_ok (n1 : Bool) (a1 : Option Addr) (l1 c1 : Nat) (n : Int) (L1 : Nat) (n2 : Bool) (a2 : Option Addr) (l2 c2 : Nat) (d : Int) (L2 : Nat) (S S1 S2 : Nat → Prop) (w : World) (h1 : ZA L1 S1 w n1 a1 l1 c1 n) (hL1 : L1 ≤ LX / 64) (h2 : ZA L2 S2 w n2 a2 l2 c2 d) (hL2 : L2 ≤ LX / 64) (hd : 0 < d) (hu : Up S w) :
    Calls Tryz.prog 159 #[.agg #[.bool n1, .slice a1 l1 c1], .agg #[.bool n2, .slice a2 l2 c2]] w (PQ S (Rat.divInt n d) w) := by
 have z0 := Ext.refl w; have hLX : LX = 17592186044416 := rfl; have hLY : LY = 8796093022208 := rfl
 have hu2 : ∀ W : World, w.heap.size + 3 ≤ W.heap.size → Up (SX S [w.heap.size + 2]) W := fun W hW => SX.up (hu.mono (by omega)) (by simp <;> omega)
 refine enter (args := [.agg #[.bool n1, .slice a1 l1 c1], .agg #[.bool n2, .slice a2 l2 c2]]) Tryz.func159 rfl rfl (Nat.le_of_ble_eq_true rfl) ?_
 refine V.seq (V.reg rfl ?_)
 refine vo ?_
 refine bxa rfl ?_
 intro W1 x2 b3 nn4
 have s5 := x2.sz
 have z6 := x2
 refine vo ?_
 refine bxa rfl ?_
 intro W7 x8 b9 nn10
 have s11 := x8.sz
 have z12 := z6.trans x8
 replace b3 := b3.ext x8
 refine vo ?_
 refine xal zc48 ?_
 intro W13 x14 b15 nn16
 have s17 := x14.sz
 have z18 := z12.trans x14
 replace b3 := b3.ext x14
 replace b9 := b9.ext x14
 refine vnil ?_
 refine V.seq (V.reg rfl ?_)
 refine vv (rldb2 rfl ag46 b3 rfl rfl ) ?_
 refine vv (rldb2 rfl ag46 b9 rfl rfl ) ?_
 refine vo ?_
 refine xcall e190 (rGcd_ok _ _ _ _ _ _ _ _ _ _ _ _ _ _ _ _ (h1.ext z18) hL1 (h2.ext z18) hL2 (hu2 _ (by omega))) rfl rfl ?_
 rintro _ W20 ⟨_, _, _, _, rfl, x21, hz19⟩
 have s22 := x21.sz
 have z23 := z18.trans x21
 replace b3 := b3.ext x21
 replace b9 := b9.ext x21
 replace b15 := b15.ext x21
 have hg := (ZC.zaH (L := L2) hz19 (by have := gcd_le (x := n) (y := d) hd; have := h2.lt; omega)).un
 refine ⟨_, rfl, ?_⟩
 refine vo ?_
 refine xal zc46 ?_
 intro W25 x26 b27 nn28
 have s29 := x26.sz
 have z30 := z23.trans x26
 have z31 := x26
 replace b3 := b3.ext x26
 replace b9 := b9.ext x26
 replace b15 := b15.ext x26
 refine vo ?_
 refine sta (cs' := [_, _]) b27 rfl rfl sz46 rfl rfl rfl ?_
 intro W32 y33 b27
 have z34 := z30.below (y33.below (by omega))
 have z35 := z31.below (y33.below (by omega))
 replace b3 := b3.wr y33 (by omega)
 replace b9 := b9.wr y33 (by omega)
 replace b15 := b15.wr y33 (by omega)
 have s36 := y33.size
 refine vnil ?_
 refine V.seq (V.reg rfl ?_)
 refine vv (rldb2 rfl ag46 b3 rfl rfl ) ?_
 refine vv (rldb2 rfl ag46 b27 rfl rfl ) ?_
 refine vo ?_
 refine xcall e191 (rDivZ_ok _ _ _ _ _ _ _ _ _ _ _ _ _ _ _ _ (h1.ext z34) (by omega) (hg.ext z35) hL2 (gcd_le hd).2 (hu2 _ (by omega))) rfl rfl ?_
 rintro _ W38 ⟨_, _, _, _, _, _, _, _, rfl, x39, hp, _⟩
 have s40 := x39.sz
 have z41 := z34.trans x39
 have z42 := z35.trans x39
 replace b3 := b3.ext x39
 replace b9 := b9.ext x39
 replace b15 := b15.ext x39
 replace b27 := b27.ext x39
 refine ⟨_, rfl, ?_⟩
 refine mvt rfl ?_
 refine vv (rext (v := .agg #[_, _]) rfl rfl) ?_
 refine vv (rext (v := .agg #[_, _]) rfl rfl) ?_
 refine vv (rext (v := .int _ _) rfl rfl) ?_
 refine vo ?_
 refine xal zc46 ?_
 intro W44 x45 b46 nn47
 have s48 := x45.sz
 have z49 := z41.trans x45
 have z50 := z42.trans x45
 have z51 := x45
 replace b3 := b3.ext x45
 replace b9 := b9.ext x45
 replace b15 := b15.ext x45
 replace b27 := b27.ext x45
 refine vo ?_
 refine xal zc46 ?_
 intro W52 x53 b54 nn55
 have s56 := x53.sz
 have z57 := z49.trans x53
 have z58 := z50.trans x53
 have z59 := z51.trans x53
 replace b3 := b3.ext x53
 replace b9 := b9.ext x53
 replace b15 := b15.ext x53
 replace b27 := b27.ext x53
 replace b46 := b46.ext x53
 refine vo ?_
 refine sta (cs' := [_, _]) b46 rfl rfl sz46 rfl rfl rfl ?_
 intro W60 y61 b46
 have z62 := z57.below (y61.below (by omega))
 have z63 := z58.below (y61.below (by omega))
 have z64 := z59.below (y61.below (by omega))
 replace b3 := b3.wr y61 (by omega)
 replace b9 := b9.wr y61 (by omega)
 replace b15 := b15.wr y61 (by omega)
 replace b27 := b27.wr y61 (by omega)
 replace b54 := b54.wr y61 (by omega)
 have s65 := y61.size
 refine vo ?_
 refine sta (cs' := [_, _]) b54 rfl rfl sz46 rfl rfl rfl ?_
 intro W66 y67 b54
 have z68 := z62.below (y67.below (by omega))
 have z69 := z63.below (y67.below (by omega))
 have z70 := z64.below (y67.below (by omega))
 replace b3 := b3.wr y67 (by omega)
 replace b9 := b9.wr y67 (by omega)
 replace b15 := b15.wr y67 (by omega)
 replace b27 := b27.wr y67 (by omega)
 replace b46 := b46.wr y67 (by omega)
 have s71 := y67.size
 refine asi rfl ?_
 refine vnil ?_
 refine V.seq (V.reg rfl ?_)
 refine vv (rldb2 rfl ag46 b9 rfl rfl ) ?_
 refine vv (rldb2 rfl ag46 b27 rfl rfl ) ?_
 refine vo ?_
 refine xcall e191 (rDivZ_ok _ _ _ _ _ _ _ _ _ _ _ _ _ _ _ _ (h2.ext z68) (by omega) (hg.ext z69) hL2 (gcd_le hd).2 (hu2 _ (by omega))) rfl rfl ?_
 rintro _ W73 ⟨_, _, _, _, _, _, _, _, rfl, x74, hq, _⟩
 have s75 := x74.sz
 have z76 := z68.trans x74
 have z78 := z70.trans x74
 replace b3 := b3.ext x74
 replace b9 := b9.ext x74
 replace b15 := b15.ext x74
 replace b27 := b27.ext x74
 replace b46 := b46.ext x74
 replace b54 := b54.ext x74
 refine ⟨_, rfl, ?_⟩
 refine mvt rfl ?_
 refine vv (rext (v := .agg #[_, _]) rfl rfl) ?_
 refine vv (rext (v := .agg #[_, _]) rfl rfl) ?_
 refine vv (rext (v := .int _ _) rfl rfl) ?_
 refine vo ?_
 refine xal zc46 ?_
 intro W80 x81 b82 nn83
 have s84 := x81.sz
 have z85 := z76.trans x81
 have z87 := z78.trans x81
 have z88 := x81
 replace b3 := b3.ext x81
 replace b9 := b9.ext x81
 replace b15 := b15.ext x81
 replace b27 := b27.ext x81
 replace b46 := b46.ext x81
 replace b54 := b54.ext x81
 refine vo ?_
 refine xal zc46 ?_
 intro W89 x90 b91 nn92
 have s93 := x90.sz
 have z94 := z85.trans x90
 have z96 := z87.trans x90
 have z97 := z88.trans x90
 replace b3 := b3.ext x90
 replace b9 := b9.ext x90
 replace b15 := b15.ext x90
 replace b27 := b27.ext x90
 replace b46 := b46.ext x90
 replace b54 := b54.ext x90
 replace b82 := b82.ext x90
 refine vo ?_
 refine sta (cs' := [_, _]) b82 rfl rfl sz46 rfl rfl rfl ?_
 intro W98 y99 b82
 have z100 := z94.below (y99.below (by omega))
 have z102 := z96.below (y99.below (by omega))
 have z103 := z97.below (y99.below (by omega))
 replace b3 := b3.wr y99 (by omega)
 replace b9 := b9.wr y99 (by omega)
 replace b15 := b15.wr y99 (by omega)
 replace b27 := b27.wr y99 (by omega)
 replace b46 := b46.wr y99 (by omega)
 replace b54 := b54.wr y99 (by omega)
 replace b91 := b91.wr y99 (by omega)
 have s104 := y99.size
 refine vo ?_
 refine sta (cs' := [_, _]) b91 rfl rfl sz46 rfl rfl rfl ?_
 intro W105 y106 b91
 have z107 := z100.below (y106.below (by omega))
 have z109 := z102.below (y106.below (by omega))
 have z110 := z103.below (y106.below (by omega))
 replace b3 := b3.wr y106 (by omega)
 replace b9 := b9.wr y106 (by omega)
 replace b15 := b15.wr y106 (by omega)
 replace b27 := b27.wr y106 (by omega)
 replace b46 := b46.wr y106 (by omega)
 replace b54 := b54.wr y106 (by omega)
 replace b82 := b82.wr y106 (by omega)
 have s111 := y106.size
 refine asi rfl ?_
 refine vnil ?_
 refine V.seq ?_
 refine V.seq (V.regD mixed rfl ?_)
 intro W112 x113
 have s114 := x113.sz
 have z115 := z107.trans x113
 have z117 := z109.trans x113
 have z118 := z110.trans x113
 replace b3 := b3.ext x113
 replace b9 := b9.ext x113
 replace b15 := b15.ext x113
 replace b27 := b27.ext x113
 replace b46 := b46.ext x113
 replace b54 := b54.ext x113
 replace b82 := b82.ext x113
 replace b91 := b91.ext x113
 have q119 := Ext.refl W112
 have r120 := b3
 have r121 := b9
 have r122 := b15
 have r123 := b27
 have r124 := b46
 have r125 := b54
 have r126 := b82
 have r127 := b91
 refine tk 0 rfl (by kernel_rfl) q119 (pv (fun _ y128 => rldb2 rfl ag46 (r126.ext y128) rfl rfl )) ?_
 refine ef 1 (by kernel_rfl) rfl ?_
 refine xcall e193 (rOne_ok _ _ (hu2 _ (by omega))) rfl rfl ?_
 rintro _ W130 ⟨_, _, _, _, rfl, x131, hz129⟩
 have s132 := x131.sz
 have z133 := z115.trans x131
 have z135 := z117.trans x131
 have z136 := z118.trans x131
 replace b15 := b15.ext x131
 replace b46 := b46.ext x131
 replace b82 := b82.ext x131
 have q137 := q119.trans x131
 have hone := ZC.zaH (L := 1) hz129 (by decide)
 refine ⟨_, rfl, ?_⟩
 refine ⟨fun _ => q137, ?_⟩
 refine ef 2 (by kernel_rfl) rfl ?_
 have hq2 := ZC.zaH (L := L2) (hq.ext z136) (by have := h2.lt; have h3 := Int.natAbs_ediv_le_natAbs d (Int.gcd n d : Int); omega)
 refine xcall e192 (rCmpZ_ok _ _ _ _ _ _ _ _ _ _ _ _ _ _ _ hq2 hL2 hone (by omega)) rfl rfl ?_
 rintro _ W139 ⟨_, rfl, x140, hcz⟩
 have s141 := x140.sz
 have z142 := z133.trans x140
 have z144 := z135.trans x140
 have z145 := z136.trans x140
 replace b15 := b15.ext x140
 replace b46 := b46.ext x140
 replace b82 := b82.ext x140
 have q147 := q137.trans x140
 refine ⟨_, rfl, ?_⟩
 refine ⟨fun _ => q147, ?_⟩
 refine tk 3 rfl (by kernel_rfl) q147 (pv (fun _ y148 => rcmp (cEq rfl) rfl rfl rfl)) ?_
 refine dn (by kernel_rfl) ?_
 refine V.condB rfl ?_ ?_
 ·intro c1
  refine V.seq (V.reg rfl ?_)
  refine vv (rldb2 rfl ag46 b46 rfl rfl ) ?_
  refine vv (rbd (ps := [(0, .agg #[_, _])]) (cs := [.bool _, .slice _ _ _, .bool false, .slice _ _ _]) pl48 rfl rfl) ?_
  refine vo ?_
  refine sta (cs' := [_, _, _, _]) b15 rfl rfl sz48 rfl rfl rfl ?_
  intro W149 y150 b15
  have z151 := z142.below (y150.below (by omega))
  have s152 := y150.size
  refine vnil ?_
  refine V.ret ?_
  refine ⟨[_], ⟨⟨_, rfl, lvb ag48 b15 rfl⟩, trivial⟩, ?_⟩
  have hd1 := hcz.1 (of_decide_eq_true c1)
  exact ⟨_, rfl, z151, QC.mk1 (((((hp.ext z144).ck (y150.ck (by intro hh; first | (simp [SX] at hh <;> omega) | omega)))).un).cast (num_dv hd).symm) (by have := den_dv (x := n) hd; omega)⟩
 ·intro c1
  refine V.skip ?_
  refine V.seq (V.reg rfl ?_)
  refine vv (rldb2 rfl ag46 b46 rfl rfl ) ?_
  refine vv (rldb2 rfl ag46 b82 rfl rfl ) ?_
  refine vv (rbd (ps := [(0, .agg #[_, _]), (1, .agg #[_, _])]) (cs := [.bool _, .slice _ _ _, .bool _, .slice _ _ _]) pl48 rfl rfl) ?_
  refine vo ?_
  refine sta (cs' := [_, _, _, _]) b15 rfl rfl sz48 rfl rfl rfl ?_
  intro W153 y154 b15
  have z155 := z142.below (y154.below (by omega))
  have s156 := y154.size
  refine vnil ?_
  refine V.ret ?_
  refine ⟨[_], ⟨⟨_, rfl, lvb ag48 b15 rfl⟩, trivial⟩, ?_⟩
  have hd1 : d / (Int.gcd n d : Int) ≠ 1 := fun h => of_decide_eq_false c1 (hcz.2 h)
  exact ⟨_, rfl, z155, QC.mk2 (((((hp.ext z144).ck (y154.ck (by intro hh; first | (simp [SX] at hh <;> omega) | omega)))).un).cast (num_dv hd).symm) (((((hq.ext z145).ck (y154.ck (by intro hh; first | (simp [SX] at hh <;> omega) | omega)))).un).cast (den_dv hd).symm) (by have := den_dv (x := n) hd; omega)⟩
end Go.Proofs.YtknbjfefeeojlaaGreat

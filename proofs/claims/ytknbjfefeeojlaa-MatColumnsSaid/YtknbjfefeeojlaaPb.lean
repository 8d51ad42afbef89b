/- Package pylonref01: trim, at, halves, of, Least, From, Same. -/
import Derived.Test.YtknbjfefeeojlaaPa
namespace Go.Proofs.Ytknbjfefeeojlaa
open Go.RowKit
attribute [local irreducible] RV VH V OpF Calls

set_option maxHeartbeats 400000 in
theorem rtrim_ok (a : Option Addr) (n c : Nat) (xs : List Int) (S : Nat → Prop) (w : World) (h : RN .i64 S w a n c xs) :
    Calls Try.prog 120 #[.slice a n c] w (fun e w' => ∃ m, e = .returned (.slice a m c) ∧ RN .i64 S w' a m c (tr xs) ∧ m ≤ n ∧ w = w') := by
  have z0 := Ext.refl w; have hLX : LX = 17592186044416 := rfl; have hLY : LY = 8796093022208 := rfl
  have hl := h.len; have hcp := h.cap; have hmx := h.max
  refine enter (args := [.slice a n c]) Try.func120 rfl rfl (Nat.le_of_ble_eq_true rfl) ?_
  refine V.seq (V.reg rfl ?_)
  refine ass rfl ?_
  refine vnil ?_
  refine V.seq (V.reg rfl ?_)
  refine mvs rfl ?_
  refine vv (rlen sl74 rfl) ?_
  refine asi rfl ?_
  refine vnil ?_
  refine V.seq ?_
  refine V.block ?_
  refine V.loopK (ι := Nat) [(0, .slice _ _ _), (2, .slice _ _ _)] (fun i => [(3, .int .i64 (i : Int))]) (fun i W => w = W ∧ i ≤ n ∧ tr (xs.take i) = tr xs) (fun i => i) (n) ⟨rfl, rfl, trivial⟩ ⟨rfl, trivial⟩ ⟨rfl, Nat.le_refl _, by rw [List.take_of_length_le (by omega)]⟩ ?_
  intro i E2 W1 h3
  obtain ⟨rfl, hm, ht⟩ := h3
  refine V.seq ?_
  refine V.seq (V.reg rfl ?_)
  refine mvi rfl ?_
  refine vgt rfl rfl ?_ ?_
  · intro c4
    refine mvb rfl ?_
    refine vg rfl ?_
    refine mvs rfl ?_
    refine vg rfl ?_
    refine mvi rfl ?_
    refine vg rfl ?_
    refine vv (rbin (bSub (wi (by omega))) rfl rfl) ?_
    refine vg rfl ?_
    refine vv (rixn h sl74 sz3 rfl rfl (by omega) (by omega)) ?_
    refine vg rfl ?_
    refine vldN h rfl sc3 (by omega) (by omega) ?_
    intro q5 hq5 hk6
    simp only [kb] at hk6
    refine vg rfl ?_
    refine veq rfl rfl ?_ ?_
    · intro cz
      refine vv (rpk (v := .bool true) rfl rfl) ?_
      refine vnil ?_
      refine V.condT rfl ?_
      refine V.skip ?_
      refine V.block ?_
      refine V.reg rfl ?_
      refine mvi rfl ?_
      refine vv (rbin (bSub (show IntKind.i64.wrap ((i : Int) - 1) = ((i - 1 : Nat) : Int) by rw [wi (by omega)]; omega)) rfl rfl) ?_
      refine asi rfl ?_
      refine vnil ?_
      refine ⟨rfl, i - 1, ⟨rfl, rfl, trivial⟩, ⟨rfl, trivial⟩, ⟨rfl, by omega, trim_step (n := n) (by omega) ht (by omega) (by rw [wd_take (by omega), ← hq5]; exact cz)⟩, ?_⟩
      show i - 1 < i
      omega
    · intro cz
      refine vv (rpk (v := .bool false) rfl rfl) ?_
      refine vnil ?_
      refine V.condF rfl ?_
      refine V.exit ?_
      refine V.seq (V.reg rfl ?_)
      refine mvs rfl ?_
      refine mvi rfl ?_
      have hs := (h).take (i) (by omega)
      refine vv (rslh (m := i) h sl74 sz3 rfl rfl rfl (by omega) (by omega)) ?_
      refine ass rfl ?_
      refine vnil ?_
      refine V.ret ?_
      refine ⟨[.slice _ _ _], ⟨rfl, trivial⟩, ?_⟩
      refine ⟨_, rfl, hs.cast ?_, hm, rfl⟩
      exact trim_last (by omega) ht (by omega) (by rw [wd_take (by omega), ← hq5]; exact cz)
  · intro c4
    refine mvb rfl ?_
    refine vgn (b := false) rfl rfl ?_
    refine vgn (b := false) rfl rfl ?_
    refine vgn (b := false) rfl rfl ?_
    refine vgn (b := false) rfl rfl ?_
    refine vgn (b := false) rfl rfl ?_
    refine vgn (b := false) rfl rfl ?_
    refine vv (rpk (v := .bool false) rfl rfl) ?_
    refine vnil ?_
    refine V.condF rfl ?_
    refine V.exit ?_
    refine V.seq (V.reg rfl ?_)
    refine mvs rfl ?_
    refine mvi rfl ?_
    have hs := (h).take (i) (by omega)
    refine vv (rslh (m := i) h sl74 sz3 rfl rfl rfl (by omega) (by omega)) ?_
    refine ass rfl ?_
    refine vnil ?_
    refine V.ret ?_
    refine ⟨[.slice _ _ _], ⟨rfl, trivial⟩, ?_⟩
    refine ⟨_, rfl, hs.cast ?_, hm, rfl⟩
    have e0 : i = 0 := by omega
    subst e0
    exact ht
set_option maxHeartbeats 400000 in
theorem rat_ok (a : Option Addr) (n c : Nat) (xs : List Int) (i : Int) (S : Nat → Prop) (w : World) (h : RN .i64 S w a n c xs) (hi : 0 ≤ i) :
    Calls Try.prog 121 #[.slice a n c, .int .i64 i] w (fun e w' => e = .returned (.int .i64 (wd xs i)) ∧ w = w') := by
  have z0 := Ext.refl w; have hLX : LX = 17592186044416 := rfl; have hLY : LY = 8796093022208 := rfl
  have hl := h.len
  refine enter (args := [.slice a n c, .int .i64 i]) Try.func121 rfl rfl (Nat.le_of_ble_eq_true rfl) ?_
  refine V.seq (V.reg rfl ?_)
  refine asi rfl ?_
  refine vnil ?_
  refine V.seq ?_
  refine V.seq (V.reg rfl ?_)
  refine mvi rfl ?_
  refine mvs rfl ?_
  refine vv (rlen sl74 rfl) ?_
  refine vlt rfl rfl ?_ ?_
  · intro c1
    refine vnil ?_
    refine V.condT rfl ?_
    refine V.seq (V.reg rfl ?_)
    refine mvs rfl ?_
    refine mvi rfl ?_
    refine vv (rixn h sl74 sz3 rfl rfl (by omega) (by omega)) ?_
    refine vldN h rfl sc3 (by omega) (by omega) ?_
    intro q2 hq2 hk3
    simp only [kb] at hk3
    refine asi rfl ?_
    refine vnil ?_
    refine V.ret ?_
    refine ⟨[.int _ _], ⟨rfl, trivial⟩, ?_⟩
    exact ⟨by rw [hq2]; rfl, rfl⟩
  · intro c1
    refine vnil ?_
    refine V.condF rfl ?_
    refine V.skip ?_
    refine V.seq (V.reg rfl ?_)
    refine asi rfl ?_
    refine vnil ?_
    refine V.ret ?_
    refine ⟨[.int _ _], ⟨rfl, trivial⟩, ?_⟩
    exact ⟨by rw [wd_ge (by omega)]; rfl, rfl⟩
set_option maxHeartbeats 400000 in
theorem halves_ok (a : Option Addr) (N c : Nat) (xs : List Int) (S S1 : Nat → Prop) (w : World) (h0 : RN .u32 S1 w a N c xs) (hn : N ≤ LX / 8) (hu : Up S w) :
    Calls Try.prog 115 #[.slice a N c] w (fun e w' => ∃ a n c, e = .returned (.slice a n c) ∧ Ext w w' ∧ RN .i64 S w' a n c (dg 65536 (vl b32 xs)) ∧ n ≤ 2 * N) := by
  have z0 := Ext.refl w; have hLX : LX = 17592186044416 := rfl; have hLY : LY = 8796093022208 := rfl
  have h := h0.sub (S' := fun q => q < w.heap.size) (fun b hb _ => hb)
  have hl := h.len
  refine enter (args := [.slice a N c]) Try.func115 rfl rfl (Nat.le_of_ble_eq_true rfl) ?_
  refine V.seq (V.reg rfl ?_)
  refine ass rfl ?_
  refine vnil ?_
  refine V.seq (V.reg rfl ?_)
  refine ass rfl ?_
  refine vnil ?_
  refine V.seq ?_
  refine V.seq (V.reg rfl ?_)
  refine asi rfl ?_
  refine vnil ?_
  refine V.block ?_
  refine V.loopK (ι := Nat × Value) [(0, .slice _ _ _), (2, .slice _ _ _)] (fun ⟨k, v⟩ => [(4, .int .i64 (k : Int)), (3, v)]) (fun ⟨k, v⟩ W => Ext w W ∧ k ≤ N ∧ OI .i64 w.heap.size W 3 v (h2 (xs.take k))) (fun ⟨k, v⟩ => N - k) ((0, _)) ⟨rfl, rfl, trivial⟩ ⟨rfl, rfl, trivial⟩ ⟨Ext.refl _, by omega, OI.nil .i64 _ _ _⟩ ?_
  intro i2 E3 W1 h4
  obtain ⟨k, v⟩ := i2
  simp only at h4
  show V _ _ _ _ _ _ (ups (ups _ _) [(4, .int .i64 (k : Int)), (3, v)]) _
  obtain ⟨x5, hk, hO⟩ := h4
  have s6 := x5.sz
  have z7 := x5
  refine V.seq ?_
  refine V.seq (V.reg rfl ?_)
  refine mvi rfl ?_
  refine mvs rfl ?_
  refine vv (rlen sl39 rfl) ?_
  refine vlt rfl rfl ?_ ?_
  · intro c8
    have hw := h.kb' (i := (k : Int)) (by omega) (by omega)
    simp only [kb] at hw
    have hln := h2_len (xs.take k)
    rw [List.length_take] at hln
    refine vnil ?_
    refine V.condT rfl ?_
    refine V.skip ?_
    refine V.seq ?_
    refine V.block ?_
    refine V.regS (fun W => KD (fun q => q < w.heap.size) W) mixed rfl ?_
    intro W9 x10
    have s11 := x10.sz
    have z12 := z7.trans x10
    replace hO := hO.ext x10
    have q13 := Ext.refl W9
    have q14 := KD.refl (fun q => q < w.heap.size) W9
    refine tk 0 rfl (by kernel_rfl) q14 (pv (fun _ y15 => rmv (v := v) rfl)) ?_
    refine tk 1 rfl (by kernel_rfl) q14 (pv (fun _ y16 => rmv (v := .slice _ _ _) rfl)) ?_
    refine tk 2 rfl (by kernel_rfl) q14 (pv (fun _ y17 => rmv (v := .int _ _) rfl)) ?_
    refine tk 3 rfl (by kernel_rfl) q14 (pv (fun _ y18 => rixn ((h.ext z12).ck (y18).ck) sl39 sz124 rfl rfl (by omega) (by omega))) ?_
    refine tk 4 rfl (by kernel_rfl) q14 (pv (fun _ y19 => rldN ((h.ext z12).ck (y19).ck) rfl sc124 (by omega) (by omega))) ?_
    refine tk 5 rfl (by kernel_rfl) q14 (pv (fun _ y20 => rbin (bRem (by omega) (Int.tmod_eq_emod_of_nonneg (by omega))) rfl rfl)) ?_
    refine tk 6 rfl (by kernel_rfl) q14 (pv (fun _ y21 => rcv Try.underlying124 Try.underlying3 rfl (wi (by omega)))) ?_
    refine tk 7 rfl (by kernel_rfl) q14 (pv (fun _ y22 => rmv (v := .slice _ _ _) rfl)) ?_
    refine tk 8 rfl (by kernel_rfl) q14 (pv (fun _ y23 => rmv (v := .int _ _) rfl)) ?_
    refine tk 9 rfl (by kernel_rfl) q14 (pv (fun _ y24 => rixn ((h.ext z12).ck (y24).ck) sl39 sz124 rfl rfl (by omega) (by omega))) ?_
    refine tk 10 rfl (by kernel_rfl) q14 (pv (fun _ y25 => rldN ((h.ext z12).ck (y25).ck) rfl sc124 (by omega) (by omega))) ?_
    refine tk 11 rfl (by kernel_rfl) q14 (pv (fun _ y26 => rbin (bQuo (by omega) (w32q (by rw [Int.tdiv_eq_ediv_of_nonneg (by omega)]; omega) (Int.tdiv_eq_ediv_of_nonneg (by omega)))) rfl rfl)) ?_
    refine tk 12 rfl (by kernel_rfl) q14 (pv (fun _ y27 => rcv Try.underlying124 Try.underlying3 rfl (wi (by omega)))) ?_
    refine ef 13 (by kernel_rfl) rfl ?_
    refine xbs (ps := [(0, .int _ _), (1, .int _ _)]) (cs := [.int _ _, .int _ _]) sl74 zr3 sz3 rfl rfl rfl rfl rfl rfl ?_
    intro W28 x29 b30 nn31
    have s32 := x29.sz
    have z33 := z12.trans x29
    replace hO := hO.ext x29
    have q34 := q14.trans x29.kd
    refine ⟨fun _ => q34, ?_⟩
    refine ef 14 (by kernel_rfl) rfl ?_
    have hl35 := RN.lit (k := .i64) (xs := [_, _]) 2 b30 (by intro q hq; simp only [List.mem_cons, List.not_mem_nil, or_false] at hq; simp only [kb]; omega) (TT.up W9 _ (Nat.le_refl _))
    refine xappN sl74 in3 hO rfl rfl hl35 (by simp only [List.length_nil, List.length_cons, List.length_append]; omega) (by decide) (by omega) ?_
    intro v36 W37 hO38 hg39 ho40
    have y41 := grown_below hg39 (by omega) (fun b e => (hO.low b e).1)
    have s42 := y41.size
    have q43 := q34.trans (Below.kd y41 (fun k hk _ => Nat.lt_of_lt_of_le hk (by omega)))
    have z44 := z33.below (y41.mono (by omega))
    refine ⟨fun _ => q43, ?_⟩
    refine tk 15 rfl (by kernel_rfl) q43 (pv (fun _ y45 => ras (v := v36) rfl)) ?_
    refine dn (by kernel_rfl) ?_
    refine V.reg rfl ?_
    refine mvi rfl ?_
    refine vv (rbin (bAdd (wi (by omega))) rfl rfl) ?_
    refine asi rfl ?_
    refine vnil ?_
    refine ⟨rfl, (k + 1, _), ⟨rfl, rfl, trivial⟩, ⟨rfl, rfl, trivial⟩, ⟨z44, by omega, by rw [h2_wd k xs (by omega)]; exact hO38⟩, ?_⟩
    show N - (k + 1) < N - k
    omega
  · intro c8
    refine vnil ?_
    refine V.condF rfl ?_
    refine V.exit ?_
    refine V.seq (V.reg rfl ?_)
    refine vv (rmv (v := v) rfl) ?_
    refine vo ?_
    obtain ⟨a', c', rfl⟩ := hO.form
    have hrn := hO.rn (S := S) (fun b hb _ => hu b (by omega))
    refine xcall e120 (rtrim_ok _ _ _ _ _ _ hrn) rfl rfl ?_
    rintro _ _ ⟨m1, rfl, hr1, hm1, rfl⟩
    refine ⟨_, rfl, ?_⟩
    refine ass rfl ?_
    refine vnil ?_
    refine V.ret ?_
    refine ⟨[.slice _ _ _], ⟨rfl, trivial⟩, ?_⟩
    exact ⟨_, _, _, rfl, z7, (hr1).cast (by rw [List.take_of_length_le (by omega), h2_tr h0.dg32]), by have hq := h2_len (xs.take k); rw [List.length_take] at hq; omega⟩
set_option maxHeartbeats 400000 in
theorem rof_ok (neg : Bool) (a : Option Addr) (n c : Nat) (xs : List Int) (S S1 : Nat → Prop) (w : World) (h : RN .i64 S1 w a n c xs) (hd : Dg b16 xs) (hn : n ≤ LX) (hu : Up S w) :
    Calls Try.prog 114 #[.bool neg, .slice a n c] w (PZ S (if neg then -(vl b16 xs) else vl b16 xs) w) := by
  have z0 := Ext.refl w; have hLX : LX = 17592186044416 := rfl; have hLY : LY = 8796093022208 := rfl
  have hv := vl_nonneg (B := b16) (by decide) hd
  have hl := h.len
  have hdt := wd_dg (B := b16) (by decide) hd.tr
  have hu2 : ∀ W : World, w.heap.size + 1 ≤ W.heap.size → Up (SX S [w.heap.size]) W := fun W hW => SX.up (hu.mono (by omega)) (by simp; omega)
  cases neg
  · skip
    refine enter (args := [.bool false, .slice a n c]) Try.func114 rfl rfl (Nat.le_of_ble_eq_true rfl) ?_
    refine V.seq (V.reg rfl ?_)
    refine vo ?_
    refine xal zc41 ?_
    intro W1 x2 b3 nn4
    have s5 := x2.sz
    have z6 := x2
    refine vnil ?_
    refine V.seq (V.reg rfl ?_)
    refine mvs rfl ?_
    refine vo ?_
    refine xcall e120 (rtrim_ok _ _ _ _ _ _ (h.ext z6)) rfl rfl ?_
    rintro _ _ ⟨m8, rfl, hr7, hm9, rfl⟩
    refine ⟨_, rfl, ?_⟩
    refine ass rfl ?_
    refine vnil ?_
    refine V.seq (V.reg rfl ?_)
    refine ass rfl ?_
    refine vnil ?_
    refine V.seq ?_
    refine V.seq (V.reg rfl ?_)
    refine asi rfl ?_
    refine vnil ?_
    refine V.block ?_
    have z11 := Ext.refl W1
    refine V.loopK (ι := Nat × Value) [(0, .bool false), (1, .slice _ _ _), (4, .pointer (some ⟨_, _, none⟩))] (fun ⟨k, v⟩ => [(6, .int .i64 (2 * (k : Int))), (5, v)]) (fun ⟨k, v⟩ W => Ext W1 W ∧ 2 * k ≤ n + 1 ∧ OI .u32 W1.heap.size W 124 v (p2 ((tr xs).take (2 * k)))) (fun ⟨k, v⟩ => n - k) ((0, _)) ⟨rfl, rfl, rfl, trivial⟩ ⟨rfl, rfl, trivial⟩ ⟨Ext.refl _, by omega, OI.nil .u32 _ _ _⟩ ?_
    intro i13 E14 W12 h15
    obtain ⟨k, v⟩ := i13
    simp only at h15
    show V _ _ _ _ _ _ (ups (ups _ _) [(6, .int .i64 (2 * (k : Int))), (5, v)]) _
    obtain ⟨x16, hk, hO⟩ := h15
    have s17 := x16.sz
    have z18 := z6.trans x16
    have z19 := x16
    replace b3 := b3.ext x16
    have hlt := hr7.len
    refine V.seq ?_
    refine V.seq (V.reg rfl ?_)
    refine mvi rfl ?_
    refine mvs rfl ?_
    refine vv (rlen sl74 rfl) ?_
    refine vlt rfl rfl ?_ ?_
    · intro c20
      have hb0 := hdt (2 * (k : Int)); have hb1 := hdt (2 * (k : Int) + 1); have hlp : (p2 ((tr xs).take (2 * k))).length ≤ 2 * k := p2_len k _
      unfold b16 at hb0 hb1
      refine vnil ?_
      refine V.condT rfl ?_
      refine V.skip ?_
      refine V.seq ?_
      refine V.block ?_
      refine V.reg rfl ?_
      refine vv (rmv (v := v) rfl) ?_
      refine mvs rfl ?_
      refine mvi rfl ?_
      refine vo ?_
      refine xcall e121 (rat_ok _ _ _ _ _ _ _ (hr7.ext z19) (by omega)) rfl rfl ?_
      rintro _ _ ⟨rfl, rfl⟩
      refine ⟨_, rfl, ?_⟩
      refine vv (rcv Try.underlying3 Try.underlying124 rfl (w32 (by omega))) ?_
      refine mvs rfl ?_
      refine mvi rfl ?_
      refine vv (rbin (bAdd (wi (by omega))) rfl rfl) ?_
      refine vo ?_
      refine xcall e121 (rat_ok _ _ _ _ _ _ _ (hr7.ext z19) (by omega)) rfl rfl ?_
      rintro _ _ ⟨rfl, rfl⟩
      refine ⟨_, rfl, ?_⟩
      refine vv (rcv Try.underlying3 Try.underlying124 rfl (w32 (by omega))) ?_
      refine vv (rbin (bMul (w32 (by omega))) rfl rfl) ?_
      refine vv (rbin (bAdd (w32 (by omega))) rfl rfl) ?_
      refine vo ?_
      refine xbs (ps := [(0, .int _ _)]) (cs := [.int _ _]) sl39 zr124 sz124 rfl rfl rfl rfl rfl rfl ?_
      intro W23 x24 b25 nn26
      have s27 := x24.sz
      have z28 := z18.trans x24
      have z29 := z19.trans x24
      replace b3 := b3.ext x24
      replace hO := hO.ext x24
      refine vo ?_
      refine xapp sl39 in124 hO rfl rfl b25 (by simp only [kb]; omega) (by omega) (by decide) (by omega) ?_
      intro v30 W31 hO32 hg33 ho34
      have y35 := grown_below hg33 (by omega) (fun b e => (hO.low b e).1)
      have s36 := y35.size
      have z37 := z28.below (y35.mono (by omega))
      have z38 := z29.below (y35.mono (by omega))
      replace b3 := b3.bl y35 (by omega)
      refine vv (ras (v := v30) rfl) ?_
      refine vnil ?_
      refine V.reg rfl ?_
      refine mvi rfl ?_
      refine vv (rbin (bAdd (wi (by omega))) rfl rfl) ?_
      refine asi rfl ?_
      refine vnil ?_
      refine ⟨rfl, (k + 1, _), ⟨rfl, rfl, rfl, trivial⟩, ⟨rfl, rfl, trivial⟩, ⟨z38, by omega, by rw [p2_wd k _ (by omega)]; exact hO32⟩, ?_⟩
      show n - (k + 1) < n - k
      omega
    · intro c20
      obtain ⟨a', c', rfl⟩ := hO.form
      refine vnil ?_
      refine V.condF rfl ?_
      refine V.exit ?_
      refine V.seq (V.reg rfl ?_)
      refine mvb rfl ?_
      refine mvb rfl ?_
      refine vgn (b := false) rfl rfl ?_
      refine vgn (b := false) rfl rfl ?_
      refine vgn (b := false) rfl rfl ?_
      refine vv (rpk (v := .bool false) rfl rfl) ?_
      refine mvs rfl ?_
      refine vv (rbd (ps := [(0, .bool false), (1, .slice _ _ _)]) (cs := [.bool false, .slice _ _ _]) pl41 rfl rfl) ?_
      refine vo ?_
      refine sta (cs' := [_, _]) b3 rfl rfl sz41 rfl rfl rfl ?_
      intro W39 y40 b3
      have z41 := z18.below (y40.below (by omega))
      have s42 := y40.size
      refine vnil ?_
      refine V.ret ?_
      refine ⟨[_], ⟨⟨_, rfl, lvb ag41 b3 rfl⟩, trivial⟩, ?_⟩
      have hp : p2 ((tr xs).take (2 * k)) = dg b32 (vl b16 xs) := by rw [List.take_of_length_le (by omega), p2_tr hd.tr (by rw [← dg_vl (by decide) hd, tr_dg (by decide) hv]), vl_tr]
      have hrn := (hO.rn (S := SX S [w.heap.size]) (fun b hb _ => hu2 W1 (by omega) b hb)).cast hp
      exact ⟨_, _, _, _, rfl, z41, ZC.mk' ((hrn.ck (y40.ck (by intro hh; simp [SX] at hh))).un) hv (by first | rfl | (simp only [Bool.true_and]; first | exact (decide_eq_true (by omega)).symm | exact (decide_eq_false (by omega)).symm))⟩
  · skip
    refine enter (args := [.bool true, .slice a n c]) Try.func114 rfl rfl (Nat.le_of_ble_eq_true rfl) ?_
    refine V.seq (V.reg rfl ?_)
    refine vo ?_
    refine xal zc41 ?_
    intro W43 x44 b45 nn46
    have s47 := x44.sz
    have z48 := x44
    refine vnil ?_
    refine V.seq (V.reg rfl ?_)
    refine mvs rfl ?_
    refine vo ?_
    refine xcall e120 (rtrim_ok _ _ _ _ _ _ (h.ext z48)) rfl rfl ?_
    rintro _ _ ⟨m50, rfl, hr49, hm51, rfl⟩
    refine ⟨_, rfl, ?_⟩
    refine ass rfl ?_
    refine vnil ?_
    refine V.seq (V.reg rfl ?_)
    refine ass rfl ?_
    refine vnil ?_
    refine V.seq ?_
    refine V.seq (V.reg rfl ?_)
    refine asi rfl ?_
    refine vnil ?_
    refine V.block ?_
    have z53 := Ext.refl W43
    refine V.loopK (ι := Nat × Value) [(0, .bool true), (1, .slice _ _ _), (4, .pointer (some ⟨_, _, none⟩))] (fun ⟨k, v⟩ => [(6, .int .i64 (2 * (k : Int))), (5, v)]) (fun ⟨k, v⟩ W => Ext W43 W ∧ 2 * k ≤ n + 1 ∧ OI .u32 W43.heap.size W 124 v (p2 ((tr xs).take (2 * k)))) (fun ⟨k, v⟩ => n - k) ((0, _)) ⟨rfl, rfl, rfl, trivial⟩ ⟨rfl, rfl, trivial⟩ ⟨Ext.refl _, by omega, OI.nil .u32 _ _ _⟩ ?_
    intro i55 E56 W54 h57
    obtain ⟨k, v⟩ := i55
    simp only at h57
    show V _ _ _ _ _ _ (ups (ups _ _) [(6, .int .i64 (2 * (k : Int))), (5, v)]) _
    obtain ⟨x58, hk, hO⟩ := h57
    have s59 := x58.sz
    have z60 := z48.trans x58
    have z61 := x58
    replace b45 := b45.ext x58
    have hlt := hr49.len
    refine V.seq ?_
    refine V.seq (V.reg rfl ?_)
    refine mvi rfl ?_
    refine mvs rfl ?_
    refine vv (rlen sl74 rfl) ?_
    refine vlt rfl rfl ?_ ?_
    · intro c62
      have hb0 := hdt (2 * (k : Int)); have hb1 := hdt (2 * (k : Int) + 1); have hlp : (p2 ((tr xs).take (2 * k))).length ≤ 2 * k := p2_len k _
      unfold b16 at hb0 hb1
      refine vnil ?_
      refine V.condT rfl ?_
      refine V.skip ?_
      refine V.seq ?_
      refine V.block ?_
      refine V.reg rfl ?_
      refine vv (rmv (v := v) rfl) ?_
      refine mvs rfl ?_
      refine mvi rfl ?_
      refine vo ?_
      refine xcall e121 (rat_ok _ _ _ _ _ _ _ (hr49.ext z61) (by omega)) rfl rfl ?_
      rintro _ _ ⟨rfl, rfl⟩
      refine ⟨_, rfl, ?_⟩
      refine vv (rcv Try.underlying3 Try.underlying124 rfl (w32 (by omega))) ?_
      refine mvs rfl ?_
      refine mvi rfl ?_
      refine vv (rbin (bAdd (wi (by omega))) rfl rfl) ?_
      refine vo ?_
      refine xcall e121 (rat_ok _ _ _ _ _ _ _ (hr49.ext z61) (by omega)) rfl rfl ?_
      rintro _ _ ⟨rfl, rfl⟩
      refine ⟨_, rfl, ?_⟩
      refine vv (rcv Try.underlying3 Try.underlying124 rfl (w32 (by omega))) ?_
      refine vv (rbin (bMul (w32 (by omega))) rfl rfl) ?_
      refine vv (rbin (bAdd (w32 (by omega))) rfl rfl) ?_
      refine vo ?_
      refine xbs (ps := [(0, .int _ _)]) (cs := [.int _ _]) sl39 zr124 sz124 rfl rfl rfl rfl rfl rfl ?_
      intro W65 x66 b67 nn68
      have s69 := x66.sz
      have z70 := z60.trans x66
      have z71 := z61.trans x66
      replace b45 := b45.ext x66
      replace hO := hO.ext x66
      refine vo ?_
      refine xapp sl39 in124 hO rfl rfl b67 (by simp only [kb]; omega) (by omega) (by decide) (by omega) ?_
      intro v72 W73 hO74 hg75 ho76
      have y77 := grown_below hg75 (by omega) (fun b e => (hO.low b e).1)
      have s78 := y77.size
      have z79 := z70.below (y77.mono (by omega))
      have z80 := z71.below (y77.mono (by omega))
      replace b45 := b45.bl y77 (by omega)
      refine vv (ras (v := v72) rfl) ?_
      refine vnil ?_
      refine V.reg rfl ?_
      refine mvi rfl ?_
      refine vv (rbin (bAdd (wi (by omega))) rfl rfl) ?_
      refine asi rfl ?_
      refine vnil ?_
      refine ⟨rfl, (k + 1, _), ⟨rfl, rfl, rfl, trivial⟩, ⟨rfl, rfl, trivial⟩, ⟨z80, by omega, by rw [p2_wd k _ (by omega)]; exact hO74⟩, ?_⟩
      show n - (k + 1) < n - k
      omega
    · intro c62
      obtain ⟨a', c', rfl⟩ := hO.form
      refine vnil ?_
      refine V.condF rfl ?_
      refine V.exit ?_
      refine V.seq (V.reg rfl ?_)
      refine mvb rfl ?_
      refine mvb rfl ?_
      refine vg rfl ?_
      refine mvs rfl ?_
      refine vg rfl ?_
      refine vv (rlen sl39 rfl) ?_
      refine vg rfl ?_
      refine vgt rfl rfl ?_ ?_
      · intro c81
        refine vv (rpk (v := .bool true) rfl rfl) ?_
        refine mvs rfl ?_
        refine vv (rbd (ps := [(0, .bool true), (1, .slice _ _ _)]) (cs := [.bool true, .slice _ _ _]) pl41 rfl rfl) ?_
        refine vo ?_
        refine sta (cs' := [_, _]) b45 rfl rfl sz41 rfl rfl rfl ?_
        intro W82 y83 b45
        have z84 := z60.below (y83.below (by omega))
        have s85 := y83.size
        refine vnil ?_
        refine V.ret ?_
        refine ⟨[_], ⟨⟨_, rfl, lvb ag41 b45 rfl⟩, trivial⟩, ?_⟩
        have hp : p2 ((tr xs).take (2 * k)) = dg b32 (vl b16 xs) := by rw [List.take_of_length_le (by omega), p2_tr hd.tr (by rw [← dg_vl (by decide) hd, tr_dg (by decide) hv]), vl_tr]
        have hrn := (hO.rn (S := SX S [w.heap.size]) (fun b hb _ => hu2 W43 (by omega) b hb)).cast hp
        exact ⟨_, _, _, _, rfl, z84, ZC.mk' ((hrn.ck (y83.ck (by intro hh; simp [SX] at hh))).un) hv (by first | rfl | (simp only [Bool.true_and]; first | exact (decide_eq_true (by omega)).symm | exact (decide_eq_false (by omega)).symm))⟩
      · intro c81
        refine vv (rpk (v := .bool false) rfl rfl) ?_
        refine mvs rfl ?_
        refine vv (rbd (ps := [(0, .bool false), (1, .slice _ _ _)]) (cs := [.bool false, .slice _ _ _]) pl41 rfl rfl) ?_
        refine vo ?_
        refine sta (cs' := [_, _]) b45 rfl rfl sz41 rfl rfl rfl ?_
        intro W86 y87 b45
        have z88 := z60.below (y87.below (by omega))
        have s89 := y87.size
        refine vnil ?_
        refine V.ret ?_
        refine ⟨[_], ⟨⟨_, rfl, lvb ag41 b45 rfl⟩, trivial⟩, ?_⟩
        have hp : p2 ((tr xs).take (2 * k)) = dg b32 (vl b16 xs) := by rw [List.take_of_length_le (by omega), p2_tr hd.tr (by rw [← dg_vl (by decide) hd, tr_dg (by decide) hv]), vl_tr]
        have hrn := (hO.rn (S := SX S [w.heap.size]) (fun b hb _ => hu2 W43 (by omega) b hb)).cast hp
        exact ⟨_, _, _, _, rfl, z88, ZC.mk' ((hrn.ck (y87.ck (by intro hh; simp [SX] at hh))).un) hv (by first | rfl | (simp only [Bool.true_and]; first | exact (decide_eq_true (by omega)).symm | exact (decide_eq_false (by omega)).symm))⟩
set_option maxHeartbeats 400000 in
theorem rLeast_ok (neg : Bool) (a : Option Addr) (n c : Nat) (xs : List Int) (S S1 : Nat → Prop) (w : World) (h : RN .u32 S1 w a n c xs) (hn : n ≤ LX / 8) (hu : Up S w) :
    Calls Try.prog 104 #[.agg #[.bool neg, .slice a n c]] w (PZ S (if neg then -(vl b32 xs) else vl b32 xs) w) := by
  have z0 := Ext.refl w; have hLX : LX = 17592186044416 := rfl; have hLY : LY = 8796093022208 := rfl
  have hu2 : ∀ W : World, w.heap.size + 2 ≤ W.heap.size → Up (SX S [w.heap.size + 1]) W := fun W hW => SX.up (hu.mono (by omega)) (by simp <;> omega)
  have hv := vl_nonneg (B := b32) (by decide) h.dg32
  refine enter (args := [.agg #[.bool neg, .slice a n c]]) Try.func104 rfl rfl (Nat.le_of_ble_eq_true rfl) ?_
  refine V.seq (V.reg rfl ?_)
  refine vo ?_
  refine bxa rfl ?_
  intro W1 x2 b3 nn4
  have s5 := x2.sz
  have z6 := x2
  refine vo ?_
  refine xal zc41 ?_
  intro W7 x8 b9 nn10
  have s11 := x8.sz
  have z12 := z6.trans x8
  replace b3 := b3.ext x8
  refine vnil ?_
  refine V.seq (V.regD mixed rfl ?_)
  intro W13 x14
  have s15 := x14.sz
  have z16 := z12.trans x14
  replace b3 := b3.ext x14
  replace b9 := b9.ext x14
  have q17 := Ext.refl W13
  have r18 := b3
  have r19 := b9
  refine tk 0 rfl (by kernel_rfl) q17 (pv (fun _ y20 => rfa rfl fd41_0)) ?_
  refine tk 1 rfl (by kernel_rfl) q17 (pv (fun _ y21 => rldb (v := .bool _) rfl sc4 (r18.ext y21) rfl)) ?_
  refine tk 2 rfl (by kernel_rfl) q17 (pv (fun _ y22 => rfa rfl fd41_1)) ?_
  refine tk 3 rfl (by kernel_rfl) q17 (pv (fun _ y23 => rldb (v := .slice _ _ _) rfl sc39 (r18.ext y23) rfl)) ?_
  refine ef 4 (by kernel_rfl) rfl ?_
  refine xcall e115 (halves_ok _ _ _ _ _ _ _ (h.ext z16) (by omega) (TT.up _)) rfl rfl ?_
  rintro _ W25 ⟨_, _, _, rfl, x26, hh24, hh24n⟩
  have s27 := x26.sz
  have z28 := z16.trans x26
  replace b3 := b3.ext x26
  replace b9 := b9.ext x26
  have q29 := q17.trans x26
  refine ⟨_, rfl, ?_⟩
  refine ⟨fun _ => q29, ?_⟩
  refine ef 5 (by kernel_rfl) rfl ?_
  refine xcall e114 (rof_ok _ _ _ _ _ _ _ _ hh24 (Dg.dg (by decide) _) (by omega) (hu2 _ (by omega))) rfl rfl ?_
  rintro _ W31 ⟨_, _, _, _, rfl, x32, hz30⟩
  have s33 := x32.sz
  have z34 := z28.trans x32
  replace b3 := b3.ext x32
  replace b9 := b9.ext x32
  have q35 := q29.trans x32
  refine ⟨_, rfl, ?_⟩
  refine ⟨fun _ => q35, ?_⟩
  refine ef 6 (by kernel_rfl) rfl ?_
  refine sta (cs' := [_, _]) b9 rfl rfl sz41 rfl rfl rfl ?_
  intro W36 y37 b9
  have z38 := z34.below (y37.below (by omega))
  replace b3 := b3.wr y37 (by omega)
  have s39 := y37.size
  refine lastT (by kernel_rfl) ?_
  refine dn (by kernel_rfl) ?_
  refine V.ret ?_
  refine ⟨[_], ⟨⟨_, rfl, lvb ag41 b9 rfl⟩, trivial⟩, ?_⟩
  exact ⟨_, _, _, _, rfl, z38, ((hz30.ck (y37.ck (by intro hh; simp [SX] at hh <;> omega)))).un.cast (by rw [vl_dg (by decide) hv])⟩
set_option maxHeartbeats 400000 in
theorem rFrom_ok (x : Int) (S : Nat → Prop) (w : World) (hx : -9223372036854775808 ≤ x ∧ x ≤ 9223372036854775807) (hu : Up S w) :
    Calls Try.prog 83 #[.int .i64 x] w (PZ S x w) := by
  have z0 := Ext.refl w; have hLX : LX = 17592186044416 := rfl; have hLY : LY = 8796093022208 := rfl
  have hu2 : ∀ W : World, w.heap.size + 1 ≤ W.heap.size → Up (SX S [w.heap.size]) W := fun W hW => SX.up (hu.mono (by omega)) (by simp <;> omega)
  refine enter (args := [.int .i64 x]) Try.func83 rfl rfl (Nat.le_of_ble_eq_true rfl) ?_
  refine V.seq (V.reg rfl ?_)
  refine vo ?_
  refine xal zc41 ?_
  intro W1 x2 b3 nn4
  have s5 := x2.sz
  have z6 := x2
  refine vnil ?_
  refine V.seq (V.reg rfl ?_)
  refine mvi rfl ?_
  refine vv (rcv Try.underlying2 Try.underlying122 rfl (m64 _)) ?_
  refine asi rfl ?_
  refine vnil ?_
  refine V.seq ?_
  refine V.seq (V.reg rfl ?_)
  refine mvi rfl ?_
  refine vlt rfl rfl ?_ ?_
  · intro c7
    refine vnil ?_
    refine V.condT rfl ?_
    refine V.reg rfl ?_
    refine mvi rfl ?_
    refine vv (rneg rfl (m64 _)) ?_
    refine asi rfl ?_
    refine vnil ?_
    refine V.seq (V.reg rfl ?_)
    refine mvi rfl ?_
    refine vlt rfl rfl ?_ ?_
    · intro c8
      refine mvi rfl ?_
      refine vv (rbin (bRem (by omega) (Int.tmod_eq_emod_of_nonneg (by omega))) rfl rfl) ?_
      refine vv (rcv Try.underlying122 Try.underlying124 rfl (m32 _)) ?_
      refine mvi rfl ?_
      refine vv (rbin (bQuo (by omega) (wuq (by rw [Int.tdiv_eq_ediv_of_nonneg (by omega)]; omega) (Int.tdiv_eq_ediv_of_nonneg (by omega)))) rfl rfl) ?_
      refine vv (rcv Try.underlying122 Try.underlying124 rfl (m32 _)) ?_
      refine vo ?_
      refine xbs (ps := [(0, .int _ _), (1, .int _ _)]) (cs := [.int _ _, .int _ _]) sl39 zr124 sz124 rfl rfl rfl rfl rfl rfl ?_
      intro W9 x10 b11 nn12
      have s13 := x10.sz
      have z14 := z6.trans x10
      replace b3 := b3.ext x10
      refine vv (rbd (ps := [(0, .bool true), (1, .slice _ _ _)]) (cs := [.bool true, .slice _ _ _]) pl41 rfl rfl) ?_
      refine vo ?_
      have hl16 := RN.lit (k := .u32) (xs := [_, _]) 2 b11 (by intro q hq; simp only [List.mem_cons, List.not_mem_nil, or_false] at hq; simp only [kb]; omega) (TT.up W1 _ (Nat.le_refl _))
      refine xcall e104 (rLeast_ok _ _ _ _ _ _ _ _ hl16 (by omega) (hu2 _ (by omega))) rfl rfl ?_
      rintro _ W17 ⟨_, _, _, _, rfl, x18, hz15⟩
      have s19 := x18.sz
      have z20 := z14.trans x18
      replace b3 := b3.ext x18
      replace b11 := b11.ext x18
      refine ⟨_, rfl, ?_⟩
      refine vo ?_
      refine sta (cs' := [_, _]) b3 rfl rfl sz41 rfl rfl rfl ?_
      intro W21 y22 b3
      have z23 := z20.below (y22.below (by omega))
      replace b11 := b11.wr y22 (by omega)
      have s24 := y22.size
      refine vnil ?_
      refine V.ret ?_
      refine ⟨[_], ⟨⟨_, rfl, lvb ag41 b3 rfl⟩, trivial⟩, ?_⟩
      exact ⟨_, _, _, _, rfl, z23, ((hz15.ck (y22.ck (by intro hh; simp [SX] at hh <;> omega)))).un.cast (by simp [vl, b32]; omega)⟩
    · intro c8
      omega
  · intro c7
    refine vnil ?_
    refine V.condF rfl ?_
    refine V.skip ?_
    refine V.seq (V.reg rfl ?_)
    refine mvi rfl ?_
    refine vlt rfl rfl ?_ ?_
    · intro c25
      omega
    · intro c25
      refine mvi rfl ?_
      refine vv (rbin (bRem (by omega) (Int.tmod_eq_emod_of_nonneg (by omega))) rfl rfl) ?_
      refine vv (rcv Try.underlying122 Try.underlying124 rfl (m32 _)) ?_
      refine mvi rfl ?_
      refine vv (rbin (bQuo (by omega) (wuq (by rw [Int.tdiv_eq_ediv_of_nonneg (by omega)]; omega) (Int.tdiv_eq_ediv_of_nonneg (by omega)))) rfl rfl) ?_
      refine vv (rcv Try.underlying122 Try.underlying124 rfl (m32 _)) ?_
      refine vo ?_
      refine xbs (ps := [(0, .int _ _), (1, .int _ _)]) (cs := [.int _ _, .int _ _]) sl39 zr124 sz124 rfl rfl rfl rfl rfl rfl ?_
      intro W26 x27 b28 nn29
      have s30 := x27.sz
      have z31 := z6.trans x27
      replace b3 := b3.ext x27
      refine vv (rbd (ps := [(0, .bool false), (1, .slice _ _ _)]) (cs := [.bool false, .slice _ _ _]) pl41 rfl rfl) ?_
      refine vo ?_
      have hl33 := RN.lit (k := .u32) (xs := [_, _]) 2 b28 (by intro q hq; simp only [List.mem_cons, List.not_mem_nil, or_false] at hq; simp only [kb]; omega) (TT.up W1 _ (Nat.le_refl _))
      refine xcall e104 (rLeast_ok _ _ _ _ _ _ _ _ hl33 (by omega) (hu2 _ (by omega))) rfl rfl ?_
      rintro _ W34 ⟨_, _, _, _, rfl, x35, hz32⟩
      have s36 := x35.sz
      have z37 := z31.trans x35
      replace b3 := b3.ext x35
      replace b28 := b28.ext x35
      refine ⟨_, rfl, ?_⟩
      refine vo ?_
      refine sta (cs' := [_, _]) b3 rfl rfl sz41 rfl rfl rfl ?_
      intro W38 y39 b3
      have z40 := z37.below (y39.below (by omega))
      replace b28 := b28.wr y39 (by omega)
      have s41 := y39.size
      refine vnil ?_
      refine V.ret ?_
      refine ⟨[_], ⟨⟨_, rfl, lvb ag41 b3 rfl⟩, trivial⟩, ?_⟩
      exact ⟨_, _, _, _, rfl, z40, ((hz32.ck (y39.ck (by intro hh; simp [SX] at hh <;> omega)))).un.cast (by simp [vl, b32]; omega)⟩
set_option maxHeartbeats 400000 in
theorem rSame_ok (s t : Bool) (a : Option Addr) (n c : Nat) (xs : List Int) (b : Option Addr) (m d : Nat) (ys : List Int) (S1 S2 : Nat → Prop) (w : World) (h1 : RN .u32 S1 w a n c xs) (h2 : RN .u32 S2 w b m d ys) :
    Calls Try.prog 82 #[.agg #[.bool s, .slice a n c], .agg #[.bool t, .slice b m d]] w (fun e w' => ∃ q, e = .returned (.bool q) ∧ Ext w w' ∧ (q = true ↔ s = t ∧ xs = ys)) := by
  have z0 := Ext.refl w; have hLX : LX = 17592186044416 := rfl; have hLY : LY = 8796093022208 := rfl
  have l1 := h1.len; have l2 := h2.len; have l3 := h1.cap; have l4 := h1.max
  cases s <;> cases t
  · skip
    refine enter (args := [.agg #[.bool false, .slice a n c], .agg #[.bool false, .slice b m d]]) Try.func82 rfl rfl (Nat.le_of_ble_eq_true rfl) ?_
    refine V.seq (V.reg rfl ?_)
    refine vo ?_
    refine bxa rfl ?_
    intro W1 x2 b3 nn4
    have s5 := x2.sz
    have z6 := x2
    refine vo ?_
    refine bxa rfl ?_
    intro W7 x8 b9 nn10
    have s11 := x8.sz
    have z12 := z6.trans x8
    replace b3 := b3.ext x8
    refine asb rfl ?_
    refine vnil ?_
    refine V.seq ?_
    refine V.seq (V.reg rfl ?_)
    refine vv (rfa rfl fd41_0) ?_
    refine vv (rldb (v := .bool false) rfl sc4 b3 rfl) ?_
    refine vv (rfa rfl fd41_0) ?_
    refine vv (rldb (v := .bool false) rfl sc4 b9 rfl) ?_
    refine vv (rbne Try.underlying4 rfl rfl rfl) ?_
    refine mvb rfl ?_
    refine vg rfl ?_
    refine vv (rfa rfl fd41_1) ?_
    refine vg rfl ?_
    refine vv (rldb (v := .slice _ _ _) rfl sc39 b3 rfl) ?_
    refine vg rfl ?_
    refine vv (rlen sl39 rfl) ?_
    refine vg rfl ?_
    refine vv (rfa rfl fd41_1) ?_
    refine vg rfl ?_
    refine vv (rldb (v := .slice _ _ _) rfl sc39 b9 rfl) ?_
    refine vg rfl ?_
    refine vv (rlen sl39 rfl) ?_
    refine vg rfl ?_
    refine vne rfl rfl ?_ ?_
    · intro cl
      refine vv (rpk (v := .bool true) rfl rfl) ?_
      refine vnil ?_
      refine V.condT rfl ?_
      refine V.seq (V.reg rfl ?_)
      refine asb rfl ?_
      refine vnil ?_
      refine V.ret ?_
      refine ⟨[.bool false], ⟨rfl, trivial⟩, ?_⟩
      exact ⟨_, rfl, z12, by simp only [Bool.false_eq_true, false_iff]; intro hh; have := congrArg List.length hh.2; omega⟩
    · intro cl
      refine vv (rpk (v := .bool false) rfl rfl) ?_
      refine vnil ?_
      refine V.condF rfl ?_
      refine V.skip ?_
      refine V.seq ?_
      refine V.seq (V.reg rfl ?_)
      refine asi rfl ?_
      refine vnil ?_
      refine V.block ?_
      refine V.loopK (ι := Nat) [(2, .pointer (some ⟨_, _, none⟩)), (3, .pointer (some ⟨_, _, none⟩))] (fun k => [(5, .int .i64 (k : Int))]) (fun k W => Ext W7 W ∧ k ≤ n ∧ xs.take k = ys.take k) (fun k => n - k) (0) ⟨rfl, rfl, trivial⟩ ⟨rfl, trivial⟩ ⟨Ext.refl _, Nat.zero_le _, rfl⟩ ?_
      intro k E14 W13 h15
      obtain ⟨x16, hk, ht⟩ := h15
      have s17 := x16.sz
      have z18 := z12.trans x16
      have z19 := x16
      replace b3 := b3.ext x16
      replace b9 := b9.ext x16
      refine V.seq ?_
      refine V.seq (V.reg rfl ?_)
      refine mvi rfl ?_
      refine vv (rfa rfl fd41_1) ?_
      refine vv (rldb (v := .slice _ _ _) rfl sc39 b3 rfl) ?_
      refine vv (rlen sl39 rfl) ?_
      refine vlt rfl rfl ?_ ?_
      · intro c20
        refine vnil ?_
        refine V.condT rfl ?_
        refine V.skip ?_
        refine V.seq ?_
        refine V.block ?_
        refine V.seq (V.regD mixed rfl ?_)
        intro W21 x22
        have s23 := x22.sz
        have z24 := z18.trans x22
        have z25 := z19.trans x22
        replace b3 := b3.ext x22
        replace b9 := b9.ext x22
        have q26 := Ext.refl W21
        have r27 := b3
        have r28 := b9
        refine tk 0 rfl (by kernel_rfl) q26 (pv (fun _ y29 => rfa rfl fd41_1)) ?_
        refine tk 1 rfl (by kernel_rfl) q26 (pv (fun _ y30 => rldb (v := .slice _ _ _) rfl sc39 (r27.ext y30) rfl)) ?_
        refine tk 2 rfl (by kernel_rfl) q26 (pv (fun _ y31 => rmv (v := .int _ _) rfl)) ?_
        refine tk 3 rfl (by kernel_rfl) q26 (pv (fun _ y32 => rixn ((h1.ext z24).ext y32) sl39 sz124 rfl rfl (by omega) (by omega))) ?_
        refine tk 4 rfl (by kernel_rfl) q26 (pv (fun _ y33 => rldN ((h1.ext z24).ext y33) rfl sc124 (by omega) (by omega))) ?_
        refine tk 5 rfl (by kernel_rfl) q26 (pv (fun _ y34 => rfa rfl fd41_1)) ?_
        refine tk 6 rfl (by kernel_rfl) q26 (pv (fun _ y35 => rldb (v := .slice _ _ _) rfl sc39 (r28.ext y35) rfl)) ?_
        refine tk 7 rfl (by kernel_rfl) q26 (pv (fun _ y36 => rmv (v := .int _ _) rfl)) ?_
        refine tk 8 rfl (by kernel_rfl) q26 (pv (fun _ y37 => rixn ((h2.ext z24).ext y37) sl39 sz124 rfl rfl (by omega) (by omega))) ?_
        refine tk 9 rfl (by kernel_rfl) q26 (pv (fun _ y38 => rldN ((h2.ext z24).ext y38) rfl sc124 (by omega) (by omega))) ?_
        refine tk 10 rfl (by kernel_rfl) q26 (pv (fun _ y39 => rcmp (cNe rfl) rfl rfl rfl)) ?_
        refine dn (by kernel_rfl) ?_
        refine V.condB rfl ?_ ?_
        · intro cc
          refine V.seq (V.reg rfl ?_)
          refine asb rfl ?_
          refine vnil ?_
          refine V.ret ?_
          refine ⟨[.bool false], ⟨rfl, trivial⟩, ?_⟩
          refine ⟨_, rfl, z24, ?_⟩
          simp only [Bool.false_eq_true, false_iff]
          intro hh; rw [hh.2] at cc; simp at cc
        · intro cc
          refine V.skip ?_
          refine V.reg rfl ?_
          refine mvi rfl ?_
          refine vv (rbin (bAdd (wi (by omega))) rfl rfl) ?_
          refine asi rfl ?_
          refine vnil ?_
          refine ⟨rfl, k + 1, ⟨rfl, rfl, trivial⟩, ⟨rfl, trivial⟩, ⟨z25, by omega, by rw [take_succ_wd xs k (by omega), take_succ_wd ys k (by omega), ht, (show wd xs k = wd ys k by simpa using cc)]⟩, ?_⟩
          show n - (k + 1) < n - k
          omega
      · intro c20
        refine vnil ?_
        refine V.condF rfl ?_
        refine V.exit ?_
        refine V.seq (V.reg rfl ?_)
        refine asb rfl ?_
        refine vnil ?_
        refine V.ret ?_
        refine ⟨[.bool true], ⟨rfl, trivial⟩, ?_⟩
        refine ⟨_, rfl, z18, ?_⟩
        rw [List.take_of_length_le (by omega), List.take_of_length_le (by omega)] at ht
        simp [ht]
  · skip
    refine enter (args := [.agg #[.bool false, .slice a n c], .agg #[.bool true, .slice b m d]]) Try.func82 rfl rfl (Nat.le_of_ble_eq_true rfl) ?_
    refine V.seq (V.reg rfl ?_)
    refine vo ?_
    refine bxa rfl ?_
    intro W40 x41 b42 nn43
    have s44 := x41.sz
    have z45 := x41
    refine vo ?_
    refine bxa rfl ?_
    intro W46 x47 b48 nn49
    have s50 := x47.sz
    have z51 := z45.trans x47
    replace b42 := b42.ext x47
    refine asb rfl ?_
    refine vnil ?_
    refine V.seq ?_
    refine V.seq (V.reg rfl ?_)
    refine vv (rfa rfl fd41_0) ?_
    refine vv (rldb (v := .bool false) rfl sc4 b42 rfl) ?_
    refine vv (rfa rfl fd41_0) ?_
    refine vv (rldb (v := .bool true) rfl sc4 b48 rfl) ?_
    refine vv (rbne Try.underlying4 rfl rfl rfl) ?_
    refine mvb rfl ?_
    refine vgn (b := true) rfl rfl ?_
    refine vgn (b := true) rfl rfl ?_
    refine vgn (b := true) rfl rfl ?_
    refine vgn (b := true) rfl rfl ?_
    refine vgn (b := true) rfl rfl ?_
    refine vgn (b := true) rfl rfl ?_
    refine vgn (b := true) rfl rfl ?_
    refine vv (rpk (v := .bool true) rfl rfl) ?_
    refine vnil ?_
    refine V.condT rfl ?_
    refine V.seq (V.reg rfl ?_)
    refine asb rfl ?_
    refine vnil ?_
    refine V.ret ?_
    refine ⟨[.bool false], ⟨rfl, trivial⟩, ?_⟩
    exact ⟨_, rfl, z51, by simp⟩
  · skip
    refine enter (args := [.agg #[.bool true, .slice a n c], .agg #[.bool false, .slice b m d]]) Try.func82 rfl rfl (Nat.le_of_ble_eq_true rfl) ?_
    refine V.seq (V.reg rfl ?_)
    refine vo ?_
    refine bxa rfl ?_
    intro W52 x53 b54 nn55
    have s56 := x53.sz
    have z57 := x53
    refine vo ?_
    refine bxa rfl ?_
    intro W58 x59 b60 nn61
    have s62 := x59.sz
    have z63 := z57.trans x59
    replace b54 := b54.ext x59
    refine asb rfl ?_
    refine vnil ?_
    refine V.seq ?_
    refine V.seq (V.reg rfl ?_)
    refine vv (rfa rfl fd41_0) ?_
    refine vv (rldb (v := .bool true) rfl sc4 b54 rfl) ?_
    refine vv (rfa rfl fd41_0) ?_
    refine vv (rldb (v := .bool false) rfl sc4 b60 rfl) ?_
    refine vv (rbne Try.underlying4 rfl rfl rfl) ?_
    refine mvb rfl ?_
    refine vgn (b := true) rfl rfl ?_
    refine vgn (b := true) rfl rfl ?_
    refine vgn (b := true) rfl rfl ?_
    refine vgn (b := true) rfl rfl ?_
    refine vgn (b := true) rfl rfl ?_
    refine vgn (b := true) rfl rfl ?_
    refine vgn (b := true) rfl rfl ?_
    refine vv (rpk (v := .bool true) rfl rfl) ?_
    refine vnil ?_
    refine V.condT rfl ?_
    refine V.seq (V.reg rfl ?_)
    refine asb rfl ?_
    refine vnil ?_
    refine V.ret ?_
    refine ⟨[.bool false], ⟨rfl, trivial⟩, ?_⟩
    exact ⟨_, rfl, z63, by simp⟩
  · skip
    refine enter (args := [.agg #[.bool true, .slice a n c], .agg #[.bool true, .slice b m d]]) Try.func82 rfl rfl (Nat.le_of_ble_eq_true rfl) ?_
    refine V.seq (V.reg rfl ?_)
    refine vo ?_
    refine bxa rfl ?_
    intro W64 x65 b66 nn67
    have s68 := x65.sz
    have z69 := x65
    refine vo ?_
    refine bxa rfl ?_
    intro W70 x71 b72 nn73
    have s74 := x71.sz
    have z75 := z69.trans x71
    replace b66 := b66.ext x71
    refine asb rfl ?_
    refine vnil ?_
    refine V.seq ?_
    refine V.seq (V.reg rfl ?_)
    refine vv (rfa rfl fd41_0) ?_
    refine vv (rldb (v := .bool true) rfl sc4 b66 rfl) ?_
    refine vv (rfa rfl fd41_0) ?_
    refine vv (rldb (v := .bool true) rfl sc4 b72 rfl) ?_
    refine vv (rbne Try.underlying4 rfl rfl rfl) ?_
    refine mvb rfl ?_
    refine vg rfl ?_
    refine vv (rfa rfl fd41_1) ?_
    refine vg rfl ?_
    refine vv (rldb (v := .slice _ _ _) rfl sc39 b66 rfl) ?_
    refine vg rfl ?_
    refine vv (rlen sl39 rfl) ?_
    refine vg rfl ?_
    refine vv (rfa rfl fd41_1) ?_
    refine vg rfl ?_
    refine vv (rldb (v := .slice _ _ _) rfl sc39 b72 rfl) ?_
    refine vg rfl ?_
    refine vv (rlen sl39 rfl) ?_
    refine vg rfl ?_
    refine vne rfl rfl ?_ ?_
    · intro cl
      refine vv (rpk (v := .bool true) rfl rfl) ?_
      refine vnil ?_
      refine V.condT rfl ?_
      refine V.seq (V.reg rfl ?_)
      refine asb rfl ?_
      refine vnil ?_
      refine V.ret ?_
      refine ⟨[.bool false], ⟨rfl, trivial⟩, ?_⟩
      exact ⟨_, rfl, z75, by simp only [Bool.false_eq_true, false_iff]; intro hh; have := congrArg List.length hh.2; omega⟩
    · intro cl
      refine vv (rpk (v := .bool false) rfl rfl) ?_
      refine vnil ?_
      refine V.condF rfl ?_
      refine V.skip ?_
      refine V.seq ?_
      refine V.seq (V.reg rfl ?_)
      refine asi rfl ?_
      refine vnil ?_
      refine V.block ?_
      refine V.loopK (ι := Nat) [(2, .pointer (some ⟨_, _, none⟩)), (3, .pointer (some ⟨_, _, none⟩))] (fun k => [(5, .int .i64 (k : Int))]) (fun k W => Ext W70 W ∧ k ≤ n ∧ xs.take k = ys.take k) (fun k => n - k) (0) ⟨rfl, rfl, trivial⟩ ⟨rfl, trivial⟩ ⟨Ext.refl _, Nat.zero_le _, rfl⟩ ?_
      intro k E77 W76 h78
      obtain ⟨x79, hk, ht⟩ := h78
      have s80 := x79.sz
      have z81 := z75.trans x79
      have z82 := x79
      replace b66 := b66.ext x79
      replace b72 := b72.ext x79
      refine V.seq ?_
      refine V.seq (V.reg rfl ?_)
      refine mvi rfl ?_
      refine vv (rfa rfl fd41_1) ?_
      refine vv (rldb (v := .slice _ _ _) rfl sc39 b66 rfl) ?_
      refine vv (rlen sl39 rfl) ?_
      refine vlt rfl rfl ?_ ?_
      · intro c83
        refine vnil ?_
        refine V.condT rfl ?_
        refine V.skip ?_
        refine V.seq ?_
        refine V.block ?_
        refine V.seq (V.regD mixed rfl ?_)
        intro W84 x85
        have s86 := x85.sz
        have z87 := z81.trans x85
        have z88 := z82.trans x85
        replace b66 := b66.ext x85
        replace b72 := b72.ext x85
        have q89 := Ext.refl W84
        have r90 := b66
        have r91 := b72
        refine tk 0 rfl (by kernel_rfl) q89 (pv (fun _ y92 => rfa rfl fd41_1)) ?_
        refine tk 1 rfl (by kernel_rfl) q89 (pv (fun _ y93 => rldb (v := .slice _ _ _) rfl sc39 (r90.ext y93) rfl)) ?_
        refine tk 2 rfl (by kernel_rfl) q89 (pv (fun _ y94 => rmv (v := .int _ _) rfl)) ?_
        refine tk 3 rfl (by kernel_rfl) q89 (pv (fun _ y95 => rixn ((h1.ext z87).ext y95) sl39 sz124 rfl rfl (by omega) (by omega))) ?_
        refine tk 4 rfl (by kernel_rfl) q89 (pv (fun _ y96 => rldN ((h1.ext z87).ext y96) rfl sc124 (by omega) (by omega))) ?_
        refine tk 5 rfl (by kernel_rfl) q89 (pv (fun _ y97 => rfa rfl fd41_1)) ?_
        refine tk 6 rfl (by kernel_rfl) q89 (pv (fun _ y98 => rldb (v := .slice _ _ _) rfl sc39 (r91.ext y98) rfl)) ?_
        refine tk 7 rfl (by kernel_rfl) q89 (pv (fun _ y99 => rmv (v := .int _ _) rfl)) ?_
        refine tk 8 rfl (by kernel_rfl) q89 (pv (fun _ y100 => rixn ((h2.ext z87).ext y100) sl39 sz124 rfl rfl (by omega) (by omega))) ?_
        refine tk 9 rfl (by kernel_rfl) q89 (pv (fun _ y101 => rldN ((h2.ext z87).ext y101) rfl sc124 (by omega) (by omega))) ?_
        refine tk 10 rfl (by kernel_rfl) q89 (pv (fun _ y102 => rcmp (cNe rfl) rfl rfl rfl)) ?_
        refine dn (by kernel_rfl) ?_
        refine V.condB rfl ?_ ?_
        · intro cc
          refine V.seq (V.reg rfl ?_)
          refine asb rfl ?_
          refine vnil ?_
          refine V.ret ?_
          refine ⟨[.bool false], ⟨rfl, trivial⟩, ?_⟩
          refine ⟨_, rfl, z87, ?_⟩
          simp only [Bool.false_eq_true, false_iff]
          intro hh; rw [hh.2] at cc; simp at cc
        · intro cc
          refine V.skip ?_
          refine V.reg rfl ?_
          refine mvi rfl ?_
          refine vv (rbin (bAdd (wi (by omega))) rfl rfl) ?_
          refine asi rfl ?_
          refine vnil ?_
          refine ⟨rfl, k + 1, ⟨rfl, rfl, trivial⟩, ⟨rfl, trivial⟩, ⟨z88, by omega, by rw [take_succ_wd xs k (by omega), take_succ_wd ys k (by omega), ht, (show wd xs k = wd ys k by simpa using cc)]⟩, ?_⟩
          show n - (k + 1) < n - k
          omega
      · intro c83
        refine vnil ?_
        refine V.condF rfl ?_
        refine V.exit ?_
        refine V.seq (V.reg rfl ?_)
        refine asb rfl ?_
        refine vnil ?_
        refine V.ret ?_
        refine ⟨[.bool true], ⟨rfl, trivial⟩, ?_⟩
        refine ⟨_, rfl, z81, ?_⟩
        rw [List.take_of_length_le (by omega), List.take_of_length_le (by omega)] at ht
        simp [ht]
end Go.Proofs.Ytknbjfefeeojlaa

/- Package whole, the small functions. -/
import Derived.Test.YtknbjfefeeojlaaZ
namespace Go.Proofs.Ytknbjfefeeojlaa
open Go.RowKit
attribute [local irreducible] RV VH V OpF Calls

set_option maxHeartbeats 400000 in
theorem trim_ok (a : Option Addr) (n c : Nat) (xs : List Int) (S : Nat → Prop) (w : World) (h : RN .u32 S w a n c xs) :
    Calls Try.prog 96 #[.slice a n c] w (fun e w' => ∃ m, e = .returned (.slice a m c) ∧ RN .u32 S w' a m c (dg b32 (vl b32 xs)) ∧ m ≤ n ∧ w = w') := by
  have z0 := Ext.refl w; have hLX : LX = 17592186044416 := rfl; have hLY : LY = 8796093022208 := rfl
  refine enter (args := [.slice a n c]) Try.func96 rfl rfl (Nat.le_of_ble_eq_true rfl) ?_
  refine V.seq (V.reg rfl ?_)
  refine ass rfl ?_
  refine vnil ?_
  refine V.seq ?_
  refine V.block ?_
  refine V.loopK (ι := Nat) [(2, .slice _ _ _)] (fun i => [(0, .slice a i c)]) (fun i W => w = W ∧ i ≤ n ∧ tr (xs.take i) = tr xs) (fun i => i) (n) ⟨rfl, trivial⟩ ⟨rfl, trivial⟩ ⟨rfl, Nat.le_refl _, by rw [List.take_of_length_le (Nat.le_of_eq h.len)]⟩ ?_
  intro i2 E3 W1 h4
  obtain ⟨rfl, hm, ht⟩ := h4
  have hx := h.take i2 hm
  have hcp := h.cap; have hmx := h.max; have hln := h.len
  refine V.seq ?_
  refine V.seq (V.reg rfl ?_)
  refine mvs rfl ?_
  refine vv (rlen sl39 rfl) ?_
  refine vgt rfl rfl ?_ ?_
  · intro c5
    refine mvb rfl ?_
    refine vg rfl ?_
    refine mvs rfl ?_
    refine vg rfl ?_
    refine mvs rfl ?_
    refine vg rfl ?_
    refine vv (rlen sl39 rfl) ?_
    refine vg rfl ?_
    refine vv (rbin (bSub (wi (by omega))) rfl rfl) ?_
    refine vg rfl ?_
    refine vv (rixn hx sl39 sz124 rfl rfl (by omega) (by omega)) ?_
    refine vg rfl ?_
    refine vldN hx rfl sc124 (by omega) (by omega) ?_
    intro q6 hq6 hk7
    simp only [kb] at hk7
    refine vg rfl ?_
    refine veq rfl rfl ?_ ?_
    · intro cz
      refine vv (rpk (v := .bool true) rfl rfl) ?_
      refine vnil ?_
      refine V.condT rfl ?_
      refine V.skip ?_
      refine V.block ?_
      refine V.reg rfl ?_
      refine mvs rfl ?_
      refine mvs rfl ?_
      refine vv (rlen sl39 rfl) ?_
      refine vv (rbin (bSub (wi (by omega))) rfl rfl) ?_
      have hs8 := (hx).take (i2 - 1) (by omega)
      refine vv (rslh (m := i2 - 1) hx sl39 sz124 rfl rfl rfl (by omega) (by omega)) ?_
      refine ass rfl ?_
      refine vnil ?_
      refine ⟨rfl, i2 - 1, ⟨rfl, trivial⟩, ⟨rfl, trivial⟩, ⟨rfl, by omega, trim_step (n := n) (by omega) ht (by omega) (by rw [← hq6]; exact cz)⟩, ?_⟩
      show i2 - 1 < i2
      omega
    · intro cz
      refine vv (rpk (v := .bool false) rfl rfl) ?_
      refine vnil ?_
      refine V.condF rfl ?_
      refine V.exit ?_
      refine V.seq (V.reg rfl ?_)
      refine mvs rfl ?_
      refine ass rfl ?_
      refine vnil ?_
      refine V.ret ?_
      refine ⟨[.slice _ _ _], ⟨rfl, trivial⟩, ?_⟩
      refine ⟨_, rfl, ?_, hm, rfl⟩
      rw [tr_dg32 h.dg32, ← trim_last (by omega) ht (by omega) (by rw [← hq6]; exact cz)]
      exact hx
  · intro c5
    refine mvb rfl ?_
    refine vgn (b := false) rfl rfl ?_
    refine vgn (b := false) rfl rfl ?_
    refine vgn (b := false) rfl rfl ?_
    refine vgn (b := false) rfl rfl ?_
    refine vgn (b := false) rfl rfl ?_
    refine vgn (b := false) rfl rfl ?_
    refine vgn (b := false) rfl rfl ?_
    refine vv (rpk (v := .bool false) rfl rfl) ?_
    refine vnil ?_
    refine V.condF rfl ?_
    refine V.exit ?_
    refine V.seq (V.reg rfl ?_)
    refine mvs rfl ?_
    refine ass rfl ?_
    refine vnil ?_
    refine V.ret ?_
    refine ⟨[.slice _ _ _], ⟨rfl, trivial⟩, ?_⟩
    refine ⟨_, rfl, ?_, hm, rfl⟩
    have e0 : i2 = 0 := by omega
    subst e0
    rw [tr_dg32 h.dg32, ← ht]
    exact hx
set_option maxHeartbeats 400000 in
theorem made_ok (neg : Bool) (a : Option Addr) (n c : Nat) (xs : List Int) (S : Nat → Prop) (w : World) (h : RN .u32 S w a n c xs) :
    Calls Try.prog 91 #[.bool neg, .slice a n c] w (PZ S (if neg then -(vl b32 xs) else vl b32 xs) w) := by
  have z0 := Ext.refl w; have hLX : LX = 17592186044416 := rfl; have hLY : LY = 8796093022208 := rfl
  have hS := h.sub (S' := SX S [w.heap.size]) (SX.old (by simp))
  have hv := vl_nonneg (B := b32) (by decide) h.dg32
  cases neg
  · skip
    refine enter (args := [.bool false, .slice a n c]) Try.func91 rfl rfl (Nat.le_of_ble_eq_true rfl) ?_
    refine V.seq (V.reg rfl ?_)
    refine vo ?_
    refine xal zc41 ?_
    intro W1 x2 b3 nn4
    have s5 := x2.sz
    have z6 := x2
    refine vnil ?_
    refine V.seq (V.reg rfl ?_)
    refine mvs rfl ?_
    refine vo ?_
    refine xcall e96 (trim_ok _ _ _ _ _ _ (hS.ext z6)) rfl rfl ?_
    rintro _ _ ⟨m8, rfl, hr7, hm9, rfl⟩
    refine ⟨_, rfl, ?_⟩
    refine ass rfl ?_
    refine vnil ?_
    refine V.seq (V.reg rfl ?_)
    refine mvb rfl ?_
    refine mvb rfl ?_
    refine vgn (b := false) rfl rfl ?_
    refine vgn (b := false) rfl rfl ?_
    refine vgn (b := false) rfl rfl ?_
    refine vv (rpk (v := .bool false) rfl rfl) ?_
    refine mvs rfl ?_
    refine vv (rbd (ps := [(0, .bool false), (1, .slice _ _ _)]) (cs := [.bool false, .slice _ _ _]) pl41 rfl rfl) ?_
    refine vo ?_
    refine sta (cs' := [_, _]) b3 rfl rfl sz41 rfl rfl rfl ?_
    intro W11 y12 b3
    have z13 := z6.below (y12.below (by omega))
    have s14 := y12.size
    refine vnil ?_
    refine V.ret ?_
    refine ⟨[_], ⟨⟨_, rfl, lvb ag41 b3 rfl⟩, trivial⟩, ?_⟩
    exact ⟨_, _, _, _, rfl, z13, ZC.mk' ((hr7.ck (y12.ck (by intro hh; simp [SX] at hh <;> omega)))).un hv (by first | rfl | (simp; omega))⟩
  · skip
    refine enter (args := [.bool true, .slice a n c]) Try.func91 rfl rfl (Nat.le_of_ble_eq_true rfl) ?_
    refine V.seq (V.reg rfl ?_)
    refine vo ?_
    refine xal zc41 ?_
    intro W15 x16 b17 nn18
    have s19 := x16.sz
    have z20 := x16
    refine vnil ?_
    refine V.seq (V.reg rfl ?_)
    refine mvs rfl ?_
    refine vo ?_
    refine xcall e96 (trim_ok _ _ _ _ _ _ (hS.ext z20)) rfl rfl ?_
    rintro _ _ ⟨m22, rfl, hr21, hm23, rfl⟩
    refine ⟨_, rfl, ?_⟩
    refine ass rfl ?_
    refine vnil ?_
    refine V.seq (V.reg rfl ?_)
    refine mvb rfl ?_
    refine mvb rfl ?_
    refine vg rfl ?_
    refine mvs rfl ?_
    refine vg rfl ?_
    refine vv (rlen sl39 rfl) ?_
    refine vg rfl ?_
    refine vgt rfl rfl ?_ ?_
    · intro c25
      refine vv (rpk (v := .bool true) rfl rfl) ?_
      refine mvs rfl ?_
      refine vv (rbd (ps := [(0, .bool true), (1, .slice _ _ _)]) (cs := [.bool true, .slice _ _ _]) pl41 rfl rfl) ?_
      refine vo ?_
      refine sta (cs' := [_, _]) b17 rfl rfl sz41 rfl rfl rfl ?_
      intro W26 y27 b17
      have z28 := z20.below (y27.below (by omega))
      have s29 := y27.size
      refine vnil ?_
      refine V.ret ?_
      refine ⟨[_], ⟨⟨_, rfl, lvb ag41 b17 rfl⟩, trivial⟩, ?_⟩
      exact ⟨_, _, _, _, rfl, z28, ZC.mk' ((hr21.ck (y27.ck (by intro hh; simp [SX] at hh <;> omega)))).un hv (by first | rfl | (simp; omega))⟩
    · intro c25
      refine vv (rpk (v := .bool false) rfl rfl) ?_
      refine mvs rfl ?_
      refine vv (rbd (ps := [(0, .bool false), (1, .slice _ _ _)]) (cs := [.bool false, .slice _ _ _]) pl41 rfl rfl) ?_
      refine vo ?_
      refine sta (cs' := [_, _]) b17 rfl rfl sz41 rfl rfl rfl ?_
      intro W30 y31 b17
      have z32 := z20.below (y31.below (by omega))
      have s33 := y31.size
      refine vnil ?_
      refine V.ret ?_
      refine ⟨[_], ⟨⟨_, rfl, lvb ag41 b17 rfl⟩, trivial⟩, ?_⟩
      exact ⟨_, _, _, _, rfl, z32, ZC.mk' ((hr21.ck (y31.ck (by intro hh; simp [SX] at hh <;> omega)))).un hv (by first | rfl | (simp; omega))⟩
set_option maxHeartbeats 400000 in
theorem wSign_ok (neg : Bool) (a : Option Addr) (n c : Nat) (z : Int) (L : Nat) (S : Nat → Prop) (w : World) (h : ZA L S w neg a n c z) :
    Calls Try.prog 92 #[.agg #[.bool neg, .slice a n c]] w (fun e w' => ∃ s, e = .returned (.int .i64 s) ∧ Ext w w' ∧ s = sg z) := by
  have z0 := Ext.refl w; have hLX : LX = 17592186044416 := rfl; have hLY : LY = 8796093022208 := rfl
  obtain ⟨xs, hx, hL, rfl⟩ := h
  have hv := vl_nonneg (B := b32) (by decide) hx.dg32
  refine enter (args := [.agg #[.bool neg, .slice a n c]]) Try.func92 rfl rfl (Nat.le_of_ble_eq_true rfl) ?_
  refine V.seq (V.reg rfl ?_)
  refine vo ?_
  refine bxa rfl ?_
  intro W1 x2 b3 nn4
  have s5 := x2.sz
  have z6 := x2
  refine asi rfl ?_
  refine vnil ?_
  refine V.seq ?_
  refine V.block ?_
  refine V.seq (V.reg rfl ?_)
  refine vv (rfa rfl fd41_1) ?_
  refine vv (rldb (v := .slice _ _ _) rfl sc39 b3 rfl) ?_
  refine vo ?_
  refine xcall e96 (trim_ok _ _ _ _ _ _ (hx.ext z6)) rfl rfl ?_
  rintro _ _ ⟨m8, rfl, hr7, hm9, rfl⟩
  refine ⟨_, rfl, ?_⟩
  refine vv (rlen sl39 rfl) ?_
  refine veq rfl rfl ?_ ?_
  · intro c11
    refine asb rfl ?_
    refine vnil ?_
    refine V.condT rfl ?_
    refine V.seq (V.reg rfl ?_)
    refine asi rfl ?_
    refine vnil ?_
    refine V.ret ?_
    refine ⟨[.int _ _], ⟨rfl, trivial⟩, ?_⟩
    exact ⟨_, rfl, z6, sg_of hv (dg_natAbs_len hv hr7.len) (by first | exact .inl ⟨by omega, rfl⟩ | exact .inr (.inl ⟨by omega, by assumption, rfl⟩) | exact .inr (.inr ⟨by omega, by assumption, rfl⟩))⟩
  · intro c11
    refine asb rfl ?_
    refine vnil ?_
    refine V.condF rfl ?_
    refine V.seq (V.reg rfl ?_)
    refine vv (rfa rfl fd41_0) ?_
    refine vv (rldb (v := .bool _) rfl sc4 b3 rfl) ?_
    refine asb rfl ?_
    refine vnil ?_
    refine V.condB rfl ?_ ?_
    · intro c12
      refine V.seq (V.reg rfl ?_)
      refine asi rfl ?_
      refine vnil ?_
      refine V.ret ?_
      refine ⟨[.int _ _], ⟨rfl, trivial⟩, ?_⟩
      exact ⟨_, rfl, z6, sg_of hv (dg_natAbs_len hv hr7.len) (by first | exact .inl ⟨by omega, rfl⟩ | exact .inr (.inl ⟨by omega, by assumption, rfl⟩) | exact .inr (.inr ⟨by omega, by assumption, rfl⟩))⟩
    · intro c12
      refine V.skip ?_
      refine V.seq (V.reg rfl ?_)
      refine asi rfl ?_
      refine vnil ?_
      refine V.ret ?_
      refine ⟨[.int _ _], ⟨rfl, trivial⟩, ?_⟩
      exact ⟨_, rfl, z6, sg_of hv (dg_natAbs_len hv hr7.len) (by first | exact .inl ⟨by omega, rfl⟩ | exact .inr (.inl ⟨by omega, by assumption, rfl⟩) | exact .inr (.inr ⟨by omega, by assumption, rfl⟩))⟩
set_option maxHeartbeats 400000 in
theorem clone_ok (a : Option Addr) (n c : Nat) (xs : List Int) (S S' : Nat → Prop) (w : World) (h : RN .u32 S w a n c xs) (hn : n ≤ LX) (hu : Up S' w) :
    Calls Try.prog 110 #[.slice a n c] w (PW S' xs w) := by
  have z0 := Ext.refl w; have hLX : LX = 17592186044416 := rfl; have hLY : LY = 8796093022208 := rfl
  have hl := h.len
  refine enter (args := [.slice a n c]) Try.func110 rfl rfl (Nat.le_of_ble_eq_true rfl) ?_
  refine V.seq (V.reg rfl ?_)
  refine ass rfl ?_
  refine vnil ?_
  refine V.seq ?_
  refine V.seq (V.reg rfl ?_)
  refine mvs rfl ?_
  refine vv (rsnil sl39 rfl rfl) ?_
  refine vnil ?_
  refine V.condB rfl ?_ ?_
  · intro c1
    refine V.seq (V.reg rfl ?_)
    refine ass rfl ?_
    refine vnil ?_
    refine V.ret ?_
    refine ⟨[.slice _ _ _], ⟨rfl, trivial⟩, ?_⟩
    exact ⟨_, _, _, rfl, (Ext.refl w), (h).isNil (by assumption)⟩
  · intro c1
    refine V.skip ?_
    refine V.seq (V.reg rfl ?_)
    refine vo ?_
    refine xbs (ps := []) (cs := []) sl39 zr124 sz124 rfl rfl rfl rfl rfl rfl ?_
    intro W2 x3 b4 nn5
    have s6 := x3.sz
    have z7 := x3
    refine mvs rfl ?_
    refine vo ?_
    refine xappN sl39 in124 (OI.lit (B := w.heap.size) (k := .u32) (xs := []) b4 (by simp) (by omega)) rfl rfl (h.ext z7) (by simp only [List.length_nil, List.length_cons, List.length_append]; omega) (by decide) (by omega) ?_
    intro v8 W9 hO10 hg11 ho12
    have y13 := grown_below hg11 (by omega) (fun b e => ((OI.lit (B := w.heap.size) (k := .u32) (xs := []) b4 (by simp) (by omega)).low b e).1)
    have s14 := y13.size
    have z15 := z7.below (y13.mono (by omega))
    refine vv (ras (v := v8) rfl) ?_
    refine vnil ?_
    refine V.ret ?_
    refine ⟨[v8], ⟨rfl, trivial⟩, ?_⟩
    obtain ⟨a', c', rfl⟩ := hO10.form
    exact ⟨_, _, _, rfl, z15, hO10.rn (fun b hb _ => hu b (by omega))⟩
set_option maxHeartbeats 400000 in
theorem wNeg_ok (neg : Bool) (a : Option Addr) (n c : Nat) (z : Int) (S S' : Nat → Prop) (w : World) (h : ZA LX S w neg a n c z) (hu : Up S' w) :
    Calls Try.prog 93 #[.agg #[.bool neg, .slice a n c]] w (PZ S' (-z) w) := by
  have z0 := Ext.refl w; have hLX : LX = 17592186044416 := rfl; have hLY : LY = 8796093022208 := rfl
  obtain ⟨xs, hx, hL, rfl⟩ := h
  have hv := vl_nonneg (B := b32) (by decide) hx.dg32
  have hu2 : ∀ W : World, w.heap.size + 2 ≤ W.heap.size → Up (SX S' [w.heap.size + 1]) W := fun W hW => SX.up (hu.mono (by omega)) (by simp; omega)
  refine enter (args := [.agg #[.bool neg, .slice a n c]]) Try.func93 rfl rfl (Nat.le_of_ble_eq_true rfl) ?_
  refine V.seq (V.reg rfl ?_)
  refine vo ?_
  refine bxa rfl ?_
  intro W1 x2 b3 nn4
  have s5 := x2.sz
  have z6 := x2
  refine vo ?_
  refine xal zc41 ?_
  intro W7 x8 b9 nn10
  have s11 := x8.sz
  have z12 := z6.trans x8
  replace b3 := b3.ext x8
  refine vnil ?_
  refine V.seq (V.regD mixed rfl ?_)
  intro W13 x14
  have s15 := x14.sz
  have z16 := z12.trans x14
  replace b3 := b3.ext x14
  replace b9 := b9.ext x14
  have q17 := Ext.refl W13
  have r18 := b3
  have r19 := b9
  refine tk 0 rfl (by kernel_rfl) q17 (pv (fun _ y20 => rfa rfl fd41_0)) ?_
  refine tk 1 rfl (by kernel_rfl) q17 (pv (fun _ y21 => rldb (v := .bool _) rfl sc4 (r18.ext y21) rfl)) ?_
  refine tk 2 rfl (by kernel_rfl) q17 (pv (fun _ y22 => rnot (q := _) rfl rfl)) ?_
  refine tk 3 rfl (by kernel_rfl) q17 (pv (fun _ y23 => rfa rfl fd41_1)) ?_
  refine tk 4 rfl (by kernel_rfl) q17 (pv (fun _ y24 => rldb (v := .slice _ _ _) rfl sc39 (r18.ext y24) rfl)) ?_
  refine ef 5 (by kernel_rfl) rfl ?_
  refine xcall e110 (clone_ok _ _ _ _ _ _ _ (hx.ext z16) (by omega) (hu2 _ (by omega))) rfl rfl ?_
  rintro _ W26 ⟨_, _, _, rfl, x27, hw25⟩
  have s28 := x27.sz
  have z29 := z16.trans x27
  replace b3 := b3.ext x27
  replace b9 := b9.ext x27
  have q30 := q17.trans x27
  have hw25l := hw25.len
  refine ⟨_, rfl, ?_⟩
  refine ⟨fun _ => q30, ?_⟩
  refine ef 6 (by kernel_rfl) rfl ?_
  refine xcall e91 (made_ok _ _ _ _ _ _ _ hw25) rfl rfl ?_
  rintro _ W32 ⟨_, _, _, _, rfl, x33, hz31⟩
  have s34 := x33.sz
  have z35 := z29.trans x33
  replace b3 := b3.ext x33
  replace b9 := b9.ext x33
  have q36 := q30.trans x33
  refine ⟨_, rfl, ?_⟩
  refine ⟨fun _ => q36, ?_⟩
  refine ef 7 (by kernel_rfl) rfl ?_
  refine sta (cs' := [_, _]) b9 rfl rfl sz41 rfl rfl rfl ?_
  intro W37 y38 b9
  have z39 := z35.below (y38.below (by omega))
  replace b3 := b3.wr y38 (by omega)
  have s40 := y38.size
  refine lastT (by kernel_rfl) ?_
  refine dn (by kernel_rfl) ?_
  refine V.ret ?_
  refine ⟨[_], ⟨⟨_, rfl, lvb ag41 b9 rfl⟩, trivial⟩, ?_⟩
  refine ⟨_, _, _, _, rfl, z39, ?_⟩
  rw [show (-(if neg then -(vl b32 xs) else vl b32 xs)) = (if (!neg) then -(vl b32 xs) else vl b32 xs) by cases neg <;> simp]
  exact ((hz31.ck (y38.ck (by intro hh; simp [SX] at hh <;> omega)))).un
set_option maxHeartbeats 400000 in
theorem wFrom_ok (x : Int) (S : Nat → Prop) (w : World) (hx : -9223372036854775808 ≤ x ∧ x ≤ 9223372036854775807) (hu : Up S w) :
    Calls Try.prog 61 #[.int .i64 x] w (PZ S x w) := by
  have z0 := Ext.refl w; have hLX : LX = 17592186044416 := rfl; have hLY : LY = 8796093022208 := rfl
  have hu2 : ∀ W : World, w.heap.size + 1 ≤ W.heap.size → Up (SX S [w.heap.size]) W := fun W hW => SX.up (hu.mono (by omega)) (by simp; omega)
  refine enter (args := [.int .i64 x]) Try.func61 rfl rfl (Nat.le_of_ble_eq_true rfl) ?_
  refine V.seq (V.reg rfl ?_)
  refine vo ?_
  refine xal zc41 ?_
  intro W1 x2 b3 nn4
  have s5 := x2.sz
  have z6 := x2
  refine vnil ?_
  refine V.seq (V.reg rfl ?_)
  refine mvi rfl ?_
  refine vv (rcv Try.underlying2 Try.underlying122 rfl (m64 _)) ?_
  refine asi rfl ?_
  refine vnil ?_
  refine V.seq ?_
  refine V.seq (V.reg rfl ?_)
  refine mvi rfl ?_
  refine vlt rfl rfl ?_ ?_
  · intro c7
    refine vnil ?_
    refine V.condT rfl ?_
    refine V.reg rfl ?_
    refine mvi rfl ?_
    refine vv (rneg rfl (m64 _)) ?_
    refine asi rfl ?_
    refine vnil ?_
    refine V.seq (V.reg rfl ?_)
    refine mvi rfl ?_
    refine vlt rfl rfl ?_ ?_
    · intro c8
      refine mvi rfl ?_
      refine vv (rcv Try.underlying122 Try.underlying124 rfl (m32 _)) ?_
      refine mvi rfl ?_
      refine vv (rshr (n := 32) rfl rfl (by decide) (shr32 _)) ?_
      refine vv (rcv Try.underlying122 Try.underlying124 rfl (m32 _)) ?_
      refine vo ?_
      refine xbs (ps := [(0, .int _ _), (1, .int _ _)]) (cs := [.int _ _, .int _ _]) sl39 zr124 sz124 rfl rfl rfl rfl rfl rfl ?_
      intro W9 x10 b11 nn12
      have s13 := x10.sz
      have z14 := z6.trans x10
      replace b3 := b3.ext x10
      have hl15 := RN.lit (k := .u32) (xs := [_, _]) 2 b11 (by intro q hq; simp only [List.mem_cons, List.not_mem_nil, or_false] at hq; simp only [kb]; omega) (hu2 W1 (by omega) _ (Nat.le_refl _))
      refine vo ?_
      refine xcall e91 (made_ok true _ _ _ _ _ _ hl15) rfl rfl ?_
      rintro _ W17 ⟨_, _, _, _, rfl, x18, hz16⟩
      have s19 := x18.sz
      have z20 := z14.trans x18
      replace b3 := b3.ext x18
      replace b11 := b11.ext x18
      refine ⟨_, rfl, ?_⟩
      refine vo ?_
      refine sta (cs' := [_, _]) b3 rfl rfl sz41 rfl rfl rfl ?_
      intro W21 y22 b3
      have z23 := z20.below (y22.below (by omega))
      replace b11 := b11.wr y22 (by omega)
      have s24 := y22.size
      refine vnil ?_
      refine V.ret ?_
      refine ⟨[_], ⟨⟨_, rfl, lvb ag41 b3 rfl⟩, trivial⟩, ?_⟩
      exact ⟨_, _, _, _, rfl, z23, ((hz16.ck (y22.ck (by intro hh; simp [SX] at hh <;> omega)))).un.cast (by simp [vl, b32]; omega)⟩
    · intro c8
      omega
  · intro c7
    refine vnil ?_
    refine V.condF rfl ?_
    refine V.skip ?_
    refine V.seq (V.reg rfl ?_)
    refine mvi rfl ?_
    refine vlt rfl rfl ?_ ?_
    · intro c25
      omega
    · intro c25
      refine mvi rfl ?_
      refine vv (rcv Try.underlying122 Try.underlying124 rfl (m32 _)) ?_
      refine mvi rfl ?_
      refine vv (rshr (n := 32) rfl rfl (by decide) (shr32 _)) ?_
      refine vv (rcv Try.underlying122 Try.underlying124 rfl (m32 _)) ?_
      refine vo ?_
      refine xbs (ps := [(0, .int _ _), (1, .int _ _)]) (cs := [.int _ _, .int _ _]) sl39 zr124 sz124 rfl rfl rfl rfl rfl rfl ?_
      intro W26 x27 b28 nn29
      have s30 := x27.sz
      have z31 := z6.trans x27
      replace b3 := b3.ext x27
      have hl32 := RN.lit (k := .u32) (xs := [_, _]) 2 b28 (by intro q hq; simp only [List.mem_cons, List.not_mem_nil, or_false] at hq; simp only [kb]; omega) (hu2 W1 (by omega) _ (Nat.le_refl _))
      refine vo ?_
      refine xcall e91 (made_ok false _ _ _ _ _ _ hl32) rfl rfl ?_
      rintro _ W34 ⟨_, _, _, _, rfl, x35, hz33⟩
      have s36 := x35.sz
      have z37 := z31.trans x35
      replace b3 := b3.ext x35
      replace b28 := b28.ext x35
      refine ⟨_, rfl, ?_⟩
      refine vo ?_
      refine sta (cs' := [_, _]) b3 rfl rfl sz41 rfl rfl rfl ?_
      intro W38 y39 b3
      have z40 := z37.below (y39.below (by omega))
      replace b28 := b28.wr y39 (by omega)
      have s41 := y39.size
      refine vnil ?_
      refine V.ret ?_
      refine ⟨[_], ⟨⟨_, rfl, lvb ag41 b3 rfl⟩, trivial⟩, ?_⟩
      exact ⟨_, _, _, _, rfl, z40, ((hz33.ck (y39.ck (by intro hh; simp [SX] at hh <;> omega)))).un.cast (by simp [vl, b32]; omega)⟩
end Go.Proofs.Ytknbjfefeeojlaa

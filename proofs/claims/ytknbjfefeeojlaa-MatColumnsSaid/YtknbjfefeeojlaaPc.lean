/- Packages pylonref02, pylonref03, pylonref04: Is, Int, Ints. -/
import Derived.Test.YtknbjfefeeojlaaPb
namespace Go.Proofs.Ytknbjfefeeojlaa
open Go.RowKit
attribute [local irreducible] RV VH V OpF Calls

set_option maxHeartbeats 400000 in
theorem rInt_ok (n : Int) (S : Nat → Prop) (w : World) (hn : -9223372036854775808 ≤ n ∧ n ≤ 9223372036854775807) (hu : Up S w) :
    Calls Try.prog 54 #[.int .i64 n] w (PQ S (n : Rat) w) := by
  have z0 := Ext.refl w; have hLX : LX = 17592186044416 := rfl; have hLY : LY = 8796093022208 := rfl
  have hu2 : ∀ W : World, w.heap.size + 1 ≤ W.heap.size → Up (SX S [w.heap.size]) W := fun W hW => SX.up (hu.mono (by omega)) (by simp <;> omega)
  refine enter (args := [.int .i64 n]) Try.func54 rfl rfl (Nat.le_of_ble_eq_true rfl) ?_
  refine V.seq (V.reg rfl ?_)
  refine vo ?_
  refine xal zc43 ?_
  intro W1 x2 b3 nn4
  have s5 := x2.sz
  have z6 := x2
  refine vnil ?_
  refine V.seq (V.reg rfl ?_)
  refine mvi rfl ?_
  refine vo ?_
  refine xcall e83 (rFrom_ok _ _ _ (by omega) (hu2 _ (by omega))) rfl rfl ?_
  rintro _ W8 ⟨_, _, _, _, rfl, x9, hz7⟩
  have s10 := x9.sz
  have z11 := z6.trans x9
  replace b3 := b3.ext x9
  refine ⟨_, rfl, ?_⟩
  refine vv (rbd (ps := [(0, .agg #[_, _])]) (cs := [.bool _, .slice _ _ _, .bool false, .slice _ _ _]) pl43 rfl rfl) ?_
  refine vo ?_
  refine sta (cs' := [_, _, _, _]) b3 rfl rfl sz43 rfl rfl rfl ?_
  intro W12 y13 b3
  have z14 := z11.below (y13.below (by omega))
  have s15 := y13.size
  refine vnil ?_
  refine V.ret ?_
  refine ⟨[_], ⟨⟨_, rfl, lvb ag43 b3 rfl⟩, trivial⟩, ?_⟩
  exact ⟨_, rfl, z14, QC.mk1 (r := (n : Rat)) ((hz7.ck (y13.ck (by intro hh; simp [SX] at hh <;> omega)))).un rfl⟩
set_option maxHeartbeats 400000 in
theorem qIs_ok (q1 q2 : List Value) (ρ σ : RawQ) (S1 S2 : Nat → Prop) (w : World) (h1 : QX S1 w q1 ρ) (h2 : QX S2 w q2 σ) :
    Calls Try.prog 53 #[.agg q1.toArray, .agg q2.toArray] w (fun e w' => ∃ q, e = .returned (.bool q) ∧ Ext w w' ∧ (q = true ↔ ρ = σ)) := by
  have z0 := Ext.refl w; have hLX : LX = 17592186044416 := rfl; have hLY : LY = 8796093022208 := rfl
  obtain ⟨n1, ρx, n2, ρy⟩ := ρ; obtain ⟨a1, a1l, a1c, b1, b1l, b1c, rfl, gx1, gy1⟩ := h1; simp only at gx1 gy1
  obtain ⟨n3, σx, n4, σy⟩ := σ; obtain ⟨a2, a2l, a2c, b2, b2l, b2c, rfl, gx2, gy2⟩ := h2; simp only at gx2 gy2
  refine enter (args := [.agg #[.bool n1, .slice a1 a1l a1c, .bool n2, .slice b1 b1l b1c], .agg #[.bool n3, .slice a2 a2l a2c, .bool n4, .slice b2 b2l b2c]]) Try.func53 rfl rfl (Nat.le_of_ble_eq_true rfl) ?_
  refine V.seq (V.reg rfl ?_)
  refine vo ?_
  refine bxa rfl ?_
  intro W1 x2 b3 nn4
  have s5 := x2.sz
  have z6 := x2
  refine vo ?_
  refine bxa rfl ?_
  intro W7 x8 b9 nn10
  have s11 := x8.sz
  have z12 := z6.trans x8
  replace b3 := b3.ext x8
  refine asb rfl ?_
  refine vnil ?_
  refine V.seq (V.reg rfl ?_)
  refine vv (rfa rfl fd43_0) ?_
  refine vv (rldb2 rfl ag41 b3 rfl rfl ) ?_
  refine vv (rfa rfl fd43_0) ?_
  refine vv (rldb2 rfl ag41 b9 rfl rfl ) ?_
  refine vo ?_
  refine xcall e82 (rSame_ok _ _ _ _ _ _ _ _ _ _ _ _ _ (gx1.ext z12) (gx2.ext z12)) rfl rfl ?_
  rintro _ Wb1 ⟨bb1, rfl, xb1, hb1⟩
  refine ⟨_, rfl, ?_⟩
  cases bb1
  · skip
    have s13 := xb1.sz
    have z14 := z12.trans xb1
    replace b3 := b3.ext xb1
    replace b9 := b9.ext xb1
    refine mvb rfl ?_
    refine vgn (b := false) rfl rfl ?_
    refine vgn (b := false) rfl rfl ?_
    refine vgn (b := false) rfl rfl ?_
    refine vgn (b := false) rfl rfl ?_
    refine vgn (b := false) rfl rfl ?_
    refine vv (rpk (v := .bool false) rfl rfl) ?_
    refine asb rfl ?_
    refine vnil ?_
    refine V.ret ?_
    refine ⟨[.bool false], ⟨rfl, trivial⟩, ?_⟩
    refine ⟨_, rfl, z14, ?_⟩
    rw [RawQ.mk.injEq]
    exact ⟨fun h => (by cases h), fun h => hb1.2 ⟨h.1, h.2.1⟩⟩
  · skip
    have s15 := xb1.sz
    have z16 := z12.trans xb1
    replace b3 := b3.ext xb1
    replace b9 := b9.ext xb1
    refine mvb rfl ?_
    refine vg rfl ?_
    refine vv (rfa rfl fd43_1) ?_
    refine vg rfl ?_
    refine vv (rldb2 rfl ag41 b3 rfl rfl ) ?_
    refine vg rfl ?_
    refine vv (rfa rfl fd43_1) ?_
    refine vg rfl ?_
    refine vv (rldb2 rfl ag41 b9 rfl rfl ) ?_
    refine vg rfl ?_
    refine vo ?_
    refine xcall e82 (rSame_ok _ _ _ _ _ _ _ _ _ _ _ _ _ (gy1.ext z16) (gy2.ext z16)) rfl rfl ?_
    rintro _ Wb2 ⟨bb2, rfl, xb2, hb2⟩
    refine ⟨_, rfl, ?_⟩
    cases bb2
    · skip
      have s17 := xb2.sz
      have z18 := z16.trans xb2
      replace b3 := b3.ext xb2
      replace b9 := b9.ext xb2
      refine vv (rpk (v := .bool false) rfl rfl) ?_
      refine asb rfl ?_
      refine vnil ?_
      refine V.ret ?_
      refine ⟨[.bool false], ⟨rfl, trivial⟩, ?_⟩
      refine ⟨_, rfl, z18, ?_⟩
      rw [RawQ.mk.injEq]
      exact ⟨fun h => (by cases h), fun h => hb2.2 ⟨h.2.2.1, h.2.2.2⟩⟩
    · skip
      have s19 := xb2.sz
      have z20 := z16.trans xb2
      replace b3 := b3.ext xb2
      replace b9 := b9.ext xb2
      refine vv (rpk (v := .bool true) rfl rfl) ?_
      refine asb rfl ?_
      refine vnil ?_
      refine V.ret ?_
      refine ⟨[.bool true], ⟨rfl, trivial⟩, ?_⟩
      refine ⟨_, rfl, z20, ?_⟩
      rw [RawQ.mk.injEq]
      exact ⟨fun _ => ⟨(hb1.1 rfl).1, (hb1.1 rfl).2, (hb2.1 rfl).1, (hb2.1 rfl).2⟩, fun _ => rfl⟩
set_option maxHeartbeats 400000 in
theorem vIs_ok (a1 a2 : Option Addr) (n c m d : Nat) (ρs σs : List RawQ) (S1 S2 : Nat → Prop) (w : World) (hx : GX S1 w a1 n c ρs) (hy : GX S2 w a2 m d σs) :
    Calls Try.prog 26 #[.slice a1 n c, .slice a2 m d] w (fun e w' => ∃ q, e = .returned (.bool q) ∧ Ext w w' ∧ (q = true ↔ ρs = σs)) := by
  have z0 := Ext.refl w; have hLX : LX = 17592186044416 := rfl; have hLY : LY = 8796093022208 := rfl
  have l1 := hx.len; have l2 := hy.len; have l3 := hx.max; have l4 := hy.max
  refine enter (args := [.slice a1 n c, .slice a2 m d]) Try.func26 rfl rfl (Nat.le_of_ble_eq_true rfl) ?_
  refine V.seq (V.reg rfl ?_)
  refine asb rfl ?_
  refine vnil ?_
  refine V.seq ?_
  refine V.seq (V.reg rfl ?_)
  refine mvs rfl ?_
  refine vv (rlen sl30 rfl) ?_
  refine mvs rfl ?_
  refine vv (rlen sl30 rfl) ?_
  refine vne rfl rfl ?_ ?_
  · intro c1
    refine vnil ?_
    refine V.condT rfl ?_
    refine V.seq (V.reg rfl ?_)
    refine asb rfl ?_
    refine vnil ?_
    refine V.ret ?_
    refine ⟨[.bool false], ⟨rfl, trivial⟩, ?_⟩
    exact ⟨_, rfl, (Ext.refl w), ⟨fun h => (by cases h), fun h => by have := congrArg List.length h; omega⟩⟩
  · intro c1
    refine vnil ?_
    refine V.condF rfl ?_
    refine V.skip ?_
    refine V.seq ?_
    refine V.seq (V.reg rfl ?_)
    refine asi rfl ?_
    refine vnil ?_
    refine V.block ?_
    refine V.loopK (ι := Nat) [(0, .slice _ _ _), (1, .slice _ _ _)] (fun k => [(5, .int .i64 (k : Int))]) (fun k W => Ext w W ∧ k ≤ n ∧ ρs.take k = σs.take k) (fun k => n - k) (0) ⟨rfl, rfl, trivial⟩ ⟨rfl, trivial⟩ ⟨Ext.refl _, Nat.zero_le _, rfl⟩ ?_
    intro k E3 W2 h4
    obtain ⟨x5, hk, ht⟩ := h4
    have s6 := x5.sz
    have z7 := x5
    refine V.seq ?_
    refine V.seq (V.reg rfl ?_)
    refine mvi rfl ?_
    refine mvs rfl ?_
    refine vv (rlen sl30 rfl) ?_
    refine vlt rfl rfl ?_ ?_
    · intro c8
      obtain ⟨en0, ea0, el0, ec0, em0, eb0, ek0, ed0, hq0, hc0⟩ := (hx.ext z7).el (i := (k : Int)) (by omega) (by omega)
      have ce0 : CE W2 _ _ := hc0
      obtain ⟨en1, ea1, el1, ec1, em1, eb1, ek1, ed1, hq1, hc1⟩ := (hy.ext z7).el (i := (k : Int)) (by omega) (by omega)
      have ce1 : CE W2 _ _ := hc1
      refine vnil ?_
      refine V.condT rfl ?_
      refine V.skip ?_
      refine V.seq ?_
      refine V.block ?_
      refine V.seq (V.regD mixed rfl ?_)
      intro W9 x10
      have s11 := x10.sz
      have z12 := z7.trans x10
      have q13 := Ext.refl W9
      refine tk 0 rfl (by kernel_rfl) q13 (pv (fun _ y14 => rmv (v := .slice _ _ _) rfl)) ?_
      refine tk 1 rfl (by kernel_rfl) q13 (pv (fun _ y15 => rmv (v := .int _ _) rfl)) ?_
      refine tk 2 rfl (by kernel_rfl) q13 (pv (fun _ y16 => rix sl30 sz43 rfl rfl (by omega) (by omega) (((hx.ext z12).ext y16).isS (i := 0) (by omega) (by omega)))) ?_
      refine tk 3 rfl (by kernel_rfl) q13 (pv (fun _ y17 => rldn (l := [.bool _, .slice _ _ _, .bool _, .slice _ _ _]) rfl ag43 rfl ((ce0.ext x10).ext y17))) ?_
      refine tk 4 rfl (by kernel_rfl) q13 (pv (fun _ y18 => rmv (v := .slice _ _ _) rfl)) ?_
      refine tk 5 rfl (by kernel_rfl) q13 (pv (fun _ y19 => rmv (v := .int _ _) rfl)) ?_
      refine tk 6 rfl (by kernel_rfl) q13 (pv (fun _ y20 => rix sl30 sz43 rfl rfl (by omega) (by omega) (((hy.ext z12).ext y20).isS (i := 0) (by omega) (by omega)))) ?_
      refine tk 7 rfl (by kernel_rfl) q13 (pv (fun _ y21 => rldn (l := [.bool _, .slice _ _ _, .bool _, .slice _ _ _]) rfl ag43 rfl ((ce1.ext x10).ext y21))) ?_
      refine ef 8 (by kernel_rfl) rfl ?_
      refine xcall e53 (qIs_ok [_, _, _, _] [_, _, _, _] _ _ _ _ _ (hq0.ext x10) (hq1.ext x10)) rfl rfl ?_
      rintro _ Wb1 ⟨bb1, rfl, xb1, hb1⟩
      refine ⟨_, rfl, ?_⟩
      cases bb1
      · skip
        have s22 := xb1.sz
        have z23 := z12.trans xb1
        have q24 := q13.trans xb1
        refine ⟨fun _ => q24, ?_⟩
        refine tk 9 rfl (by kernel_rfl) q24 (pv (fun _ y25 => rnot (q := true) rfl rfl)) ?_
        refine dn (by kernel_rfl) ?_
        refine V.condT rfl ?_
        refine V.seq (V.reg rfl ?_)
        refine asb rfl ?_
        refine vnil ?_
        refine V.ret ?_
        refine ⟨[.bool false], ⟨rfl, trivial⟩, ?_⟩
        exact ⟨_, rfl, z23, ⟨fun h => (by cases h), fun h => hb1.2 (by rw [h])⟩⟩
      · skip
        have s26 := xb1.sz
        have z27 := z12.trans xb1
        have q28 := q13.trans xb1
        refine ⟨fun _ => q28, ?_⟩
        refine tk 9 rfl (by kernel_rfl) q28 (pv (fun _ y29 => rnot (q := false) rfl rfl)) ?_
        refine dn (by kernel_rfl) ?_
        refine V.condF rfl ?_
        refine V.skip ?_
        refine V.reg rfl ?_
        refine mvi rfl ?_
        refine vv (rbin (bAdd (wi (by omega))) rfl rfl) ?_
        refine asi rfl ?_
        refine vnil ?_
        refine ⟨rfl, k + 1, ⟨rfl, rfl, trivial⟩, ⟨rfl, trivial⟩, ⟨z27, by omega, by rw [take_getD rz ρs k (by omega), take_getD rz σs k (by omega), ht, (show ρs.getD k rz = σs.getD k rz from hb1.1 rfl)]⟩, ?_⟩
        show n - (k + 1) < n - k
        omega
    · intro c8
      refine vnil ?_
      refine V.condF rfl ?_
      refine V.exit ?_
      refine V.seq (V.reg rfl ?_)
      refine asb rfl ?_
      refine vnil ?_
      refine V.ret ?_
      refine ⟨[.bool true], ⟨rfl, trivial⟩, ?_⟩
      refine ⟨_, rfl, z7, ?_⟩
      rw [List.take_of_length_le (by omega), List.take_of_length_le (by omega)] at ht
      exact ⟨fun _ => ht, fun _ => rfl⟩
set_option maxHeartbeats 400000 in
theorem rvInts_ok (a1 : Option Addr) (n c : Nat) (xs : List Int) (S S1 : Nat → Prop) (w : World) (hx : RN .i64 S1 w a1 n c xs) (hn : n ≤ LV) (hu : Up S w) :
    Calls Try.prog 28 #[.slice a1 n c] w (fun e w' => ∃ ra rk rc, e = .returned (.slice ra rk rc) ∧ Ext w w' ∧ GC S w' ra rk rc (xs.map (fun z : Int => (z : Rat)))) := by
  have z0 := Ext.refl w; have hLX : LX = 17592186044416 := rfl; have hLY : LY = 8796093022208 := rfl
  have hLV : LV = 1099511627776 := rfl
  have l1 := hx.len; have l2 := hx.cap; have l3 := hx.max
  refine enter (args := [.slice a1 n c]) Try.func28 rfl rfl (Nat.le_of_ble_eq_true rfl) ?_
  refine V.seq (V.reg rfl ?_)
  refine ass rfl ?_
  refine vnil ?_
  refine V.seq (V.reg rfl ?_)
  refine ass rfl ?_
  refine vnil ?_
  refine V.seq ?_
  refine V.seq (V.reg rfl ?_)
  refine asi rfl ?_
  refine vnil ?_
  refine V.block ?_
  refine V.loopK (ι := Nat × Value) [(0, .slice _ _ _), (2, .slice _ _ _)] (fun ⟨k, v⟩ => [(4, .int .i64 (k : Int)), (3, v)]) (fun ⟨k, v⟩ W => Ext w W ∧ k ≤ n ∧ GO 4 QC S w.heap.size W 43 v ((xs.take k).map (fun z : Int => (z : Rat)))) (fun ⟨k, v⟩ => n - k) ((0, _)) ⟨rfl, rfl, trivial⟩ ⟨rfl, rfl, trivial⟩ ⟨Ext.refl _, Nat.zero_le _, GO.nil _ _⟩ ?_
  intro i2 E3 W1 h4
  obtain ⟨k, v⟩ := i2
  simp only at h4
  show V _ _ _ _ _ _ (ups (ups _ _) [(4, .int .i64 (k : Int)), (3, v)]) _
  obtain ⟨x5, hk, hO⟩ := h4
  have s6 := x5.sz
  have z7 := x5
  refine V.seq ?_
  refine V.seq (V.reg rfl ?_)
  refine mvi rfl ?_
  refine mvs rfl ?_
  refine vv (rlen sl49 rfl) ?_
  refine vlt rfl rfl ?_ ?_
  · intro c8
    refine vnil ?_
    refine V.condT rfl ?_
    refine V.skip ?_
    refine V.seq ?_
    refine V.block ?_
    refine V.reg rfl ?_
    refine vv (rmv (v := v) rfl) ?_
    refine mvs rfl ?_
    refine mvi rfl ?_
    refine vv (rixn (hx.ext z7) sl49 sz2 rfl rfl (by omega) (by omega)) ?_
    refine vldN (hx.ext z7) rfl sc2 (by omega) (by omega) ?_
    intro q9 hq9 hk10
    simp only [kb] at hk10
    refine vo ?_
    refine xcall e54 (rInt_ok _ _ _ (by omega) (GO.up hO hu (by omega))) rfl rfl ?_
    rintro _ W12 ⟨_, rfl, x13, hq11⟩
    have s14 := x13.sz
    have z15 := z7.trans x13
    replace hO := hO.ext okQC x13
    obtain ⟨_, _, _, _, _, _, _, _, rfl⟩ := hq11.form
    refine ⟨_, rfl, ?_⟩
    refine vo ?_
    refine xbs (ps := [(0, .agg #[_, _, _, _])]) (cs := [.bool _, .slice _ _ _, .bool _, .slice _ _ _]) sl30 zr43 sz43 rfl rfl rfl rfl rfl rfl ?_
    intro W16 x17 b18 nn19
    have s20 := x17.sz
    have z21 := z15.trans x17
    replace hO := hO.ext okQC x17
    refine vo ?_
    refine xappG okQC sl30 in43 rfl rfl hO rfl rfl b18 rfl rfl ((hq11.ext x17)) (by simp; omega) (by decide) (by omega) ?_
    intro v22 W23 hO24 hg25
    have y26 := hg25.below; have s27 := y26.size
    have z28 := z21.below (y26.mono (by omega))
    refine vv (ras (v := v22) rfl) ?_
    refine vnil ?_
    refine V.reg rfl ?_
    refine mvi rfl ?_
    refine vv (rbin (bAdd (wi (by omega))) rfl rfl) ?_
    refine asi rfl ?_
    refine vnil ?_
    refine ⟨rfl, (k + 1, _), ⟨rfl, rfl, trivial⟩, ⟨rfl, rfl, trivial⟩, ⟨z28, by omega, by rw [fromN_succ xs k (by omega), ← hq9]; exact hO24⟩, ?_⟩
    show n - (k + 1) < n - k
    omega
  · intro c8
    refine vnil ?_
    refine V.condF rfl ?_
    refine V.exit ?_
    refine V.seq (V.reg rfl ?_)
    refine vv (rmv (v := v) rfl) ?_
    refine vv (ras (v := v) rfl) ?_
    refine vnil ?_
    refine V.ret ?_
    refine ⟨[v], ⟨rfl, trivial⟩, ?_⟩
    obtain ⟨a', c', rfl⟩ := hO.form
    have hf := hO.fin okQC (fun b hb _ => hu b (by omega))
    refine ⟨_, _, _, rfl, z7, ?_⟩
    rw [List.take_of_length_le (by omega)] at hf ⊢
    exact hf
set_option maxHeartbeats 400000 in
theorem mIs_ok (a1 a2 : Option Addr) (n c m d : Nat) (ρs σs : List (List RawQ)) (S1 S2 : Nat → Prop) (w : World) (hx : MX S1 w a1 n c ρs) (hy : MX S2 w a2 m d σs) :
    Calls Try.prog 12 #[.slice a1 n c, .slice a2 m d] w (fun e w' => ∃ q, e = .returned (.bool q) ∧ Ext w w' ∧ (q = true ↔ ρs = σs)) := by
  have z0 := Ext.refl w; have hLX : LX = 17592186044416 := rfl; have hLY : LY = 8796093022208 := rfl
  have l1 := hx.len; have l2 := hy.len; have l3 := hx.max; have l4 := hy.max
  refine enter (args := [.slice a1 n c, .slice a2 m d]) Try.func12 rfl rfl (Nat.le_of_ble_eq_true rfl) ?_
  refine V.seq (V.reg rfl ?_)
  refine asb rfl ?_
  refine vnil ?_
  refine V.seq ?_
  refine V.seq (V.reg rfl ?_)
  refine mvs rfl ?_
  refine vv (rlen sl25 rfl) ?_
  refine mvs rfl ?_
  refine vv (rlen sl25 rfl) ?_
  refine vne rfl rfl ?_ ?_
  · intro c1
    refine vnil ?_
    refine V.condT rfl ?_
    refine V.seq (V.reg rfl ?_)
    refine asb rfl ?_
    refine vnil ?_
    refine V.ret ?_
    refine ⟨[.bool false], ⟨rfl, trivial⟩, ?_⟩
    exact ⟨_, rfl, (Ext.refl w), ⟨fun h => (by cases h), fun h => by have := congrArg List.length h; omega⟩⟩
  · intro c1
    refine vnil ?_
    refine V.condF rfl ?_
    refine V.skip ?_
    refine V.seq ?_
    refine V.seq (V.reg rfl ?_)
    refine asi rfl ?_
    refine vnil ?_
    refine V.block ?_
    refine V.loopK (ι := Nat) [(0, .slice _ _ _), (1, .slice _ _ _)] (fun k => [(5, .int .i64 (k : Int))]) (fun k W => Ext w W ∧ k ≤ n ∧ ρs.take k = σs.take k) (fun k => n - k) (0) ⟨rfl, rfl, trivial⟩ ⟨rfl, trivial⟩ ⟨Ext.refl _, Nat.zero_le _, rfl⟩ ?_
    intro k E3 W2 h4
    obtain ⟨x5, hk, ht⟩ := h4
    have s6 := x5.sz
    have z7 := x5
    refine V.seq ?_
    refine V.seq (V.reg rfl ?_)
    refine mvi rfl ?_
    refine mvs rfl ?_
    refine vv (rlen sl25 rfl) ?_
    refine vlt rfl rfl ?_ ?_
    · intro c8
      obtain ⟨ra0, rk0, rc0, hc0, hg0⟩ := (hx.ext z7).el (i := (k : Int)) (by omega) (by omega)
      have ce0 : C1 W2 _ _ := hc0
      obtain ⟨ra1, rk1, rc1, hc1, hg1⟩ := (hy.ext z7).el (i := (k : Int)) (by omega) (by omega)
      have ce1 : C1 W2 _ _ := hc1
      refine vnil ?_
      refine V.condT rfl ?_
      refine V.skip ?_
      refine V.seq ?_
      refine V.block ?_
      refine V.seq (V.regD mixed rfl ?_)
      intro W9 x10
      have s11 := x10.sz
      have z12 := z7.trans x10
      have q13 := Ext.refl W9
      refine tk 0 rfl (by kernel_rfl) q13 (pv (fun _ y14 => rmv (v := .slice _ _ _) rfl)) ?_
      refine tk 1 rfl (by kernel_rfl) q13 (pv (fun _ y15 => rmv (v := .int _ _) rfl)) ?_
      refine tk 2 rfl (by kernel_rfl) q13 (pv (fun _ y16 => rix sl25 sz30 rfl rfl (by omega) (by omega) (((hx.ext z12).ext y16).isS (i := 0) (by omega) (by omega)))) ?_
      refine tk 3 rfl (by kernel_rfl) q13 (pv (fun _ y17 => rld1 (v := .slice _ _ _) rfl sc30 ((ce0.ext x10).ext y17))) ?_
      refine tk 4 rfl (by kernel_rfl) q13 (pv (fun _ y18 => rmv (v := .slice _ _ _) rfl)) ?_
      refine tk 5 rfl (by kernel_rfl) q13 (pv (fun _ y19 => rmv (v := .int _ _) rfl)) ?_
      refine tk 6 rfl (by kernel_rfl) q13 (pv (fun _ y20 => rix sl25 sz30 rfl rfl (by omega) (by omega) (((hy.ext z12).ext y20).isS (i := 0) (by omega) (by omega)))) ?_
      refine tk 7 rfl (by kernel_rfl) q13 (pv (fun _ y21 => rld1 (v := .slice _ _ _) rfl sc30 ((ce1.ext x10).ext y21))) ?_
      refine ef 8 (by kernel_rfl) rfl ?_
      refine xcall e26 (vIs_ok _ _ _ _ _ _ _ _ _ _ _ (hg0.ext x10) (hg1.ext x10)) rfl rfl ?_
      rintro _ Wb1 ⟨bb1, rfl, xb1, hb1⟩
      refine ⟨_, rfl, ?_⟩
      cases bb1
      · skip
        have s22 := xb1.sz
        have z23 := z12.trans xb1
        have q24 := q13.trans xb1
        refine ⟨fun _ => q24, ?_⟩
        refine tk 9 rfl (by kernel_rfl) q24 (pv (fun _ y25 => rnot (q := true) rfl rfl)) ?_
        refine dn (by kernel_rfl) ?_
        refine V.condT rfl ?_
        refine V.seq (V.reg rfl ?_)
        refine asb rfl ?_
        refine vnil ?_
        refine V.ret ?_
        refine ⟨[.bool false], ⟨rfl, trivial⟩, ?_⟩
        exact ⟨_, rfl, z23, ⟨fun h => (by cases h), fun h => hb1.2 (by rw [h])⟩⟩
      · skip
        have s26 := xb1.sz
        have z27 := z12.trans xb1
        have q28 := q13.trans xb1
        refine ⟨fun _ => q28, ?_⟩
        refine tk 9 rfl (by kernel_rfl) q28 (pv (fun _ y29 => rnot (q := false) rfl rfl)) ?_
        refine dn (by kernel_rfl) ?_
        refine V.condF rfl ?_
        refine V.skip ?_
        refine V.reg rfl ?_
        refine mvi rfl ?_
        refine vv (rbin (bAdd (wi (by omega))) rfl rfl) ?_
        refine asi rfl ?_
        refine vnil ?_
        refine ⟨rfl, k + 1, ⟨rfl, rfl, trivial⟩, ⟨rfl, trivial⟩, ⟨z27, by omega, by rw [take_getD [] ρs k (by omega), take_getD [] σs k (by omega), ht, (show ρs.getD k [] = σs.getD k [] from hb1.1 rfl)]⟩, ?_⟩
        show n - (k + 1) < n - k
        omega
    · intro c8
      refine vnil ?_
      refine V.condF rfl ?_
      refine V.exit ?_
      refine V.seq (V.reg rfl ?_)
      refine asb rfl ?_
      refine vnil ?_
      refine V.ret ?_
      refine ⟨[.bool true], ⟨rfl, trivial⟩, ?_⟩
      refine ⟨_, rfl, z7, ?_⟩
      rw [List.take_of_length_le (by omega), List.take_of_length_le (by omega)] at ht
      exact ⟨fun _ => ht, fun _ => rfl⟩
set_option maxHeartbeats 400000 in
theorem rmInts_ok (a1 : Option Addr) (n c : Nat) (zss : List (List Int)) (S S1 : Nat → Prop) (w : World) (hx : MI S1 w a1 n c zss) (hn : n ≤ LV) (hR : ∀ r ∈ zss, r.length ≤ LV) (hu : Up S w) :
    Calls Try.prog 9 #[.slice a1 n c] w (fun e w' => ∃ ra rk rc, e = .returned (.slice ra rk rc) ∧ Ext w w' ∧ MC S w' ra rk rc (zss.map fun r => r.map fun z : Int => (z : Rat))) := by
  have z0 := Ext.refl w; have hLX : LX = 17592186044416 := rfl; have hLY : LY = 8796093022208 := rfl
  have hLV : LV = 1099511627776 := rfl
  have l1 := hx.len; have l2 := hx.max
  refine enter (args := [.slice a1 n c]) Try.func9 rfl rfl (Nat.le_of_ble_eq_true rfl) ?_
  refine V.seq (V.reg rfl ?_)
  refine ass rfl ?_
  refine vnil ?_
  refine V.seq (V.reg rfl ?_)
  refine ass rfl ?_
  refine vnil ?_
  refine V.seq ?_
  refine V.seq (V.reg rfl ?_)
  refine asi rfl ?_
  refine vnil ?_
  refine V.block ?_
  refine V.loopK (ι := Nat × Value) [(0, .slice _ _ _), (2, .slice _ _ _)] (fun ⟨k, v⟩ => [(4, .int .i64 (k : Int)), (3, v)]) (fun ⟨k, v⟩ W => Ext w W ∧ k ≤ n ∧ GO 1 (RowOf GC) S w.heap.size W 30 v ((zss.take k).map fun r => r.map fun z : Int => (z : Rat))) (fun ⟨k, v⟩ => n - k) ((0, _)) ⟨rfl, rfl, trivial⟩ ⟨rfl, rfl, trivial⟩ ⟨Ext.refl _, Nat.zero_le _, GO.nil _ _⟩ ?_
  intro i2 E3 W1 h4
  obtain ⟨k, v⟩ := i2
  simp only at h4
  show V _ _ _ _ _ _ (ups (ups _ _) [(4, .int .i64 (k : Int)), (3, v)]) _
  obtain ⟨x5, hk, hO⟩ := h4
  have s6 := x5.sz
  have z7 := x5
  refine V.seq ?_
  refine V.seq (V.reg rfl ?_)
  refine mvi rfl ?_
  refine mvs rfl ?_
  refine vv (rlen sl23 rfl) ?_
  refine vlt rfl rfl ?_ ?_
  · intro c8
    have hrw : (rowat zss ((k : Int)).toNat).length ≤ LV := row_leG hR _
    refine vnil ?_
    refine V.condT rfl ?_
    refine V.skip ?_
    refine V.seq ?_
    refine V.block ?_
    refine V.reg rfl ?_
    refine vv (rmv (v := v) rfl) ?_
    refine mvs rfl ?_
    refine mvi rfl ?_
    refine vv (rix sl23 sz49 rfl rfl (by omega) (by omega) ((hx.ext z7).isS (i := 0) (by omega) (by omega))) ?_
    refine vldRow (hx.ext z7) rfl sc49 (by omega) (by omega) ?_
    intro a9 n10 c11 hg12
    have hg12l := hg12.len; have hg12m := hg12.max
    refine vo ?_
    refine xcall e28 (rvInts_ok _ _ _ _ _ _ _ hg12 (by omega) (GO.up hO hu (by omega))) rfl rfl ?_
    rintro _ W14 ⟨_, _, _, rfl, x15, hv13⟩
    have s16 := x15.sz
    have z17 := z7.trans x15
    replace hO := hO.ext okRowC x15
    have hv13l := hv13.len
    refine ⟨_, rfl, ?_⟩
    refine vo ?_
    refine xbs (ps := [(0, .slice _ _ _)]) (cs := [.slice _ _ _]) sl25 zr30 sz30 rfl rfl rfl rfl rfl rfl ?_
    intro W18 x19 b20 nn21
    have s22 := x19.sz
    have z23 := z17.trans x19
    replace hO := hO.ext okRowC x19
    refine vo ?_
    refine xappG okRowC sl25 in30 rfl rfl hO rfl rfl b20 rfl rfl ((⟨_, _, _, rfl, (hv13.ext x19)⟩ : RowOf GC _ _ _ _)) (by simp; omega) (by decide) (by omega) ?_
    intro v24 W25 hO26 hg27
    have y28 := hg27.below; have s29 := y28.size
    have z30 := z23.below (y28.mono (by omega))
    refine vv (ras (v := v24) rfl) ?_
    refine vnil ?_
    refine V.reg rfl ?_
    refine mvi rfl ?_
    refine vv (rbin (bAdd (wi (by omega))) rfl rfl) ?_
    refine asi rfl ?_
    refine vnil ?_
    refine ⟨rfl, (k + 1, _), ⟨rfl, rfl, trivial⟩, ⟨rfl, rfl, trivial⟩, ⟨z30, by omega, by rw [take_rowG _ zss k (by omega)]; exact hO26⟩, ?_⟩
    show n - (k + 1) < n - k
    omega
  · intro c8
    refine vnil ?_
    refine V.condF rfl ?_
    refine V.exit ?_
    refine V.seq (V.reg rfl ?_)
    refine vv (rmv (v := v) rfl) ?_
    refine vv (ras (v := v) rfl) ?_
    refine vnil ?_
    refine V.ret ?_
    refine ⟨[v], ⟨rfl, trivial⟩, ?_⟩
    obtain ⟨a', c', rfl⟩ := hO.form
    have hf := hO.fin okRowC (fun b hb _ => hu b (by omega))
    refine ⟨_, _, _, rfl, z7, ?_⟩
    rw [List.take_of_length_le (by omega)] at hf ⊢
    exact hf
end Go.Proofs.Ytknbjfefeeojlaa

/- Package vec: FromInts, Resize, Scale. -/
import Derived.Test.YtknbjfefeeojlaaGreatRows
import Derived.ProofKit
import Derived.JoinedCond
import Derived.Scope
import Derived.Test.YtknbjfefeeojlaaGreatMgqlo3
namespace Go.Proofs.YtknbjfefeeojlaaGreat
open Go.RowKit
attribute [local irreducible] RV VH V OpF Calls
theorem GA.nil (L : Nat) (S : Nat → Prop) (W : World) : GA L S W none 0 0 [] := ⟨[], RS.nil _ _ _ _ _ (by omega), trivial⟩

set_option maxHeartbeats 400000 in
theorem vScale_ok (q : List Value) (r : Rat) (a1 : Option Addr) (n c : Nat) (L1 L3 : Nat) (xs : List Rat) (S S1 S3 : Nat → Prop) (w : World) (hx : GA L1 S1 w a1 n c xs) (h3 : QA L3 S3 w q r) (hL : L1 + L3 + 1 < LY) (hl1 : 1 ≤ L1) (hl3 : 1 ≤ L3) (hn : n ≤ LV) (hu : Up S w) :
    Calls Tryz.prog 26 #[.agg q.toArray, .slice a1 n c] w (fun e w' => ∃ ra rk rc, e = .returned (.slice ra rk rc) ∧ Ext w w' ∧ GC S w' ra rk rc (zipf (fun a b => r * a + b) xs [] (max n 0))) := by
 have z0 := Ext.refl w; have hLX : LX = 17592186044416 := rfl; have hLY : LY = 8796093022208 := rfl
 obtain ⟨n5, a5, l5, c5, n6, a6, l6, c6, rfl⟩ := h3.form
 have hLV : LV = 1099511627776 := rfl
 refine enter (args := [.agg #[.bool n5, .slice a5 l5 c5, .bool n6, .slice a6 l6 c6], .slice a1 n c]) Tryz.func26 rfl rfl (Nat.le_of_ble_eq_true rfl) ?_
 refine V.seq (V.reg rfl ?_)
 refine vo ?_
 refine bxa rfl ?_
 intro W1 x2 b3 nn4
 have s5 := x2.sz
 have z6 := x2
 refine ass rfl ?_
 refine vnil ?_
 refine V.seq (V.reg rfl ?_)
 refine vv (rldb4 rfl ag48 b3 rfl rfl rfl rfl ) ?_
 refine mvs rfl ?_
 refine vo ?_
 refine xcall e68 (vScl_ok _ _ _ _ _ _ _ _ _ _ _ _ _ _ _ _ _ _ (hx.ext z6) (GA.nil 1 (fun _ => True) _) (h3.ext z6) (by omega) (by omega) (by omega) (by omega) (by omega) (by omega) (hu.mono (by omega))) rfl rfl ?_
 rintro _ W7 ⟨_, _, _, rfl, x8, hv⟩
 have s9 := x8.sz
 have z10 := z6.trans x8
 refine ⟨_, rfl, ?_⟩
 refine ass rfl ?_
 refine vnil ?_
 refine V.ret ?_
 refine ⟨[.slice _ _ _], ⟨rfl, trivial⟩, ?_⟩
 exact ⟨_, _, _, rfl, z10, hv⟩

theorem fromN_succ (xs : List Int) (k : Nat) (h : k < xs.length) : (xs.take (k + 1)).map (fun z : Int => (z : Rat)) = (xs.take k).map (fun z : Int => (z : Rat)) ++ [((wd xs k : Int) : Rat)] := by rw [take_succ_wd xs k h, List.map_append]; rfl

set_option maxHeartbeats 400000 in
theorem vFrom_ok (a1 : Option Addr) (n c : Nat) (xs : List Int) (S S1 : Nat → Prop) (w : World) (hx : RN .i64 S1 w a1 n c xs) (hn : n ≤ LV) (hu : Up S w) :
    Calls Tryz.prog 82 #[.slice a1 n c] w (fun e w' => ∃ ra rk rc, e = .returned (.slice ra rk rc) ∧ Ext w w' ∧ GC S w' ra rk rc (xs.map (fun z : Int => (z : Rat)))) := by
 have z0 := Ext.refl w; have hLX : LX = 17592186044416 := rfl; have hLY : LY = 8796093022208 := rfl
 have hLV : LV = 1099511627776 := rfl
 have l1 := hx.len; have l2 := hx.cap; have l3 := hx.max
 refine enter (args := [.slice a1 n c]) Tryz.func82 rfl rfl (Nat.le_of_ble_eq_true rfl) ?_
 refine V.seq (V.reg rfl ?_)
 refine ass rfl ?_
 refine vnil ?_
 refine V.seq ?_
 refine V.seq (V.reg rfl ?_)
 refine mvs rfl ?_
 refine vv (rlen sl118 rfl) ?_
 refine mvi rfl ?_
 refine vnil ?_
 refine V.block ?_
 refine V.loopK (ι := Nat × Value) [(5, .slice _ _ _), (6, .int _ _)] (fun ⟨k, v⟩ => [(7, .int .i64 (k : Int)), (2, v)]) (fun ⟨k, v⟩ W => Ext w W ∧ k ≤ n ∧ GO 4 QC S w.heap.size W 48 v ((xs.take k).map (fun z : Int => (z : Rat)))) (fun ⟨k, v⟩ => n - k) ((0, _)) ⟨rfl, rfl, trivial⟩ ⟨rfl, rfl, trivial⟩ ⟨Ext.refl _, Nat.zero_le _, GO.nil _ _⟩ ?_
 intro i2 E3 W1 h4
 obtain ⟨k, v⟩ := i2
 simp only at h4
 show V _ _ _ _ _ _ (ups (ups _ _) [(7, .int .i64 (k : Int)), (2, v)]) _
 obtain ⟨x5, hk, hO⟩ := h4
 have s6 := x5.sz
 have z7 := x5
 refine V.seq (V.reg rfl ?_)
 refine vlt rfl rfl ?_ ?_
 ·intro c8
  refine vnil ?_
  refine V.seq ?_
  refine V.condT rfl ?_
  refine V.skip ?_
  refine V.seq ?_
  refine V.block ?_
  refine V.seq (V.reg rfl ?_)
  refine vv (rixn (hx.ext z7) sl118 sz2 rfl rfl (by omega) (by omega)) ?_
  refine vldN (hx.ext z7) rfl sc2 (by omega) (by omega) ?_
  intro q9 hq9 hk10
  simp only [kb] at hk10
  refine asi rfl ?_
  refine vnil ?_
  refine V.reg rfl ?_
  refine vv (rmv (v := v) rfl) ?_
  refine mvi rfl ?_
  refine vo ?_
  refine xcall e27 (fFrom_ok _ _ _ (by omega) (GO.up hO hu (by omega))) rfl rfl ?_
  rintro _ W12 ⟨_, rfl, x13, hq11⟩
  have s14 := x13.sz
  have z15 := z7.trans x13
  replace hO := hO.ext okQC x13
  obtain ⟨_, _, _, _, _, _, _, _, rfl⟩ := hq11.form
  refine ⟨_, rfl, ?_⟩
  refine vo ?_
  refine xbs (zs := [.bool false, .slice _ _ _, .bool false, .slice _ _ _]) (ps := [(0, .agg #[_, _, _, _])]) (cs := [.bool _, .slice _ _ _, .bool _, .slice _ _ _]) sl23 zr48 sz48 rfl rfl rfl rfl rfl rfl ?_
  intro W16 x17 b18 nn19
  have s20 := x17.sz
  have z21 := z15.trans x17
  replace hO := hO.ext okQC x17
  refine vo ?_
  refine xappG okQC sl23 in48 rfl rfl hO rfl rfl b18 rfl rfl ((hq11.ext x17)) (by simp; omega) (by decide) (by omega) ?_
  intro v22 W23 hO24 hg25
  have y26 := hg25.below; have s27 := y26.size
  have z28 := z21.below (y26.mono (by omega))
  refine vv (ras (v := v22) rfl) ?_
  refine vnil ?_
  refine V.reg rfl ?_
  refine vv (rbin (bAdd (wi (by omega))) rfl rfl) ?_
  refine mvi rfl ?_
  refine vnil ?_
  refine ⟨rfl, (k + 1, _), ⟨rfl, rfl, trivial⟩, ⟨rfl, rfl, trivial⟩, ⟨z28, by omega, by rw [fromN_succ xs k (by omega), ← hq9]; exact hO24⟩, ?_⟩
  show n - (k + 1) < n - k
  omega
 ·intro c8
  refine vnil ?_
  refine V.seq ?_
  refine V.condF rfl ?_
  refine V.exit ?_
  refine V.seq (V.reg rfl ?_)
  refine vv (rmv (v := v) rfl) ?_
  refine vv (ras (v := v) rfl) ?_
  refine vnil ?_
  refine V.ret ?_
  refine ⟨[v], ⟨rfl, trivial⟩, ?_⟩
  obtain ⟨a', c', rfl⟩ := hO.form
  have hf := hO.fin okQC (fun b hb _ => hu b (by omega))
  refine ⟨_, _, _, rfl, z7, ?_⟩
  rw [List.take_of_length_le (by omega)] at hf ⊢
  exact hf

def resz (rs : List Rat) (k : Nat) : List Rat := (List.range k).map (vat rs)
theorem resz_succ (rs : List Rat) (k : Nat) : resz rs (k + 1) = resz rs k ++ [vat rs k] := by simp [resz, List.range_succ]
theorem resz_len (rs : List Rat) (k : Nat) : (resz rs k).length = k := by simp [resz]

set_option maxHeartbeats 400000 in
theorem vResize_ok (a1 : Option Addr) (n c : Nat) (z : Int) (N : Nat) (L1 : Nat) (xs : List Rat) (S S1 : Nat → Prop) (w : World) (hx : GA L1 S1 w a1 n c xs) (hN : min (max z 0) 65536 = (N : Int)) (hL : L1 < LY) (hl1 : 1 ≤ L1) (hu : Up S w) :
    Calls Tryz.prog 19 #[.slice a1 n c, .int .i64 z] w (fun e w' => ∃ ra rk rc, e = .returned (.slice ra rk rc) ∧ Ext w w' ∧ GC S w' ra rk rc (resz xs N)) := by
 have z0 := Ext.refl w; have hLX : LX = 17592186044416 := rfl; have hLY : LY = 8796093022208 := rfl
 have l1 := hx.len
 have hNN : N ≤ 65536 := by omega
 refine enter (args := [.slice a1 n c, .int .i64 z]) Tryz.func19 rfl rfl (Nat.le_of_ble_eq_true rfl) ?_
 refine V.seq (V.reg rfl ?_)
 refine ass rfl ?_
 refine vnil ?_
 refine V.seq ?_
 refine V.seq (V.reg rfl ?_)
 refine mvi rfl ?_
 refine vv (rmax rfl rfl rfl) ?_
 refine vv (rmin rfl rfl hN) ?_
 refine mvi rfl ?_
 refine vnil ?_
 refine V.block ?_
 refine V.loopK (ι := Nat × Value) [(0, .slice _ _ _), (8, .int _ _)] (fun ⟨k, v⟩ => [(9, .int .i64 (k : Int)), (4, v)]) (fun ⟨k, v⟩ W => Ext w W ∧ k ≤ N ∧ GO 4 QC S w.heap.size W 48 v (resz xs k)) (fun ⟨k, v⟩ => N - k) ((0, _)) ⟨rfl, rfl, trivial⟩ ⟨rfl, rfl, trivial⟩ ⟨Ext.refl _, Nat.zero_le _, GO.nil _ _⟩ ?_
 intro i2 E3 W1 h4
 obtain ⟨k, v⟩ := i2
 simp only at h4
 show V _ _ _ _ _ _ (ups (ups _ _) [(9, .int .i64 (k : Int)), (4, v)]) _
 obtain ⟨x5, hk, hO⟩ := h4
 have s6 := x5.sz
 have z7 := x5
 refine V.seq (V.reg rfl ?_)
 refine vlt rfl rfl ?_ ?_
 ·intro c8
  refine vnil ?_
  refine V.seq ?_
  refine V.condT rfl ?_
  refine V.skip ?_
  refine V.seq ?_
  refine V.block ?_
  refine V.seq (V.reg rfl ?_)
  refine mvi rfl ?_
  refine asi rfl ?_
  refine vnil ?_
  refine V.reg rfl ?_
  refine vv (rmv (v := v) rfl) ?_
  refine mvs rfl ?_
  refine mvi rfl ?_
  refine vo ?_
  obtain ⟨qsx, rxx, axx⟩ := (hx.ext z7)
  refine xcall e93 (at_ok _ _ _ _ _ _ _ rxx axx.form (by omega)) rfl rfl ?_
  rintro _ W11 ⟨_, _, _, _, _, _, _, _, rfl, x12, eq9⟩
  have s13 := x12.sz
  have z14 := z7.trans x12
  replace hO := hO.ext okQC x12
  have hq10 := (axx.qat (k)).ext x12
  rw [show ((k : Nat) : Int).toNat = k by omega] at eq9
  rw [eq9] at hq10
  refine ⟨_, rfl, ?_⟩
  refine vo ?_
  refine xcall e92 (fCanon_ok _ _ _ _ _ _ hq10 (by omega) (by omega) (GO.up hO hu (by omega))) rfl rfl ?_
  rintro _ W16 ⟨_, rfl, x17, hq15⟩
  have s18 := x17.sz
  have z19 := z14.trans x17
  replace hO := hO.ext okQC x17
  obtain ⟨_, _, _, _, _, _, _, _, rfl⟩ := hq15.form
  refine ⟨_, rfl, ?_⟩
  refine vo ?_
  refine xbs (zs := [.bool false, .slice _ _ _, .bool false, .slice _ _ _]) (ps := [(0, .agg #[_, _, _, _])]) (cs := [.bool _, .slice _ _ _, .bool _, .slice _ _ _]) sl23 zr48 sz48 rfl rfl rfl rfl rfl rfl ?_
  intro W20 x21 b22 nn23
  have s24 := x21.sz
  have z25 := z19.trans x21
  replace hO := hO.ext okQC x21
  refine vo ?_
  refine xappG okQC sl23 in48 rfl rfl hO rfl rfl b22 rfl rfl ((hq15.ext x21)) (by rw [resz_len]; omega) (by decide) (by omega) ?_
  intro v26 W27 hO28 hg29
  have y30 := hg29.below; have s31 := y30.size
  have z32 := z25.below (y30.mono (by omega))
  refine vv (ras (v := v26) rfl) ?_
  refine vnil ?_
  refine V.reg rfl ?_
  refine vv (rbin (bAdd (wi (by omega))) rfl rfl) ?_
  refine mvi rfl ?_
  refine vnil ?_
  refine ⟨rfl, (k + 1, _), ⟨rfl, rfl, trivial⟩, ⟨rfl, rfl, trivial⟩, ⟨z32, by omega, by rw [resz_succ]; exact hO28⟩, ?_⟩
  show N - (k + 1) < N - k
  omega
 ·intro c8
  refine vnil ?_
  refine V.seq ?_
  refine V.condF rfl ?_
  refine V.exit ?_
  refine V.seq (V.reg rfl ?_)
  refine vv (rmv (v := v) rfl) ?_
  refine vv (ras (v := v) rfl) ?_
  refine vnil ?_
  refine V.ret ?_
  refine ⟨[v], ⟨rfl, trivial⟩, ?_⟩
  obtain ⟨a', c', rfl⟩ := hO.form
  have hf := hO.fin okQC (fun b hb _ => hu b (by omega))
  obtain rfl : k = N := by omega
  exact ⟨_, _, _, rfl, z7, hf⟩
end Go.Proofs.YtknbjfefeeojlaaGreat
/- Package vec: Unit, Dot. -/
namespace Go.Proofs.YtknbjfefeeojlaaGreat
open Go.RowKit
attribute [local irreducible] RV VH V OpF Calls
def unitv (N : Nat) (k : Int) : List Rat := if 0 ≤ k ∧ k < N then (List.replicate N 0).set k.toNat 1 else List.replicate N 0

set_option maxHeartbeats 400000 in
theorem vUnit_ok (z k : Int) (N : Nat) (S : Nat → Prop) (w : World) (hN : min (max z 0) 65536 = (N : Int)) (hu : Up S w) :
    Calls Tryz.prog 118 #[.int .i64 z, .int .i64 k] w (fun e w' => ∃ ra rk rc, e = .returned (.slice ra rk rc) ∧ Ext w w' ∧ GC S w' ra rk rc (unitv N k)) := by
 have z0 := Ext.refl w; have hLX : LX = 17592186044416 := rfl; have hLY : LY = 8796093022208 := rfl
 have hNN : N ≤ 65536 := by omega
 have hu2 : ∀ W : World, w.heap.size + 1 ≤ W.heap.size → Up (SX S [w.heap.size]) W := fun W hW => SX.up (hu.mono (by omega)) (by simp <;> omega)
 refine enter (args := [.int .i64 z, .int .i64 k]) Tryz.func118 rfl rfl (Nat.le_of_ble_eq_true rfl) ?_
 refine V.seq (V.reg rfl ?_)
 refine ass rfl ?_
 refine vnil ?_
 refine V.seq (V.reg rfl ?_)
 refine mvi rfl ?_
 refine vv (rmax rfl rfl rfl) ?_
 refine vv (rmin rfl rfl hN) ?_
 refine vo ?_
 refine xmkS (zs := [.bool false, .slice _ _ _, .bool false, .slice _ _ _]) (N) sl23 in48 rfl rfl rfl rfl rfl (by omega) (by omega) (by omega) ?_
 intro W1 x2 out n3
 have s4 := x2.sz
 have z5 := x2
 refine ass rfl ?_
 refine vnil ?_
 refine V.seq ?_
 refine V.seq (V.reg rfl ?_)
 refine mvi rfl ?_
 refine vge rfl rfl ?_ ?_
 ·intro c6
  refine mvb rfl ?_
  refine vg rfl ?_
  refine mvi rfl ?_
  refine vg rfl ?_
  refine mvs rfl ?_
  refine vg rfl ?_
  refine vv (rlen sl23 rfl) ?_
  refine vg rfl ?_
  refine vlt rfl rfl ?_ ?_
  ·intro c7
   refine vv (rpk (v := .bool true) rfl rfl) ?_
   refine vnil ?_
   refine V.condT rfl ?_
   refine V.reg rfl ?_
   refine mvs rfl ?_
   refine mvi rfl ?_
   refine vo ?_
   refine xcall e27 (fFrom_ok _ _ _ (by omega) (hu2 _ (by omega))) rfl rfl ?_
   rintro _ W9 ⟨_, rfl, x10, hq8⟩
   have s11 := x10.sz
   have z12 := z5.trans x10
   replace out := out.ext x10
   obtain ⟨_, _, _, _, _, _, _, _, rfl⟩ := hq8.form
   refine ⟨_, rfl, ?_⟩
   refine vv (rix sl23 sz48 rfl rfl (by omega) (by omega) rfl) ?_
   refine vo ?_
   refine xstq (q := [.bool _, .slice _ _ _, .bool _, .slice _ _ _]) out rfl rfl rfl sz48 rfl rfl (by omega) (by omega) ?_
   intro W13 y14 out
   have z15 := z12.below (y14.below (by omega))
   have s16 := y14.size
   refine vnil ?_
   refine V.seq (V.reg rfl ?_)
   refine mvs rfl ?_
   refine ass rfl ?_
   refine vnil ?_
   refine V.ret ?_
   refine ⟨[.slice _ _ _], ⟨rfl, trivial⟩, ?_⟩
   refine ⟨_, _, _, rfl, z15, _, out.rs (hu _ (by omega)), ?_⟩
   rw [unitv, if_pos (show 0 ≤ k ∧ k < (N : Int) from ⟨by omega, by omega⟩)]
   exact (All2.rep (QC.zero S _) N).set ((hq8.ck (y14.ck (by intro hh; first | (simp [SX] at hh <;> omega) | omega)))).un
  ·intro c7
   refine vv (rpk (v := .bool false) rfl rfl) ?_
   refine vnil ?_
   refine V.condF rfl ?_
   refine V.skip ?_
   refine V.seq (V.reg rfl ?_)
   refine mvs rfl ?_
   refine ass rfl ?_
   refine vnil ?_
   refine V.ret ?_
   refine ⟨[.slice _ _ _], ⟨rfl, trivial⟩, ?_⟩
   refine ⟨_, _, _, rfl, z5, _, out.rs (hu _ (by omega)), ?_⟩
   rw [unitv, if_neg (show ¬ (0 ≤ k ∧ k < (N : Int)) from by omega)]
   exact All2.rep (QC.zero S _) N
 ·intro c6
  refine mvb rfl ?_
  refine vgn (b := false) rfl rfl ?_
  refine vgn (b := false) rfl rfl ?_
  refine vgn (b := false) rfl rfl ?_
  refine vgn (b := false) rfl rfl ?_
  refine vv (rpk (v := .bool false) rfl rfl) ?_
  refine vnil ?_
  refine V.condF rfl ?_
  refine V.skip ?_
  refine V.seq (V.reg rfl ?_)
  refine mvs rfl ?_
  refine ass rfl ?_
  refine vnil ?_
  refine V.ret ?_
  refine ⟨[.slice _ _ _], ⟨rfl, trivial⟩, ?_⟩
  refine ⟨_, _, _, rfl, z5, _, out.rs (hu _ (by omega)), ?_⟩
  rw [unitv, if_neg (show ¬ (0 ≤ k ∧ k < (N : Int)) from by omega)]
  exact All2.rep (QC.zero S _) N
end Go.Proofs.YtknbjfefeeojlaaGreat
/- Package vec: adder. -/
namespace Go.Proofs.YtknbjfefeeojlaaGreat
open Go.RowKit
attribute [local irreducible] RV VH V OpF Calls

set_option maxHeartbeats 400000 in
theorem adder_ok (w : World) :
    Calls Tryz.prog 155 #[] w (fun e w' => ∃ b, b = w.heap.size ∧ e = .returned (.func (.func 188) #[] #[.pointer (some ⟨b, 0, none⟩)]) ∧ Ext w w' ∧ BoxAt w' b zq 48) := by
 have z0 := Ext.refl w; have hLX : LX = 17592186044416 := rfl; have hLY : LY = 8796093022208 := rfl
 refine enter (args := []) Tryz.func155 rfl rfl (Nat.le_of_ble_eq_true rfl) ?_
 refine V.seq (V.reg rfl ?_)
 refine asn rfl ?_
 refine vnil ?_
 refine V.seq (V.reg rfl ?_)
 refine vv (rbd (ps := []) (cs := [.bool false, .slice _ _ _, .bool false, .slice _ _ _]) pl48 rfl rfl) ?_
 refine vo ?_
 refine xal zc48 ?_
 intro W1 x2 b3 nn4
 have s5 := x2.sz
 have z6 := x2
 refine vo ?_
 refine sta (cs' := [_, _, _, _]) b3 rfl rfl sz48 rfl rfl rfl ?_
 intro W7 y8 b3
 have z9 := z6.below (y8.below (by omega))
 have s10 := y8.size
 refine vnil ?_
 refine V.seq (V.reg rfl ?_)
 refine vv (rmk1 (v := .pointer (some ⟨_, _, none⟩)) rfl) ?_
 refine asf rfl ?_
 refine vnil ?_
 refine V.ret ?_
 refine ⟨[.func _ _ _], ⟨rfl, trivial⟩, ?_⟩
 exact ⟨_, rfl, rfl, z9, b3⟩
set_option maxHeartbeats 400000 in
theorem add1_ok (q1 q2 : List Value) (r1 r2 : Rat) (L1 L2 : Nat) (S S1 S2 : Nat → Prop) (w : World) (b : Nat) (hb : BoxAt w b q2 48) (h1 : QA L1 S1 w q1 r1) (h2 : QA L2 S2 w q2 r2) (hL : L1 + L2 < LY) (hl1 : 1 ≤ L1) (hl2 : 1 ≤ L2) (hu : Up S w) :
    Calls Tryz.prog 188 #[.agg q1.toArray, .pointer (some ⟨b, 0, none⟩)] w (fun e w' => ∃ q, e = .returned (.agg q.toArray) ∧ KD (fun k => k ≠ b) w w' ∧ (∀ (k : Nat) (o : Obj), w.heap[k]? = some o → o.isCells = false → w'.heap[k]? = some o) ∧ BoxAt w' b q 48 ∧ QC (fun x => S x ∧ x ≠ b) w' q (r2 + r1)) := by
 have z0 := Ext.refl w; have hLX : LX = 17592186044416 := rfl; have hLY : LY = 8796093022208 := rfl
 obtain ⟨n1, a1, l1, c1, n2, a2, l2, c2, rfl⟩ := h1.form; obtain ⟨n3, a3, l3, c3, n4, a4, l4, c4, rfl⟩ := h2.form
 have lb := hb.lt; have kb0 := hb
 have hu2 : ∀ W : World, w.heap.size + 2 ≤ W.heap.size → Up (SX S [b, w.heap.size + 1]) W := fun W hW => SX.up (hu.mono (by omega)) (by simp <;> omega)
 refine enter (args := [.agg #[.bool n1, .slice a1 l1 c1, .bool n2, .slice a2 l2 c2], .pointer (some ⟨b, 0, none⟩)]) Tryz.func188 rfl rfl (Nat.le_of_ble_eq_true rfl) ?_
 refine V.seq (V.reg rfl ?_)
 refine vo ?_
 refine bxa rfl ?_
 intro W1 x2 b3 nn4
 have s5 := x2.sz
 have z6 := x2
 replace kb0 := kb0.ext x2
 refine vo ?_
 refine xal zc48 ?_
 intro W7 x8 b9 nn10
 have s11 := x8.sz
 have z12 := z6.trans x8
 replace kb0 := kb0.ext x8
 replace b3 := b3.ext x8
 refine vnil ?_
 refine V.seq (V.reg rfl ?_)
 refine vv (rldb4 rfl ag48 kb0 rfl rfl rfl rfl ) ?_
 refine vv (rldb4 rfl ag48 b3 rfl rfl rfl rfl ) ?_
 refine vo ?_
 refine xcall e142 (fAdd_ok _ _ _ _ _ _ _ _ _ _ (h2.ext z12) (h1.ext z12) (by omega) (by omega) (by omega) (hu2 _ (by omega))) rfl rfl ?_
 rintro _ W14 ⟨_, rfl, x15, hq13⟩
 have s16 := x15.sz
 replace kb0 := kb0.ext x15
 replace b9 := b9.ext x15
 obtain ⟨_, _, _, _, _, _, _, _, rfl⟩ := hq13.form
 refine ⟨_, rfl, ?_⟩
 refine vo ?_
 have bo18 := kb0
 refine sta (cs' := [_, _, _, _]) kb0 rfl rfl sz48 rfl rfl rfl ?_
 intro W19 y20 kb0
 replace b9 := b9.wr y20 (by omega)
 have s21 := y20.size
 refine vnil ?_
 refine V.seq (V.reg rfl ?_)
 refine vv (rldb4 rfl ag48 kb0 rfl rfl rfl rfl ) ?_
 refine vo ?_
 have bo22 := b9
 refine sta (cs' := [_, _, _, _]) b9 rfl rfl sz48 rfl rfl rfl ?_
 intro W23 y24 b9
 replace kb0 := kb0.wr y24 (by omega)
 have s25 := y24.size
 refine vnil ?_
 refine V.ret ?_
 refine ⟨[_], ⟨⟨_, rfl, lvb ag48 b9 rfl⟩, trivial⟩, ?_⟩
 have hkd : KD (fun k => k < w.heap.size ∧ k ≠ b) w W23 := ((Ext.kd x2).trans ((Ext.kd x8).trans ((Ext.kd x15).trans ((y20.kd (fun hh => by omega)).trans (y24.kd (fun hh => by omega))))))
 have hkb : KB 0 w W23 := ((KB.ext x2 (Nat.zero_le _)).trans ((KB.ext x8 (Nat.zero_le _)).trans ((KB.ext x15 (Nat.zero_le _)).trans ((KB.wr y20 bo18 (Nat.zero_le _)).trans (KB.wr y24 bo22 (Nat.zero_le _))))))
 refine ⟨_, rfl, ⟨hkd.os, hkd.tape, hkd.output, hkd.size, fun k hk hl => hkd.block k ⟨hl, hk⟩ hl⟩, hkb.recs, kb0, ?_⟩
 exact ((hq13.ck ((y20.ck (by intro hh; first | (simp [SX] at hh <;> omega) | omega)).trans (y24.ck (by intro hh; first | (simp [SX] at hh <;> omega) | omega))))).sub (fun q _ hq => by have h1 := hq; simp only [SX] at h1; exact ⟨h1.1, by intro e; subst e; simp_all⟩)
end Go.Proofs.YtknbjfefeeojlaaGreat
/- Package vec: Dot. -/
namespace Go.Proofs.YtknbjfefeeojlaaGreat
open Go.RowKit
attribute [local irreducible] RV VH V OpF Calls
def dotk (xs ys : List Rat) : Nat → Rat
  | 0 => 0
  | k + 1 => dotk xs ys k + vat xs k * vat ys k
theorem sz_dotk {a b : Nat} {xs ys : List Rat} (hx : szV a xs) (hy : szV b ys) (ha : 1 ≤ a) (hb : 1 ≤ b) : ∀ k, sz ((a + b + 1) * k + 1) (dotk xs ys k)
  | 0 => sz_zero
  | k + 1 => by
    have h1 := sz_dotk hx hy ha hb k
    have h2 := sz_mul (szV_at hx ha k) (szV_at hy hb k)
    have h3 := sz_add h1 h2
    have e : (a + b + 1) * k + 1 + (a + b) + 1 = (a + b + 1) * (k + 1) + 1 := by rw [Nat.mul_add]; omega
    rw [e] at h3; exact h3
structure DJ (w : World) (S : Nat → Prop) (b4 b5 ba b1 b2 : Nat) (fv v1 v2 : Value) (q : List Value) (s : Rat) (X : World) : Prop where
  ext : Ext w X
  x4 : BoxAt X b4 q 48
  xa : BoxAt X ba q 48
  x5 : BoxAt X b5 [fv] 82
  x1 : BoxAt X b1 [v1] 23
  x2 : BoxAt X b2 [v2] 23
  qc : QC (fun x => S x ∧ x ≠ b4 ∧ x ≠ ba) X q s
section
variable {w X Y Z : World} {B b4 b5 ba b1 b2 : Nat} {fv v1 v2 : Value} {q q' : List Value} {s s' : Rat} {S : Nat → Prop}
theorem DJ.tn (h : DJ w S b4 b5 ba b1 b2 fv v1 v2 q s X) (t : Tn B X Y) (hB : w.heap.size ≤ B) : DJ w S b4 b5 ba b1 b2 fv v1 v2 q s Y :=
  ⟨t.ext h.ext hB, h.x4.tn t, h.xa.tn t, h.x5.tn t, h.x1.tn t, h.x2.tn t, h.qc.ck (t.ck _)⟩
theorem DJ.xt (h : DJ w S b4 b5 ba b1 b2 fv v1 v2 q s X) (x : Ext X Y) : DJ w S b4 b5 ba b1 b2 fv v1 v2 q s Y :=
  ⟨h.ext.trans x, h.x4.ext x, h.xa.ext x, h.x5.ext x, h.x1.ext x, h.x2.ext x, h.qc.ext x⟩
theorem DJ.go (h : DJ w S b4 b5 ba b1 b2 fv v1 v2 q s X) (kd : KD (fun k => k ≠ ba) X Y) (hq : QC (fun x => SX S [b4] x ∧ x ≠ ba) Y q' s') (ha : BoxAt Y ba q' 48) (y : Wr b4 Y Z) (hb : BoxAt Z b4 q' 48)
    (n0 : w.heap.size ≤ ba ∧ w.heap.size ≤ b4) (n1 : b4 ≠ ba) (n5 : b5 ≠ ba ∧ b5 ≠ b4) (m1 : b1 ≠ ba ∧ b1 ≠ b4) (m2 : b2 ≠ ba ∧ b2 ≠ b4) : DJ w S b4 b5 ba b1 b2 fv v1 v2 q' s' Z ∧ KD (fun k => k < w.heap.size ∨ k = b1 ∨ k = b2) X Z := by
  have hs := h.ext.sz
  refine ⟨⟨(h.ext.below (kd.below (fun k hk => by omega) hs)).below (y.below n0.2), hb, ha.wr y (Ne.symm n1), (h.x5.kd kd n5.1).wr y n5.2, (h.x1.kd kd m1.1).wr y m1.2, (h.x2.kd kd m2.1).wr y m2.2, ?_⟩, ?_⟩
  · exact (hq.ck (y.ck (fun hh => by simp [SX] at hh))).sub fun b _ hb => ⟨hb.1.1, by have := hb.1.2; simpa using this, hb.2⟩
  · exact (kd.mono (by rintro k (h | rfl | rfl) <;> omega)).trans (y.kd (by rintro (h | h | h) <;> omega))
end

set_option maxHeartbeats 400000 in
theorem vDot_ok (a1 a2 : Option Addr) (n c m d : Nat) (L1 L2 : Nat) (xs ys : List Rat) (S S1 S2 : Nat → Prop) (w : World) (hx : GA L1 S1 w a1 n c xs) (hy : GA L2 S2 w a2 m d ys) (LD : Nat) (hLD : (L1 + L2 + 1) * (max n m) + 1 ≤ LD) (hL : LD + L1 + L2 < LY) (hl1 : 1 ≤ L1) (hl2 : 1 ≤ L2) (hn : n ≤ LV) (hm : m ≤ LV) (hu : Up S w) :
    Calls Tryz.prog 96 #[.slice a1 n c, .slice a2 m d] w (PQ S (dotk xs ys (max n m)) w) := by
 have z0 := Ext.refl w; have hLX : LX = 17592186044416 := rfl; have hLY : LY = 8796093022208 := rfl
 have hLV : LV = 1099511627776 := rfl
 have l1 := hx.len; have l2 := hy.len
 have hsx := hx.szv hl1; have hsy := hy.szv hl2
 obtain ⟨qs1, rx, ax⟩ := hx; obtain ⟨qs2, ry, ay⟩ := hy
 have f1 := ax.form; have f2 := ay.form
 have hu2 : ∀ W : World, w.heap.size + 1 ≤ W.heap.size → Up (fun _ => True) W := fun _ _ _ _ => trivial
 refine enter (args := [.slice a1 n c, .slice a2 m d]) Tryz.func96 rfl rfl (Nat.le_of_ble_eq_true rfl) ?_
 refine V.seq (V.reg rfl ?_)
 refine vo ?_
 refine xal zc48 ?_
 intro W1 x2 b3 nn4
 have s5 := x2.sz
 have z6 := x2
 refine vnil ?_
 refine V.seq (V.reg rfl ?_)
 refine vo ?_
 refine xcall e155 (adder_ok _) rfl rfl ?_
 rintro _ W7 ⟨ba, eba, rfl, x8, hba⟩
 have s9 := x8.sz
 have z10 := z6.trans x8
 replace b3 := b3.ext x8
 have lba := hba.lt
 refine ⟨_, rfl, ?_⟩
 refine vo ?_
 refine xal zc82 ?_
 intro W12 x13 b14 nn15
 have s16 := x13.sz
 have z17 := z10.trans x13
 have z18 := x13
 replace b3 := b3.ext x13
 refine vo ?_
 refine st1 (v := .func _ _ _) (cs' := [_]) b14 rfl rfl sz82 rfl rfl rfl rfl ?_
 intro W19 y20 b14
 have z21 := z17.below (y20.below (by omega))
 have z22 := z18.below (y20.below (by omega))
 replace b3 := b3.wr y20 (by omega)
 have s23 := y20.size
 refine vnil ?_
 refine V.seq ?_
 refine V.seq (V.reg rfl ?_)
 refine mvs rfl ?_
 refine mvs rfl ?_
 refine vo ?_
 refine xcall e156 (both_ok _ _ _ _ _ _ _) rfl rfl ?_
 rintro _ W24 ⟨b1, b2, eb1, eb2, rfl, x25, hb1, hb2⟩
 have s26 := x25.sz
 have z27 := z21.trans x25
 have z28 := z22.trans x25
 replace b3 := b3.ext x25
 replace b14 := b14.ext x25
 have lb1 := hb1.lt; have lb2 := hb2.lt
 refine ⟨_, rfl, ?_⟩
 refine vnil ?_
 refine V.block ?_
 have lb4 := b3.lt; have lb5 := b14.lt
 refine V.rf (gf := 189) rfl e189 (both_iter hb1 hb2 ((rx.sub (S' := fun q => q < w.heap.size ∨ q = b1 ∨ q = b2) (fun b hb _ => .inl hb)).ext z27) ((ry.sub (S' := fun q => q < w.heap.size ∨ q = b1 ∨ q = b2) (fun b hb _ => .inl hb)).ext z27) f1 f2 (.inr (.inl rfl)) (.inr (.inr rfl))) (Ext.refl _) (by rintro k (h | rfl | rfl) <;> omega) rfl (fun i X => ∃ q, DJ w S (w.heap.size) (W7.heap.size) ba b1 b2 (.func (.func 188) #[] #[.pointer (some ⟨ba, 0, none⟩)]) (.slice a1 n c) (.slice a2 m d) q (dotk xs ys i) X) (fun _ _ _ => False) (fun i X Y ⟨q, hA⟩ t => ⟨q, hA.tn t (by omega)⟩) (fun _ _ _ _ h _ => h) (⟨_, z27, b3, (hba.ext z28), b14, hb1, hb2, QC.zero _ _⟩) ?_ ?_ ?_
 ·intro l29 i30 X31 hi32 hM33 hk34 hs35
  obtain ⟨m1, d1, e1, g1, m2, d2, e2, g2, p1⟩ := qat_form f1 i30; obtain ⟨m3, d3, e3, g3, m4, d4, e4, g4, p2⟩ := qat_form f2 i30
  have ev2 : (Value.agg (qat qs1 i30 ++ qat qs2 i30).toArray) = .agg #[.bool m1, .slice d1 e1 g1, .bool m2, .slice d2 e2 g2, .bool m3, .slice d3 e3 g3, .bool m4, .slice d4 e4 g4] := by rw [p1, p2]; rfl
  show V _ _ _ _ _ _ (up (up _ _ _) _ (Value.agg (qat qs1 i30 ++ qat qs2 i30).toArray)) _
  rw [ev2]
  have zX := Ext.refl X31
  refine V.reg rfl ?_
  refine vo ?_
  refine xal zc161 ?_
  intro W36 x37 b38 nn39
  have s40 := x37.sz
  have z41 := x37
  refine vo ?_
  refine sta (cs' := [_, _, _, _, _, _, _, _]) b38 rfl rfl sz161 rfl rfl rfl ?_
  intro W42 y43 b38
  have z44 := z41.below (y43.below (by omega))
  have s45 := y43.size
  refine vnil ?_
  obtain ⟨q0, hA⟩ := hi32
  replace hA := hA.xt z44
  have l8 := b38.lt; have sX := z44.sz
  refine ⟨rfl, Kf.ext z44, ?_⟩
  intro Z46 t47
  replace hA := hA.tn t47 (by omega); have x8 := b38.tn t47; have st8 := t47.size; have x5 := hA.x5
  have sq := (hA.qc.qa (sz_dotk hsx hsy hl1 hl2 i30)).mono (L' := LD) (Nat.le_trans (Nat.succ_le_succ (Nat.mul_le_mul_left _ (Nat.le_of_lt hM33))) hLD)
  obtain ⟨u1, u2, u3, u4, u5, u6, u7, u8, rfl⟩ := sq.form
  have x4 := hA.x4
  have zZ := Ext.refl Z46
  have hqx := ((ax.qat i30).sub (S' := fun _ => True) (fun _ _ _ => trivial)).ext hA.ext; have hqy := ((ay.qat i30).sub (S' := fun _ => True) (fun _ _ _ => trivial)).ext hA.ext; rw [p1] at hqx; rw [p2] at hqy
  refine V.block ?_
  refine V.regS (fun W => KD (fun q => q = (W7.heap.size) ∨ q = (X31.heap.size)) W) mixed rfl ?_
  intro W48 x49
  have s50 := x49.sz
  have z51 := x49
  replace x4 := x4.ext x49
  replace x5 := x5.ext x49
  replace x8 := x8.ext x49
  have q53 := KD.refl (fun q => q = (W7.heap.size) ∨ q = (X31.heap.size)) W48
  have r54 := x4
  have r55 := x5
  have r56 := x8
  refine tk 0 rfl (by kernel_rfl) q53 (pv (fun _ y57 => rldb (v := .func _ _ _) rfl sc82 (r55.kd y57 (.inl rfl)) rfl)) ?_
  refine tk 1 rfl (by kernel_rfl) q53 (pv (fun _ y58 => rixa (i := 0) Tryz.underlying161 sz48 rfl rfl (by decide))) ?_
  refine tk 2 rfl (by kernel_rfl) q53 (pv (fun _ y59 => rldb4 rfl ag48 (r56.kd y59 (.inr rfl)) rfl rfl rfl rfl )) ?_
  refine tk 3 rfl (by kernel_rfl) q53 (pv (fun _ y60 => rixa (i := 1) Tryz.underlying161 sz48 rfl rfl (by decide))) ?_
  refine tk 4 rfl (by kernel_rfl) q53 (pv (fun _ y61 => rldb4 rfl ag48 (r56.kd y61 (.inr rfl)) rfl rfl rfl rfl )) ?_
  refine ef 5 (by kernel_rfl) rfl ?_
  refine xcall e71 (fMul_ok _ _ _ _ _ _ _ _ _ _ (hqx.ext z51) (hqy.ext z51) (by omega) (by omega) (by omega) (fun _ _ => trivial : Up (fun _ => True) _)) rfl rfl ?_
  rintro _ W63 ⟨_, rfl, x64, hq62⟩
  have s65 := x64.sz
  have z66 := z51.trans x64
  replace x4 := x4.ext x64
  replace x5 := x5.ext x64
  replace x8 := x8.ext x64
  have q67 := q53.trans x64.kd
  obtain ⟨_, _, _, _, _, _, _, _, rfl⟩ := hq62.form
  refine ⟨_, rfl, ?_⟩
  refine ⟨fun _ => q67, ?_⟩
  refine ef 6 (by kernel_rfl) rfl ?_
  have hm := (hq62).qa (sz_mul (hqx.sz' hl1) (hqy.sz' hl2))
  have hA8 := hA.xt (x49.trans x64)
  refine xcall e188 (add1_ok _ _ _ _ _ _ (SX S [w.heap.size]) _ _ _ _ hA8.xa hm (sq.ext z66) (by omega) (by omega) (by omega) (SX.up (hu.mono (by have := hA8.ext.sz; omega)) (by have := hA8.x4.lt; simp; omega))) rfl rfl ?_
  rintro _ W8 ⟨q9, rfl, hkd, hrec, ha9, hq9⟩
  obtain ⟨v1, v2, v3, v4, v5, v6, v7, v8, rfl⟩ := hq9.form
  refine ⟨_, rfl, ?_⟩
  refine ⟨fun _ => (q67.trans (hkd.mono (by rintro k (rfl | rfl) <;> omega))), ?_⟩
  refine ef 7 (by kernel_rfl) rfl ?_
  have x4b := hA8.x4.kd hkd (by omega)
  refine sta (cs' := [_, _, _, _]) x4b rfl rfl sz48 rfl rfl rfl ?_
  intro W9 y9 x4c
  have hDG := hA8.go hkd hq9 ha9 y9 x4c ⟨by omega, by omega⟩ (by omega) ⟨by omega, by omega⟩ ⟨by omega, by omega⟩ ⟨by omega, by omega⟩
  refine lastT (by kernel_rfl) ?_
  refine dn (by kernel_rfl) ?_
  exact ⟨Kf.trans (Kf.ext (x49.trans x64)) (Kf.trans ⟨⟨hkd.size, fun k o _ hk ho => hrec k o hk ho⟩, hkd.mono (by rintro k (h | rfl | rfl) <;> omega)⟩ (Kf.wr y9 x4b (by rintro (h | h | h) <;> omega))), _, hDG.1⟩
 ·intro D68 X69 hD70 hI71 hdf72 hs73
  obtain ⟨q0, hA⟩ := hI71
  obtain ⟨u1, u2, u3, u4, u5, u6, u7, u8, rfl⟩ := hA.qc.form
  have x4 := hA.x4; have hqc := hA.qc
  refine V.seq (V.reg rfl ?_)
  refine vv (rldb4 rfl ag48 x4 rfl rfl rfl rfl ) ?_
  refine vo ?_
  refine sta (cs' := [_, _, _, _]) x4 rfl rfl sz48 rfl rfl rfl ?_
  intro W74 y75 x4
  have z76 := hA.ext.below (y75.below (by omega))
  have hd77 := y75.obj hdf72 (by omega)
  have s78 := y75.size
  refine vnil ?_
  refine V.ret ?_
  refine ⟨D68, rfl, hd77, ?_⟩
  have tp := Tn.putObj (B := w.heap.size) (.deferred none) hd77 (by omega) rfl
  have x4 := x4.tn tp
  have z79 := tp.ext z76 (Nat.le_refl _)
  refine ⟨[_], ⟨⟨_, rfl, lvb ag48 x4 rfl⟩, trivial⟩, ?_⟩
  exact ⟨_, rfl, z79, (((hqc.ck (y75.ck (fun hh => hh.2.1 rfl))).ck (tp.ck _)).sub (fun b _ h => h.1))⟩
 ·intro _ _ _ _ _ _ h; exact h.elim
end Go.Proofs.YtknbjfefeeojlaaGreat
/- Matrices of the program: slices of rows. -/
namespace Go.Proofs.YtknbjfefeeojlaaGreat
open Go.RowKit
def MG {ρ : Type} (G : (Nat → Prop) → World → Option Addr → Nat → Nat → ρ → Prop) (S : Nat → Prop) (W : World) (a : Option Addr) (n c : Nat) (rss : List ρ) : Prop := ∃ qs, RS 1 S W a n c qs ∧ All2 (RowOf G S W) qs rss
section
variable {ρt : Type} {G : (Nat → Prop) → World → Option Addr → Nat → Nat → List ρt → Prop} {S S' : Nat → Prop} {W W' : World} {a : Option Addr} {n c : Nat} {rss : List (List ρt)}
theorem MG.ck (ok : ElOK (RowOf G)) (h : MG G S W a n c rss) (x : CK S W W') : MG G S W' a n c rss := by
  obtain ⟨qs, h1, h2⟩ := h; exact ⟨qs, h1.ck x, h2.imp fun _ _ h => ok.ck h x⟩
theorem MG.sub (ok : ElOK (RowOf G)) (h : MG G S W a n c rss) (hs : ∀ b, b < W.heap.size → S b → S' b) : MG G S' W a n c rss := by
  obtain ⟨qs, h1, h2⟩ := h; exact ⟨qs, h1.sub hs, h2.imp fun _ _ h => ok.sub h hs⟩
theorem MG.len (h : MG G S W a n c rss) : rss.length = n := by obtain ⟨qs, h1, h2⟩ := h; rw [← h2.len, h1.len]
theorem MG.max (h : MG G S W a n c rss) : n ≤ c ∧ c ≤ 9223372036854775807 := by obtain ⟨qs, h1, h2⟩ := h; exact ⟨h1.cap, h1.max⟩
theorem MG.isS (h : MG G S W a n c rss) {i : Int} (hi : 0 ≤ i) (hn : i < n) : a.isSome = true := by obtain ⟨qs, h1, h2⟩ := h; exact h1.isS hi hn
def rowat (rss : List (List ρt)) (i : Nat) : List ρt := rss.getD i []
theorem MG.el (h : MG G S W a n c rss) {i : Int} (hi : 0 ≤ i) (hn : i < n) : ∃ a' n' c', W.cell? (adr a i 1) = some (.slice a' n' c') ∧ G S W a' n' c' (rowat rss i.toNat) := by
  obtain ⟨qs, h1, h2⟩ := h
  obtain ⟨q, h3, h4, h5⟩ := h1.el hi hn
  obtain ⟨r, h6, a', n', c', rfl, h7⟩ := h2.get h3
  have e : rowat rss i.toNat = r := by unfold rowat; rw [List.getD_eq_getElem?_getD, h6]; rfl
  refine ⟨a', n', c', ?_, e ▸ h7⟩
  have := h5 0 _ rfl
  rwa [add0] at this
end
theorem GA.isS {L : Nat} {S : Nat → Prop} {W : World} {a : Option Addr} {n c : Nat} {rs : List Rat} (h : GA L S W a n c rs) {i : Int} (hi : 0 ≤ i) (hn : i < n) : a.isSome = true := by obtain ⟨qs, h1, h2⟩ := h; exact h1.isS hi hn
abbrev MA (L : Nat) (S : Nat → Prop) (W : World) (a : Option Addr) (n c : Nat) (rss : List (List Rat)) : Prop := MG (GA L) S W a n c rss
abbrev MC (S : Nat → Prop) (W : World) (a : Option Addr) (n c : Nat) (rss : List (List Rat)) : Prop := MG GC S W a n c rss
abbrev MX (S : Nat → Prop) (W : World) (a : Option Addr) (n c : Nat) (rss : List (List RawQ)) : Prop := MG GX S W a n c rss
section
variable {L : Nat} {S : Nat → Prop} {W W' : World} {a : Option Addr} {n c : Nat} {rss : List (List Rat)} {xss : List (List RawQ)}
theorem MA.ext (h : MA L S W a n c rss) (x : Ext W W') : MA L S W' a n c rss := MG.ck (okRowA L) h (x.ck _)
theorem MC.ext (h : MC S W a n c rss) (x : Ext W W') : MC S W' a n c rss := MG.ck okRowC h (x.ck _)
theorem MX.ext (h : MX S W a n c xss) (x : Ext W W') : MX S W' a n c xss := MG.ck okRowX h (x.ck _)
theorem MA.ck (h : MA L S W a n c rss) (x : CK S W W') : MA L S W' a n c rss := MG.ck (okRowA L) h x
theorem MC.ck (h : MC S W a n c rss) (x : CK S W W') : MC S W' a n c rss := MG.ck okRowC h x
theorem MX.ck (h : MX S W a n c xss) (x : CK S W W') : MX S W' a n c xss := MG.ck okRowX h x
end
def colsN (rss : List (List Rat)) : Nat := rss.foldl (fun m r => max m r.length) 0
theorem colsN_succ (rss : List (List Rat)) (k : Nat) (h : k < rss.length) : colsN (rss.take (k + 1)) = max (colsN (rss.take k)) (rowat rss k).length := by
  unfold colsN rowat
  rw [List.take_succ_eq_append_getElem h, List.foldl_append]
  simp [h]
def mat (rss : List (List Rat)) (i k : Nat) : Rat := vat (rowat rss i) k
section
variable {r : Option Nat} {P : Program} {ops : Array Oper} {R : Env → World → Prop} {l : List Oper} {E : Env} {W : World} {t : Tmp} {ty T : TypeId} {pos : String} {af : Array Edge} {x : Operand} {ρt : Type} {G : (Nat → Prop) → World → Option Addr → Nat → Nat → List ρt → Prop} {S : Nat → Prop} {a : Option Addr} {n c : Nat} {rss : List (List ρt)} {i : Int}
theorem vldRow (h : MG G S W a n c rss) (hx : ev E x = .pointer (some (adr a i 1))) (hT : Sc P T) (h0 : 0 ≤ i) (h1 : i < n)
    (K : ∀ a' n' c', G S W a' n' c' (rowat rss i.toNat) → RV r P ops R l (up E t (.slice a' n' c')) W) : RV r P ops R (⟨some t, .load T x, ty, pos, af, none⟩ :: l) E W := by
  obtain ⟨a', n', c', hc, hg⟩ := h.el h0 h1
  exact vv (rld1 hx hT hc) (K _ _ _ hg)
end
end Go.Proofs.YtknbjfefeeojlaaGreat
/- Package mat: Cols, At. -/
namespace Go.Proofs.YtknbjfefeeojlaaGreat
open Go.RowKit
attribute [local irreducible] RV VH V OpF Calls

set_option maxHeartbeats 400000 in
theorem mCols_ok (a1 : Option Addr) (n c : Nat) (L1 : Nat) (rss : List (List Rat)) (S1 : Nat → Prop) (w : World) (hx : MA L1 S1 w a1 n c rss) :
    Calls Tryz.prog 35 #[.slice a1 n c] w (fun e w' => e = .returned (.int .i64 (colsN rss : Int)) ∧ Ext w w') := by
 have z0 := Ext.refl w; have hLX : LX = 17592186044416 := rfl; have hLY : LY = 8796093022208 := rfl
 have l1 := hx.len; have l2 := hx.max
 refine enter (args := [.slice a1 n c]) Tryz.func35 rfl rfl (Nat.le_of_ble_eq_true rfl) ?_
 refine V.seq (V.reg rfl ?_)
 refine asi rfl ?_
 refine vnil ?_
 refine V.seq ?_
 refine V.seq (V.reg rfl ?_)
 refine mvs rfl ?_
 refine vv (rlen sl22 rfl) ?_
 refine mvi rfl ?_
 refine vnil ?_
 refine V.block ?_
 refine V.loopK (ι := Nat) [(5, .slice _ _ _), (6, .int _ _)] (fun k => [(7, .int .i64 (k : Int)), (2, .int .i64 (colsN (rss.take k) : Int))]) (fun k W => Ext w W ∧ k ≤ n) (fun k => n - k) (0) ⟨rfl, rfl, trivial⟩ ⟨rfl, rfl, trivial⟩ ⟨Ext.refl _, Nat.zero_le _⟩ ?_
 intro k E2 W1 h3
 obtain ⟨x4, hk⟩ := h3
 have s5 := x4.sz
 have z6 := x4
 refine V.seq (V.reg rfl ?_)
 refine vlt rfl rfl ?_ ?_
 ·intro c7
  refine vnil ?_
  refine V.seq ?_
  refine V.condT rfl ?_
  refine V.skip ?_
  refine V.seq ?_
  refine V.block ?_
  refine V.seq (V.reg rfl ?_)
  refine vv (rix sl22 sz23 rfl rfl (by omega) (by omega) ((hx.ext z6).isS (i := 0) (by omega) (by omega))) ?_
  refine vldRow (hx.ext z6) rfl sc23 (by omega) (by omega) ?_
  intro a8 n9 c10 hg11
  have hg11l := hg11.len; have hg11m := hg11.max
  refine ass rfl ?_
  refine vnil ?_
  refine V.reg rfl ?_
  refine mvi rfl ?_
  refine mvs rfl ?_
  refine vv (rlen sl23 rfl) ?_
  have ecs : max ((colsN (rss.take k) : Nat) : Int) ((rowat rss ((k : Int)).toNat).length : Nat) = (colsN (rss.take (k + 1)) : Int) := by rw [colsN_succ rss k (by omega)]; simp; omega
  rw [hg11l] at ecs
  refine vv (rmax rfl rfl ecs) ?_
  refine asi rfl ?_
  refine vnil ?_
  refine V.reg rfl ?_
  refine vv (rbin (bAdd (wi (by omega))) rfl rfl) ?_
  refine mvi rfl ?_
  refine vnil ?_
  refine ⟨rfl, k + 1, ⟨rfl, rfl, trivial⟩, ⟨rfl, rfl, trivial⟩, ⟨z6, by omega⟩, ?_⟩
  show n - (k + 1) < n - k
  omega
 ·intro c7
  refine vnil ?_
  refine V.seq ?_
  refine V.condF rfl ?_
  refine V.exit ?_
  refine V.seq (V.reg rfl ?_)
  refine mvi rfl ?_
  refine asi rfl ?_
  refine vnil ?_
  refine V.ret ?_
  refine ⟨[.int _ _], ⟨rfl, trivial⟩, ?_⟩
  exact ⟨by rw [List.take_of_length_le (by omega)]; rfl, z6⟩

def matI (rss : List (List Rat)) (i k : Int) : Rat := if 0 ≤ i ∧ 0 ≤ k then mat rss i.toNat k.toNat else 0
theorem mat_ge1 {rss : List (List Rat)} {i k : Nat} (h : rss.length ≤ i) : mat rss i k = 0 := by
  unfold mat rowat vat; rw [List.getD_eq_getElem?_getD (l := rss), List.getElem?_eq_none h]; simp
theorem mat_ge2 {rss : List (List Rat)} {i k : Nat} (h : (rowat rss i).length ≤ k) : mat rss i k = 0 := by
  unfold mat vat; rw [List.getD_eq_getElem?_getD, List.getElem?_eq_none h]; simp
theorem matI_neg {rss : List (List Rat)} {i k : Int} (h : i < 0 ∨ k < 0) : matI rss i k = 0 := by unfold matI; rw [if_neg (by omega)]
theorem matI_ge1 {rss : List (List Rat)} {i k : Int} (h : (rss.length : Int) ≤ i) : matI rss i k = 0 := by
  unfold matI; split
  · exact mat_ge1 (by omega)
  · rfl
theorem matI_ge2 {rss : List (List Rat)} {i k : Int} (h : ((rowat rss i.toNat).length : Int) ≤ k) : matI rss i k = 0 := by
  unfold matI; split
  · exact mat_ge2 (by omega)
  · rfl

set_option maxHeartbeats 400000 in
theorem mAt_ok (a1 : Option Addr) (n c : Nat) (i k : Int) (L1 : Nat) (rss : List (List Rat)) (S S1 : Nat → Prop) (w : World) (hx : MA L1 S1 w a1 n c rss) (hL : L1 < LY) (hl1 : 1 ≤ L1) (hu : Up S w) :
    Calls Tryz.prog 38 #[.slice a1 n c, .int .i64 i, .int .i64 k] w (PQ S (matI rss i k) w) := by
 have z0 := Ext.refl w; have hLX : LX = 17592186044416 := rfl; have hLY : LY = 8796093022208 := rfl
 have l1 := hx.len; have l2 := hx.max
 have hu2 : ∀ W : World, w.heap.size + 1 ≤ W.heap.size → Up (SX S [w.heap.size]) W := fun W hW => SX.up (hu.mono (by omega)) (by simp <;> omega)
 refine enter (args := [.slice a1 n c, .int .i64 i, .int .i64 k]) Tryz.func38 rfl rfl (Nat.le_of_ble_eq_true rfl) ?_
 refine V.seq (V.reg rfl ?_)
 refine vo ?_
 refine xal zc48 ?_
 intro W1 x2 b3 nn4
 have s5 := x2.sz
 have z6 := x2
 refine vnil ?_
 refine V.seq ?_
 refine V.seq (V.reg rfl ?_)
 refine mvi rfl ?_
 refine vlt rfl rfl ?_ ?_
 ·intro c7
  refine mvb rfl ?_
  refine vgn (b := true) rfl rfl ?_
  refine vgn (b := true) rfl rfl ?_
  refine vgn (b := true) rfl rfl ?_
  refine vgn (b := true) rfl rfl ?_
  refine vv (rpk (v := .bool true) rfl rfl) ?_
  refine mvb rfl ?_
  refine vgn (b := true) rfl rfl ?_
  refine vgn (b := true) rfl rfl ?_
  refine vv (rpk (v := .bool true) rfl rfl) ?_
  refine mvb rfl ?_
  refine vgn (b := true) rfl rfl ?_
  refine vgn (b := true) rfl rfl ?_
  refine vgn (b := true) rfl rfl ?_
  refine vgn (b := true) rfl rfl ?_
  refine vgn (b := true) rfl rfl ?_
  refine vgn (b := true) rfl rfl ?_
  refine vgn (b := true) rfl rfl ?_
  refine vv (rpk (v := .bool true) rfl rfl) ?_
  refine vnil ?_
  refine V.condT rfl ?_
  refine V.seq (V.reg rfl ?_)
  refine vv (rbd (ps := []) (cs := [.bool false, .slice _ _ _, .bool false, .slice _ _ _]) pl48 rfl rfl) ?_
  refine vo ?_
  refine sta (cs' := [_, _, _, _]) b3 rfl rfl sz48 rfl rfl rfl ?_
  intro W8 y9 b3
  have z10 := z6.below (y9.below (by omega))
  have s11 := y9.size
  refine vnil ?_
  refine V.ret ?_
  refine ⟨[_], ⟨⟨_, rfl, lvb ag48 b3 rfl⟩, trivial⟩, ?_⟩
  refine ⟨_, rfl, z10, (QC.zero S _).cast ?_⟩
  first | exact (matI_neg (by omega)).symm | exact (matI_ge1 (by omega)).symm | exact (matI_ge2 (by omega)).symm
 ·intro c7
  refine mvb rfl ?_
  refine vg rfl ?_
  refine mvi rfl ?_
  refine vg rfl ?_
  refine mvs rfl ?_
  refine vg rfl ?_
  refine vv (rlen sl22 rfl) ?_
  refine vg rfl ?_
  refine vge rfl rfl ?_ ?_
  ·intro c12
   refine vv (rpk (v := .bool true) rfl rfl) ?_
   refine mvb rfl ?_
   refine vgn (b := true) rfl rfl ?_
   refine vgn (b := true) rfl rfl ?_
   refine vv (rpk (v := .bool true) rfl rfl) ?_
   refine mvb rfl ?_
   refine vgn (b := true) rfl rfl ?_
   refine vgn (b := true) rfl rfl ?_
   refine vgn (b := true) rfl rfl ?_
   refine vgn (b := true) rfl rfl ?_
   refine vgn (b := true) rfl rfl ?_
   refine vgn (b := true) rfl rfl ?_
   refine vgn (b := true) rfl rfl ?_
   refine vv (rpk (v := .bool true) rfl rfl) ?_
   refine vnil ?_
   refine V.condT rfl ?_
   refine V.seq (V.reg rfl ?_)
   refine vv (rbd (ps := []) (cs := [.bool false, .slice _ _ _, .bool false, .slice _ _ _]) pl48 rfl rfl) ?_
   refine vo ?_
   refine sta (cs' := [_, _, _, _]) b3 rfl rfl sz48 rfl rfl rfl ?_
   intro W13 y14 b3
   have z15 := z6.below (y14.below (by omega))
   have s16 := y14.size
   refine vnil ?_
   refine V.ret ?_
   refine ⟨[_], ⟨⟨_, rfl, lvb ag48 b3 rfl⟩, trivial⟩, ?_⟩
   refine ⟨_, rfl, z15, (QC.zero S _).cast ?_⟩
   first | exact (matI_neg (by omega)).symm | exact (matI_ge1 (by omega)).symm | exact (matI_ge2 (by omega)).symm
  ·intro c12
   refine vv (rpk (v := .bool false) rfl rfl) ?_
   refine mvb rfl ?_
   refine vg rfl ?_
   refine mvi rfl ?_
   refine vg rfl ?_
   refine vlt rfl rfl ?_ ?_
   ·intro c17
    refine vv (rpk (v := .bool true) rfl rfl) ?_
    refine mvb rfl ?_
    refine vgn (b := true) rfl rfl ?_
    refine vgn (b := true) rfl rfl ?_
    refine vgn (b := true) rfl rfl ?_
    refine vgn (b := true) rfl rfl ?_
    refine vgn (b := true) rfl rfl ?_
    refine vgn (b := true) rfl rfl ?_
    refine vgn (b := true) rfl rfl ?_
    refine vv (rpk (v := .bool true) rfl rfl) ?_
    refine vnil ?_
    refine V.condT rfl ?_
    refine V.seq (V.reg rfl ?_)
    refine vv (rbd (ps := []) (cs := [.bool false, .slice _ _ _, .bool false, .slice _ _ _]) pl48 rfl rfl) ?_
    refine vo ?_
    refine sta (cs' := [_, _, _, _]) b3 rfl rfl sz48 rfl rfl rfl ?_
    intro W18 y19 b3
    have z20 := z6.below (y19.below (by omega))
    have s21 := y19.size
    refine vnil ?_
    refine V.ret ?_
    refine ⟨[_], ⟨⟨_, rfl, lvb ag48 b3 rfl⟩, trivial⟩, ?_⟩
    refine ⟨_, rfl, z20, (QC.zero S _).cast ?_⟩
    first | exact (matI_neg (by omega)).symm | exact (matI_ge1 (by omega)).symm | exact (matI_ge2 (by omega)).symm
   ·intro c17
    refine vv (rpk (v := .bool false) rfl rfl) ?_
    refine mvb rfl ?_
    refine vg rfl ?_
    refine mvi rfl ?_
    refine vg rfl ?_
    refine mvs rfl ?_
    refine vg rfl ?_
    refine mvi rfl ?_
    refine vg rfl ?_
    refine vv (rix sl22 sz23 rfl rfl (by omega) (by omega) ((hx.ext z6).isS (i := 0) (by omega) (by omega))) ?_
    refine vg rfl ?_
    refine vldRow (hx.ext z6) rfl sc23 (by omega) (by omega) ?_
    intro a22 n23 c24 hg25
    have hg25l := hg25.len; have hg25m := hg25.max
    refine vg rfl ?_
    refine vv (rlen sl23 rfl) ?_
    refine vg rfl ?_
    refine vge rfl rfl ?_ ?_
    ·intro c26
     refine vv (rpk (v := .bool true) rfl rfl) ?_
     refine vnil ?_
     refine V.condT rfl ?_
     refine V.seq (V.reg rfl ?_)
     refine vv (rbd (ps := []) (cs := [.bool false, .slice _ _ _, .bool false, .slice _ _ _]) pl48 rfl rfl) ?_
     refine vo ?_
     refine sta (cs' := [_, _, _, _]) b3 rfl rfl sz48 rfl rfl rfl ?_
     intro W27 y28 b3
     have z29 := z6.below (y28.below (by omega))
     have s30 := y28.size
     refine vnil ?_
     refine V.ret ?_
     refine ⟨[_], ⟨⟨_, rfl, lvb ag48 b3 rfl⟩, trivial⟩, ?_⟩
     refine ⟨_, rfl, z29, (QC.zero S _).cast ?_⟩
     first | exact (matI_neg (by omega)).symm | exact (matI_ge1 (by omega)).symm | exact (matI_ge2 (by omega)).symm
    ·intro c26
     refine vv (rpk (v := .bool false) rfl rfl) ?_
     refine vnil ?_
     refine V.condF rfl ?_
     refine V.skip ?_
     refine V.seq (V.reg rfl ?_)
     refine mvs rfl ?_
     refine mvi rfl ?_
     refine vv (rix sl22 sz23 rfl rfl (by omega) (by omega) ((hx.ext z6).isS (i := 0) (by omega) (by omega))) ?_
     refine vldRow (hx.ext z6) rfl sc23 (by omega) (by omega) ?_
     intro a31 n32 c33 hg34
     have hg34l := hg34.len; have hg34m := hg34.max
     refine mvi rfl ?_
     refine vv (rix sl23 sz48 rfl rfl (by omega) (by omega) (hg34.isS (i := 0) (by omega) (by omega))) ?_
     refine vldQ hg34 rfl ag48 (by omega) (by omega) ?_
     intro n35 a36 l37 c38 n39 a40 l41 c42 hq43
     refine vo ?_
     refine xcall e92 (fCanon_ok _ _ _ _ _ _ hq43 (by omega) (by omega) (hu2 _ (by omega))) rfl rfl ?_
     rintro _ W45 ⟨_, rfl, x46, hq44⟩
     have s47 := x46.sz
     have z48 := z6.trans x46
     replace b3 := b3.ext x46
     obtain ⟨_, _, _, _, _, _, _, _, rfl⟩ := hq44.form
     refine ⟨_, rfl, ?_⟩
     refine vo ?_
     refine sta (cs' := [_, _, _, _]) b3 rfl rfl sz48 rfl rfl rfl ?_
     intro W49 y50 b3
     have z51 := z48.below (y50.below (by omega))
     have s52 := y50.size
     refine vnil ?_
     refine V.ret ?_
     refine ⟨[_], ⟨⟨_, rfl, lvb ag48 b3 rfl⟩, trivial⟩, ?_⟩
     refine ⟨_, rfl, z51, ((hq44.ck (y50.ck (by intro hh; first | (simp [SX] at hh <;> omega) | omega)))).un.cast ?_⟩
     rw [matI, if_pos ⟨by omega, by omega⟩]; rfl
end Go.Proofs.YtknbjfefeeojlaaGreat
/- Package mat: products. -/
namespace Go.Proofs.YtknbjfefeeojlaaGreat
open Go.RowKit
attribute [local irreducible] RV VH V OpF Calls
def dotv (r xs : List Rat) : Rat := dotk r xs (max r.length xs.length)
def mulv (rss : List (List Rat)) (xs : List Rat) : List Rat := rss.map fun r => dotv r xs
theorem take_row {α : Type} (f : List Rat → α) (rss : List (List Rat)) (k : Nat) (h : k < rss.length) : (rss.take (k + 1)).map f = (rss.take k).map f ++ [f (rowat rss k)] := by
  rw [List.take_succ_eq_append_getElem h, List.map_append]; simp [rowat, h]
theorem row_le {rss : List (List Rat)} {Rw : Nat} (h : ∀ r ∈ rss, r.length ≤ Rw) (i : Nat) : (rowat rss i).length ≤ Rw := by
  unfold rowat; rw [List.getD_eq_getElem?_getD]
  cases hq : rss[i]? with
  | none => simp
  | some r => exact h r (List.mem_of_getElem? hq)

set_option maxHeartbeats 400000 in
theorem mMulVec_ok (a1 a2 : Option Addr) (n c m d : Nat) (L1 L2 Rw LD : Nat) (rss : List (List Rat)) (xs : List Rat) (S S1 S2 : Nat → Prop) (w : World) (hx : MA L1 S1 w a1 n c rss) (hy : GA L2 S2 w a2 m d xs) (hR : ∀ r ∈ rss, r.length ≤ Rw) (hm : m ≤ Rw) (hRw : Rw ≤ LV) (hLD : (L1 + L2 + 1) * Rw + 1 ≤ LD) (hL : LD + L1 + L2 < LY) (hl1 : 1 ≤ L1) (hl2 : 1 ≤ L2) (hn : n ≤ LV) (hu : Up S w) :
    Calls Tryz.prog 22 #[.slice a1 n c, .slice a2 m d] w (fun e w' => ∃ ra rk rc, e = .returned (.slice ra rk rc) ∧ Ext w w' ∧ GC S w' ra rk rc (mulv rss xs)) := by
 have z0 := Ext.refl w; have hLX : LX = 17592186044416 := rfl; have hLY : LY = 8796093022208 := rfl
 have hLV : LV = 1099511627776 := rfl
 have l1 := hx.len; have l2 := hx.max; have l3 := hy.len
 refine enter (args := [.slice a1 n c, .slice a2 m d]) Tryz.func22 rfl rfl (Nat.le_of_ble_eq_true rfl) ?_
 refine V.seq (V.reg rfl ?_)
 refine ass rfl ?_
 refine vnil ?_
 refine V.seq ?_
 refine V.seq (V.reg rfl ?_)
 refine mvs rfl ?_
 refine vv (rlen sl22 rfl) ?_
 refine mvi rfl ?_
 refine vnil ?_
 refine V.block ?_
 refine V.loopK (ι := Nat × Value) [(1, .slice _ _ _), (7, .slice _ _ _), (8, .int _ _)] (fun ⟨k, v⟩ => [(9, .int .i64 (k : Int)), (4, v)]) (fun ⟨k, v⟩ W => Ext w W ∧ k ≤ n ∧ GO 4 QC S w.heap.size W 48 v ((rss.take k).map fun r => dotv r xs)) (fun ⟨k, v⟩ => n - k) ((0, _)) ⟨rfl, rfl, rfl, trivial⟩ ⟨rfl, rfl, trivial⟩ ⟨Ext.refl _, Nat.zero_le _, GO.nil _ _⟩ ?_
 intro i2 E3 W1 h4
 obtain ⟨k, v⟩ := i2
 simp only at h4
 show V _ _ _ _ _ _ (ups (ups _ _) [(9, .int .i64 (k : Int)), (4, v)]) _
 obtain ⟨x5, hk, hO⟩ := h4
 have s6 := x5.sz
 have z7 := x5
 refine V.seq (V.reg rfl ?_)
 refine vlt rfl rfl ?_ ?_
 ·intro c8
  refine vnil ?_
  refine V.seq ?_
  refine V.condT rfl ?_
  refine V.skip ?_
  refine V.seq ?_
  refine V.block ?_
  refine V.seq (V.reg rfl ?_)
  refine vv (rix sl22 sz23 rfl rfl (by omega) (by omega) ((hx.ext z7).isS (i := 0) (by omega) (by omega))) ?_
  refine vldRow (hx.ext z7) rfl sc23 (by omega) (by omega) ?_
  intro a9 n10 c11 hg12
  have hg12l := hg12.len; have hg12m := hg12.max
  refine ass rfl ?_
  refine vnil ?_
  refine V.reg rfl ?_
  refine vv (rmv (v := v) rfl) ?_
  refine mvs rfl ?_
  refine mvs rfl ?_
  refine vo ?_
  have hrw : (rowat rss ((k : Int)).toNat).length ≤ Rw := row_le hR _
  have hle : max (rowat rss ((k : Int)).toNat).length m ≤ Rw := by omega
  refine xcall e96 (vDot_ok _ _ _ _ _ _ _ _ _ _ _ _ _ _ hg12 (hy.ext z7) LD (by rw [← hg12l]; exact Nat.le_trans (Nat.succ_le_succ (Nat.mul_le_mul_left _ hle)) hLD) (by omega) (by omega) (by omega) (by omega) (by omega) (GO.up hO hu (by omega))) rfl rfl ?_
  rintro _ W14 ⟨_, rfl, x15, hq13⟩
  have s16 := x15.sz
  have z17 := z7.trans x15
  replace hO := hO.ext okQC x15
  obtain ⟨_, _, _, _, _, _, _, _, rfl⟩ := hq13.form
  refine ⟨_, rfl, ?_⟩
  refine vo ?_
  refine xbs (zs := [.bool false, .slice _ _ _, .bool false, .slice _ _ _]) (ps := [(0, .agg #[_, _, _, _])]) (cs := [.bool _, .slice _ _ _, .bool _, .slice _ _ _]) sl23 zr48 sz48 rfl rfl rfl rfl rfl rfl ?_
  intro W18 x19 b20 nn21
  have s22 := x19.sz
  have z23 := z17.trans x19
  replace hO := hO.ext okQC x19
  refine vo ?_
  refine xappG okQC sl23 in48 rfl rfl hO rfl rfl b20 rfl rfl ((QC.cast (r' := dotv (rowat rss ((k : Int)).toNat) xs) (hq13.ext x19) (by rw [← hg12l, ← l3]; rfl))) (by simp; omega) (by decide) (by omega) ?_
  intro v24 W25 hO26 hg27
  have y28 := hg27.below; have s29 := y28.size
  have z30 := z23.below (y28.mono (by omega))
  refine vv (ras (v := v24) rfl) ?_
  refine vnil ?_
  refine V.reg rfl ?_
  refine vv (rbin (bAdd (wi (by omega))) rfl rfl) ?_
  refine mvi rfl ?_
  refine vnil ?_
  refine ⟨rfl, (k + 1, _), ⟨rfl, rfl, rfl, trivial⟩, ⟨rfl, rfl, trivial⟩, ⟨z30, by omega, by rw [take_row _ rss k (by omega)]; exact hO26⟩, ?_⟩
  show n - (k + 1) < n - k
  omega
 ·intro c8
  refine vnil ?_
  refine V.seq ?_
  refine V.condF rfl ?_
  refine V.exit ?_
  refine V.seq (V.reg rfl ?_)
  refine vv (rmv (v := v) rfl) ?_
  refine vv (ras (v := v) rfl) ?_
  refine vnil ?_
  refine V.ret ?_
  refine ⟨[v], ⟨rfl, trivial⟩, ?_⟩
  obtain ⟨a', c', rfl⟩ := hO.form
  have hf := hO.fin okQC (fun b hb _ => hu b (by omega))
  refine ⟨_, _, _, rfl, z7, ?_⟩
  rw [List.take_of_length_le (by omega)] at hf ⊢
  exact hf

theorem cols_ge {rss : List (List Rat)} : ∀ r ∈ rss, r.length ≤ colsN rss := by
  have key : ∀ (l : List (List Rat)) (m : Nat), m ≤ l.foldl (fun m r => max m r.length) m ∧ ∀ r ∈ l, r.length ≤ l.foldl (fun m r => max m r.length) m := by
    intro l
    induction l with
    | nil => intro m; simp
    | cons x l ih =>
      intro m
      have := ih (max m x.length)
      simp only [List.foldl_cons, List.mem_cons]
      refine ⟨by omega, ?_⟩
      rintro r (rfl | hr)
      · omega
      · exact this.2 r hr
  exact (key rss 0).2


theorem GA.rows {L : Nat} {S : Nat → Prop} {W : World} {a : Option Addr} {n c : Nat} {rss : List (List Rat)} (h : MA L S W a n c rss) (hL : 1 ≤ L) (i : Nat) : szV L (rowat rss i) := by
  by_cases hi : i < n
  · obtain ⟨a', n', c', _, hg⟩ := h.el (i := (i : Int)) (by omega) (by omega)
    exact hg.szv hL
  · have := h.len
    unfold rowat; rw [List.getD_eq_getElem?_getD, List.getElem?_eq_none (by omega)]; intro r hr; simp at hr

end Go.Proofs.YtknbjfefeeojlaaGreat
/- Package mat: cut, the closures of grid. -/
namespace Go.Proofs.YtknbjfefeeojlaaGreat
open Go.RowKit
attribute [local irreducible] RV VH V OpF Calls

set_option maxHeartbeats 400000 in
theorem mcut_ok (z : Int) (w : World) :
    Calls Tryz.prog 111 #[.int .i64 z] w (fun e w' => e = .returned (.int .i64 (min (max z 0) 1024)) ∧ w = w') := by
 have z0 := Ext.refl w; have hLX : LX = 17592186044416 := rfl; have hLY : LY = 8796093022208 := rfl
 refine enter (args := [.int .i64 z]) Tryz.func111 rfl rfl (Nat.le_of_ble_eq_true rfl) ?_
 refine V.seq (V.reg rfl ?_)
 refine asi rfl ?_
 refine vnil ?_
 refine V.seq (V.reg rfl ?_)
 refine mvi rfl ?_
 refine vv (rmax rfl rfl rfl) ?_
 refine vv (rmin rfl rfl rfl) ?_
 refine asi rfl ?_
 refine vnil ?_
 refine V.ret ?_
 refine ⟨[.int _ _], ⟨rfl, trivial⟩, ?_⟩
 exact ⟨rfl, rfl⟩
set_option maxHeartbeats 400000 in
theorem mRes1_ok (a1 : Option Addr) (n c : Nat) (i k : Int) (b : Nat) (L1 : Nat) (rss : List (List Rat)) (S S1 : Nat → Prop) (w : World) (hb : BoxAt w b [.slice a1 n c] 22) (hx : MA L1 S1 w a1 n c rss) (hL : L1 < LY) (hl1 : 1 ≤ L1) (hu : Up S w) :
    Calls Tryz.prog 112 #[.int .i64 i, .int .i64 k, .pointer (some ⟨b, 0, none⟩)] w (PQ S (matI rss i k) w) := by
 have z0 := Ext.refl w; have hLX : LX = 17592186044416 := rfl; have hLY : LY = 8796093022208 := rfl
 have lb := hb.lt
 have hu2 : ∀ W : World, w.heap.size + 1 ≤ W.heap.size → Up (SX S [w.heap.size]) W := fun W hW => SX.up (hu.mono (by omega)) (by simp <;> omega)
 refine enter (args := [.int .i64 i, .int .i64 k, .pointer (some ⟨b, 0, none⟩)]) Tryz.func112 rfl rfl (Nat.le_of_ble_eq_true rfl) ?_
 refine V.seq (V.reg rfl ?_)
 refine vo ?_
 refine xal zc48 ?_
 intro W1 x2 b3 nn4
 have s5 := x2.sz
 have z6 := x2
 replace hb := hb.ext x2
 refine vnil ?_
 refine V.seq (V.reg rfl ?_)
 refine vv (rldb (v := .slice _ _ _) rfl sc22 hb rfl) ?_
 refine mvi rfl ?_
 refine mvi rfl ?_
 refine vo ?_
 refine xcall e38 (mAt_ok _ _ _ _ _ _ _ _ _ _ (hx.ext z6) (by omega) (by omega) (hu2 _ (by omega))) rfl rfl ?_
 rintro _ W8 ⟨_, rfl, x9, hq7⟩
 have s10 := x9.sz
 have z11 := z6.trans x9
 replace hb := hb.ext x9
 replace b3 := b3.ext x9
 obtain ⟨_, _, _, _, _, _, _, _, rfl⟩ := hq7.form
 refine ⟨_, rfl, ?_⟩
 refine vo ?_
 refine sta (cs' := [_, _, _, _]) b3 rfl rfl sz48 rfl rfl rfl ?_
 intro W12 y13 b3
 have z14 := z11.below (y13.below (by omega))
 replace hb := hb.wr y13 (by omega)
 have s15 := y13.size
 refine vnil ?_
 refine V.ret ?_
 refine ⟨[_], ⟨⟨_, rfl, lvb ag48 b3 rfl⟩, trivial⟩, ?_⟩
 exact ⟨_, rfl, z14, ((hq7.ck (y13.ck (by intro hh; first | (simp [SX] at hh <;> omega) | omega)))).un⟩

abbrev HG (fF : Nat) (cap : List Value) (atf : Int → Int → Rat) (R C : Nat) (w : World) : Prop :=
  ∀ (W : World) (i k : Nat) (S' : Nat → Prop), Ext w W → Up S' W → i < R → k < C → Calls Tryz.prog fF (([.int .i64 (i : Int), .int .i64 (k : Int)] : List Value) ++ cap).toArray W (PQ S' (atf i k) W)
def rowg (atf : Int → Int → Rat) (i : Int) (C k : Nat) : List Rat := (List.range C).map fun j : Nat => if j < k then atf i (j : Int) else 0
def gridm (atf : Int → Int → Rat) (R C : Nat) : List (List Rat) := (List.range R).map fun i : Nat => (List.range C).map fun j : Nat => atf (i : Int) (j : Int)
theorem rowg_zero (atf : Int → Int → Rat) (i : Int) (C : Nat) : rowg atf i C 0 = List.replicate C 0 := by
  apply List.ext_getElem <;> simp [rowg]
theorem rowg_succ (atf : Int → Int → Rat) (i : Int) (C k : Nat) : (rowg atf i C k).set k (atf i k) = rowg atf i C (k + 1) := by
  apply List.ext_getElem
  · simp [rowg]
  · intro j h1 h2
    simp only [rowg, List.getElem_set, List.getElem_map, List.getElem_range]
    by_cases h : k = j
    · subst h; simp
    · rw [if_neg h]
      by_cases h3 : j < k
      · rw [if_pos h3, if_pos (by omega)]
      · rw [if_neg h3, if_neg (by omega)]
theorem rowg_full (atf : Int → Int → Rat) (i : Int) (C : Nat) : rowg atf i C C = (List.range C).map fun j : Nat => atf i (j : Int) := by
  apply List.ext_getElem
  · simp [rowg]
  · intro j h1 h2
    simp [rowg] at h1 ⊢
    intro h; omega
theorem gridm_succ (atf : Int → Int → Rat) (R C : Nat) : gridm atf (R + 1) C = gridm atf R C ++ [(List.range C).map fun j : Nat => atf (R : Int) (j : Int)] := by simp [gridm, List.range_succ]

end Go.Proofs.YtknbjfefeeojlaaGreat
/- Package mat: grid.made. -/
namespace Go.Proofs.YtknbjfefeeojlaaGreat
open Go.RowKit
attribute [local irreducible] RV VH V OpF Calls

set_option maxHeartbeats 400000 in
theorem gmade_ok (R C : Nat) (fF : Nat) (cap : List Value) (atf : Int → Int → Rat) (L : Nat) (S : Nat → Prop) (w : World) (he : Ent Tryz.prog fF) (hf : HG fF cap atf R C w) (hsz : ∀ i k : Nat, sz L (atf i k)) (hL : L < LY) (hl1 : 1 ≤ L) (hR : R ≤ LV) (hC : C ≤ LV) (hu : Up S w) :
    Calls Tryz.prog 113 #[.agg #[.int .i64 (R : Int), .int .i64 (C : Int), .func (.func fF) #[] cap.toArray]] w (fun e w' => ∃ ra rk rc, e = .returned (.slice ra rk rc) ∧ Ext w w' ∧ MC S w' ra rk rc (gridm atf R C)) := by
 have z0 := Ext.refl w; have hLX : LX = 17592186044416 := rfl; have hLY : LY = 8796093022208 := rfl
 have hLV : LV = 1099511627776 := rfl
 refine enter (args := [.agg #[.int .i64 (R : Int), .int .i64 (C : Int), .func (.func fF) #[] cap.toArray]]) Tryz.func113 rfl rfl (Nat.le_of_ble_eq_true rfl) ?_
 refine V.seq (V.reg rfl ?_)
 refine vo ?_
 refine bxa rfl ?_
 intro W1 x2 b3 nn4
 have s5 := x2.sz
 have z6 := x2
 refine ass rfl ?_
 refine vnil ?_
 refine V.seq (V.reg rfl ?_)
 refine ass rfl ?_
 refine vnil ?_
 refine V.seq ?_
 refine V.seq (V.reg rfl ?_)
 refine vv (rfa rfl fd128_0) ?_
 refine vv (rldb (v := .int _ _) rfl sc3 b3 rfl) ?_
 refine mvi rfl ?_
 refine vnil ?_
 refine V.block ?_
 refine V.loopK (ι := Nat × Value) [(1, .pointer (some ⟨_, _, none⟩)), (8, .int _ _)] (fun ⟨i, v⟩ => [(9, .int .i64 (i : Int)), (3, v)]) (fun ⟨i, v⟩ W => Ext W1 W ∧ i ≤ R ∧ GO 1 (RowOf GC) S W1.heap.size W 23 v (gridm atf i C)) (fun ⟨i, v⟩ => R - i) ((0, _)) ⟨rfl, rfl, trivial⟩ ⟨rfl, rfl, trivial⟩ ⟨Ext.refl _, Nat.zero_le _, GO.nil _ _⟩ ?_
 intro i9 E10 W8 h11
 obtain ⟨i, v⟩ := i9
 simp only at h11
 show V _ _ _ _ _ _ (ups (ups _ _) [(9, .int .i64 (i : Int)), (3, v)]) _
 obtain ⟨x12, hi, hO⟩ := h11
 have s13 := x12.sz
 have z14 := z6.trans x12
 have z15 := x12
 replace b3 := b3.ext x12
 refine V.seq (V.reg rfl ?_)
 refine vlt rfl rfl ?_ ?_
 ·intro c16
  refine vnil ?_
  refine V.seq ?_
  refine V.condT rfl ?_
  refine V.skip ?_
  refine V.seq ?_
  refine V.block ?_
  refine V.seq (V.reg rfl ?_)
  refine mvi rfl ?_
  refine asi rfl ?_
  refine vnil ?_
  refine V.seq (V.reg rfl ?_)
  refine vv (rfa rfl fd128_1) ?_
  refine vv (rldb (v := .int _ _) rfl sc3 b3 rfl) ?_
  have b3m := b3; have hOm := hO
  refine vo ?_
  refine xmkS (zs := [.bool false, .slice _ _ _, .bool false, .slice _ _ _]) (C) sl23 in48 rfl rfl rfl rfl rfl (by omega) (by omega) (by omega) ?_
  intro W18 x19 row n20
  have s21 := x19.sz
  have z24 := x19
  replace hO := hO.ext okRowC x19
  refine ass rfl ?_
  refine vnil ?_
  refine V.seq ?_
  refine V.seq (V.reg rfl ?_)
  refine mvs rfl ?_
  refine vv (rlen sl23 rfl) ?_
  refine mvi rfl ?_
  refine vnil ?_
  refine V.block ?_
  have lrow := row.box.lt
  refine V.loopK (ι := Nat) [(1, .pointer (some ⟨_, _, none⟩)), (3, v), (4, .int _ _), (5, .slice _ _ _), (8, .int _ _), (9, .int _ _), (16, .int _ _)] (fun k => [(17, .int .i64 (k : Int))]) (fun k W => Ext W8 W ∧ k ≤ C ∧ ∃ qs, AQ 4 W (W8.heap.size) 48 C qs ∧ All2 (QC (SX (SO S v) [W8.heap.size]) W) qs (rowg atf i C k)) (fun k => C - k) (0) ⟨rfl, rfl, rfl, rfl, rfl, rfl, rfl, trivial⟩ ⟨rfl, trivial⟩ ⟨z24, Nat.zero_le _, _, row, by rw [rowg_zero]; exact All2.rep (QC.zero _ _) _⟩ ?_
  intro k E26 W25 h27
  obtain ⟨x28, hk, qs, hA, hQ⟩ := h27
  have s29 := x28.sz
  have z30 := z14.trans x28
  have z31 := z15.trans x28
  have z32 := x28
  have b3n := b3m.ext z32; have hO := hOm.ext okRowC z32
  have lA := hA.len; have lAb := hA.box.lt; have lQ := hQ.len
  refine V.seq (V.reg rfl ?_)
  refine vlt rfl rfl ?_ ?_
  ·intro c33
   refine vnil ?_
   refine V.seq ?_
   refine V.condT rfl ?_
   refine V.skip ?_
   refine V.seq ?_
   refine V.block ?_
   refine V.seq (V.reg rfl ?_)
   refine mvi rfl ?_
   refine asi rfl ?_
   refine vnil ?_
   refine V.reg rfl ?_
   refine mvs rfl ?_
   refine mvi rfl ?_
   refine vv (rfa rfl fd128_2) ?_
   refine vv (rldb (v := .func _ _ _) rfl sc126 b3n rfl) ?_
   refine mvi rfl ?_
   refine mvi rfl ?_
   refine vo ?_
   refine xcall he (hf _ i k (SX (SO S v) [W8.heap.size]) z30 (SX.up (S := SO S v) (bs := [W8.heap.size]) ((GO.up hOm hu (by omega)).mono (by omega)) (by simp; omega)) (by omega) (by omega)) rfl rfl ?_
   rintro _ W7 ⟨_, rfl, x7, hq7⟩
   obtain ⟨k1, k2, k3, k4, k5, k6, k7, k8, rfl⟩ := hq7.form
   refine ⟨_, rfl, ?_⟩
   have s34 := x7.sz
   have z37 := z32.trans x7
   replace hA := hA.ext x7
   replace hO := hO.ext okRowC x7
   have hqa := hq7.qa (hsz i k)
   refine vo ?_
   refine xcall e92 (fCanon_ok _ _ _ _ _ _ hqa (by omega) (by omega) (SX.up (S := SO S v) (bs := [W8.heap.size]) ((GO.up hOm hu (by omega)).mono (by omega)) (by simp; omega))) rfl rfl ?_
   rintro _ W39 ⟨_, rfl, x40, hq38⟩
   have s41 := x40.sz
   have z44 := z37.trans x40
   replace hA := hA.ext x40
   replace hO := hO.ext okRowC x40
   obtain ⟨_, _, _, _, _, _, _, _, rfl⟩ := hq38.form
   refine ⟨_, rfl, ?_⟩
   refine vv (rix sl23 sz48 rfl rfl (by omega) (by omega) rfl) ?_
   refine vo ?_
   refine xstq (q := [.bool _, .slice _ _ _, .bool _, .slice _ _ _]) hA rfl rfl rfl sz48 rfl rfl (by omega) (by omega) ?_
   intro W45 y46 hA
   have z49 := z44.below (y46.below (by omega))
   have s50 := y46.size
   refine vnil ?_
   refine V.reg rfl ?_
   refine vv (rbin (bAdd (wi (by omega))) rfl rfl) ?_
   refine mvi rfl ?_
   refine vnil ?_
   refine ⟨rfl, k + 1, ⟨rfl, rfl, rfl, rfl, rfl, rfl, rfl, trivial⟩, ⟨rfl, trivial⟩, ⟨z49, by omega, _, hA, by rw [← rowg_succ]; exact (hQ.imp fun _ _ h => h.ck (((x7.ck _).trans (x40.ck _)).trans (y46.ck (by intro hh; simp [SX] at hh <;> omega)))).set ((hq38.ck (y46.ck (by intro hh; first | (simp [SX] at hh <;> omega) | omega))))⟩, ?_⟩
   show C - (k + 1) < C - k
   omega
  ·intro c33
   refine vnil ?_
   refine V.seq ?_
   refine V.condF rfl ?_
   refine V.exit ?_
   refine V.reg rfl ?_
   refine vv (rmv (v := v) rfl) ?_
   refine mvs rfl ?_
   refine vo ?_
   refine xbs (ps := [(0, .slice _ _ _)]) (cs := [.slice _ _ _]) sl22 zr23 sz23 rfl rfl rfl rfl rfl rfl ?_
   intro W51 x52 b53 nn54
   have s55 := x52.sz
   have z57 := z31.trans x52
   replace hA := hA.ext x52
   replace hO := hO.ext okRowC x52
   refine vo ?_
   refine xappG okRowC sl22 in23 rfl rfl hO rfl rfl b53 rfl rfl ((⟨_, _, _, rfl, _, hA.rs (GO.up hOm hu (by omega) _ (Nat.le_refl _)), hQ.imp fun _ _ h => (h.ext x52).un⟩ : RowOf GC _ _ _ (rowg atf i C k))) (by simp [gridm]; omega) (by decide) (by omega) ?_
   intro v59 W60 hO61 hg62
   have y63 := hg62.below; have s64 := y63.size
   have z66 := z57.below (y63.mono (by omega))
   refine vv (ras (v := v59) rfl) ?_
   refine vnil ?_
   refine V.reg rfl ?_
   refine vv (rbin (bAdd (wi (by omega))) rfl rfl) ?_
   refine mvi rfl ?_
   refine vnil ?_
   refine ⟨rfl, (i + 1, _), ⟨rfl, rfl, trivial⟩, ⟨rfl, rfl, trivial⟩, ⟨z66, by omega, by rw [gridm_succ, ← rowg_full]; have eC : k = C := (by omega); subst eC; exact hO61⟩, ?_⟩
   show R - (i + 1) < R - i
   omega
 ·intro c16
  refine vnil ?_
  refine V.seq ?_
  refine V.condF rfl ?_
  refine V.exit ?_
  refine V.seq (V.reg rfl ?_)
  refine vv (rmv (v := v) rfl) ?_
  refine vv (ras (v := v) rfl) ?_
  refine vnil ?_
  refine V.ret ?_
  refine ⟨[v], ⟨rfl, trivial⟩, ?_⟩
  obtain rfl : i = R := by omega
  obtain ⟨a', c', rfl⟩ := hO.form
  exact ⟨_, _, _, rfl, z14, hO.fin okRowC (fun b hb _ => hu b (by omega))⟩
end Go.Proofs.YtknbjfefeeojlaaGreat
/- Package mat: Resize, Transpose. -/
namespace Go.Proofs.YtknbjfefeeojlaaGreat
open Go.RowKit
attribute [local irreducible] RV VH V OpF Calls
theorem mcut_ok' (z : Int) (N : Nat) (w : World) (h : min (max z 0) 1024 = (N : Int)) : Calls Tryz.prog 111 #[.int .i64 z] w fun e w' => e = .returned (.int .i64 (N : Int)) ∧ w = w' := by rw [← h]; exact mcut_ok z w

set_option maxHeartbeats 400000 in
theorem mResize_ok (a1 : Option Addr) (n c : Nat) (y z : Int) (R C : Nat) (L1 : Nat) (rss : List (List Rat)) (S S1 : Nat → Prop) (w : World) (hx : MA L1 S1 w a1 n c rss) (hR : min (max y 0) 1024 = (R : Int)) (hC : min (max z 0) 1024 = (C : Int)) (hL : L1 < LY) (hl1 : 1 ≤ L1) (hsz : ∀ i k : Nat, sz L1 (matI rss i k)) (hu : Up S w) :
    Calls Tryz.prog 43 #[.slice a1 n c, .int .i64 y, .int .i64 z] w (fun e w' => ∃ ra rk rc, e = .returned (.slice ra rk rc) ∧ Ext w w' ∧ MC S w' ra rk rc (gridm (matI rss) R C)) := by
 have z0 := Ext.refl w; have hLX : LX = 17592186044416 := rfl; have hLY : LY = 8796093022208 := rfl
 have hLV : LV = 1099511627776 := rfl
 refine enter (args := [.slice a1 n c, .int .i64 y, .int .i64 z]) Tryz.func43 rfl rfl (Nat.le_of_ble_eq_true rfl) ?_
 refine V.seq (V.reg rfl ?_)
 refine vo ?_
 refine bxs rfl ?_
 intro W1 x2 b3 nn4
 have s5 := x2.sz
 have z6 := x2
 refine ass rfl ?_
 refine vnil ?_
 refine V.seq (V.reg rfl ?_)
 refine mvi rfl ?_
 refine vo ?_
 refine xcall e111 (mcut_ok' _ R _ hR) rfl rfl ?_
 rintro _ _ ⟨rfl, rfl⟩
 refine ⟨_, rfl, ?_⟩
 refine mvi rfl ?_
 refine vo ?_
 refine xcall e111 (mcut_ok' _ C _ hC) rfl rfl ?_
 rintro _ _ ⟨rfl, rfl⟩
 refine ⟨_, rfl, ?_⟩
 refine vv (rmk1 (v := .pointer (some ⟨_, _, none⟩)) rfl) ?_
 refine vv (rbd (ps := [(0, .int _ _), (1, .int _ _), (2, .func _ _ _)]) (cs := [.int _ _, .int _ _, .func _ _ _]) pl128 rfl rfl) ?_
 refine vo ?_
 refine xcall e113 (gmade_ok R C 112 [.pointer (some ⟨w.heap.size, 0, none⟩)] (matI rss) L1 S _ e112 (fun W i k S' x u _ _ => mRes1_ok _ _ _ i k _ L1 rss S' S1 W (b3.ext x) ((hx.ext z6).ext x) hL hl1 u) hsz hL hl1 (by omega) (by omega) (hu.mono (by omega))) rfl rfl ?_
 rintro _ W9 ⟨_, _, _, rfl, x10, hv⟩
 have s11 := x10.sz
 have z12 := z6.trans x10
 refine ⟨_, rfl, ?_⟩
 refine ass rfl ?_
 refine vnil ?_
 refine V.ret ?_
 refine ⟨[.slice _ _ _], ⟨rfl, trivial⟩, ?_⟩
 exact ⟨_, _, _, rfl, z12, hv⟩

def catI (rss mss : List (List Rat)) (N : Nat) (i k : Int) : Rat := if k < N then matI rss i k else matI mss i (k - N)

set_option maxHeartbeats 400000 in
theorem mCat1_ok (a1 a2 : Option Addr) (n c m d : Nat) (i k : Nat) (N : Nat) (b1 b2 b3 : Nat) (L1 L2 : Nat) (rss mss : List (List Rat)) (S S1 S2 : Nat → Prop) (w : World) (h1 : BoxAt w b1 [.int .i64 (N : Int)] 3) (h2 : BoxAt w b2 [.slice a1 n c] 22) (h3 : BoxAt w b3 [.slice a2 m d] 22) (hx : MA L1 S1 w a1 n c rss) (hy : MA L2 S2 w a2 m d mss) (hL : L1 < LY) (hl1 : 1 ≤ L1) (hL2 : L2 < LY) (hl2 : 1 ≤ L2) (hk : (k : Int) ≤ 9223372036854775807) (hu : Up S w) :
    Calls Tryz.prog 151 #[.int .i64 (i : Int), .int .i64 (k : Int), .pointer (some ⟨b1, 0, none⟩), .pointer (some ⟨b2, 0, none⟩), .pointer (some ⟨b3, 0, none⟩)] w (PQ S (catI rss mss N i k) w) := by
 have z0 := Ext.refl w; have hLX : LX = 17592186044416 := rfl; have hLY : LY = 8796093022208 := rfl
 have lb1 := h1.lt; have lb2 := h2.lt; have lb3 := h3.lt
 have hu2 : ∀ W : World, w.heap.size + 1 ≤ W.heap.size → Up (SX S [w.heap.size]) W := fun W hW => SX.up (hu.mono (by omega)) (by simp <;> omega)
 refine enter (args := [.int .i64 (i : Int), .int .i64 (k : Int), .pointer (some ⟨b1, 0, none⟩), .pointer (some ⟨b2, 0, none⟩), .pointer (some ⟨b3, 0, none⟩)]) Tryz.func151 rfl rfl (Nat.le_of_ble_eq_true rfl) ?_
 refine V.seq (V.reg rfl ?_)
 refine vo ?_
 refine xal zc48 ?_
 intro W1 x2 b3 nn4
 have s5 := x2.sz
 have z6 := x2
 replace h1 := h1.ext x2
 replace h2 := h2.ext x2
 replace h3 := h3.ext x2
 refine vnil ?_
 refine V.seq ?_
 refine V.seq (V.reg rfl ?_)
 refine mvi rfl ?_
 refine vv (rldb (v := .int _ _) rfl sc3 h1 rfl) ?_
 refine vlt rfl rfl ?_ ?_
 ·intro c1
  refine vnil ?_
  refine V.condT rfl ?_
  refine V.seq (V.reg rfl ?_)
  refine vv (rldb (v := .slice _ _ _) rfl sc22 h2 rfl) ?_
  refine mvi rfl ?_
  refine mvi rfl ?_
  refine vo ?_
  refine xcall e38 (mAt_ok _ _ _ _ _ _ _ _ _ _ (hx.ext z6) (by omega) (by omega) (hu2 _ (by omega))) rfl rfl ?_
  rintro _ W8 ⟨_, rfl, x9, hq7⟩
  have s10 := x9.sz
  have z11 := z6.trans x9
  replace h1 := h1.ext x9
  replace h2 := h2.ext x9
  replace h3 := h3.ext x9
  replace b3 := b3.ext x9
  obtain ⟨_, _, _, _, _, _, _, _, rfl⟩ := hq7.form
  refine ⟨_, rfl, ?_⟩
  refine vo ?_
  refine sta (cs' := [_, _, _, _]) b3 rfl rfl sz48 rfl rfl rfl ?_
  intro W12 y13 b3
  have z14 := z11.below (y13.below (by omega))
  replace h1 := h1.wr y13 (by omega)
  replace h2 := h2.wr y13 (by omega)
  replace h3 := h3.wr y13 (by omega)
  have s15 := y13.size
  refine vnil ?_
  refine V.ret ?_
  refine ⟨[_], ⟨⟨_, rfl, lvb ag48 b3 rfl⟩, trivial⟩, ?_⟩
  exact ⟨_, rfl, z14, ((hq7.ck (y13.ck (by intro hh; first | (simp [SX] at hh <;> omega) | omega)))).un.cast (by rw [catI, if_pos c1])⟩
 ·intro c1
  refine vnil ?_
  refine V.condF rfl ?_
  refine V.skip ?_
  refine V.seq (V.reg rfl ?_)
  refine vv (rldb (v := .slice _ _ _) rfl sc22 h3 rfl) ?_
  refine mvi rfl ?_
  refine mvi rfl ?_
  refine vv (rldb (v := .int _ _) rfl sc3 h1 rfl) ?_
  refine vv (rbin (bSub (wi (by omega))) rfl rfl) ?_
  refine vo ?_
  refine xcall e38 (mAt_ok _ _ _ _ _ _ _ _ _ _ (hy.ext z6) (by omega) (by omega) (hu2 _ (by omega))) rfl rfl ?_
  rintro _ W17 ⟨_, rfl, x18, hq16⟩
  have s19 := x18.sz
  have z20 := z6.trans x18
  replace h1 := h1.ext x18
  replace h2 := h2.ext x18
  replace h3 := h3.ext x18
  replace b3 := b3.ext x18
  obtain ⟨_, _, _, _, _, _, _, _, rfl⟩ := hq16.form
  refine ⟨_, rfl, ?_⟩
  refine vo ?_
  refine sta (cs' := [_, _, _, _]) b3 rfl rfl sz48 rfl rfl rfl ?_
  intro W21 y22 b3
  have z23 := z20.below (y22.below (by omega))
  replace h1 := h1.wr y22 (by omega)
  replace h2 := h2.wr y22 (by omega)
  replace h3 := h3.wr y22 (by omega)
  have s24 := y22.size
  refine vnil ?_
  refine V.ret ?_
  refine ⟨[_], ⟨⟨_, rfl, lvb ag48 b3 rfl⟩, trivial⟩, ?_⟩
  exact ⟨_, rfl, z23, ((hq16.ck (y22.ck (by intro hh; first | (simp [SX] at hh <;> omega) | omega)))).un.cast (by rw [catI, if_neg (by omega)])⟩
end Go.Proofs.YtknbjfefeeojlaaGreat
/- Rows of matrices by their one cell; integer matrices; elements kept by a world step. -/
namespace Go.Proofs.YtknbjfefeeojlaaGreat
open Go.RowKit
theorem cell_ext {W W' : World} {ad : Addr} {v : Value} (x : Ext W W') (h : W.cell? ad = some v) : W'.cell? ad = some v := by
  unfold World.cell? at h ⊢
  cases hh : W.heap[ad.block]? with
  | none => rw [hh] at h; simp at h
  | some o => rw [(x.block _ (Array.getElem?_eq_some_iff.1 hh).1).trans hh]; rw [hh] at h; exact h
/-- Cells that stand there. -/
def CE (W : World) (ad : Addr) (l : List Value) : Prop := ∀ j u, l[j]? = some u → W.cell? (ad.add j) = some u
def C1 (W : World) (ad : Addr) (v : Value) : Prop := W.cell? ad = some v
theorem CE.ext {W W' : World} {ad : Addr} {l : List Value} (h : CE W ad l) (x : Ext W W') : CE W' ad l := fun j u hj => cell_ext x (h j u hj)
theorem C1.ext {W W' : World} {ad : Addr} {v : Value} (h : C1 W ad v) (x : Ext W W') : C1 W' ad v := cell_ext x h
theorem take_getD {α : Type} (d : α) (l : List α) (k : Nat) (h : k < l.length) : l.take (k + 1) = l.take k ++ [l.getD k d] := by
  rw [List.take_succ_eq_append_getElem h]; simp [h]
theorem take_rowG {ρt α : Type} (f : List ρt → α) (rss : List (List ρt)) (k : Nat) (h : k < rss.length) : (rss.take (k + 1)).map f = (rss.take k).map f ++ [f (rowat rss k)] := by
  rw [List.take_succ_eq_append_getElem h, List.map_append]; simp [rowat, h]
theorem row_leG {ρt : Type} {rss : List (List ρt)} {N : Nat} (h : ∀ r ∈ rss, r.length ≤ N) (i : Nat) : (rowat rss i).length ≤ N := by
  unfold rowat; rw [List.getD_eq_getElem?_getD]
  cases hq : rss[i]? with
  | none => simp
  | some r => exact h r (List.mem_of_getElem? hq)
def form1 (q : List Value) : Prop := ∃ a n c, q = [.slice a n c]
def rvat (qs : List (List Value)) (i : Nat) : Value := match qs[i]? with
  | some (v :: _) => v
  | _ => .slice none 0 0
theorem rvat_form {qs : List (List Value)} (h : ∀ q ∈ qs, form1 q) (i : Nat) : ∃ a n c, rvat qs i = .slice a n c := by
  unfold rvat
  cases hq : qs[i]? with
  | none => exact ⟨_, _, _, rfl⟩
  | some q => obtain ⟨a, n, c, rfl⟩ := h q (List.mem_of_getElem? hq); exact ⟨a, n, c, rfl⟩
theorem RowOf.form {ρ : Type} {G : (Nat → Prop) → World → Option Addr → Nat → Nat → ρ → Prop} {S : Nat → Prop} {W : World} : ∀ {qs : List (List Value)} {rss : List ρ}, All2 (RowOf G S W) qs rss → ∀ q ∈ qs, form1 q
  | _ :: _, _ :: _, ⟨h1, h2⟩, q, hq => by
    rcases List.mem_cons.1 hq with rfl | hq
    · obtain ⟨a, n, c, e, _⟩ := h1; exact ⟨a, n, c, e⟩
    · exact RowOf.form h2 q hq
theorem All2.rv {ρ : Type} {G : (Nat → Prop) → World → Option Addr → Nat → Nat → List ρ → Prop} {S : Nat → Prop} {W : World} {qs : List (List Value)} {rss : List (List ρ)} (h : All2 (RowOf G S W) qs rss) (hn : G S W none 0 0 []) {i : Nat} {a : Option Addr} {n c : Nat} (e : rvat qs i = .slice a n c) : G S W a n c (rowat rss i) := by
  unfold rvat at e
  unfold rowat
  rw [List.getD_eq_getElem?_getD]
  cases hq : qs[i]? with
  | none =>
    rw [hq] at e
    simp only [Value.slice.injEq] at e
    obtain ⟨rfl, rfl, rfl⟩ := e
    have : rss[i]? = none := by rw [List.getElem?_eq_none_iff, ← h.len]; exact List.getElem?_eq_none_iff.1 hq
    rw [this]; exact hn
  | some q =>
    obtain ⟨r, e2, a', n', c', rfl, hg⟩ := h.get hq
    rw [hq] at e
    simp only [Value.slice.injEq] at e
    obtain ⟨rfl, rfl, rfl⟩ := e
    rw [e2]; exact hg
section
variable {r : Option Nat} {P : Program} {ops : Array Oper} {R : Env → World → Prop} {l : List Oper} {E : Env} {W : World} {t : Tmp} {ty T : TypeId} {pos : String} {af : Array Edge} {x : Operand}
theorem RS.el1 {S : Nat → Prop} {a : Option Addr} {n c : Nat} {qs : List (List Value)} (h : RS 1 S W a n c qs) (hf : ∀ q ∈ qs, form1 q) {i : Int} (hi : 0 ≤ i) (hn : i < n) : ∃ a' n' c', rvat qs i.toNat = .slice a' n' c' ∧ W.cell? (adr a i 1) = some (.slice a' n' c') := by
  obtain ⟨q, h3, h4, h5⟩ := h.el hi hn
  obtain ⟨a', n', c', rfl⟩ := hf q (List.mem_of_getElem? h3)
  refine ⟨a', n', c', ?_, ?_⟩
  · unfold rvat; rw [h3]
  · have := h5 0 _ rfl
    rwa [add0] at this
theorem vldR1 {S : Nat → Prop} {a : Option Addr} {n c : Nat} {qs : List (List Value)} {i : Int} (h : RS 1 S W a n c qs) (hf : ∀ q ∈ qs, form1 q) (hx : ev E x = .pointer (some (adr a i 1))) (hT : Sc P T) (h0 : 0 ≤ i) (h1 : i < n)
    (K : ∀ a' n' c', rvat qs i.toNat = .slice a' n' c' → RV r P ops R l (up E t (.slice a' n' c')) W) : RV r P ops R (⟨some t, .load T x, ty, pos, af, none⟩ :: l) E W := by
  obtain ⟨a', n', c', hq, hc⟩ := h.el1 hf h0 h1
  exact vv (rld1 hx hT hc) (K _ _ _ hq)
theorem GX.isS {S : Nat → Prop} {a : Option Addr} {n c : Nat} {ρs : List RawQ} (h : GX S W a n c ρs) {i : Int} (hi : 0 ≤ i) (hn : i < n) : a.isSome = true := by obtain ⟨qs, h1, h2⟩ := h; exact h1.isS hi hn
theorem GX.max {S : Nat → Prop} {a : Option Addr} {n c : Nat} {ρs : List RawQ} (h : GX S W a n c ρs) : n ≤ c ∧ c ≤ 9223372036854775807 := by obtain ⟨qs, h1, h2⟩ := h; exact ⟨h1.cap, h1.max⟩
def rz : RawQ := ⟨false, [], false, []⟩
def xat (ρs : List RawQ) (i : Nat) : RawQ := ρs.getD i rz
theorem GX.el {S : Nat → Prop} {a : Option Addr} {n c : Nat} {ρs : List RawQ} (h : GX S W a n c ρs) {i : Int} (hi : 0 ≤ i) (hn : i < n) : ∃ n1 a1 l1 c1 n2 a2 l2 c2, QX S W [.bool n1, .slice a1 l1 c1, .bool n2, .slice a2 l2 c2] (xat ρs i.toNat) ∧
    ∀ j u, ([.bool n1, .slice a1 l1 c1, .bool n2, .slice a2 l2 c2] : List Value)[j]? = some u → W.cell? ((adr a i 4).add j) = some u := by
  obtain ⟨qs, h1, h2⟩ := h
  obtain ⟨q, h3, h4, h5⟩ := h1.el hi hn
  obtain ⟨r, h6, h7⟩ := h2.get h3
  obtain ⟨n1, a1, l1, c1, n2, a2, l2, c2, rfl⟩ := h7.form
  refine ⟨n1, a1, l1, c1, n2, a2, l2, c2, ?_, h5⟩
  have : xat ρs i.toNat = r := by unfold xat; rw [List.getD_eq_getElem?_getD, h6]; rfl
  rw [this]; exact h7
end
theorem okRowI (k : IntKind) : ElOK (RowOf (RN k)) := ⟨fun ⟨a, n, c, e, h⟩ k => ⟨a, n, c, e, h.ck k⟩, fun ⟨a, n, c, e, h⟩ k => ⟨a, n, c, e, h.sub k⟩⟩
abbrev MI (S : Nat → Prop) (W : World) (a : Option Addr) (n c : Nat) (zss : List (List Int)) : Prop := MG (RN .i64) S W a n c zss
theorem MI.ext {S : Nat → Prop} {W W' : World} {a : Option Addr} {n c : Nat} {zss : List (List Int)} (h : MI S W a n c zss) (x : Ext W W') : MI S W' a n c zss := MG.ck (okRowI .i64) h (x.ck _)
theorem MI.ck {S : Nat → Prop} {W W' : World} {a : Option Addr} {n c : Nat} {zss : List (List Int)} (h : MI S W a n c zss) (x : CK S W W') : MI S W' a n c zss := MG.ck (okRowI .i64) h x
/-- A literal of rows. -/
theorem RS.lit {s : Nat} {S : Nat → Prop} {W : World} {b : Nat} {e : TypeId} {cs : List Value} (qs : List (List Value)) (h : BoxAt W b cs e) (hc : cs = qs.flatten) (hw : ∀ q ∈ qs, q.length = s) (hS : S b) {n : Nat} (hl : qs.length = n) (hm : n ≤ 9223372036854775807) : RS s S W (some ⟨b, 0, none⟩) n n qs :=
  AQ.rs ⟨hc ▸ h, hw, hl, hm⟩ hS
theorem szMI {L : Nat} {S : Nat → Prop} {W : World} {a : Option Addr} {n c : Nat} {rss : List (List Rat)} (h : MA L S W a n c rss) (hL : 1 ≤ L) (i k : Int) : sz L (matI rss i k) := by
  unfold matI
  split
  · exact szV_at (GA.rows h hL _) hL _
  · exact sz_zero.mono hL
theorem szCat {L1 L2 L : Nat} {S1 S2 : Nat → Prop} {W W' : World} {a b : Option Addr} {n c m d : Nat} {rss mss : List (List Rat)} (hx : MA L1 S1 W a n c rss) (hy : MA L2 S2 W' b m d mss) (h1 : 1 ≤ L1) (h2 : 1 ≤ L2) (hL : max L1 L2 ≤ L) (N : Nat) (i k : Int) : sz L (catI rss mss N i k) := by
  unfold catI
  split
  · exact (szMI hx h1 _ _).mono (by omega)
  · exact (szMI hy h2 _ _).mono (by omega)
/-- Rows that are equal, with zeros behind the end. -/
theorem eqv_all {xs ys : List Rat} {M : Nat} (h1 : xs.length ≤ M) (h2 : ys.length ≤ M) : eqv xs ys M ↔ ∀ j, vat xs j = vat ys j := by
  refine ⟨fun h j => ?_, fun h j _ => h j⟩
  rcases Nat.lt_or_ge j M with hj | hj
  · exact h j hj
  · unfold vat; rw [List.getD_eq_getElem?_getD, List.getD_eq_getElem?_getD, List.getElem?_eq_none (by omega), List.getElem?_eq_none (by omega)]
def identm (N : Nat) : List (List Rat) := (List.range N).map fun i : Nat => unitv N (i : Int)
theorem identm_succ (N k : Nat) : (List.range (k + 1)).map (fun i : Nat => unitv N (i : Int)) = (List.range k).map (fun i : Nat => unitv N (i : Int)) ++ [unitv N (k : Int)] := by simp [List.range_succ]
end Go.Proofs.YtknbjfefeeojlaaGreat
/- Package mat: Concat, Transpose, Identity, FromInts, Equal. -/
namespace Go.Proofs.YtknbjfefeeojlaaGreat
open Go.RowKit
attribute [local irreducible] RV VH V OpF Calls

set_option maxHeartbeats 400000 in
theorem mConcat_ok (a1 a2 : Option Addr) (n c m d : Nat) (L1 L2 : Nat) (rss mss : List (List Rat)) (S S1 S2 : Nat → Prop) (w : World) (hx : MA L1 S1 w a1 n c rss) (hy : MA L2 S2 w a2 m d mss) (hL : L1 < LY) (hl1 : 1 ≤ L1) (hL2 : L2 < LY) (hl2 : 1 ≤ L2) (hn : n ≤ LV) (hm : m ≤ LV) (hc : colsN rss + colsN mss ≤ LV) (hu : Up S w) :
    Calls Tryz.prog 84 #[.slice a1 n c, .slice a2 m d] w (fun e w' => ∃ ra rk rc, e = .returned (.slice ra rk rc) ∧ Ext w w' ∧ MC S w' ra rk rc (gridm (catI rss mss (colsN rss)) (max n m) (colsN rss + colsN mss))) := by
 have z0 := Ext.refl w; have hLX : LX = 17592186044416 := rfl; have hLY : LY = 8796093022208 := rfl
 have hLV : LV = 1099511627776 := rfl
 refine enter (args := [.slice a1 n c, .slice a2 m d]) Tryz.func84 rfl rfl (Nat.le_of_ble_eq_true rfl) ?_
 refine V.seq (V.reg rfl ?_)
 refine vo ?_
 refine bxs rfl ?_
 intro W1 x2 b3 nn4
 have s5 := x2.sz
 have z6 := x2
 refine vo ?_
 refine bxs rfl ?_
 intro W7 x8 b9 nn10
 have s11 := x8.sz
 have z12 := z6.trans x8
 replace b3 := b3.ext x8
 refine ass rfl ?_
 refine vnil ?_
 refine V.seq (V.reg rfl ?_)
 refine vv (rldb (v := .slice _ _ _) rfl sc22 b3 rfl) ?_
 refine vo ?_
 refine xcall e35 (mCols_ok _ _ _ _ _ _ _ (hx.ext z12)) rfl rfl ?_
 rintro _ W13 ⟨rfl, x14⟩
 have s15 := x14.sz
 have z16 := z12.trans x14
 replace b3 := b3.ext x14
 replace b9 := b9.ext x14
 refine ⟨_, rfl, ?_⟩
 refine vo ?_
 refine xal zc3 ?_
 intro W17 x18 b19 nn20
 have s21 := x18.sz
 have z22 := z16.trans x18
 replace b3 := b3.ext x18
 replace b9 := b9.ext x18
 refine vo ?_
 refine st1 (v := .int _ _) (cs' := [_]) b19 rfl rfl sz3 rfl rfl rfl rfl ?_
 intro W23 y24 b19
 have z25 := z22.below (y24.below (by omega))
 replace b3 := b3.wr y24 (by omega)
 replace b9 := b9.wr y24 (by omega)
 have s26 := y24.size
 refine vnil ?_
 refine V.seq (V.regD mixed rfl ?_)
 intro W27 x28
 have s29 := x28.sz
 have z30 := z25.trans x28
 replace b3 := b3.ext x28
 replace b9 := b9.ext x28
 replace b19 := b19.ext x28
 have q31 := Ext.refl W27
 have r32 := b3
 have r33 := b9
 have r34 := b19
 refine tk 0 rfl (by kernel_rfl) q31 (pv (fun _ y35 => rldb (v := .slice _ _ _) rfl sc22 (r32.ext y35) rfl)) ?_
 refine tk 1 rfl (by kernel_rfl) q31 (pv (fun _ y36 => rlen sl22 rfl)) ?_
 refine tk 2 rfl (by kernel_rfl) q31 (pv (fun _ y37 => rldb (v := .slice _ _ _) rfl sc22 (r33.ext y37) rfl)) ?_
 refine tk 3 rfl (by kernel_rfl) q31 (pv (fun _ y38 => rlen sl22 rfl)) ?_
 refine tk 4 rfl (by kernel_rfl) q31 (pv (fun _ y39 => rmax rfl rfl (show max (n : Int) (m : Int) = ((max n m : Nat) : Int) by omega))) ?_
 refine tk 5 rfl (by kernel_rfl) q31 (pv (fun _ y40 => rldb (v := .int _ _) rfl sc3 (r34.ext y40) rfl)) ?_
 refine tk 6 rfl (by kernel_rfl) q31 (pv (fun _ y41 => rldb (v := .slice _ _ _) rfl sc22 (r33.ext y41) rfl)) ?_
 refine tk 9 rfl (by kernel_rfl) q31 (pv (fun _ y42 => rmk3 (v := .pointer (some ⟨_, _, none⟩)) (u := .pointer (some ⟨_, _, none⟩)) (u3 := .pointer (some ⟨_, _, none⟩)) rfl rfl rfl)) ?_
 refine ef 7 (by kernel_rfl) rfl ?_
 refine xcall e35 (mCols_ok _ _ _ _ _ _ _ (hy.ext z30)) rfl rfl ?_
 rintro _ W43 ⟨rfl, x44⟩
 have s45 := x44.sz
 have z46 := z30.trans x44
 replace b3 := b3.ext x44
 replace b9 := b9.ext x44
 replace b19 := b19.ext x44
 have q47 := q31.trans x44
 refine ⟨_, rfl, ?_⟩
 refine ⟨fun _ => q47, ?_⟩
 refine tk 8 rfl (by kernel_rfl) q47 (pv (fun _ y48 => rbin (bAdd (show IntKind.i64.wrap ((colsN rss : Int) + (colsN mss : Int)) = ((colsN rss + colsN mss : Nat) : Int) by rw [wi (by omega)]; omega)) rfl rfl)) ?_
 refine tk 10 rfl (by kernel_rfl) q47 (pv (fun _ y49 => rbd (ps := [(0, .int _ _), (1, .int _ _), (2, .func _ _ _)]) (cs := [.int _ _, .int _ _, .func _ _ _]) pl128 rfl rfl)) ?_
 refine ef 11 (by kernel_rfl) rfl ?_
 refine xcall e113 (gmade_ok (max n m) (colsN rss + colsN mss) 151 [.pointer (some ⟨W13.heap.size, 0, none⟩), .pointer (some ⟨w.heap.size, 0, none⟩), .pointer (some ⟨W1.heap.size, 0, none⟩)] (catI rss mss (colsN rss)) (max L1 L2) S _ e151 (fun W i k S' x u _ hk => mCat1_ok _ _ _ _ _ _ i k (colsN rss) _ _ _ L1 L2 rss mss S' S1 S2 W (b19.ext x) (b3.ext x) (b9.ext x) ((hx.ext z46).ext x) ((hy.ext z46).ext x) hL hl1 hL2 hl2 (by omega) u) (fun i k => szCat hx hy hl1 hl2 (Nat.le_refl _) _ _ _) (by omega) (by omega) (by omega) (by omega) (hu.mono (by omega))) rfl rfl ?_
 rintro _ W50 ⟨_, _, _, rfl, x51, hv⟩
 have s52 := x51.sz
 have z53 := z46.trans x51
 have q54 := q47.trans x51
 refine ⟨_, rfl, ?_⟩
 refine ⟨fun _ => q54, ?_⟩
 refine tk 12 rfl (by kernel_rfl) q54 (pv (fun _ y55 => ras (v := .slice _ _ _) rfl)) ?_
 refine dn (by kernel_rfl) ?_
 refine V.ret ?_
 refine ⟨[.slice _ _ _], ⟨rfl, trivial⟩, ?_⟩
 exact ⟨_, _, _, rfl, z53, hv⟩
set_option maxHeartbeats 400000 in
theorem mTr1_ok (a1 : Option Addr) (n c : Nat) (i k : Int) (b : Nat) (L1 : Nat) (rss : List (List Rat)) (S S1 : Nat → Prop) (w : World) (hb : BoxAt w b [.slice a1 n c] 22) (hx : MA L1 S1 w a1 n c rss) (hL : L1 < LY) (hl1 : 1 ≤ L1) (hu : Up S w) :
    Calls Tryz.prog 117 #[.int .i64 i, .int .i64 k, .pointer (some ⟨b, 0, none⟩)] w (PQ S (matI rss k i) w) := by
 have z0 := Ext.refl w; have hLX : LX = 17592186044416 := rfl; have hLY : LY = 8796093022208 := rfl
 have lb := hb.lt
 have hu2 : ∀ W : World, w.heap.size + 1 ≤ W.heap.size → Up (SX S [w.heap.size]) W := fun W hW => SX.up (hu.mono (by omega)) (by simp <;> omega)
 refine enter (args := [.int .i64 i, .int .i64 k, .pointer (some ⟨b, 0, none⟩)]) Tryz.func117 rfl rfl (Nat.le_of_ble_eq_true rfl) ?_
 refine V.seq (V.reg rfl ?_)
 refine vo ?_
 refine xal zc48 ?_
 intro W1 x2 b3 nn4
 have s5 := x2.sz
 have z6 := x2
 replace hb := hb.ext x2
 refine vnil ?_
 refine V.seq (V.reg rfl ?_)
 refine vv (rldb (v := .slice _ _ _) rfl sc22 hb rfl) ?_
 refine mvi rfl ?_
 refine mvi rfl ?_
 refine vo ?_
 refine xcall e38 (mAt_ok _ _ _ _ _ _ _ _ _ _ (hx.ext z6) (by omega) (by omega) (hu2 _ (by omega))) rfl rfl ?_
 rintro _ W8 ⟨_, rfl, x9, hq7⟩
 have s10 := x9.sz
 have z11 := z6.trans x9
 replace hb := hb.ext x9
 replace b3 := b3.ext x9
 obtain ⟨_, _, _, _, _, _, _, _, rfl⟩ := hq7.form
 refine ⟨_, rfl, ?_⟩
 refine vo ?_
 refine sta (cs' := [_, _, _, _]) b3 rfl rfl sz48 rfl rfl rfl ?_
 intro W12 y13 b3
 have z14 := z11.below (y13.below (by omega))
 replace hb := hb.wr y13 (by omega)
 have s15 := y13.size
 refine vnil ?_
 refine V.ret ?_
 refine ⟨[_], ⟨⟨_, rfl, lvb ag48 b3 rfl⟩, trivial⟩, ?_⟩
 exact ⟨_, rfl, z14, ((hq7.ck (y13.ck (by intro hh; first | (simp [SX] at hh <;> omega) | omega)))).un⟩
set_option maxHeartbeats 400000 in
theorem mTr_ok (a1 : Option Addr) (n c : Nat) (L1 : Nat) (rss : List (List Rat)) (S S1 : Nat → Prop) (w : World) (hx : MA L1 S1 w a1 n c rss) (hL : L1 < LY) (hl1 : 1 ≤ L1) (hn : n ≤ LV) (hc : colsN rss ≤ LV) (hu : Up S w) :
    Calls Tryz.prog 45 #[.slice a1 n c] w (fun e w' => ∃ ra rk rc, e = .returned (.slice ra rk rc) ∧ Ext w w' ∧ MC S w' ra rk rc (gridm (fun i k => matI rss k i) (colsN rss) n)) := by
 have z0 := Ext.refl w; have hLX : LX = 17592186044416 := rfl; have hLY : LY = 8796093022208 := rfl
 have hLV : LV = 1099511627776 := rfl
 refine enter (args := [.slice a1 n c]) Tryz.func45 rfl rfl (Nat.le_of_ble_eq_true rfl) ?_
 refine V.seq (V.reg rfl ?_)
 refine vo ?_
 refine bxs rfl ?_
 intro W1 x2 b3 nn4
 have s5 := x2.sz
 have z6 := x2
 refine ass rfl ?_
 refine vnil ?_
 refine V.seq (V.regD mixed rfl ?_)
 intro W7 x8
 have s9 := x8.sz
 have z10 := z6.trans x8
 replace b3 := b3.ext x8
 have q11 := Ext.refl W7
 have r12 := b3
 refine tk 0 rfl (by kernel_rfl) q11 (pv (fun _ y13 => rldb (v := .slice _ _ _) rfl sc22 (r12.ext y13) rfl)) ?_
 refine tk 2 rfl (by kernel_rfl) q11 (pv (fun _ y14 => rldb (v := .slice _ _ _) rfl sc22 (r12.ext y14) rfl)) ?_
 refine tk 3 rfl (by kernel_rfl) q11 (pv (fun _ y15 => rlen sl22 rfl)) ?_
 refine tk 4 rfl (by kernel_rfl) q11 (pv (fun _ y16 => rmk1 (v := .pointer (some ⟨_, _, none⟩)) rfl)) ?_
 refine ef 1 (by kernel_rfl) rfl ?_
 refine xcall e35 (mCols_ok _ _ _ _ _ _ _ (hx.ext z10)) rfl rfl ?_
 rintro _ W17 ⟨rfl, x18⟩
 have s19 := x18.sz
 have z20 := z10.trans x18
 replace b3 := b3.ext x18
 have q21 := q11.trans x18
 refine ⟨_, rfl, ?_⟩
 refine ⟨fun _ => q21, ?_⟩
 refine tk 5 rfl (by kernel_rfl) q21 (pv (fun _ y22 => rbd (ps := [(0, .int _ _), (1, .int _ _), (2, .func _ _ _)]) (cs := [.int _ _, .int _ _, .func _ _ _]) pl128 rfl rfl)) ?_
 refine ef 6 (by kernel_rfl) rfl ?_
 refine xcall e113 (gmade_ok (colsN rss) n 117 [.pointer (some ⟨w.heap.size, 0, none⟩)] (fun i k => matI rss k i) L1 S _ e117 (fun W i k S' x u _ _ => mTr1_ok _ _ _ i k _ L1 rss S' S1 W (b3.ext x) ((hx.ext z20).ext x) hL hl1 u) (fun i k => szMI hx hl1 _ _) hL hl1 (by omega) (by omega) (hu.mono (by omega))) rfl rfl ?_
 rintro _ W23 ⟨_, _, _, rfl, x24, hv⟩
 have s25 := x24.sz
 have z26 := z20.trans x24
 have q27 := q21.trans x24
 refine ⟨_, rfl, ?_⟩
 refine ⟨fun _ => q27, ?_⟩
 refine tk 7 rfl (by kernel_rfl) q27 (pv (fun _ y28 => ras (v := .slice _ _ _) rfl)) ?_
 refine dn (by kernel_rfl) ?_
 refine V.ret ?_
 refine ⟨[.slice _ _ _], ⟨rfl, trivial⟩, ?_⟩
 exact ⟨_, _, _, rfl, z26, hv⟩
set_option maxHeartbeats 400000 in
theorem mIdent_ok (z : Int) (N : Nat) (S : Nat → Prop) (w : World) (hN : min (max z 0) 1024 = (N : Int)) (hu : Up S w) :
    Calls Tryz.prog 47 #[.int .i64 z] w (fun e w' => ∃ ra rk rc, e = .returned (.slice ra rk rc) ∧ Ext w w' ∧ MC S w' ra rk rc (identm N)) := by
 have z0 := Ext.refl w; have hLX : LX = 17592186044416 := rfl; have hLY : LY = 8796093022208 := rfl
 have hLV : LV = 1099511627776 := rfl
 refine enter (args := [.int .i64 z]) Tryz.func47 rfl rfl (Nat.le_of_ble_eq_true rfl) ?_
 refine V.seq (V.reg rfl ?_)
 refine ass rfl ?_
 refine vnil ?_
 refine V.seq ?_
 refine V.seq (V.reg rfl ?_)
 refine mvi rfl ?_
 refine vo ?_
 refine xcall e111 (mcut_ok' _ N _ hN) rfl rfl ?_
 rintro _ _ ⟨rfl, rfl⟩
 refine ⟨_, rfl, ?_⟩
 refine mvi rfl ?_
 refine vnil ?_
 refine V.block ?_
 refine V.loopK (ι := Nat × Value) [(0, .int _ _), (5, .int _ _)] (fun ⟨k, v⟩ => [(6, .int .i64 (k : Int)), (2, v)]) (fun ⟨k, v⟩ W => Ext w W ∧ k ≤ N ∧ GO 1 (RowOf GC) S w.heap.size W 23 v ((List.range k).map fun i : Nat => unitv N (i : Int))) (fun ⟨k, v⟩ => N - k) ((0, _)) ⟨rfl, rfl, trivial⟩ ⟨rfl, rfl, trivial⟩ ⟨Ext.refl _, Nat.zero_le _, GO.nil _ _⟩ ?_
 intro i3 E4 W2 h5
 obtain ⟨k, v⟩ := i3
 simp only at h5
 show V _ _ _ _ _ _ (ups (ups _ _) [(6, .int .i64 (k : Int)), (2, v)]) _
 obtain ⟨x6, hk, hO⟩ := h5
 have s7 := x6.sz
 have z8 := x6
 refine V.seq (V.reg rfl ?_)
 refine vlt rfl rfl ?_ ?_
 ·intro c9
  refine vnil ?_
  refine V.seq ?_
  refine V.condT rfl ?_
  refine V.skip ?_
  refine V.seq ?_
  refine V.block ?_
  refine V.seq (V.reg rfl ?_)
  refine mvi rfl ?_
  refine asi rfl ?_
  refine vnil ?_
  refine V.reg rfl ?_
  refine vv (rmv (v := v) rfl) ?_
  refine mvi rfl ?_
  refine vo ?_
  refine xcall e111 (mcut_ok' _ N _ hN) rfl rfl ?_
  rintro _ _ ⟨rfl, rfl⟩
  refine ⟨_, rfl, ?_⟩
  refine mvi rfl ?_
  refine vo ?_
  refine xcall e118 (vUnit_ok _ _ N _ _ (by omega) (GO.up hO hu (by omega))) rfl rfl ?_
  rintro _ W11 ⟨_, _, _, rfl, x12, hvu⟩
  have s13 := x12.sz
  have z14 := z8.trans x12
  replace hO := hO.ext okRowC x12
  refine ⟨_, rfl, ?_⟩
  refine vo ?_
  refine xbs (ps := [(0, .slice _ _ _)]) (cs := [.slice _ _ _]) sl22 zr23 sz23 rfl rfl rfl rfl rfl rfl ?_
  intro W15 x16 b17 nn18
  have s19 := x16.sz
  have z20 := z14.trans x16
  replace hO := hO.ext okRowC x16
  refine vo ?_
  refine xappG okRowC sl22 in23 rfl rfl hO rfl rfl b17 rfl rfl ((⟨_, _, _, rfl, (hvu.ext x16)⟩ : RowOf GC _ _ _ _)) (by simp; omega) (by decide) (by omega) ?_
  intro v21 W22 hO23 hg24
  have y25 := hg24.below; have s26 := y25.size
  have z27 := z20.below (y25.mono (by omega))
  refine vv (ras (v := v21) rfl) ?_
  refine vnil ?_
  refine V.reg rfl ?_
  refine vv (rbin (bAdd (wi (by omega))) rfl rfl) ?_
  refine mvi rfl ?_
  refine vnil ?_
  refine ⟨rfl, (k + 1, _), ⟨rfl, rfl, trivial⟩, ⟨rfl, rfl, trivial⟩, ⟨z27, by omega, by rw [identm_succ]; exact hO23⟩, ?_⟩
  show N - (k + 1) < N - k
  omega
 ·intro c9
  refine vnil ?_
  refine V.seq ?_
  refine V.condF rfl ?_
  refine V.exit ?_
  refine V.seq (V.reg rfl ?_)
  refine vv (rmv (v := v) rfl) ?_
  refine vv (ras (v := v) rfl) ?_
  refine vnil ?_
  refine V.ret ?_
  refine ⟨[v], ⟨rfl, trivial⟩, ?_⟩
  obtain ⟨a', c', rfl⟩ := hO.form
  have hf := hO.fin okRowC (fun b hb _ => hu b (by omega))
  have ek : k = N := (by omega)
  subst ek
  exact ⟨_, _, _, rfl, z8, hf⟩
set_option maxHeartbeats 400000 in
theorem mFrom_ok (a1 : Option Addr) (n c : Nat) (zss : List (List Int)) (S S1 : Nat → Prop) (w : World) (hx : MI S1 w a1 n c zss) (hn : n ≤ LV) (hR : ∀ r ∈ zss, r.length ≤ LV) (hu : Up S w) :
    Calls Tryz.prog 150 #[.slice a1 n c] w (fun e w' => ∃ ra rk rc, e = .returned (.slice ra rk rc) ∧ Ext w w' ∧ MC S w' ra rk rc (zss.map fun r => r.map fun z : Int => (z : Rat))) := by
 have z0 := Ext.refl w; have hLX : LX = 17592186044416 := rfl; have hLY : LY = 8796093022208 := rfl
 have hLV : LV = 1099511627776 := rfl
 have l1 := hx.len; have l2 := hx.max
 refine enter (args := [.slice a1 n c]) Tryz.func150 rfl rfl (Nat.le_of_ble_eq_true rfl) ?_
 refine V.seq (V.reg rfl ?_)
 refine ass rfl ?_
 refine vnil ?_
 refine V.seq ?_
 refine V.seq (V.reg rfl ?_)
 refine mvs rfl ?_
 refine vv (rlen sl119 rfl) ?_
 refine mvi rfl ?_
 refine vnil ?_
 refine V.block ?_
 refine V.loopK (ι := Nat × Value) [(5, .slice _ _ _), (6, .int _ _)] (fun ⟨k, v⟩ => [(7, .int .i64 (k : Int)), (2, v)]) (fun ⟨k, v⟩ W => Ext w W ∧ k ≤ n ∧ GO 1 (RowOf GC) S w.heap.size W 23 v ((zss.take k).map fun r => r.map fun z : Int => (z : Rat))) (fun ⟨k, v⟩ => n - k) ((0, _)) ⟨rfl, rfl, trivial⟩ ⟨rfl, rfl, trivial⟩ ⟨Ext.refl _, Nat.zero_le _, GO.nil _ _⟩ ?_
 intro i2 E3 W1 h4
 obtain ⟨k, v⟩ := i2
 simp only at h4
 show V _ _ _ _ _ _ (ups (ups _ _) [(7, .int .i64 (k : Int)), (2, v)]) _
 obtain ⟨x5, hk, hO⟩ := h4
 have s6 := x5.sz
 have z7 := x5
 refine V.seq (V.reg rfl ?_)
 refine vlt rfl rfl ?_ ?_
 ·intro c8
  have hrw : (rowat zss ((k : Int)).toNat).length ≤ LV := row_leG hR _
  refine vnil ?_
  refine V.seq ?_
  refine V.condT rfl ?_
  refine V.skip ?_
  refine V.seq ?_
  refine V.block ?_
  refine V.seq (V.reg rfl ?_)
  refine vv (rix sl119 sz118 rfl rfl (by omega) (by omega) ((hx.ext z7).isS (i := 0) (by omega) (by omega))) ?_
  refine vldRow (hx.ext z7) rfl sc118 (by omega) (by omega) ?_
  intro a9 n10 c11 hg12
  have hg12l := hg12.len; have hg12m := hg12.max
  refine ass rfl ?_
  refine vnil ?_
  refine V.reg rfl ?_
  refine vv (rmv (v := v) rfl) ?_
  refine mvs rfl ?_
  refine vo ?_
  refine xcall e82 (vFrom_ok _ _ _ _ _ _ _ hg12 (by omega) (GO.up hO hu (by omega))) rfl rfl ?_
  rintro _ W14 ⟨_, _, _, rfl, x15, hv13⟩
  have s16 := x15.sz
  have z17 := z7.trans x15
  replace hO := hO.ext okRowC x15
  have hv13l := hv13.len
  refine ⟨_, rfl, ?_⟩
  refine vo ?_
  refine xbs (ps := [(0, .slice _ _ _)]) (cs := [.slice _ _ _]) sl22 zr23 sz23 rfl rfl rfl rfl rfl rfl ?_
  intro W18 x19 b20 nn21
  have s22 := x19.sz
  have z23 := z17.trans x19
  replace hO := hO.ext okRowC x19
  refine vo ?_
  refine xappG okRowC sl22 in23 rfl rfl hO rfl rfl b20 rfl rfl ((⟨_, _, _, rfl, (hv13.ext x19)⟩ : RowOf GC _ _ _ _)) (by simp; omega) (by decide) (by omega) ?_
  intro v24 W25 hO26 hg27
  have y28 := hg27.below; have s29 := y28.size
  have z30 := z23.below (y28.mono (by omega))
  refine vv (ras (v := v24) rfl) ?_
  refine vnil ?_
  refine V.reg rfl ?_
  refine vv (rbin (bAdd (wi (by omega))) rfl rfl) ?_
  refine mvi rfl ?_
  refine vnil ?_
  refine ⟨rfl, (k + 1, _), ⟨rfl, rfl, trivial⟩, ⟨rfl, rfl, trivial⟩, ⟨z30, by omega, by rw [take_rowG _ zss k (by omega)]; exact hO26⟩, ?_⟩
  show n - (k + 1) < n - k
  omega
 ·intro c8
  refine vnil ?_
  refine V.seq ?_
  refine V.condF rfl ?_
  refine V.exit ?_
  refine V.seq (V.reg rfl ?_)
  refine vv (rmv (v := v) rfl) ?_
  refine vv (ras (v := v) rfl) ?_
  refine vnil ?_
  refine V.ret ?_
  refine ⟨[v], ⟨rfl, trivial⟩, ?_⟩
  obtain ⟨a', c', rfl⟩ := hO.form
  have hf := hO.fin okRowC (fun b hb _ => hu b (by omega))
  refine ⟨_, _, _, rfl, z7, ?_⟩
  rw [List.take_of_length_le (by omega)] at hf ⊢
  exact hf
end Go.Proofs.YtknbjfefeeojlaaGreat
/- Digits in base 65536: plain mathematics. -/
namespace Go.Proofs.YtknbjfefeeojlaaGreat
abbrev b16 : Int := 65536
/-- Any block. -/
def TT (_ : Nat) : Prop := True
theorem TT.up (w : Go.World) : Up TT w := fun _ _ => trivial
/-- Each word in two halves. -/
def h2 (xs : List Int) : List Int := xs.flatMap fun x => [x % 65536, x / 65536]
/-- Two halves to a word. -/
def p2 : List Int → List Int
  | [] => []
  | [a] => [a]
  | a :: b :: l => (a + b * 65536) :: p2 l
end Go.Proofs.YtknbjfefeeojlaaGreat
/- From canonical to raw; what the laws ask of closed lists. -/
namespace Go.Proofs.YtknbjfefeeojlaaGreat
open Go.RowKit
attribute [local irreducible] RV VH V OpF Calls
section
variable {S S1 S2 : Nat → Prop} {W : World} {a a1 a2 : Option Addr} {n c m d L : Nat} {rs ss : List Rat} {rss mss : List (List Rat)}
theorem MC.ma (h : MC S W a n c rss) (hs : ∀ r ∈ rss, szV L r) : MA L S W a n c rss := by
  obtain ⟨qs, h1, h2⟩ := h
  refine ⟨qs, h1, ?_⟩
  clear h1
  induction qs generalizing rss with
  | nil => cases rss <;> simp_all [All2]
  | cons q qs ih => cases rss with
    | nil => exact h2.elim
    | cons r rs => obtain ⟨a, n, c, e, h3⟩ := h2.1; exact ⟨⟨a, n, c, e, h3.va (hs r (by simp))⟩, ih (fun x hx => hs x (by simp [hx])) h2.2⟩
theorem MC.cast {rss' : List (List Rat)} (h : MC S W a n c rss) (e : rss = rss') : MC S W a n c rss' := e ▸ h
/-- Small numbers, asked by reckoning. -/
def szB (r : Rat) : Bool := decide ((r.num.natAbs : Int) < b32 ^ 1) && decide ((r.den : Int) < b32 ^ 1)
theorem szB_sz {r : Rat} (h : szB r = true) : sz 1 r := by
  unfold szB at h; simp only [Bool.and_eq_true, decide_eq_true_eq] at h; exact h
theorem szV_B (h : rs.all szB = true) : szV 1 rs := fun r hr => szB_sz (List.all_eq_true.1 h r hr)
theorem szM_B (h : rss.all (fun r => r.all szB) = true) : ∀ r ∈ rss, szV 1 r := fun r hr => szV_B (List.all_eq_true.1 h r hr)
end
end Go.Proofs.YtknbjfefeeojlaaGreat
/- From a walk to a row: an argument reads behind the call as it read before, where below the old size nothing has turned. -/
namespace Go.Proofs.YtknbjfefeeojlaaGreat
open Go.ChangeShapes Go.WideShapes Go.ChangeAt Go.RowKit
attribute [local irreducible] RV VH V OpF Calls
theorem Tryz.own : ownKnob Tryz.prog.godebug = none := by kernel_rfl
theorem Tryz.laidOut : laidOutB Tryz.prog = true := by kernel_rfl
theorem trodAll_stays {H : Type} {enc : TypeId × Value → H} {P : Program} (hl : laidOutB P = true) {W W' : World} {sp' : Nat → Bool} : ∀ {ts : List TypeId} {vs : List Value} {ds : List (DataW H)} {ps : List MemPlace}, (ts.all fun t => P.readableRec t && decide (t < P.types.size)) = true →
    DataW.TrodAll enc P W 0 (fun _ => true) true ts vs ds ps → (∀ p ∈ ps, W.sameAt W' p) → (∀ p ∈ ps, sp' p.block = true) → DataW.TrodAll enc P W' 0 sp' true ts vs ds ps
  | [], [], [], _, _, h, _, _ => h
  | t :: ts, v :: vs, d :: ds, ps, hr, ⟨p, q, h1, h2, e⟩, hs, hsp => by
    rw [List.all_cons, Bool.and_eq_true] at hr
    obtain ⟨hr1, hr2⟩ := hr
    rw [Bool.and_eq_true, decide_eq_true_eq] at hr1
    subst e
    exact ⟨p, q, WideElems.Trod_stays hl hr1.1 hr1.2 h1 (fun x hx => hs x (List.mem_append_left _ hx)) (fun x hx => hsp x (List.mem_append_left _ hx)),
      trodAll_stays hl hr2 h2 (fun x hx => hs x (List.mem_append_right _ hx)) (fun x hx => hsp x (List.mem_append_right _ hx)), rfl⟩
/-- A law's row, behind the walk: it returned true, and of what was there nothing has turned. -/
theorem post_law {H : Type} {enc : TypeId × Value → H} {P : Program} {f : Func} {s : ChangeSpec} {apart fresh handsOn again : Bool} {W W' : World} {args : Array Value} {ds : List (DataW H)} {before : List MemPlace} {tb : TypeId}
    (hW : DataW.Whole enc P f.params.toList s.vars apart W args.toList ds [] before) (hv : s.vars = []) (hl : laidOutB P = true) (hr : (f.params.toList.all fun t => P.readableRec t && decide (t < P.types.size)) = true)
    (hx : Below W.heap.size W W') (hf : s.fn H (ds ++ []) = { results := [.lit (.bool true)], args := ds }) (ht : f.resultTypes = #[tb]) (hb : P.underlying tb = some .bool) :
    s.post enc P f apart fresh handsOn again W args (.bool true) W' := by
  have hlt := hW.lt
  have hW' := hW
  obtain ⟨p, q, hA, hV, rfl, hz, hn⟩ := hW
  rw [hv] at hV
  have hq : q = [] := hV
  subst hq
  rw [List.append_nil] at hlt hz hn hW'
  have hsame : ∀ x ∈ p, W.sameAt W' x := fun x hx' => hx.same (hlt x hx')
  have harg : ∀ sp : Nat → Bool, (∀ x ∈ p, sp x.block = true) → DataW.TrodAll enc P W' 0 sp true f.params.toList args.toList ds p := fun sp hsp => trodAll_stays hl hr hA hsame hsp
  have hlist : (Value.bool true).resultList f.resultTypes.size = [.bool true] := by rw [ht]; rfl
  have hres : ∀ (b : Nat) (sp : Nat → Bool) (hd : Bool), DataW.TrodAll enc P W' b sp hd f.resultTypes.toList ((Value.bool true).resultList f.resultTypes.size) (s.fn H (ds ++ [])).results [] := fun b sp hd => by
    rw [hlist, ht, hf]; exact trodAll_mk1 (shut_bool hb true)
  have harg' : ∀ sp : Nat → Bool, (∀ x ∈ p, sp x.block = true) → DataW.TrodAll enc P W' 0 sp true f.params.toList args.toList (s.fn H (ds ++ [])).args p := fun sp hsp => by rw [hf]; exact harg sp hsp
  have hvar : ∀ sp : Nat → Bool, DataW.TrodVars enc P W' sp s.vars (s.fn H (ds ++ [])).vars [] := fun sp => by rw [hv, hf]; rfl
  refine ⟨ds, [], p, [], p, [], hW', hres _ _ _, harg' _ (fun x hx' => by simpa using hlt x hx'), hvar _, World.keptBut_mono (fun x hx' => ⟨hx', .inr (by simpa using hx')⟩) (hx.frame _), fun _ => ?_⟩
  refine ⟨?_, _, _, ([] ++ p) ++ [], ⟨[] ++ p, [], trodAll_append (harg' _ (fun _ _ => rfl)) (hres _ _ _), hvar _, rfl, ?_, ?_⟩, ?_⟩
  · intro j t r h1 h2
    rw [hlist] at h2
    rw [ht] at h1
    cases j with
    | zero => simp at h1 h2; subst h1 h2; exact okWide_bool_mk hb true
    | succ j => simp at h1
  · intro b off hp
    have hp' : MemPlace.cell b off ∈ p := by simpa using hp
    rw [hx.frozen (hlt _ hp')]
    exact hz b off hp'
  · intro ha; simpa using hn ha
  · intro x hx' _; simpa using hx'
end Go.Proofs.YtknbjfefeeojlaaGreat
/- Parts of elements; sizes of raw vectors and matrices. -/
namespace Go.Proofs.YtknbjfefeeojlaaGreat
open Go.RowKit
attribute [local irreducible] RV VH V OpF Calls
theorem add_add (ad : Addr) (m j : Nat) : (ad.add m).add j = ad.add (m + j) := by
  unfold Addr.add
  by_cases hm : m = 0
  · subst hm; simp
  · by_cases hj : j = 0
    · subst hj; simp
    · simp [hm, hj]; omega
theorem CE.part {W : World} {ad : Addr} {l l' : List Value} (h : CE W ad l) (m : Nat) (e : (l.drop m).take l'.length = l') : CE W (ad.add m) l' := fun j u hj => by
  rw [add_add]
  refine h _ _ ?_
  rw [← e, List.getElem?_take] at hj
  split at hj
  · rwa [List.getElem?_drop] at hj
  · cases hj
section
variable {P : Program} {ρ : Operand → Value} {W : World} {d : Option Tmp} {ty T : TypeId} {pos : String} {af : Array Edge} {g : Option (Nat × Bool)} {x : Operand} {ad : Addr}
theorem rfaG {f off : Nat} (hx : ρ x = .pointer (some ad)) (hF : Fd P T f off) : (execOp ρ ⟨d, .fieldAddr T x f, ty, pos, af, g⟩).run P W = .ok (.value (.pointer (some (ad.add off)))) W := by
  obtain ⟨fs, fd, i, h1, h2, rfl, h4, h5⟩ := hF
  unfold execOp
  simp only [Instr.fieldAt, hx, Sem.run_bind, run_underlying h1, Result.andThen_ok, h2, Instr.sureAddr, Sem.run_pure, fieldPlace]
  have hs : (sizeOf fd.type).run P W = .ok i.size W := sizeOf_sz ⟨i, h4, rfl⟩
  simp [hs, h5]
end
theorem QX.two {S : Nat → Prop} {W : World} {n1 n2 : Bool} {a1 a2 : Option Addr} {l1 c1 l2 c2 : Nat} {ρ : RawQ} (h : QX S W [.bool n1, .slice a1 l1 c1, .bool n2, .slice a2 l2 c2] ρ) : n1 = ρ.n1 ∧ RN .u32 S W a1 l1 c1 ρ.xs ∧ n2 = ρ.n2 ∧ RN .u32 S W a2 l2 c2 ρ.ys := by
  obtain ⟨_, _, _, _, _, _, e, h1, h2⟩ := h
  simp only [List.cons.injEq, Value.bool.injEq, Value.slice.injEq, and_true] at e
  obtain ⟨rfl, ⟨rfl, rfl, rfl⟩, rfl, rfl, rfl, rfl⟩ := e
  exact ⟨rfl, h1, rfl, h2⟩
def form2 (q : List Value) : Prop := ∃ x a n c, q = [.bool x, .slice a n c]
def colsG {α : Type} (rss : List (List α)) : Nat := rss.foldl (fun m r => max m r.length) 0
theorem colsG_succ {α : Type} (rss : List (List α)) (k : Nat) (h : k < rss.length) : colsG (rss.take (k + 1)) = max (colsG (rss.take k)) (rowat rss k).length := by
  unfold colsG rowat
  rw [List.take_succ_eq_append_getElem h, List.foldl_append]
  simp [h]
theorem colsG_map {α β : Type} (f : α → β) (rss : List (List α)) : colsG (rss.map (·.map f)) = colsG rss := by
  unfold colsG; rw [List.foldl_map]; simp
/-- Matrices among which no element is long. -/
abbrev MXX (S : Nat → Prop) (W : World) (a : Option Addr) (n c : Nat) (ms : List (List (List RawQ))) : Prop := MG MX S W a n c ms
theorem okRowMX : ElOK (RowOf MX) := ⟨fun ⟨a, n, c, e, h⟩ k => ⟨a, n, c, e, MG.ck okRowX h k⟩, fun ⟨a, n, c, e, h⟩ k => ⟨a, n, c, e, MG.sub okRowX h k⟩⟩
theorem MXX.ext {S : Nat → Prop} {W W' : World} {a : Option Addr} {n c : Nat} {ms : List (List (List RawQ))} (h : MXX S W a n c ms) (x : Ext W W') : MXX S W' a n c ms := MG.ck okRowMX h (x.ck _)
def smallV (r : List RawQ) : Prop := ∀ ρ ∈ r, szQ 6 ρ
def smallM (m : List (List RawQ)) : Prop := m.length ≤ 8 ∧ colsG m ≤ 8 ∧ ∀ r ∈ m, r.length ≤ 20 ∧ smallV r
theorem forall_lt {α : Type} (d : α) {p : α → Prop} {l : List α} {n : Nat} (hn : l.length ≤ n) (h : ∀ i, i < n → p (l.getD i d)) : ∀ x ∈ l, p x := fun x hx => by
  obtain ⟨i, hi⟩ := List.getElem?_of_mem hx
  have := h i (by have := (List.getElem?_eq_some_iff.1 hi).1; omega)
  rwa [List.getD_eq_getElem?_getD, hi] at this
section
variable {r : Option Nat} {P : Program} {ops : Array Oper} {R : Env → World → Prop} {E : Env} {W : World} {t : Tmp} {t1 t2 ty : TypeId} {pos : String} {af : Array Edge} {S : World → Prop} {fuel : Nat} {listed : Array Bool} {x y : Operand} {k : IntKind} {m n : Int}
theorem tkGt {g : Option (Nat × Bool)} (i : Nat) (hi : ops[i]? = some ⟨some t, .binOp .gtr t1 x y t2, ty, pos, af, g⟩) (hf : (Region.noSelect ops && Region.free .any ops listed i && (Region.ready .any ops listed).contains i) = true) (hS : S W) (hx : ev E x = .int k m) (hy : ev E y = .int k n)
    (hp : ∀ q, (∀ W, S W → (execOp (ev E) ⟨some t, .binOp .gtr t1 x y t2, ty, pos, af, g⟩).run P W = .ok (.value (.bool q)) W) → PureIf P ops S ⟨some t, .binOp .gtr t1 x y t2, ty, pos, af, g⟩ (.bool q) E)
    (kt : n < m → VH r P ops S R fuel (listed.setIfInBounds i true) (up E t (.bool true)) W) (kf : m ≤ n → VH r P ops S R fuel (listed.setIfInBounds i true) (up E t (.bool false)) W) : VH r P ops S R (fuel + 1) listed E W := by
  by_cases h : n < m
  · exact tk i hi hf hS (hp true fun W _ => rcmp (cGt (decide_eq_true h)) rfl hx hy) (kt h)
  · exact tk i hi hf hS (hp false fun W _ => rcmp (cGt (decide_eq_false h)) rfl hx hy) (kf (by omega))
theorem tkLt {g : Option (Nat × Bool)} (i : Nat) (hi : ops[i]? = some ⟨some t, .binOp .lss t1 x y t2, ty, pos, af, g⟩) (hf : (Region.noSelect ops && Region.free .any ops listed i && (Region.ready .any ops listed).contains i) = true) (hS : S W) (hx : ev E x = .int k m) (hy : ev E y = .int k n)
    (hp : ∀ q, (∀ W, S W → (execOp (ev E) ⟨some t, .binOp .lss t1 x y t2, ty, pos, af, g⟩).run P W = .ok (.value (.bool q)) W) → PureIf P ops S ⟨some t, .binOp .lss t1 x y t2, ty, pos, af, g⟩ (.bool q) E)
    (kt : m < n → VH r P ops S R fuel (listed.setIfInBounds i true) (up E t (.bool true)) W) (kf : n ≤ m → VH r P ops S R fuel (listed.setIfInBounds i true) (up E t (.bool false)) W) : VH r P ops S R (fuel + 1) listed E W := by
  by_cases h : m < n
  · exact tk i hi hf hS (hp true fun W _ => rcmp (cLt (decide_eq_true h)) rfl hx hy) (kt h)
  · exact tk i hi hf hS (hp false fun W _ => rcmp (cLt (decide_eq_false h)) rfl hx hy) (kf (by omega))
theorem tkGe {g : Option (Nat × Bool)} (i : Nat) (hi : ops[i]? = some ⟨some t, .binOp .geq t1 x y t2, ty, pos, af, g⟩) (hf : (Region.noSelect ops && Region.free .any ops listed i && (Region.ready .any ops listed).contains i) = true) (hS : S W) (hx : ev E x = .int k m) (hy : ev E y = .int k n)
    (hp : ∀ q, (∀ W, S W → (execOp (ev E) ⟨some t, .binOp .geq t1 x y t2, ty, pos, af, g⟩).run P W = .ok (.value (.bool q)) W) → PureIf P ops S ⟨some t, .binOp .geq t1 x y t2, ty, pos, af, g⟩ (.bool q) E)
    (kt : n ≤ m → VH r P ops S R fuel (listed.setIfInBounds i true) (up E t (.bool true)) W) (kf : m < n → VH r P ops S R fuel (listed.setIfInBounds i true) (up E t (.bool false)) W) : VH r P ops S R (fuel + 1) listed E W := by
  by_cases h : n ≤ m
  · exact tk i hi hf hS (hp true fun W _ => rcmp (cGe (decide_eq_true h)) rfl hx hy) (kt h)
  · exact tk i hi hf hS (hp false fun W _ => rcmp (cGe (decide_eq_false h)) rfl hx hy) (kf (by omega))
theorem tkLe {g : Option (Nat × Bool)} (i : Nat) (hi : ops[i]? = some ⟨some t, .binOp .leq t1 x y t2, ty, pos, af, g⟩) (hf : (Region.noSelect ops && Region.free .any ops listed i && (Region.ready .any ops listed).contains i) = true) (hS : S W) (hx : ev E x = .int k m) (hy : ev E y = .int k n)
    (hp : ∀ q, (∀ W, S W → (execOp (ev E) ⟨some t, .binOp .leq t1 x y t2, ty, pos, af, g⟩).run P W = .ok (.value (.bool q)) W) → PureIf P ops S ⟨some t, .binOp .leq t1 x y t2, ty, pos, af, g⟩ (.bool q) E)
    (kt : m ≤ n → VH r P ops S R fuel (listed.setIfInBounds i true) (up E t (.bool true)) W) (kf : n < m → VH r P ops S R fuel (listed.setIfInBounds i true) (up E t (.bool false)) W) : VH r P ops S R (fuel + 1) listed E W := by
  by_cases h : m ≤ n
  · exact tk i hi hf hS (hp true fun W _ => rcmp (cLe (decide_eq_true h)) rfl hx hy) (kt h)
  · exact tk i hi hf hS (hp false fun W _ => rcmp (cLe (decide_eq_false h)) rfl hx hy) (kf (by omega))
theorem tkNe {g : Option (Nat × Bool)} (i : Nat) (hi : ops[i]? = some ⟨some t, .binOp .neq t1 x y t2, ty, pos, af, g⟩) (hf : (Region.noSelect ops && Region.free .any ops listed i && (Region.ready .any ops listed).contains i) = true) (hS : S W) (hx : ev E x = .int k m) (hy : ev E y = .int k n)
    (hp : ∀ q, (∀ W, S W → (execOp (ev E) ⟨some t, .binOp .neq t1 x y t2, ty, pos, af, g⟩).run P W = .ok (.value (.bool q)) W) → PureIf P ops S ⟨some t, .binOp .neq t1 x y t2, ty, pos, af, g⟩ (.bool q) E)
    (kt : m ≠ n → VH r P ops S R fuel (listed.setIfInBounds i true) (up E t (.bool true)) W) (kf : m = n → VH r P ops S R fuel (listed.setIfInBounds i true) (up E t (.bool false)) W) : VH r P ops S R (fuel + 1) listed E W := by
  by_cases h : m ≠ n
  · exact tk i hi hf hS (hp true fun W _ => rcmp (cNe (decide_eq_true h)) rfl hx hy) (kt h)
  · exact tk i hi hf hS (hp false fun W _ => rcmp (cNe (decide_eq_false h)) rfl hx hy) (kf (by omega))
end
end Go.Proofs.YtknbjfefeeojlaaGreat
/- What an argument that reads as data is: slices, integers, structs. -/
namespace Go.Proofs.YtknbjfefeeojlaaGreat
open Go.ChangeShapes Go.WideShapes Go.ChangeAt Go.RowKit
attribute [local irreducible] RV VH V OpF Calls
theorem mapM_some {α β : Type} {f : α → Option β} : ∀ {xs : List α} {ys : List β}, xs.mapM f = some ys → All2 (fun x y => f x = some y) xs ys
  | [], ys, h => by simp at h; subst h; trivial
  | x :: xs, ys, h => by
    rw [List.mapM_cons] at h
    cases hx : f x with
    | none => rw [hx] at h; simp at h
    | some y =>
      cases hr : xs.mapM f with
      | none => rw [hx, hr] at h; simp at h
      | some zs =>
        rw [hx, hr] at h
        simp at h
        subst h
        exact ⟨hx, mapM_some hr⟩
theorem range_some {β : Type} {f : Nat → Option β} {n : Nat} {ys : List β} (h : (List.range n).mapM f = some ys) : ys.length = n ∧ ∀ i, i < n → f i = ys[i]? := by
  have h1 := mapM_some h
  have hl := h1.len
  simp at hl
  refine ⟨hl.symm, fun i hi => ?_⟩
  obtain ⟨y, hy, hf⟩ := h1.get (k := i) (x := i) (by simp [hi])
  rw [hf, hy]
section
variable {H : Type} {enc : TypeId × Value → H} {P : Program} {W : World} {t e : TypeId} {s fuel : Nat} {cs : List Value} {x : DataW H × List MemPlace}
theorem open_sl (ht : P.underlying t = some (.slice e)) (hc : P.cellsOf e = s) (hs : 0 < s) (h : DataW.trod enc P W 0 (fun _ => true) true fuel t cs = some x) :
    ∃ a n c fuel' ys qs, cs = [.slice a n c] ∧ RS s TT W a n c qs ∧ All2 (fun q (y : DataW H × List MemPlace) => DataW.trod enc P W 0 (fun _ => true) true fuel' e q = some y) qs ys ∧ ((x.1 = .nil ∧ ys = []) ∨ ∃ rest, x.1 = .slice (ys.map (·.1)) rest) := by
  cases fuel with
  | zero => simp [DataW.trod] at h
  | succ fuel =>
    unfold DataW.trod at h
    rw [ht] at h
    match cs, h with
    | [.slice none 0 0], h =>
      simp at h; subst h
      exact ⟨none, 0, 0, fuel, [], [], rfl, RS.nil _ _ _ _ _ (by omega), trivial, .inl ⟨rfl, rfl⟩⟩
    | [.slice (some ad) len cap], h =>
      simp only at h
      split at h
      · rename_i hb
        obtain ⟨_, hlc, hcm⟩ := hb
        cases he : (List.range len).mapM (fun i => (W.cells? 0 (ad.add (i * P.cellsOf e)) (P.cellsOf e)).bind (DataW.trod enc P W 0 (fun _ => true) true fuel e)) with
        | none => rw [he] at h; simp at h
        | some ys =>
          rw [he] at h
          simp only [Option.bind_some, if_true, Option.map_eq_some_iff] at h
          obtain ⟨rest, _, rfl⟩ := h
          obtain ⟨hl, hg⟩ := range_some he
          have hq : ∀ i, i < len → ∃ q, W.cells? 0 (ad.add (i * s)) s = some q ∧ ∃ y, ys[i]? = some y ∧ DataW.trod enc P W 0 (fun _ => true) true fuel e q = some y := fun i hi => by
            have := hg i hi
            rw [hc] at this
            have hlt : i < ys.length := by omega
            rw [List.getElem?_eq_getElem hlt, Option.bind_eq_some_iff] at this
            obtain ⟨q, h1, h2⟩ := this
            exact ⟨q, h1, _, List.getElem?_eq_getElem hlt, h2⟩
          have hcell : ∀ i q, W.cells? 0 (ad.add (i * s)) s = some q → q.length = s ∧ ∀ j u, q[j]? = some u → W.cell? ((ad.add (i * s)).add j) = some u := fun i q h1 => by
            unfold World.cells? at h1
            rw [if_pos (Nat.zero_le _)] at h1
            obtain ⟨h2, h3⟩ := range_some h1
            refine ⟨h2, fun j u hj => ?_⟩
            rw [h3 j (by have := (List.getElem?_eq_some_iff.1 hj).1; omega), hj]
          refine ⟨some ad, len, cap, fuel, ys, (List.range len).map (fun i => (W.cells? 0 (ad.add (i * s)) s).getD []), rfl, ?_, ?_, .inr ⟨_, rfl⟩⟩
          · refine ⟨by simp, hlc, by unfold maxLen at hcm; omega, ?_, fun hn => ?_⟩
            · intro q hq'
              obtain ⟨i, hi, rfl⟩ := List.mem_map.1 hq'
              obtain ⟨q, h1, _⟩ := hq i (by simpa using hi)
              rw [h1]; exact (hcell i q h1).1
            · obtain ⟨q0, h1, _⟩ := hq 0 hn
              obtain ⟨h2, h3⟩ := hcell 0 q0 h1
              have h4 : 0 < q0.length := by omega
              have h5 := h3 0 _ (List.getElem?_eq_getElem h4)
              rw [add_add] at h5
              have e0 : ad.add (0 * s + 0) = ad := by unfold Addr.add; simp
              rw [e0] at h5
              unfold World.cell? at h5
              cases hh : W.heap[ad.block]? with
              | none => rw [hh] at h5; simp at h5
              | some o =>
                rw [hh] at h5
                cases o with
                | cells c T fz =>
                  obtain ⟨bk, of, sp⟩ := ad
                  cases sp with
                  | some z => simp at h5
                  | none =>
                    refine ⟨bk, of, c, T, fz, rfl, trivial, hh, fun k q hk j u hj => ?_⟩
                    rw [List.getElem?_map] at hk
                    obtain ⟨i, hi, rfl⟩ := Option.map_eq_some_iff.1 hk
                    have hlt : k < len := by have := (List.getElem?_eq_some_iff.1 hi).1; simpa using this
                    rw [List.getElem?_range hlt] at hi
                    obtain rfl : k = i := by injection hi
                    obtain ⟨q, h6, _⟩ := hq k hlt
                    rw [h6] at hj
                    have h7 := (hcell k q h6).2 j u hj
                    rw [add_add, addO] at h7
                    unfold World.cell? at h7
                    rw [hh] at h7
                    simp only [Option.isSome_none, Bool.false_eq_true, if_false] at h7
                    rw [Nat.add_assoc]; exact h7
                | _ => simp at h5
          · have key : ∀ (l : List Nat) (zs : List (DataW H × List MemPlace)), l.length = zs.length → (∀ (k i : Nat), l[k]? = some i → ∃ q, W.cells? 0 (ad.add (i * s)) s = some q ∧ ∃ y, zs[k]? = some y ∧ DataW.trod enc P W 0 (fun _ => true) true fuel e q = some y) →
                All2 (fun q (y : DataW H × List MemPlace) => DataW.trod enc P W 0 (fun _ => true) true fuel e q = some y) (l.map (fun i => (W.cells? 0 (ad.add (i * s)) s).getD [])) zs := by
              intro l
              induction l with
              | nil => intro zs hz _; cases zs with
                | nil => trivial
                | cons _ _ => simp at hz
              | cons i l ih => intro zs hz hk; cases zs with
                | nil => simp at hz
                | cons z zs =>
                  obtain ⟨q, h1, y, h2, h3⟩ := hk 0 i rfl
                  simp at h2; subst h2
                  refine ⟨?_, ih zs (by simpa using hz) fun k i hi => hk (k + 1) i hi⟩
                  show DataW.trod _ _ _ _ _ _ _ _ ((W.cells? 0 (ad.add (i * s)) s).getD []) = _
                  rw [h1]; exact h3
            refine key _ _ (by simp [hl]) fun k i hk => ?_
            have h1 : k < len := by have := (List.getElem?_eq_some_iff.1 hk).1; simpa using this
            rw [List.getElem?_range h1] at hk
            obtain rfl : k = i := by injection hk
            exact hq k h1
      · cases h
theorem All2.ex {α β γ : Type} {p : α → β → Prop} {q : α → γ → Prop} (h : ∀ x y, p x y → ∃ z, q x z) : ∀ {xs : List α} {ys : List β}, All2 p xs ys → ∃ zs, All2 q xs zs
  | [], [], _ => ⟨[], trivial⟩
  | x :: xs, y :: ys, ⟨h1, h2⟩ => by
    obtain ⟨z, hz⟩ := h x y h1
    obtain ⟨zs, hzs⟩ := All2.ex h h2
    exact ⟨z :: zs, hz, hzs⟩
/-- A slice of whole numbers. -/
theorem RN.of_rs {k : IntKind} {a : Option Addr} {n c : Nat} {qs : List (List Value)} {xs : List Int} (h : RS 1 TT W a n c qs) (hq : All2 (fun q z => q = [.int k z] ∧ kb k z) qs xs) : RN k TT W a n c xs := by
  have hl := hq.len
  refine ⟨by rw [← hl]; exact h.len, h.cap, h.max, fun z hz => ?_, fun hn => ?_⟩
  · obtain ⟨i, hi⟩ := List.getElem?_of_mem hz
    have hlt : i < qs.length := by rw [hl]; exact (List.getElem?_eq_some_iff.1 hi).1
    obtain ⟨y, e, _, hk⟩ := hq.get (List.getElem?_eq_getElem hlt)
    rw [hi] at e; cases e; exact hk
  · obtain ⟨b, off, cs, T, fz, e, hs, hb, hc⟩ := h.at_ hn
    refine ⟨b, off, cs, T, fz, e, hs, hb, fun j hj => ?_⟩
    have hlt : j < qs.length := by rw [h.len]; exact hj
    obtain ⟨y, e2, e3, _⟩ := hq.get (List.getElem?_eq_getElem hlt)
    have := hc j _ (List.getElem?_eq_getElem hlt) 0 (.int k y) (by rw [e3]; rfl)
    rw [Nat.mul_one, Nat.add_zero] at this
    rw [this]
    unfold wd
    rw [List.getD_eq_getElem?_getD, Int.toNat_natCast, e2]; rfl
theorem open_num {k : IntKind} (ht : P.underlying t = some (.int k)) (h : DataW.trod enc P W 0 (fun _ => true) true fuel t cs = some x) (hw : ∀ z, (Lit.int k z).wf = true → kb k z) : ∃ z, cs = [.int k z] ∧ kb k z := by
  cases fuel with
  | zero => simp [DataW.trod] at h
  | succ fuel =>
    unfold DataW.trod at h
    rw [ht] at h
    match cs, h with
    | [.int k' z], h =>
      simp only at h
      split at h
      · rename_i hb; obtain ⟨rfl, hz⟩ := hb; exact ⟨z, rfl, hw z hz⟩
      · cases h
theorem open_boo (ht : P.underlying t = some .bool) (h : DataW.trod enc P W 0 (fun _ => true) true fuel t cs = some x) : ∃ b, cs = [.bool b] := by
  cases fuel with
  | zero => simp [DataW.trod] at h
  | succ fuel =>
    unfold DataW.trod at h
    rw [ht] at h
    match cs, h with
    | [.bool b], h => exact ⟨b, rfl⟩
theorem open_st {fs : Array Field} (ht : P.underlying t = some (.struct fs)) (h : DataW.trod enc P W 0 (fun _ => true) true fuel t cs = some x) :
    ∃ fuel' ys, cs.length = P.cellsOf t ∧ All2 (fun (f : Field) (y : DataW H × List MemPlace) => DataW.trod enc P W 0 (fun _ => true) true fuel' f.type ((cs.drop f.offset).take (P.cellsOf f.type)) = some y) fs.toList ys := by
  cases fuel with
  | zero => simp [DataW.trod] at h
  | succ fuel =>
    unfold DataW.trod at h
    rw [ht] at h
    simp only at h
    split at h
    · rename_i hl
      rw [Option.map_eq_some_iff] at h
      obtain ⟨ys, h1, _⟩ := h
      exact ⟨fuel, ys, hl, mapM_some h1⟩
    · cases h
theorem wf_u32 (z : Int) (h : (Lit.int .u32 z).wf = true) : kb .u32 z := by
  have h1 : IntKind.u32.min = 0 := rfl
  have h2 : IntKind.u32.max = 4294967295 := rfl
  simp only [Lit.wf, Bool.and_eq_true, decide_eq_true_eq] at h
  unfold kb; simp only; omega
theorem wf_i64 (z : Int) (h : (Lit.int .i64 z).wf = true) : kb .i64 z := by
  have h1 : IntKind.i64.min = -9223372036854775808 := rfl
  have h2 : IntKind.i64.max = 9223372036854775807 := rfl
  simp only [Lit.wf, Bool.and_eq_true, decide_eq_true_eq] at h
  unfold kb; simp only; omega
/-- A slice of whole numbers that came in. -/
theorem open_RN {k : IntKind} (ht : P.underlying t = some (.slice e)) (hc : P.cellsOf e = 1) (he : P.underlying e = some (.int k)) (hw : ∀ z, (Lit.int k z).wf = true → kb k z) (h : DataW.trod enc P W 0 (fun _ => true) true fuel t cs = some x) :
    ∃ a n c xs, cs = [.slice a n c] ∧ RN k TT W a n c xs ∧ ((x.1 = .nil ∧ xs = []) ∨ ∃ ds rest, x.1 = .slice ds rest ∧ ds.length = xs.length) := by
  obtain ⟨a, n, c, fuel', ys, qs, rfl, h1, h2, h3⟩ := open_sl ht hc (by omega) h
  obtain ⟨xs, h4⟩ := All2.ex (q := fun q z => q = [.int k z] ∧ kb k z) (fun q y hy => open_num he hy hw) h2
  refine ⟨a, n, c, xs, rfl, RN.of_rs h1 h4, ?_⟩
  have e1 := h2.len
  have e2 := h4.len
  rcases h3 with ⟨h5, rfl⟩ | ⟨rest, h5⟩
  · exact .inl ⟨h5, List.eq_nil_of_length_eq_zero (by rw [← e2, e1]; rfl)⟩
  · exact .inr ⟨_, rest, h5, by rw [List.length_map]; omega⟩
theorem two_fields {fs : Array Field} {f0 f1 : Field} (he : fs.toList = [f0, f1]) {R : Field → (DataW H × List MemPlace) → Prop} {ys : List (DataW H × List MemPlace)} (h : All2 R fs.toList ys) : ∃ y0 y1, R f0 y0 ∧ R f1 y1 := by
  rw [he] at h
  match ys, h with
  | [y0, y1], h => exact ⟨y0, y1, h.1, h.2.1⟩
/-- A rational that came in. -/
theorem open_QX {tz ts tu tb : TypeId} {fs fz : Array Field} {f0 f1 g0 g1 : Field} (ht : P.underlying t = some (.struct fs)) (hf : fs.toList = [f0, f1]) (hz : P.underlying tz = some (.struct fz)) (hg : fz.toList = [g0, g1])
    (h0 : f0.type = tz ∧ f0.offset = 0 ∧ f1.type = tz ∧ f1.offset = 2 ∧ g0.type = tb ∧ g0.offset = 0 ∧ g1.type = ts ∧ g1.offset = 1) (hcz : P.cellsOf tz = 2) (hct : P.cellsOf t = 4) (hcb : P.cellsOf tb = 1) (hcs : P.cellsOf ts = 1) (hcu : P.cellsOf tu = 1)
    (hb : P.underlying tb = some .bool) (hs : P.underlying ts = some (.slice tu)) (hu : P.underlying tu = some (.int .u32)) (h : DataW.trod enc P W 0 (fun _ => true) true fuel t cs = some x) : ∃ ρ, QX TT W cs ρ := by
  obtain ⟨a1, a2, a3, a4, a5, a6, a7, a8⟩ := h0
  have hZ : ∀ {fuel : Nat} {cs : List Value} {x : DataW H × List MemPlace}, DataW.trod enc P W 0 (fun _ => true) true fuel tz cs = some x → ∃ n a l c xs, cs = [.bool n, .slice a l c] ∧ RN .u32 TT W a l c xs := by
    intro fuel cs x h
    obtain ⟨fuel', ys, hl, hy⟩ := open_st hz h
    obtain ⟨y0, y1, h1, h2⟩ := two_fields hg hy
    rw [a5, a6, hcb] at h1
    rw [a7, a8, hcs] at h2
    rw [hcz] at hl
    match cs, hl with
    | [u, v], _ =>
      obtain ⟨n, e1⟩ := open_boo hb h1
      obtain ⟨a, l, c, xs, e2, h3, _⟩ := open_RN hs hcu hu wf_u32 h2
      simp at e1 e2
      subst e1 e2
      exact ⟨n, a, l, c, xs, rfl, h3⟩
  obtain ⟨fuel', ys, hl, hy⟩ := open_st ht h
  obtain ⟨y0, y1, h1, h2⟩ := two_fields hf hy
  rw [a1, a2, hcz] at h1
  rw [a3, a4, hcz] at h2
  rw [hct] at hl
  match cs, hl with
  | [u0, u1, u2, u3], _ =>
    obtain ⟨n1, b1, l1, c1, xs, e1, k1⟩ := hZ h1
    obtain ⟨n2, b2, l2, c2, ys', e2, k2⟩ := hZ h2
    simp at e1 e2
    obtain ⟨rfl, rfl⟩ := e1
    obtain ⟨rfl, rfl⟩ := e2
    exact ⟨⟨n1, xs, n2, ys'⟩, _, _, _, _, _, _, rfl, k1, k2⟩
theorem open_GX (ht : P.underlying t = some (.slice e)) (hc : P.cellsOf e = 4) (he : ∀ {fuel : Nat} {cs : List Value} {x : DataW H × List MemPlace}, DataW.trod enc P W 0 (fun _ => true) true fuel e cs = some x → ∃ ρ, QX TT W cs ρ) (h : DataW.trod enc P W 0 (fun _ => true) true fuel t cs = some x) :
    ∃ a n c ρs, cs = [.slice a n c] ∧ GX TT W a n c ρs := by
  obtain ⟨a, n, c, fuel', ys, qs, rfl, h1, h2, h3⟩ := open_sl ht hc (by omega) h
  obtain ⟨ρs, h4⟩ := All2.ex (q := QX TT W) (fun q y hy => he hy) h2
  exact ⟨a, n, c, ρs, rfl, qs, h1, h4⟩
theorem open_MX (ht : P.underlying t = some (.slice e)) (hc : P.cellsOf e = 1) (he : ∀ {fuel : Nat} {cs : List Value} {x : DataW H × List MemPlace}, DataW.trod enc P W 0 (fun _ => true) true fuel e cs = some x → ∃ a n c ρs, cs = [.slice a n c] ∧ GX TT W a n c ρs) (h : DataW.trod enc P W 0 (fun _ => true) true fuel t cs = some x) :
    ∃ a n c ρss, cs = [.slice a n c] ∧ MX TT W a n c ρss := by
  obtain ⟨a, n, c, fuel', ys, qs, rfl, h1, h2, h3⟩ := open_sl ht hc (by omega) h
  obtain ⟨ρs, h4⟩ := All2.ex (q := RowOf GX TT W) (fun q y hy => by obtain ⟨a, n, c, ρs, e1, h5⟩ := he hy; exact ⟨ρs, a, n, c, e1, h5⟩) h2
  exact ⟨a, n, c, ρs, rfl, qs, h1, h4⟩
end
/-! ### In this program -/
section
variable {H : Type} {enc : TypeId × Value → H} {W : World} {fuel : Nat} {cs : List Value} {x : DataW H × List MemPlace}
theorem in_Q (h : DataW.trod enc Tryz.prog W 0 (fun _ => true) true fuel 48 cs = some x) : ∃ ρ, QX TT W cs ρ :=
  open_QX (tz := 46) (tb := 4) (tu := 164) Tryz.underlying48 rfl Tryz.underlying46 rfl ⟨rfl, rfl, rfl, rfl, rfl, rfl, rfl, rfl⟩ (by kernel_rfl) (by kernel_rfl) (by kernel_rfl) (by kernel_rfl) (by kernel_rfl) (by kernel_rfl) (by kernel_rfl) (by kernel_rfl) h
theorem in_GX (h : DataW.trod enc Tryz.prog W 0 (fun _ => true) true fuel 23 cs = some x) : ∃ a n c ρs, cs = [.slice a n c] ∧ GX TT W a n c ρs :=
  open_GX (e := 48) (by kernel_rfl) (by kernel_rfl) in_Q h
theorem in_MX (h : DataW.trod enc Tryz.prog W 0 (fun _ => true) true fuel 22 cs = some x) : ∃ a n c ρss, cs = [.slice a n c] ∧ MX TT W a n c ρss :=
  open_MX (e := 23) (by kernel_rfl) (by kernel_rfl) in_GX h
end
end Go.Proofs.YtknbjfefeeojlaaGreat
/- Packages pylonref04: Cols; pylonlaw01 to pylonlaw04: Long. -/
namespace Go.Proofs.YtknbjfefeeojlaaGreat
open Go.RowKit
attribute [local irreducible] RV VH V OpF Calls

set_option maxHeartbeats 400000 in
theorem rCols_ok (a1 : Option Addr) (n c : Nat) (rss : List (List RawQ)) (S1 : Nat → Prop) (w : World) (hx : MX S1 w a1 n c rss) :
    Calls Tryz.prog 36 #[.slice a1 n c] w (fun e w' => e = .returned (.int .i64 (colsG rss : Int)) ∧ w = w') := by
 have z0 := Ext.refl w; have hLX : LX = 17592186044416 := rfl; have hLY : LY = 8796093022208 := rfl
 have l1 := hx.len; have l2 := hx.max
 refine enter (args := [.slice a1 n c]) Tryz.func36 rfl rfl (Nat.le_of_ble_eq_true rfl) ?_
 refine V.seq (V.reg rfl ?_)
 refine asi rfl ?_
 refine vnil ?_
 refine V.seq (V.reg rfl ?_)
 refine asi rfl ?_
 refine vnil ?_
 refine V.seq ?_
 refine V.seq (V.reg rfl ?_)
 refine asi rfl ?_
 refine vnil ?_
 refine V.block ?_
 refine V.loopK (ι := Nat) [(0, .slice _ _ _)] (fun k => [(4, .int .i64 (k : Int)), (3, .int .i64 (colsG (rss.take k) : Int))]) (fun k W => w = W ∧ k ≤ n) (fun k => n - k) (0) ⟨rfl, trivial⟩ ⟨rfl, rfl, trivial⟩ ⟨rfl, Nat.zero_le _⟩ ?_
 intro k E2 W1 h3
 obtain ⟨rfl, hk⟩ := h3
 refine V.seq ?_
 refine V.seq (V.reg rfl ?_)
 refine mvi rfl ?_
 refine mvs rfl ?_
 refine vv (rlen sl22 rfl) ?_
 refine vlt rfl rfl ?_ ?_
 ·intro c4
  refine vnil ?_
  refine V.condT rfl ?_
  refine V.skip ?_
  refine V.seq ?_
  refine V.block ?_
  refine V.reg rfl ?_
  refine mvi rfl ?_
  refine mvs rfl ?_
  refine mvi rfl ?_
  refine vv (rix sl22 sz23 rfl rfl (by omega) (by omega) (hx.isS (i := 0) (by omega) (by omega))) ?_
  refine vldRow hx rfl sc23 (by omega) (by omega) ?_
  intro a5 n6 c7 hg8
  have hg8l := hg8.len; have hg8m := hg8.max
  refine vv (rlen sl23 rfl) ?_
  have ecs : max ((colsG (rss.take k) : Nat) : Int) ((rowat rss ((k : Int)).toNat).length : Nat) = (colsG (rss.take (k + 1)) : Int) := by rw [colsG_succ rss k (by omega)]; simp; omega
  rw [hg8l] at ecs
  refine vv (rmax rfl rfl ecs) ?_
  refine asi rfl ?_
  refine vnil ?_
  refine V.reg rfl ?_
  refine mvi rfl ?_
  refine vv (rbin (bAdd (wi (by omega))) rfl rfl) ?_
  refine asi rfl ?_
  refine vnil ?_
  refine ⟨rfl, k + 1, ⟨rfl, trivial⟩, ⟨rfl, rfl, trivial⟩, ⟨rfl, by omega⟩, ?_⟩
  show n - (k + 1) < n - k
  omega
 ·intro c4
  refine vnil ?_
  refine V.condF rfl ?_
  refine V.exit ?_
  refine V.seq (V.reg rfl ?_)
  refine mvi rfl ?_
  refine asi rfl ?_
  refine vnil ?_
  refine V.ret ?_
  refine ⟨[.int _ _], ⟨rfl, trivial⟩, ?_⟩
  exact ⟨by rw [List.take_of_length_le (by omega)]; rfl, rfl⟩
set_option maxHeartbeats 400000 in
theorem long1_ok (a : Option Addr) (n c : Nat) (qs : List (List Value)) (S1 : Nat → Prop) (w : World) (h : RS 2 S1 w a n c qs) (hf : ∀ q ∈ qs, form2 q) :
    Calls Tryz.prog 143 #[.slice a n c] w (fun e w' => ∃ q, e = .returned (.bool q) ∧ w = w') := by
 have z0 := Ext.refl w; have hLX : LX = 17592186044416 := rfl; have hLY : LY = 8796093022208 := rfl
 have l1 := h.len; have l2 := h.cap; have l3 := h.max
 refine enter (args := [.slice a n c]) Tryz.func143 rfl rfl (Nat.le_of_ble_eq_true rfl) ?_
 refine V.seq (V.reg rfl ?_)
 refine asb rfl ?_
 refine vnil ?_
 refine V.seq ?_
 refine V.seq (V.reg rfl ?_)
 refine asi rfl ?_
 refine vnil ?_
 refine V.block ?_
 refine V.loopK (ι := Nat) [(0, .slice _ _ _)] (fun k => [(3, .int .i64 (k : Int))]) (fun k W => w = W ∧ k ≤ n) (fun k => n - k) (0) ⟨rfl, trivial⟩ ⟨rfl, trivial⟩ ⟨rfl, Nat.zero_le _⟩ ?_
 intro k E2 W1 h3
 obtain ⟨rfl, hk⟩ := h3
 refine V.seq ?_
 refine V.seq (V.reg rfl ?_)
 refine mvi rfl ?_
 refine mvs rfl ?_
 refine vv (rlen sl176 rfl) ?_
 refine vlt rfl rfl ?_ ?_
 ·intro c4
  obtain ⟨eq0, hq1, hq2, hce⟩ := h.el (i := (k : Int)) (by omega) (by omega); obtain ⟨ex0, ea0, el0, ec0, rfl⟩ := hf _ (List.mem_of_getElem? hq1)
  have ce0 : CE w _ _ := hce
  refine vnil ?_
  refine V.condT rfl ?_
  refine V.skip ?_
  refine V.seq ?_
  refine V.block ?_
  refine V.seq (V.reg rfl ?_)
  refine mvs rfl ?_
  refine mvi rfl ?_
  refine vv (rix sl176 sz46 rfl rfl (by omega) (by omega) (h.isS (i := 0) (by omega) (by omega))) ?_
  refine vv (rfaG rfl fd46_1) ?_
  refine vv (rld1 (v := .slice _ _ _) rfl sc44 (ce0 1 _ rfl)) ?_
  refine vv (rlen sl44 rfl) ?_
  refine vgt rfl rfl ?_ ?_
  ·intro c5
   refine vnil ?_
   refine V.condT rfl ?_
   refine V.seq (V.reg rfl ?_)
   refine asb rfl ?_
   refine vnil ?_
   refine V.ret ?_
   refine ⟨[.bool true], ⟨rfl, trivial⟩, ?_⟩
   exact ⟨_, rfl, rfl⟩
  ·intro c5
   refine vnil ?_
   refine V.condF rfl ?_
   refine V.skip ?_
   refine V.reg rfl ?_
   refine mvi rfl ?_
   refine vv (rbin (bAdd (wi (by omega))) rfl rfl) ?_
   refine asi rfl ?_
   refine vnil ?_
   refine ⟨rfl, k + 1, ⟨rfl, trivial⟩, ⟨rfl, trivial⟩, ⟨rfl, by omega⟩, ?_⟩
   show n - (k + 1) < n - k
   omega
 ·intro c4
  refine vnil ?_
  refine V.condF rfl ?_
  refine V.exit ?_
  refine V.seq (V.reg rfl ?_)
  refine asb rfl ?_
  refine vnil ?_
  refine V.ret ?_
  refine ⟨[.bool false], ⟨rfl, trivial⟩, ?_⟩
  exact ⟨_, rfl, rfl⟩
set_option maxHeartbeats 400000 in
theorem long2_ok (a1 : Option Addr) (n c : Nat) (ρs : List RawQ) (S1 : Nat → Prop) (w : World) (hx : GX S1 w a1 n c ρs) :
    Calls Tryz.prog 69 #[.slice a1 n c] w (fun e w' => ∃ q, e = .returned (.bool q) ∧ Ext w w' ∧ (q = false → smallV ρs)) := by
 have z0 := Ext.refl w; have hLX : LX = 17592186044416 := rfl; have hLY : LY = 8796093022208 := rfl
 have l1 := hx.len; have l2 := hx.max
 refine enter (args := [.slice a1 n c]) Tryz.func69 rfl rfl (Nat.le_of_ble_eq_true rfl) ?_
 refine V.seq (V.reg rfl ?_)
 refine asb rfl ?_
 refine vnil ?_
 refine V.seq ?_
 refine V.seq (V.reg rfl ?_)
 refine asi rfl ?_
 refine vnil ?_
 refine V.block ?_
 refine V.loopK (ι := Nat) [(0, .slice _ _ _)] (fun k => [(3, .int .i64 (k : Int))]) (fun k W => Ext w W ∧ k ≤ n ∧ ∀ i, i < k → szQ 6 (xat ρs i)) (fun k => n - k) (0) ⟨rfl, trivial⟩ ⟨rfl, trivial⟩ ⟨Ext.refl _, Nat.zero_le _, fun i hi => absurd hi (Nat.not_lt_zero _)⟩ ?_
 intro k E2 W1 h3
 obtain ⟨x4, hk, hs⟩ := h3
 have s5 := x4.sz
 have z6 := x4
 refine V.seq ?_
 refine V.seq (V.reg rfl ?_)
 refine mvi rfl ?_
 refine mvs rfl ?_
 refine vv (rlen sl23 rfl) ?_
 refine vlt rfl rfl ?_ ?_
 ·intro c7
  obtain ⟨en0, ea0, el0, ec0, em0, eb0, ek0, ed0, hq0, hc0⟩ := (hx.ext z6).el (i := (k : Int)) (by omega) (by omega)
  have ce0 : CE W1 _ _ := hc0
  obtain ⟨hz1, hz2, hz3, hz4⟩ := hq0.two; have hzl := hz2.len; have hzm := hz4.len
  refine vnil ?_
  refine V.condT rfl ?_
  refine V.skip ?_
  refine V.seq ?_
  refine V.block ?_
  refine V.seq (V.regD mixed rfl ?_)
  intro W8 x9
  have s10 := x9.sz
  have z11 := z6.trans x9
  have q12 := Ext.refl W8
  refine tk 0 rfl (by kernel_rfl) q12 (pv (fun _ y13 => rmv (v := .slice _ _ _) rfl)) ?_
  refine tk 1 rfl (by kernel_rfl) q12 (pv (fun _ y14 => rmv (v := .int _ _) rfl)) ?_
  refine tk 2 rfl (by kernel_rfl) q12 (pv (fun _ y15 => rix sl23 sz48 rfl rfl (by omega) (by omega) (((hx.ext z11).ext y15).isS (i := 0) (by omega) (by omega)))) ?_
  refine tk 3 rfl (by kernel_rfl) q12 (pv (fun _ y16 => rfaG rfl fd48_0)) ?_
  refine tk 4 rfl (by kernel_rfl) q12 (pv (fun _ y17 => rldn (l := [.bool _, .slice _ _ _]) rfl ag46 rfl (((ce0.ext x9).ext y17).part (l' := [.bool _, .slice _ _ _]) 0 rfl))) ?_
  refine tk 5 rfl (by kernel_rfl) q12 (pv (fun _ y18 => rmv (v := .slice _ _ _) rfl)) ?_
  refine tk 6 rfl (by kernel_rfl) q12 (pv (fun _ y19 => rmv (v := .int _ _) rfl)) ?_
  refine tk 7 rfl (by kernel_rfl) q12 (pv (fun _ y20 => rix sl23 sz48 rfl rfl (by omega) (by omega) (((hx.ext z11).ext y20).isS (i := 0) (by omega) (by omega)))) ?_
  refine tk 8 rfl (by kernel_rfl) q12 (pv (fun _ y21 => rfaG rfl fd48_1)) ?_
  refine tk 9 rfl (by kernel_rfl) q12 (pv (fun _ y22 => rldn (l := [.bool _, .slice _ _ _]) rfl ag46 rfl (((ce0.ext x9).ext y22).part (l' := [.bool _, .slice _ _ _]) 2 rfl))) ?_
  refine ef 10 (by kernel_rfl) rfl ?_
  refine xbs (ps := [(0, .agg #[_, _]), (1, .agg #[_, _])]) (cs := [.bool _, .slice _ _ _, .bool _, .slice _ _ _]) sl176 zr46 sz46 rfl rfl rfl rfl rfl rfl ?_
  intro W23 x24 b25 nn26
  have s27 := x24.sz
  have z28 := z11.trans x24
  have q29 := q12.trans x24
  refine ⟨fun _ => q29, ?_⟩
  refine ef 11 (by kernel_rfl) rfl ?_
  have hls := RS.lit (s := 2) (S := TT) (n := 2) [[.bool _, .slice _ _ _], [.bool _, .slice _ _ _]] b25 rfl (by simp) trivial rfl (by omega)
  refine xcall e143 (long1_ok _ _ _ _ _ _ hls (by intro q hq; simp at hq; rcases hq with rfl | rfl <;> exact ⟨_, _, _, _, rfl⟩)) rfl rfl ?_
  rintro _ _ ⟨bb1, rfl, rfl⟩
  refine ⟨_, rfl, ?_⟩
  cases bb1
  ·skip
   refine ⟨fun _ => q29, ?_⟩
   refine tk 12 rfl (by kernel_rfl) q29 (pv (fun _ y30 => rmv (v := .bool false) rfl)) ?_
   refine tk 13 rfl (by kernel_rfl) q29 (pg rfl (fun _ y31 => rmv (v := .slice _ _ _) rfl)) ?_
   refine tk 14 rfl (by kernel_rfl) q29 (pg rfl (fun _ y32 => rmv (v := .int _ _) rfl)) ?_
   refine tk 15 rfl (by kernel_rfl) q29 (pg rfl (fun _ y33 => rix sl23 sz48 rfl rfl (by omega) (by omega) (((hx.ext z11).ext y33).isS (i := 0) (by omega) (by omega)))) ?_
   refine tk 16 rfl (by kernel_rfl) q29 (pg rfl (fun _ y34 => rfaG rfl fd48_0)) ?_
   refine tk 17 rfl (by kernel_rfl) q29 (pg rfl (fun _ y35 => rfaG rfl fd46_1)) ?_
   refine tk 18 rfl (by kernel_rfl) q29 (pg rfl (fun _ y36 => rld1 (v := .slice _ _ _) rfl sc44 ((((ce0.ext x9).ext y36).part (l' := [.bool _, .slice _ _ _]) 0 rfl) 1 _ rfl))) ?_
   refine tk 19 rfl (by kernel_rfl) q29 (pg rfl (fun _ y37 => rlen sl44 rfl)) ?_
   refine tkGt 20 rfl (by kernel_rfl) q29 rfl rfl (fun _ h => pg rfl h) ?_ ?_
   ·intro c39
    refine tk 21 rfl (by kernel_rfl) q29 (pv (fun _ y40 => rpk (v := .bool true) rfl rfl)) ?_
    refine tk 22 rfl (by kernel_rfl) q29 (pv (fun _ y41 => rmv (v := .bool true) rfl)) ?_
    refine tk 23 rfl (by kernel_rfl) q29 (pgn (b := true) rfl rfl) ?_
    refine tk 24 rfl (by kernel_rfl) q29 (pgn (b := true) rfl rfl) ?_
    refine tk 25 rfl (by kernel_rfl) q29 (pgn (b := true) rfl rfl) ?_
    refine tk 26 rfl (by kernel_rfl) q29 (pgn (b := true) rfl rfl) ?_
    refine tk 27 rfl (by kernel_rfl) q29 (pgn (b := true) rfl rfl) ?_
    refine tk 28 rfl (by kernel_rfl) q29 (pgn (b := true) rfl rfl) ?_
    refine tk 29 rfl (by kernel_rfl) q29 (pgn (b := true) rfl rfl) ?_
    refine tk 30 rfl (by kernel_rfl) q29 (pgn (b := true) rfl rfl) ?_
    refine tk 31 rfl (by kernel_rfl) q29 (pv (fun _ y42 => rpk (v := .bool true) rfl rfl)) ?_
    refine dn (by kernel_rfl) ?_
    refine V.condT rfl ?_
    refine V.seq (V.reg rfl ?_)
    refine asb rfl ?_
    refine vnil ?_
    refine V.ret ?_
    refine ⟨[.bool true], ⟨rfl, trivial⟩, ?_⟩
    exact ⟨_, rfl, z28, fun h => (by cases h)⟩
   ·intro c39
    refine tk 21 rfl (by kernel_rfl) q29 (pv (fun _ y43 => rpk (v := .bool false) rfl rfl)) ?_
    refine tk 22 rfl (by kernel_rfl) q29 (pv (fun _ y44 => rmv (v := .bool false) rfl)) ?_
    refine tk 23 rfl (by kernel_rfl) q29 (pg rfl (fun _ y45 => rmv (v := .slice _ _ _) rfl)) ?_
    refine tk 24 rfl (by kernel_rfl) q29 (pg rfl (fun _ y46 => rmv (v := .int _ _) rfl)) ?_
    refine tk 25 rfl (by kernel_rfl) q29 (pg rfl (fun _ y47 => rix sl23 sz48 rfl rfl (by omega) (by omega) (((hx.ext z11).ext y47).isS (i := 0) (by omega) (by omega)))) ?_
    refine tk 26 rfl (by kernel_rfl) q29 (pg rfl (fun _ y48 => rfaG rfl fd48_1)) ?_
    refine tk 27 rfl (by kernel_rfl) q29 (pg rfl (fun _ y49 => rfaG rfl fd46_1)) ?_
    refine tk 28 rfl (by kernel_rfl) q29 (pg rfl (fun _ y50 => rld1 (v := .slice _ _ _) rfl sc44 ((((ce0.ext x9).ext y50).part (l' := [.bool _, .slice _ _ _]) 2 rfl) 1 _ rfl))) ?_
    refine tk 29 rfl (by kernel_rfl) q29 (pg rfl (fun _ y51 => rlen sl44 rfl)) ?_
    refine tkGt 30 rfl (by kernel_rfl) q29 rfl rfl (fun _ h => pg rfl h) ?_ ?_
    ·intro c53
     refine tk 31 rfl (by kernel_rfl) q29 (pv (fun _ y54 => rpk (v := .bool true) rfl rfl)) ?_
     refine dn (by kernel_rfl) ?_
     refine V.condT rfl ?_
     refine V.seq (V.reg rfl ?_)
     refine asb rfl ?_
     refine vnil ?_
     refine V.ret ?_
     refine ⟨[.bool true], ⟨rfl, trivial⟩, ?_⟩
     exact ⟨_, rfl, z28, fun h => (by cases h)⟩
    ·intro c53
     refine tk 31 rfl (by kernel_rfl) q29 (pv (fun _ y55 => rpk (v := .bool false) rfl rfl)) ?_
     refine dn (by kernel_rfl) ?_
     refine V.condF rfl ?_
     refine V.skip ?_
     refine V.reg rfl ?_
     refine mvi rfl ?_
     refine vv (rbin (bAdd (wi (by omega))) rfl rfl) ?_
     refine asi rfl ?_
     refine vnil ?_
     refine ⟨rfl, k + 1, ⟨rfl, trivial⟩, ⟨rfl, trivial⟩, ⟨z28, by omega, fun i hi => by rcases Nat.lt_succ_iff_lt_or_eq.1 hi with h | rfl; exact hs i h; exact ⟨by rw [show i = ((i : Int)).toNat by omega]; omega, by rw [show i = ((i : Int)).toNat by omega]; omega⟩⟩, ?_⟩
     show n - (k + 1) < n - k
     omega
  ·skip
   refine ⟨fun _ => q29, ?_⟩
   refine tk 12 rfl (by kernel_rfl) q29 (pv (fun _ y56 => rmv (v := .bool true) rfl)) ?_
   refine tk 13 rfl (by kernel_rfl) q29 (pgn (b := true) rfl rfl) ?_
   refine tk 14 rfl (by kernel_rfl) q29 (pgn (b := true) rfl rfl) ?_
   refine tk 15 rfl (by kernel_rfl) q29 (pgn (b := true) rfl rfl) ?_
   refine tk 16 rfl (by kernel_rfl) q29 (pgn (b := true) rfl rfl) ?_
   refine tk 17 rfl (by kernel_rfl) q29 (pgn (b := true) rfl rfl) ?_
   refine tk 18 rfl (by kernel_rfl) q29 (pgn (b := true) rfl rfl) ?_
   refine tk 19 rfl (by kernel_rfl) q29 (pgn (b := true) rfl rfl) ?_
   refine tk 20 rfl (by kernel_rfl) q29 (pgn (b := true) rfl rfl) ?_
   refine tk 21 rfl (by kernel_rfl) q29 (pv (fun _ y57 => rpk (v := .bool true) rfl rfl)) ?_
   refine tk 22 rfl (by kernel_rfl) q29 (pv (fun _ y58 => rmv (v := .bool true) rfl)) ?_
   refine tk 23 rfl (by kernel_rfl) q29 (pgn (b := true) rfl rfl) ?_
   refine tk 24 rfl (by kernel_rfl) q29 (pgn (b := true) rfl rfl) ?_
   refine tk 25 rfl (by kernel_rfl) q29 (pgn (b := true) rfl rfl) ?_
   refine tk 26 rfl (by kernel_rfl) q29 (pgn (b := true) rfl rfl) ?_
   refine tk 27 rfl (by kernel_rfl) q29 (pgn (b := true) rfl rfl) ?_
   refine tk 28 rfl (by kernel_rfl) q29 (pgn (b := true) rfl rfl) ?_
   refine tk 29 rfl (by kernel_rfl) q29 (pgn (b := true) rfl rfl) ?_
   refine tk 30 rfl (by kernel_rfl) q29 (pgn (b := true) rfl rfl) ?_
   refine tk 31 rfl (by kernel_rfl) q29 (pv (fun _ y59 => rpk (v := .bool true) rfl rfl)) ?_
   refine dn (by kernel_rfl) ?_
   refine V.condT rfl ?_
   refine V.seq (V.reg rfl ?_)
   refine asb rfl ?_
   refine vnil ?_
   refine V.ret ?_
   refine ⟨[.bool true], ⟨rfl, trivial⟩, ?_⟩
   exact ⟨_, rfl, z28, fun h => (by cases h)⟩
 ·intro c7
  refine vnil ?_
  refine V.condF rfl ?_
  refine V.exit ?_
  refine V.seq (V.reg rfl ?_)
  refine asb rfl ?_
  refine vnil ?_
  refine V.ret ?_
  refine ⟨[.bool false], ⟨rfl, trivial⟩, ?_⟩
  exact ⟨_, rfl, z6, fun _ => forall_lt rz (n := k) (by omega) hs⟩
set_option maxHeartbeats 400000 in
theorem long3_ok (a1 : Option Addr) (n c : Nat) (rss : List (List RawQ)) (S1 : Nat → Prop) (w : World) (hx : MX S1 w a1 n c rss) :
    Calls Tryz.prog 14 #[.slice a1 n c] w (fun e w' => ∃ q, e = .returned (.bool q) ∧ Ext w w' ∧ (q = false → ∀ r ∈ rss, r.length ≤ 20 ∧ smallV r)) := by
 have z0 := Ext.refl w; have hLX : LX = 17592186044416 := rfl; have hLY : LY = 8796093022208 := rfl
 have l1 := hx.len; have l2 := hx.max
 refine enter (args := [.slice a1 n c]) Tryz.func14 rfl rfl (Nat.le_of_ble_eq_true rfl) ?_
 refine V.seq (V.reg rfl ?_)
 refine asb rfl ?_
 refine vnil ?_
 refine V.seq ?_
 refine V.seq (V.reg rfl ?_)
 refine asi rfl ?_
 refine vnil ?_
 refine V.block ?_
 refine V.loopK (ι := Nat) [(0, .slice _ _ _)] (fun k => [(3, .int .i64 (k : Int))]) (fun k W => Ext w W ∧ k ≤ n ∧ ∀ i, i < k → (rowat rss i).length ≤ 20 ∧ smallV (rowat rss i)) (fun k => n - k) (0) ⟨rfl, trivial⟩ ⟨rfl, trivial⟩ ⟨Ext.refl _, Nat.zero_le _, fun i hi => absurd hi (Nat.not_lt_zero _)⟩ ?_
 intro k E2 W1 h3
 obtain ⟨x4, hk, hs⟩ := h3
 have s5 := x4.sz
 have z6 := x4
 refine V.seq ?_
 refine V.seq (V.reg rfl ?_)
 refine mvi rfl ?_
 refine mvs rfl ?_
 refine vv (rlen sl22 rfl) ?_
 refine vlt rfl rfl ?_ ?_
 ·intro c7
  refine vnil ?_
  refine V.condT rfl ?_
  refine V.skip ?_
  refine V.seq ?_
  refine V.block ?_
  refine V.seq (V.reg rfl ?_)
  refine mvs rfl ?_
  refine mvi rfl ?_
  refine vv (rix sl22 sz23 rfl rfl (by omega) (by omega) ((hx.ext z6).isS (i := 0) (by omega) (by omega))) ?_
  refine vldRow (hx.ext z6) rfl sc23 (by omega) (by omega) ?_
  intro a8 n9 c10 hg11
  have hg11l := hg11.len; have hg11m := hg11.max
  refine vv (rlen sl23 rfl) ?_
  refine vgt rfl rfl ?_ ?_
  ·intro c12
   refine mvb rfl ?_
   refine vgn (b := true) rfl rfl ?_
   refine vgn (b := true) rfl rfl ?_
   refine vgn (b := true) rfl rfl ?_
   refine vgn (b := true) rfl rfl ?_
   refine vgn (b := true) rfl rfl ?_
   refine vv (rpk (v := .bool true) rfl rfl) ?_
   refine vnil ?_
   refine V.condT rfl ?_
   refine V.seq (V.reg rfl ?_)
   refine asb rfl ?_
   refine vnil ?_
   refine V.ret ?_
   refine ⟨[.bool true], ⟨rfl, trivial⟩, ?_⟩
   exact ⟨_, rfl, z6, fun h => (by cases h)⟩
  ·intro c12
   refine mvb rfl ?_
   refine vg rfl ?_
   refine mvs rfl ?_
   refine vg rfl ?_
   refine mvi rfl ?_
   refine vg rfl ?_
   refine vv (rix sl22 sz23 rfl rfl (by omega) (by omega) ((hx.ext z6).isS (i := 0) (by omega) (by omega))) ?_
   refine vg rfl ?_
   refine vldRow (hx.ext z6) rfl sc23 (by omega) (by omega) ?_
   intro a13 n14 c15 hg16
   have hg16l := hg16.len; have hg16m := hg16.max
   refine vg rfl ?_
   refine vo ?_
   refine xcall e69 (long2_ok _ _ _ _ _ _ hg16) rfl rfl ?_
   rintro _ Wb1 ⟨bb1, rfl, xb1, hb1⟩
   refine ⟨_, rfl, ?_⟩
   cases bb1
   ·skip
    have s17 := xb1.sz
    have z18 := z6.trans xb1
    refine vv (rpk (v := .bool false) rfl rfl) ?_
    refine vnil ?_
    refine V.condF rfl ?_
    refine V.skip ?_
    refine V.reg rfl ?_
    refine mvi rfl ?_
    refine vv (rbin (bAdd (wi (by omega))) rfl rfl) ?_
    refine asi rfl ?_
    refine vnil ?_
    refine ⟨rfl, k + 1, ⟨rfl, trivial⟩, ⟨rfl, trivial⟩, ⟨z18, by omega, fun i hi => by rcases Nat.lt_succ_iff_lt_or_eq.1 hi with h | rfl; exact hs i h; exact ⟨by rw [show i = ((i : Int)).toNat by omega]; omega, hb1 rfl⟩⟩, ?_⟩
    show n - (k + 1) < n - k
    omega
   ·skip
    have s19 := xb1.sz
    have z20 := z6.trans xb1
    refine vv (rpk (v := .bool true) rfl rfl) ?_
    refine vnil ?_
    refine V.condT rfl ?_
    refine V.seq (V.reg rfl ?_)
    refine asb rfl ?_
    refine vnil ?_
    refine V.ret ?_
    refine ⟨[.bool true], ⟨rfl, trivial⟩, ?_⟩
    exact ⟨_, rfl, z20, fun h => (by cases h)⟩
 ·intro c7
  refine vnil ?_
  refine V.condF rfl ?_
  refine V.exit ?_
  refine V.seq (V.reg rfl ?_)
  refine asb rfl ?_
  refine vnil ?_
  refine V.ret ?_
  refine ⟨[.bool false], ⟨rfl, trivial⟩, ?_⟩
  exact ⟨_, rfl, z6, fun _ => forall_lt [] (n := k) (by omega) hs⟩
set_option maxHeartbeats 400000 in
theorem long4_ok (a1 : Option Addr) (n c : Nat) (ms : List (List (List RawQ))) (S1 : Nat → Prop) (w : World) (hx : MXX S1 w a1 n c ms) :
    Calls Tryz.prog 32 #[.slice a1 n c] w (fun e w' => ∃ q, e = .returned (.bool q) ∧ Ext w w' ∧ (q = false → ∀ m ∈ ms, smallM m)) := by
 have z0 := Ext.refl w; have hLX : LX = 17592186044416 := rfl; have hLY : LY = 8796093022208 := rfl
 have l1 := hx.len; have l2 := hx.max
 refine enter (args := [.slice a1 n c]) Tryz.func32 rfl rfl (Nat.le_of_ble_eq_true rfl) ?_
 refine V.seq (V.reg rfl ?_)
 refine asb rfl ?_
 refine vnil ?_
 refine V.seq ?_
 refine V.seq (V.reg rfl ?_)
 refine asi rfl ?_
 refine vnil ?_
 refine V.block ?_
 refine V.loopK (ι := Nat) [(0, .slice _ _ _)] (fun k => [(3, .int .i64 (k : Int))]) (fun k W => Ext w W ∧ k ≤ n ∧ ∀ i, i < k → smallM (rowat ms i)) (fun k => n - k) (0) ⟨rfl, trivial⟩ ⟨rfl, trivial⟩ ⟨Ext.refl _, Nat.zero_le _, fun i hi => absurd hi (Nat.not_lt_zero _)⟩ ?_
 intro k E2 W1 h3
 obtain ⟨x4, hk, hs⟩ := h3
 have s5 := x4.sz
 have z6 := x4
 refine V.seq ?_
 refine V.seq (V.reg rfl ?_)
 refine mvi rfl ?_
 refine mvs rfl ?_
 refine vv (rlen sl115 rfl) ?_
 refine vlt rfl rfl ?_ ?_
 ·intro c7
  refine vnil ?_
  refine V.condT rfl ?_
  refine V.skip ?_
  refine V.seq ?_
  refine V.block ?_
  refine V.seq (V.reg rfl ?_)
  refine mvs rfl ?_
  refine mvi rfl ?_
  refine vv (rix sl115 sz22 rfl rfl (by omega) (by omega) ((hx.ext z6).isS (i := 0) (by omega) (by omega))) ?_
  refine vldRow (hx.ext z6) rfl sc22 (by omega) (by omega) ?_
  intro a8 n9 c10 hg11
  have hg11l := hg11.len; have hg11m := hg11.max
  refine vv (rlen sl22 rfl) ?_
  refine vgt rfl rfl ?_ ?_
  ·intro c12
   refine mvb rfl ?_
   refine vgn (b := true) rfl rfl ?_
   refine vgn (b := true) rfl rfl ?_
   refine vgn (b := true) rfl rfl ?_
   refine vgn (b := true) rfl rfl ?_
   refine vgn (b := true) rfl rfl ?_
   refine vgn (b := true) rfl rfl ?_
   refine vv (rpk (v := .bool true) rfl rfl) ?_
   refine mvb rfl ?_
   refine vgn (b := true) rfl rfl ?_
   refine vgn (b := true) rfl rfl ?_
   refine vgn (b := true) rfl rfl ?_
   refine vgn (b := true) rfl rfl ?_
   refine vgn (b := true) rfl rfl ?_
   refine vv (rpk (v := .bool true) rfl rfl) ?_
   refine vnil ?_
   refine V.condT rfl ?_
   refine V.seq (V.reg rfl ?_)
   refine asb rfl ?_
   refine vnil ?_
   refine V.ret ?_
   refine ⟨[.bool true], ⟨rfl, trivial⟩, ?_⟩
   exact ⟨_, rfl, z6, fun h => (by cases h)⟩
  ·intro c12
   refine mvb rfl ?_
   refine vg rfl ?_
   refine mvs rfl ?_
   refine vg rfl ?_
   refine mvi rfl ?_
   refine vg rfl ?_
   refine vv (rix sl115 sz22 rfl rfl (by omega) (by omega) ((hx.ext z6).isS (i := 0) (by omega) (by omega))) ?_
   refine vg rfl ?_
   refine vldRow (hx.ext z6) rfl sc22 (by omega) (by omega) ?_
   intro a13 n14 c15 hg16
   have hg16l := hg16.len; have hg16m := hg16.max
   refine vg rfl ?_
   refine vo ?_
   refine xcall e36 (rCols_ok _ _ _ _ _ _ hg16) rfl rfl ?_
   rintro _ _ ⟨rfl, rfl⟩
   refine ⟨_, rfl, ?_⟩
   refine vg rfl ?_
   refine vgt rfl rfl ?_ ?_
   ·intro c18
    refine vv (rpk (v := .bool true) rfl rfl) ?_
    refine mvb rfl ?_
    refine vgn (b := true) rfl rfl ?_
    refine vgn (b := true) rfl rfl ?_
    refine vgn (b := true) rfl rfl ?_
    refine vgn (b := true) rfl rfl ?_
    refine vgn (b := true) rfl rfl ?_
    refine vv (rpk (v := .bool true) rfl rfl) ?_
    refine vnil ?_
    refine V.condT rfl ?_
    refine V.seq (V.reg rfl ?_)
    refine asb rfl ?_
    refine vnil ?_
    refine V.ret ?_
    refine ⟨[.bool true], ⟨rfl, trivial⟩, ?_⟩
    exact ⟨_, rfl, z6, fun h => (by cases h)⟩
   ·intro c18
    refine vv (rpk (v := .bool false) rfl rfl) ?_
    refine mvb rfl ?_
    refine vg rfl ?_
    refine mvs rfl ?_
    refine vg rfl ?_
    refine mvi rfl ?_
    refine vg rfl ?_
    refine vv (rix sl115 sz22 rfl rfl (by omega) (by omega) ((hx.ext z6).isS (i := 0) (by omega) (by omega))) ?_
    refine vg rfl ?_
    refine vldRow (hx.ext z6) rfl sc22 (by omega) (by omega) ?_
    intro a19 n20 c21 hg22
    have hg22l := hg22.len; have hg22m := hg22.max
    refine vg rfl ?_
    refine vo ?_
    refine xcall e14 (long3_ok _ _ _ _ _ _ hg22) rfl rfl ?_
    rintro _ Wb1 ⟨bb1, rfl, xb1, hb1⟩
    refine ⟨_, rfl, ?_⟩
    cases bb1
    ·skip
     have s23 := xb1.sz
     have z24 := z6.trans xb1
     refine vv (rpk (v := .bool false) rfl rfl) ?_
     refine vnil ?_
     refine V.condF rfl ?_
     refine V.skip ?_
     refine V.reg rfl ?_
     refine mvi rfl ?_
     refine vv (rbin (bAdd (wi (by omega))) rfl rfl) ?_
     refine asi rfl ?_
     refine vnil ?_
     refine ⟨rfl, k + 1, ⟨rfl, trivial⟩, ⟨rfl, trivial⟩, ⟨z24, by omega, fun i hi => by rcases Nat.lt_succ_iff_lt_or_eq.1 hi with h | rfl; exact hs i h; exact ⟨by rw [show i = ((i : Int)).toNat by omega]; omega, by rw [show i = ((i : Int)).toNat by omega]; omega, hb1 rfl⟩⟩, ?_⟩
     show n - (k + 1) < n - k
     omega
    ·skip
     have s25 := xb1.sz
     have z26 := z6.trans xb1
     refine vv (rpk (v := .bool true) rfl rfl) ?_
     refine vnil ?_
     refine V.condT rfl ?_
     refine V.seq (V.reg rfl ?_)
     refine asb rfl ?_
     refine vnil ?_
     refine V.ret ?_
     refine ⟨[.bool true], ⟨rfl, trivial⟩, ?_⟩
     exact ⟨_, rfl, z26, fun h => (by cases h)⟩
 ·intro c7
  refine vnil ?_
  refine V.condF rfl ?_
  refine V.exit ?_
  refine V.seq (V.reg rfl ?_)
  refine asb rfl ?_
  refine vnil ?_
  refine V.ret ?_
  refine ⟨[.bool false], ⟨rfl, trivial⟩, ?_⟩
  exact ⟨_, rfl, z6, fun _ => forall_lt [] (n := k) (by omega) hs⟩
end Go.Proofs.YtknbjfefeeojlaaGreat
/- Packages pylonref02: Sub Cmp; pylonref03: At Lex Unit; pylonref04: At row Same. -/
namespace Go.Proofs.YtknbjfefeeojlaaGreat
open Go.RowKit
attribute [local irreducible] RV VH V OpF Calls
theorem QA.cast {L : Nat} {S : Nat → Prop} {W : World} {q : List Value} {r r' : Rat} (h : QA L S W q r) (e : r = r') : QA L S W q r' := e ▸ h
end Go.Proofs.YtknbjfefeeojlaaGreat
/- Packages pylonref03: Unit; pylonref04: cut place made Fit Turn Unit. -/
namespace Go.Proofs.YtknbjfefeeojlaaGreat
open Go.RowKit
attribute [local irreducible] RV VH V OpF Calls
theorem szOne' : sz 1 ((1 : Int) : Rat) := by constructor <;> decide
theorem GO.lt {ρt : Type} {El : (Nat → Prop) → World → List Value → ρt → Prop} {S : Nat → Prop} {s B : Nat} {W : World} {e : TypeId} {v : Value} {rs : List ρt} (h : GO s El S B W e v rs) : ∀ b, W.heap.size ≤ b → v.ownBlock ≠ some b := fun b hb e => by
  obtain ⟨qs, h1, _⟩ := h
  have := (h1.low b e).2; omega

end Go.Proofs.YtknbjfefeeojlaaGreat
/- Packages pylonlaw01 to pylonlaw04: Own. -/
namespace Go.Proofs.YtknbjfefeeojlaaGreat
open Go.RowKit
attribute [local irreducible] RV VH V OpF Calls
theorem QX.mk' {S : Nat → Prop} {W : World} {ρ : RawQ} {a1 a2 : Option Addr} {l1 c1 l2 c2 : Nat} {n1 n2 : Bool} (e1 : n1 = ρ.n1) (h1 : RN .u32 S W a1 l1 c1 ρ.xs) (e2 : n2 = ρ.n2) (h2 : RN .u32 S W a2 l2 c2 ρ.ys) : QX S W [.bool n1, .slice a1 l1 c1, .bool n2, .slice a2 l2 c2] ρ := by
  subst e1 e2; exact ⟨_, _, _, _, _, _, rfl, h1, h2⟩

end Go.Proofs.YtknbjfefeeojlaaGreat
/- A body that lies in a scope (it holds a label), without jumps to it. -/
namespace Go.Proofs.YtknbjfefeeojlaaGreat
open Go.RowKit
section
variable {P : Program} {F : Fence} {n : Nat} {a : Act} {w : World} {Q : Exit → Act → World → Prop}
theorem stepR_scope {b : Frame} {k : List Item} {cs : List Frame} {c : Code} : step P (lone (b.atR a (.code (.scope c) :: k)) cs w) = .next (lone (b.atR a (.code c :: .inScope c :: k)) cs w) :=
  step_lone_go (by simp [stepG, stepG.exec, Frame.atR])
theorem stepR_inScope {b : Frame} {k : List Item} {cs : List Frame} {c : Code} : step P (lone (b.atR a (.inScope c :: k)) cs w) = .next (lone (b.atR a k) cs w) :=
  step_lone_go (by simp [stepG, stepG.exec, Frame.atR])
theorem wpIn_scope {c : Code} (h : c.wpIn F n P (Exit.noGoto Q) a w) : (Code.scope c).wpIn F n P Q a w := by
  intro b k cs hro hb hr
  have h0 : (lone (b.atR a (.code (.scope c) :: k)) cs w).fenced P F := fenced_calm hb hr rfl
  obtain ⟨e, a₁, w₁, hq, harr⟩ := h b (.inScope c :: k) cs hro hb hr
  cases e with
  | normal => exact ⟨.normal, a₁, w₁, hq, .head h0 stepR_scope (StepsIn.trans harr (.one (fenced_calm hb hr rfl) stepR_inScope))⟩
  | exit id =>
    have hx : exitTo id (.inScope c :: k) = exitTo id k := by simp [exitTo]
    exact ⟨.exit id, a₁, w₁, hq, fun k' hk => .head h0 stepR_scope (harr.1 k' (by rw [hx]; exact hk)),
      fun hr' hk => let ⟨k₁, h1, h2⟩ := harr.2 hr' (by rw [hx]; exact hk); ⟨k₁, h1, .head h0 stepR_scope h2⟩⟩
  | goto l => exact hq.elim
  | ret => exact ⟨.ret, a₁, w₁, hq, fun hr' => let ⟨todo, hs⟩ := harr.1 hr'; ⟨todo, .head h0 stepR_scope hs⟩, fun hr' => let ⟨k₁, hs⟩ := harr.2 hr'; ⟨k₁, .head h0 stepR_scope hs⟩⟩
  | panic ch => obtain ⟨todo, hs⟩ := harr; exact ⟨.panic ch, a₁, w₁, hq, todo, .head h0 stepR_scope hs⟩
  | outgrown => exact ⟨.outgrown, a₁, w₁, hq, harr.imp id (Outgrown.of_steps (StepsIn.one h0 stepR_scope).steps)⟩
end
section
variable {r : Option Nat} {P : Program} {N : Nat} {ds : List Deferred} {Q : EQ} {E : Env} {W : World}
def noG (Q : EQ) : EQ
  | .goto _, _, _, _ => False
  | e, E, ds, W => Q e E ds W
theorem V.scope {c : Code} (h : V r P N ds c (noG Q) E W) : V r P N ds (.scope c) Q E W := fun a hrep hd =>
  wpIn_scope (wpIn_mono (h a hrep hd) fun x a' W' ⟨E', h1, h2⟩ => by
    cases x with
    | goto l => exact h2.elim
    | normal => exact ⟨E', h1, h2⟩
    | exit id => exact ⟨E', h1, h2⟩
    | ret => exact ⟨E', h1, h2⟩
    | panic ch => exact ⟨E', h1, h2⟩
    | outgrown => exact ⟨E', h1, h2⟩)
end
end Go.Proofs.YtknbjfefeeojlaaGreat
/- A region that draws its order, in which some operations break what the loads rest on; every such load stands ahead of them. -/
namespace Go.Proofs.YtknbjfefeeojlaaGreat
open Go.RowKit
section
variable {r : Option Nat} {P : Program} {N : Nat} {ops : Array Oper} {S S' : World → Prop} {R : Env → World → Prop} {fuel i : Nat} {listed : Array Bool} {E : Env} {W : World} {d : Option Tmp} {op : Op} {t : Tmp} {ty : TypeId} {pos : String} {af : Array Edge} {ds : List Deferred} {Q : EQ} {v : Value} {bs : List Nat} {oi : Oper}
/-- No breaking operation was done. -/
def whole (bs : List Nat) (listed : Array Bool) : Bool := bs.all fun j => !(listed.getD j true)
def VB (bs : List Nat) (r : Option Nat) (P : Program) (ops : Array Oper) (S : World → Prop) (R : Env → World → Prop) : Nat → Array Bool → Env → World → Prop
  | 0, listed, E, W => Region.ready .any ops listed = [] ∧ R E W
  | fuel + 1, listed, E, W => (Region.ready .any ops listed = [] → R E W) ∧
      ∀ i ∈ Region.ready .any ops listed, opI r P ops i (fun E' W' => (whole bs (listed.setIfInBounds i true) = true → S W') ∧ VB bs r P ops S R fuel (listed.setIfInBounds i true) E' W') E W
theorem VB.va : ∀ (fuel : Nat) (listed : Array Bool) (E : Env) (W : World), VB bs r P ops S R fuel listed E W → VA r P ops R fuel listed E W
  | 0, _, _, _, h => h
  | fuel + 1, _, _, _, h => ⟨h.1, fun i hi => (h.2 i hi).mono fun E' W' h' => VB.va fuel _ E' W' h'.2⟩
def depB (ops : Array Oper) (bs : List Nat) (i : Nat) : Bool := bs.all fun j => !(j == i) && match ops[j]? with
  | none => true
  | some o => o.after.any fun e => Region.binds .any e && e.on == i
theorem whole_set {j : Nat} (h : whole bs listed = true) (hj : bs.contains j = false) : whole bs (listed.setIfInBounds j true) = true := by
  unfold whole at *
  rw [List.all_eq_true] at *
  intro k hk
  have hkj : j ≠ k := fun e => by subst e; simp at hj; exact hj hk
  rw [getD_set_ne true hkj]; exact h k hk
theorem whole_un {j : Nat} (h : whole bs (listed.setIfInBounds j true) = true) : whole bs listed = true := by
  unfold whole at *
  rw [List.all_eq_true] at *
  intro k hk
  have := h k hk
  by_cases e : j = k
  · subst e
    rcases Nat.lt_or_ge j listed.size with h' | h'
    · simp [h'] at this
    · simp [Array.getElem?_eq_none h'] at this
  · rwa [getD_set_ne true e] at this
theorem VB.first (hi : ops[i]? = some oi) (hbi : bs.contains i = false) (hsel : ∀ (j : Nat) (o : Oper) cs b, ops[j]? = some o → o.op ≠ .select cs b) (hk : (depB ops bs i = true ∧ ∀ W, S W → S' W) ∨ (∀ W, S' W)) :
    ∀ (fuel : Nat) (listed : Array Bool) (E : Env) (W : World),
      (∀ j oj, ops[j]? = some oj → j ≠ i → listed.getD j true = false → (∀ e ∈ oj.after, Region.binds .any e = true → e.on ≠ i) → oi.apart ops oj = true) →
      i ∈ Region.ready .any ops listed → PureIf P ops S' oi v E → (depB ops bs i = true → whole bs listed = true) → (whole bs listed = true → S W) →
      VB bs r P ops S R fuel (listed.setIfInBounds i true) (puto E oi.dst v) W → VB bs r P ops S R (fuel + 1) listed E W := by
  intro fuel
  have hS' : ∀ {listed : Array Bool} {W : World}, (depB ops bs i = true → whole bs listed = true) → (whole bs listed = true → S W) → S' W := fun h1 h2 => by
    rcases hk with ⟨h3, h4⟩ | h4
    · exact h4 _ (h2 (h1 h3))
    · exact h4 _
  induction fuel with
  | zero =>
    intro listed E W _ hr hy hw hS H
    refine ⟨fun h => (by rw [h] at hr; cases hr), fun j hj => ?_⟩
    by_cases hji : j = i
    · subst hji
      exact hy.opI hi (hS' hw hS) ⟨fun hb => hS (whole_un hb), H⟩
    · have := ready_mono hj hji
      rw [H.1] at this
      cases this
  | succ fuel ih =>
    intro listed E W hfree hr hy hw hS H
    refine ⟨fun h => (by rw [h] at hr; cases hr), fun j hj => ?_⟩
    by_cases hji : j = i
    · subst hji
      exact hy.opI hi (hS' hw hS) ⟨fun hb => hS (whole_un hb), H⟩
    · have h1 := H.2 j (ready_mono hj hji)
      obtain ⟨hjun, oj, hoj, hall⟩ := mem_ready.1 hj
      have hnot : ∀ e ∈ oj.after, Region.binds .any e = true → e.on ≠ i := fun e he hb heq => by
        have h1 := hall e he hb
        have h0 := (mem_ready.1 hr).1
        rw [heq] at h1
        rcases Nat.lt_or_ge i listed.size with h' | h'
        · simp [h'] at h0 h1; rw [h0] at h1; cases h1
        · simp [Array.getElem?_eq_none h'] at h1
      have h2 := opI_put (r := r) hoj (hfree j oj hoj hji hjun hnot) (fun cs b => hsel i oi cs b hi) (fun cs b => hsel j oj cs b hoj) hy h1
      have hfree' : ∀ k ok, ops[k]? = some ok → k ≠ i → (listed.setIfInBounds j true).getD k true = false →
          (∀ e ∈ ok.after, Region.binds .any e = true → e.on ≠ i) → oi.apart ops ok = true := fun k ok hk hki hun hno => by
        refine hfree k ok hk hki ?_ hno
        by_cases hjk : j = k
        · subst hjk; exact hjun
        · rw [getD_set_ne true hjk] at hun; exact hun
      have hnb : depB ops bs i = true → bs.contains j = false := fun hd => by
        cases hc : bs.contains j with
        | false => rfl
        | true =>
          have h5 := (List.all_eq_true.1 hd) j (by simpa using hc)
          simp only [hoj, Bool.and_eq_true] at h5
          obtain ⟨e, he, hb⟩ := Array.any_eq_true'.1 h5.2
          simp only [Bool.and_eq_true, beq_iff_eq] at hb
          exact absurd hb.2 (hnot e he hb.1)
      refine h2.mono fun E' W' h3 => ⟨fun hb => ?_, ih (listed.setIfInBounds j true) E' W' hfree' (ready_mono hr (Ne.symm hji)) h3.1 (fun hd => whole_set (hw hd) (hnb hd)) (fun hb => ?_) ?_⟩
      · refine h3.2.1 ?_
        rw [Array.setIfInBounds_comm _ _ (Ne.symm hji)]; exact whole_set hb hbi
      · refine h3.2.1 ?_
        rw [Array.setIfInBounds_comm _ _ (Ne.symm hji)]; exact whole_set hb hbi
      · rw [Array.setIfInBounds_comm _ _ hji]
        exact h3.2.2
theorem V.regB {id : Nat} (bs : List Nat) (hm : P.follows .mixedOrders = true) (hl : dstsOK N ops.toList = true)
    (h : ∀ W1, Ext W W1 → VB bs r P ops (Ext W1) (fun E W => Q .normal E ds W) ops.size (Array.replicate ops.size false) E W1) : V r P N ds (.region id ops true) Q E W := fun a hrep hd =>
  wpIn_region_any hm (VA.wp (ds := ds) hl (fun a E W hr hd h => ⟨E, hr, by rw [hd]; exact h⟩) _ _ a E _ hrep hd (VB.va _ _ _ _ (h _ ((Ext.refl W).drew))))
/-- An operation that rests on no world. -/
theorem tkP {g : Option (Nat × Bool)} (i : Nat) (hi : ops[i]? = some ⟨some t, op, ty, pos, af, g⟩) (hf : (Region.noSelect ops && Region.free .any ops listed i && (Region.ready .any ops listed).contains i && !(bs.contains i)) = true) (hw : (!(depB ops bs i) || whole bs listed) = true) (hS : whole bs listed = true → S W) (hy : PureIf P ops (fun _ => True) ⟨some t, op, ty, pos, af, g⟩ v E)
    (k : VB bs r P ops S R fuel (listed.setIfInBounds i true) (up E t v) W) : VB bs r P ops S R (fuel + 1) listed E W := by
  simp only [Bool.and_eq_true, Bool.not_eq_true'] at hf
  refine VB.first hi hf.2 (Region.noSelect_spec hf.1.1.1) (.inr fun _ => trivial) fuel listed E W (Region.free_spec hi hf.1.1.2) (by simpa using hf.1.2) hy (fun hd => ?_) hS k
  rw [hd] at hw; simpa using hw
/-- A load: it stands ahead of all that break. -/
theorem tkB {g : Option (Nat × Bool)} (i : Nat) (hi : ops[i]? = some ⟨some t, op, ty, pos, af, g⟩) (hf : (Region.noSelect ops && Region.free .any ops listed i && (Region.ready .any ops listed).contains i && !(bs.contains i) && depB ops bs i && whole bs listed) = true) (hS : S W) (hy : PureIf P ops S ⟨some t, op, ty, pos, af, g⟩ v E)
    (k : VB bs r P ops S R fuel (listed.setIfInBounds i true) (up E t v) W) : VB bs r P ops S R (fuel + 1) listed E W := by
  simp only [Bool.and_eq_true, Bool.not_eq_true'] at hf
  exact VB.first hi hf.1.1.2 (Region.noSelect_spec hf.1.1.1.1.1) (.inl ⟨hf.1.2, fun _ h => h⟩) fuel listed E W (Region.free_spec hi hf.1.1.1.1.2) (by simpa using hf.1.1.1.2) hy (fun _ => hf.2) (fun _ => hS) k
theorem efB (i : Nat) (hr : Region.ready .any ops listed = [i]) (hi : ops[i]? = some ⟨d, op, ty, pos, af, none⟩) (h : OpF r P (ev E) ⟨d, op, ty, pos, af, none⟩ W fun v W' => (whole bs (listed.setIfInBounds i true) = true → S W') ∧ VB bs r P ops S R fuel (listed.setIfInBounds i true) (puto E d v) W') : VB bs r P ops S R (fuel + 1) listed E W := by
  refine ⟨fun h0 => (by rw [hr] at h0; cases h0), fun j hj => ?_⟩
  rw [hr] at hj
  obtain rfl : j = i := by simpa using hj
  unfold opI
  simp only [hi]
  rw [if_pos (by rfl)]; exact h
theorem dnB (hr : Region.ready .any ops listed = []) (h : R E W) : VB bs r P ops S R fuel listed E W := by
  cases fuel with
  | zero => exact ⟨hr, h⟩
  | succ n => exact ⟨fun _ => h, by rw [hr]; simp⟩
theorem notWf {p : Prop} (h : whole bs listed = false) : whole bs listed = true → p := fun h' => (by rw [h] at h'; cases h')
theorem notW {p q : Prop} (h : whole bs listed = false) (k : q) : (whole bs listed = true → p) ∧ q := ⟨fun h' => (by rw [h] at h'; cases h'), k⟩
end
end Go.Proofs.YtknbjfefeeojlaaGreat
/- A slice of the call's own whose elements are stored anew; a matrix under elimination. -/
namespace Go.Proofs.YtknbjfefeeojlaaGreat
open Go.RowKit
attribute [local irreducible] RV VH V OpF Calls
section
variable {P : Program} {ρ : Operand → Value} {W W' : World} {d : Option Tmp} {ty T e : TypeId} {pos : String} {af : Array Edge} {g : Option (Nat × Bool)} {x y : Operand} {v u : Value} {K : Value → World → Prop} {s B n c : Nat} {a : Option Addr} {qs : List (List Value)}
theorem OS.own (h : OS s B W e v qs) (hn : 0 < qs.length) : ∃ b c cur, v = .slice (some ⟨b, 0, none⟩) qs.length c ∧ v.ownBlock = some b ∧ B ≤ b ∧ BoxAt W b cur e ∧ qs.length ≤ c ∧ c ≤ maxLen ∧ cur.length = c * s ∧ cur.take (qs.length * s) = qs.flatten := by
  rcases h.row.2 with ⟨_, h0⟩ | ⟨b, cap, cur, rfl, hb, hh, h1, h2, h3, h4⟩
  · omega
  · exact ⟨b, cap, cur.toList, rfl, rfl, hb, by unfold BoxAt; simpa using hh, h1, h2, by simpa using h3, h4⟩
theorem OS.of {b c : Nat} {cur : List Value} (hw : ∀ q ∈ qs, q.length = s) (hB : B ≤ b) (hb : BoxAt W b cur e) (h1 : qs.length ≤ c) (h2 : c ≤ maxLen) (h3 : cur.length = c * s) (h4 : cur.take (qs.length * s) = qs.flatten) : OS s B W e (.slice (some ⟨b, 0, none⟩) qs.length c) qs :=
  ⟨⟨flat_len hw, .inr ⟨b, c, cur.toArray, rfl, hB, hb, h1, h2, by simpa using h3, by simpa using h4⟩⟩, hw⟩
theorem take_set_flat {cur : List Value} {q : List Value} {i m : Nat} (hi : i + q.length ≤ m) (hm : m ≤ cur.length) : (cur.take i ++ q ++ cur.drop (i + q.length)).take m = (cur.take m).take i ++ q ++ (cur.take m).drop (i + q.length) := by
  have h1 : (cur.take m).take i = cur.take i := by rw [List.take_take]; congr 1; omega
  have h2 : (cur.take m).drop (i + q.length) = (cur.drop (i + q.length)).take (m - (i + q.length)) := List.drop_take
  have h3 : (cur.take i ++ q).length = i + q.length := by rw [List.length_append, List.length_take]; omega
  rw [h1, h2, List.take_append, List.take_of_length_le (by omega), h3]
/-- v[i] = u, in a slice of the call's own. -/
theorem xstS {r : Option Nat} {i : Int} {q : List Value} (h : OS s B W e v qs) (hv : v = .slice a n c) (hx : ρ x = .pointer (some (adr a i s))) (hy : ρ y = u) (hu : u.cells = q.toArray) (hT : Sz P T q.length) (hq : q.length = s) (ho : (q.all Value.oneCell') = true) (h0 : 0 ≤ i) (h1 : i < n)
    (hk2 : ∀ b W', v.ownBlock = some b → Wr b W W' → OS s B W' e v (qs.set i.toNat q) → K undef W') : OpF r P ρ ⟨d, .store T x y, ty, pos, af, g⟩ W K := by
  obtain ⟨a1, c1, e1⟩ := h.form
  have en : n = qs.length := by rw [hv] at e1; injection e1
  obtain ⟨b, cap, cur, e2, e3, hB, hb, h2, h3, h4, h5⟩ := h.own (by omega)
  have ea : a = some ⟨b, 0, none⟩ := by rw [hv] at e2; injection e2
  subst ea
  have hlt : i.toNat < qs.length := by omega
  have hle : i.toNat * s + s ≤ qs.length * s := by rw [← Nat.succ_mul]; exact Nat.mul_le_mul_right _ hlt
  have hcl : qs.length * s ≤ cur.length := by rw [h4]; exact Nat.mul_le_mul_right _ h2
  refine xst (o := i.toNat * s) (vs := q) (cs' := cur.take (i.toNat * s) ++ q ++ cur.drop (i.toNat * s + q.length)) ?_ hy hT hu ho hb (by omega) rfl ?_
  · rw [hx]; simp [adr, addO]
  · intro W' y' hb'
    refine hk2 b W' e3 y' ?_
    rw [e2]
    have hw : ∀ p ∈ qs.set i.toNat q, p.length = s := fun p hp => by
      rcases List.mem_or_eq_of_mem_set hp with h | h'
      · exact (by assumption : OS s B W e v qs).wd p h
      · subst h'; exact hq
    have hl : (qs.set i.toNat q).length = qs.length := List.length_set
    have := OS.of (W := W') (e := e) (c := cap) (qs := qs.set i.toNat q) hw hB hb' (by omega) h3 ?_ ?_
    · rwa [hl] at this
    · simp; omega
    · rw [hl, take_set_flat (by omega) hcl, h5, flat_set h.wd hlt hq, hq]
end
section
variable {ρt : Type} {El : (Nat → Prop) → World → List Value → ρt → Prop} {S : Nat → Prop} {P : Program} {ρ : Operand → Value} {W W' : World} {d : Option Tmp} {ty T e : TypeId} {pos : String} {af : Array Edge} {g : Option (Nat × Bool)} {x y : Operand} {v u : Value} {K : Value → World → Prop} {s B n c : Nat} {a : Option Addr} {rs : List ρt} {rr : ρt}
theorem xstG {r : Option Nat} {i : Int} {q : List Value} (ok : ElOK El) (h : GO s El S B W e v rs) (hv : v = .slice a n c) (hx : ρ x = .pointer (some (adr a i s))) (hy : ρ y = u) (hu : u.cells = q.toArray) (hT : Sz P T q.length) (hq : q.length = s) (ho : (q.all Value.oneCell') = true) (h0 : 0 ≤ i) (h1 : i < n)
    (hel : El (SO S v) W q rr) (hk2 : ∀ b W', v.ownBlock = some b → Wr b W W' → GO s El S B W' e v (rs.set i.toNat rr) → K undef W') : OpF r P ρ ⟨d, .store T x y, ty, pos, af, g⟩ W K := by
  obtain ⟨qs, h2, h3⟩ := h
  refine xstS h2 hv hx hy hu hT hq ho h0 h1 ?_
  intro b W' hb y' hO
  refine hk2 b W' hb y' ⟨_, hO, ?_⟩
  have := h3.set (k := i.toNat) hel
  exact this.imp fun q r hq => ok.ck hq (y'.ck (fun hh => hh.2 hb))
/-- What is read of such a slice. -/
theorem GO.rd {El : (Nat → Prop) → World → List Value → ρt → Prop} (ok : ElOK El) (h : GO s El S B W e (.slice a n c) rs) : ∃ qs, RS s TT W a n c qs ∧ All2 (El TT W) qs rs := by
  obtain ⟨qs, h2, h3⟩ := h
  exact ⟨qs, h2.rs (fun _ _ _ => trivial), h3.imp fun _ _ hq => ok.sub hq fun _ _ _ => trivial⟩
end
end Go.Proofs.YtknbjfefeeojlaaGreat
/- A matrix under elimination: what is reckoned, and the state of the call. -/
namespace Go.Proofs.YtknbjfefeeojlaaGreat
open Go.RowKit
attribute [local irreducible] RV VH V OpF Calls
def sclR (r : Rat) (xs : List Rat) : List Rat := zipf (fun a b => r * a + b) xs [] (max xs.length 0)
def axR (r : Rat) (xs ys : List Rat) : List Rat := zipf (fun a b => r * a + b) xs ys (max xs.length ys.length)
theorem sclR_len (r : Rat) (xs : List Rat) : (sclR r xs).length = xs.length := by simp [sclR, zipf]
theorem axR_len (r : Rat) (xs ys : List Rat) : (axR r xs ys).length = max xs.length ys.length := by simp [axR, zipf]
/-- p: the first row at d or behind it whose element k is not 0; the number of rows, if there is none. -/
def IsP (rows : List (List Rat)) (k d p : Nat) : Prop := d ≤ p ∧ p ≤ rows.length ∧ (∀ j, d ≤ j → j < p → mat rows j k = 0) ∧ (p < rows.length → mat rows p k ≠ 0)
theorem IsP.uniq {rows : List (List Rat)} {k d p q : Nat} (h : IsP rows k d p) (h' : IsP rows k d q) : p = q := by
  rcases Nat.lt_trichotomy p q with hl | hl | hl
  · exact absurd (h'.2.2.1 p h.1 hl) (h.2.2.2 (by have := h'.2.1; omega))
  · exact hl
  · exact absurd (h.2.2.1 q h'.1 hl) (h'.2.2.2 (by have := h.2.1; omega))
def pfind (rows : List (List Rat)) (k : Nat) : Nat → Nat → Nat
  | 0, d => d
  | n + 1, d => if mat rows d k = 0 then pfind rows k n (d + 1) else d
def pf (rows : List (List Rat)) (k d : Nat) : Nat := pfind rows k (rows.length - d) d
theorem pfind_is (rows : List (List Rat)) (k : Nat) : ∀ (n d : Nat), d + n = rows.length → IsP rows k d (pfind rows k n d)
  | 0, d, h => ⟨Nat.le_refl _, by unfold pfind; omega, fun j h1 h2 => by unfold pfind at h2; omega, fun hh => by unfold pfind at hh; omega⟩
  | n + 1, d, h => by
    unfold pfind
    split
    · rename_i h0
      obtain ⟨h1, h2, h3, h4⟩ := pfind_is rows k n (d + 1) (by omega)
      refine ⟨by omega, h2, fun j hj hj2 => ?_, h4⟩
      rcases Nat.lt_or_eq_of_le hj with hj | rfl
      · exact h3 j hj hj2
      · exact h0
    · rename_i h0
      exact ⟨Nat.le_refl _, by omega, fun j h1 h2 => by omega, fun _ => h0⟩
theorem pf_is {rows : List (List Rat)} {k d : Nat} (h : d ≤ rows.length) : IsP rows k d (pf rows k d) := pfind_is rows k _ d (by omega)
theorem IsP.pf {rows : List (List Rat)} {k d p : Nat} (h : IsP rows k d p) : pf rows k d = p := (pf_is (Nat.le_trans h.1 h.2.1)).uniq h
def swapR (rows : List (List Rat)) (i j : Nat) : List (List Rat) := (rows.set i (rowat rows j)).set j (rowat rows i)
theorem set_rowat (rows : List (List Rat)) (i : Nat) : rows.set i (rowat rows i) = rows := by
  refine List.ext_getElem? fun j => ?_
  rw [List.getElem?_set]
  split
  · rename_i h; subst h
    split
    · rename_i h; unfold rowat; simp [h]
    · rename_i h; rw [List.getElem?_eq_none (by omega)]
  · rfl
theorem swapR_self (rows : List (List Rat)) (i : Nat) : swapR rows i i = rows := by unfold swapR; rw [set_rowat, set_rowat]
theorem swapR_len (rows : List (List Rat)) (i j : Nat) : (swapR rows i j).length = rows.length := by simp [swapR]
/-- The elimination in column k, by row d, in the rows ahead of row i. -/
def elimT (rows : List (List Rat)) (d k j : Nat) : List Rat := if j = d ∨ mat rows j k = 0 then rowat rows j else axR (-(mat rows j k)) (rowat rows d) (rowat rows j)
def elimS (rows : List (List Rat)) (d k i : Nat) : List (List Rat) := (List.range rows.length).map fun j => if j < i then elimT rows d k j else rowat rows j
theorem elimS_len (rows : List (List Rat)) (d k i : Nat) : (elimS rows d k i).length = rows.length := by simp [elimS]
theorem elimS_row {rows : List (List Rat)} {d k i j : Nat} (h : j < rows.length) : rowat (elimS rows d k i) j = if j < i then elimT rows d k j else rowat rows j := by
  unfold elimS; rw [rowat, List.getD_eq_getElem?_getD, List.getElem?_map, List.getElem?_range h]; simp
theorem rows_ext {rows mows : List (List Rat)} (hl : rows.length = mows.length) (h : ∀ j, j < rows.length → rowat rows j = rowat mows j) : rows = mows := by
  refine List.ext_getElem hl fun j h1 h2 => ?_
  have := h j h1
  simpa [rowat, h1, h2] using this
theorem elimS_zero (rows : List (List Rat)) (d k : Nat) : elimS rows d k 0 = rows := rows_ext (elimS_len _ _ _ _) fun j hj => by rw [elimS_len] at hj; rw [elimS_row hj, if_neg (by omega)]
theorem rowat_set {rows : List (List Rat)} {i j : Nat} {r : List Rat} (h : i < rows.length) : rowat (rows.set i r) j = if j = i then r else rowat rows j := by
  unfold rowat
  rw [List.getD_eq_getElem?_getD, List.getElem?_set]
  by_cases e : i = j
  · subst e; simp [h]
  · rw [if_neg e, if_neg (fun h => e h.symm)]; simp
theorem elimS_succ {rows : List (List Rat)} {d k i : Nat} (h : i < rows.length) : elimS rows d k (i + 1) = (elimS rows d k i).set i (elimT rows d k i) := by
  refine rows_ext (by simp [elimS_len]) fun j hj => ?_
  rw [elimS_len] at hj
  rw [rowat_set (by rw [elimS_len]; exact h), elimS_row hj, elimS_row hj]
  by_cases e : j = i
  · subst e; rw [if_pos (by omega), if_pos rfl]
  · rw [if_neg e]; by_cases e2 : j < i
    · rw [if_pos (by omega), if_pos e2]
    · rw [if_neg (by omega), if_neg e2]
theorem elimS_keep {rows : List (List Rat)} {d k i : Nat} (h : i < rows.length) (e : i = d ∨ mat rows i k = 0) : elimS rows d k (i + 1) = elimS rows d k i := by
  rw [elimS_succ h, elimT, if_pos e]
  have := set_rowat (elimS rows d k i) i
  rwa [elimS_row h, if_neg (by omega)] at this
/-- Row d is divided by its element k. -/
def divR (rows : List (List Rat)) (d k : Nat) : List (List Rat) := rows.set d (sclR (1 / mat rows d k) (rowat rows d))
theorem divR_len (rows : List (List Rat)) (d k : Nat) : (divR rows d k).length = rows.length := by simp [divR]
def colR (rows : List (List Rat)) (d k p : Nat) : List (List Rat) := elimS (divR (swapR rows p d) d k) d k rows.length
theorem colR_len (rows : List (List Rat)) (d k p : Nat) : (colR rows d k p).length = rows.length := by simp [colR, elimS_len, divR_len, swapR_len]
/-- One column. -/
def colS (s : List (List Rat) × List Int × Rat) (k : Nat) : List (List Rat) × List Int × Rat :=
  if pf s.1 k s.2.1.length < s.1.length then
    (colR s.1 s.2.1.length k (pf s.1 k s.2.1.length), s.2.1 ++ [(k : Int)], (if pf s.1 k s.2.1.length = s.2.1.length then s.2.2 else -s.2.2) * mat (swapR s.1 (pf s.1 k s.2.1.length) s.2.1.length) s.2.1.length k)
  else s
def redS (rows : List (List Rat)) : Nat → List (List Rat) × List Int × Rat
  | 0 => (rows, [], 1)
  | n + 1 => colS (redS rows n) n
/-! ### Lengths and sizes -/
def rect (N : Nat) (rows : List (List Rat)) : Prop := ∀ r ∈ rows, r.length = N
theorem rect.row {N : Nat} {rows : List (List Rat)} (h : rect N rows) {i : Nat} (hi : i < rows.length) : (rowat rows i).length = N := by
  refine h _ ?_; unfold rowat; simp [hi]
theorem rect.set {N : Nat} {rows : List (List Rat)} (h : rect N rows) {i : Nat} {r : List Rat} (hr : r.length = N) : rect N (rows.set i r) := fun x hx => by
  rcases List.mem_or_eq_of_mem_set hx with h' | rfl
  · exact h x h'
  · exact hr
theorem rect.of {N : Nat} {rows : List (List Rat)} (h : ∀ i, i < rows.length → (rowat rows i).length = N) : rect N rows := fun x hx => by
  obtain ⟨i, hi⟩ := List.getElem?_of_mem hx
  have hl := (List.getElem?_eq_some_iff.1 hi).1
  have := h i hl
  unfold rowat at this; rw [List.getD_eq_getElem?_getD, hi] at this; exact this
theorem rect.swap {N : Nat} {rows : List (List Rat)} (h : rect N rows) {i j : Nat} (hi : i < rows.length) (hj : j < rows.length) : rect N (swapR rows i j) := (h.set (h.row hj)).set (h.row hi)
theorem rect.div {N : Nat} {rows : List (List Rat)} (h : rect N rows) {d k : Nat} (hd : d < rows.length) : rect N (divR rows d k) := h.set (by rw [sclR_len]; exact h.row hd)
theorem rect.elimT {N : Nat} {rows : List (List Rat)} (h : rect N rows) {d k j : Nat} (hd : d < rows.length) (hj : j < rows.length) : (elimT rows d k j).length = N := by
  unfold Proofs.YtknbjfefeeojlaaGreat.elimT
  split
  · exact h.row hj
  · rw [axR_len, h.row hd, h.row hj]; omega
theorem rect.elim {N : Nat} {rows : List (List Rat)} (h : rect N rows) {d k i : Nat} (hd : d < rows.length) : rect N (elimS rows d k i) := rect.of fun j hj => by
  rw [elimS_len] at hj
  rw [elimS_row hj]
  split
  · exact h.elimT hd hj
  · exact h.row hj
theorem rect.col {N : Nat} {rows : List (List Rat)} (h : rect N rows) {d k p : Nat} (hd : d < rows.length) (hp : p < rows.length) : rect N (colR rows d k p) :=
  ((h.swap hp hd).div (by rw [swapR_len]; exact hd)).elim (by rw [divR_len, swapR_len]; exact hd)
def szR (L : Nat) (rows : List (List Rat)) : Prop := ∀ r ∈ rows, szV L r
theorem szR.mono {L L' : Nat} {rows : List (List Rat)} (h : szR L rows) (hL : L ≤ L') : szR L' rows := fun r hr q hq => (h r hr q hq).mono hL
theorem szR.row {L : Nat} {rows : List (List Rat)} (h : szR L rows) (i : Nat) : szV L (rowat rows i) := by
  unfold rowat; rw [List.getD_eq_getElem?_getD]
  cases hq : rows[i]? with
  | none => intro q hq; simp at hq
  | some r => exact h r (List.mem_of_getElem? hq)
theorem szR.at {L : Nat} {rows : List (List Rat)} (h : szR L rows) (hL : 1 ≤ L) (i k : Nat) : sz L (mat rows i k) := szV_at (h.row i) hL k
theorem szR.set {L : Nat} {rows : List (List Rat)} (h : szR L rows) {i : Nat} {r : List Rat} (hr : szV L r) : szR L (rows.set i r) := fun x hx => by
  rcases List.mem_or_eq_of_mem_set hx with h' | rfl
  · exact h x h'
  · exact hr
theorem szR.swap {L : Nat} {rows : List (List Rat)} (h : szR L rows) (i j : Nat) : szR L (swapR rows i j) := (h.set (h.row j)).set (h.row i)
theorem sz_inv {L : Nat} {r : Rat} (h : sz L r) (hL : 1 ≤ L) : sz L (1 / r) := by
  rw [Rat.div_def, Rat.one_mul]
  by_cases h0 : r = 0
  · subst h0; rw [Rat.inv_zero]; exact sz_zero.mono hL
  · have e : r⁻¹ = Rat.divInt r.den r.num := by rw [Rat.inv_def]
    rw [e]
    have hd : (0 : Int) < r.den := by have := r.den_pos; omega
    rcases Int.lt_trichotomy r.num 0 with hn | hn | hn
    · have e2 := Rat.neg_divInt_neg (r.den : Int) r.num
      rw [← e2]
      exact sz_divInt (by have := h.2; rw [Int.natAbs_neg]; simpa using this) (by omega) (by have := h.1; omega)
    · exact absurd (Rat.num_eq_zero.1 hn) h0
    · exact sz_divInt (by have := h.2; simpa using this) hn (by have := h.1; omega)
theorem sclR_sz {a b L : Nat} {r : Rat} {xs : List Rat} (hr : sz a r) (hx : szV b xs) (hb : 1 ≤ b) (hL : a + b ≤ L) : szV L (sclR r xs) := szV_zip fun i _ => by
  rw [show vat ([] : List Rat) i = 0 from rfl, Rat.add_zero]; exact (sz_mul hr (szV_at hx hb i)).mono hL
theorem axR_sz {a b c L : Nat} {r : Rat} {xs ys : List Rat} (hr : sz a r) (hx : szV b xs) (hy : szV c ys) (hb : 1 ≤ b) (hc : 1 ≤ c) (hL : a + b + c + 1 ≤ L) : szV L (axR r xs ys) := szV_zip fun i _ =>
  (sz_add (sz_mul hr (szV_at hx hb i)) (szV_at hy hc i)).mono (by omega)
theorem szR.div {L : Nat} {rows : List (List Rat)} (h : szR L rows) (hL : 1 ≤ L) (d k : Nat) : szR (2 * L) (divR rows d k) :=
  (h.mono (by omega)).set (sclR_sz (sz_inv (h.at hL d k) hL) (h.row d) hL (by omega))
theorem elimS_sz {L : Nat} {rows : List (List Rat)} (h : szR L rows) (hL : 1 ≤ L) {d : Nat} (hd : d < rows.length) (k i : Nat) : szR (5 * L) (elimS (divR rows d k) d k i) := by
  have h2 := h.div hL d k
  intro x hx
  obtain ⟨j, hj, rfl⟩ := List.mem_map.1 hx
  rw [List.mem_range, divR_len] at hj
  have hj2 : j < (divR rows d k).length := by rw [divR_len]; exact hj
  have e : ∀ j, j ≠ d → rowat (divR rows d k) j = rowat rows j := fun j hj => by unfold divR; rw [rowat_set hd, if_neg hj]
  have hr : szV (5 * L) (rowat (divR rows d k) j) := (h2.mono (by omega)).row j
  split
  · unfold elimT
    split
    · exact hr
    · rename_i h3
      have h4 : j ≠ d := fun h => h3 (.inl h)
      refine axR_sz (a := L) (b := 2 * L) (c := L) (sz_neg ?_) (h2.row d) ?_ (by omega) hL (by omega)
      · unfold mat; rw [e j h4]; exact h.at hL j k
      · rw [e j h4]; exact h.row j
  · exact hr
end Go.Proofs.YtknbjfefeeojlaaGreat

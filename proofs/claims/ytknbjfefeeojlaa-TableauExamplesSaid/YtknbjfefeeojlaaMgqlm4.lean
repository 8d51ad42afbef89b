/- Package vec: FromInts, Resize, Scale. -/
import Derived.Test.YtknbjfefeeojlaaRows
import Derived.ProofKit
import Derived.JoinedCond
import Derived.Laws.StructEq
import Derived.Test.YtknbjfefeeojlaaMgqlm3
namespace Go.Proofs.Ytknbjfefeeojlaa
open Go.RowKit
attribute [local irreducible] RV VH V OpF Calls
theorem GA.nil (L : Nat) (S : Nat → Prop) (W : World) : GA L S W none 0 0 [] := ⟨[], RS.nil _ _ _ _ _ (by omega), trivial⟩

set_option maxHeartbeats 400000 in
theorem vScale_ok (q : List Value) (r : Rat) (a1 : Option Addr) (n c : Nat) (L1 L3 : Nat) (xs : List Rat) (S S1 S3 : Nat → Prop) (w : World) (hx : GA L1 S1 w a1 n c xs) (h3 : QA L3 S3 w q r) (hL : L1 + L3 + 1 < LY) (hl1 : 1 ≤ L1) (hl3 : 1 ≤ L3) (hn : n ≤ LV) (hu : Up S w) :
    Calls Try.prog 74 #[.agg q.toArray, .slice a1 n c] w (fun e w' => ∃ ra rk rc, e = .returned (.slice ra rk rc) ∧ Ext w w' ∧ GC S w' ra rk rc (zipf (fun a b => r * a + b) xs [] (max n 0))) := by
 have z0 := Ext.refl w; have hLX : LX = 17592186044416 := rfl; have hLY : LY = 8796093022208 := rfl
 obtain ⟨n5, a5, l5, c5, n6, a6, l6, c6, rfl⟩ := h3.form
 have hLV : LV = 1099511627776 := rfl
 refine enter (args := [.agg #[.bool n5, .slice a5 l5 c5, .bool n6, .slice a6 l6 c6], .slice a1 n c]) Try.func74 rfl rfl (Nat.le_of_ble_eq_true rfl) ?_
 refine V.seq (V.reg rfl ?_)
 refine vo ?_
 refine bxa rfl ?_
 intro W1 x2 b3 nn4
 have s5 := x2.sz
 have z6 := x2
 refine ass rfl ?_
 refine vnil ?_
 refine V.seq (V.reg rfl ?_)
 refine vv (rldb4 rfl ag43 b3 rfl rfl rfl rfl ) ?_
 refine mvs rfl ?_
 refine vo ?_
 refine xcall e55 (vScl_ok _ _ _ _ _ _ _ _ _ _ _ _ _ _ _ _ _ _ (hx.ext z6) (GA.nil 1 (fun _ => True) _) (h3.ext z6) (by omega) (by omega) (by omega) (by omega) (by omega) (by omega) (hu.mono (by omega))) rfl rfl ?_
 rintro _ W7 ⟨_, _, _, rfl, x8, hv⟩
 have s9 := x8.sz
 have z10 := z6.trans x8
 refine ⟨_, rfl, ?_⟩
 refine ass rfl ?_
 refine vnil ?_
 refine V.ret ?_
 refine ⟨[.slice _ _ _], ⟨rfl, trivial⟩, ?_⟩
 exact ⟨_, _, _, rfl, z10, hv⟩

theorem fromN_succ (xs : List Int) (k : Nat) (h : k < xs.length) : (xs.take (k + 1)).map (fun z : Int => (z : Rat)) = (xs.take k).map (fun z : Int => (z : Rat)) ++ [((wd xs k : Int) : Rat)] := by rw [take_succ_wd xs k h, List.map_append]; rfl

set_option maxHeartbeats 400000 in
theorem vFrom_ok (a1 : Option Addr) (n c : Nat) (xs : List Int) (S S1 : Nat → Prop) (w : World) (hx : RN .i64 S1 w a1 n c xs) (hn : n ≤ LV) (hu : Up S w) :
    Calls Try.prog 27 #[.slice a1 n c] w (fun e w' => ∃ ra rk rc, e = .returned (.slice ra rk rc) ∧ Ext w w' ∧ GC S w' ra rk rc (xs.map (fun z : Int => (z : Rat)))) := by
 have z0 := Ext.refl w; have hLX : LX = 17592186044416 := rfl; have hLY : LY = 8796093022208 := rfl
 have hLV : LV = 1099511627776 := rfl
 have l1 := hx.len; have l2 := hx.cap; have l3 := hx.max
 refine enter (args := [.slice a1 n c]) Try.func27 rfl rfl (Nat.le_of_ble_eq_true rfl) ?_
 refine V.seq (V.reg rfl ?_)
 refine ass rfl ?_
 refine vnil ?_
 refine V.seq ?_
 refine V.seq (V.reg rfl ?_)
 refine mvs rfl ?_
 refine vv (rlen sl49 rfl) ?_
 refine mvi rfl ?_
 refine vnil ?_
 refine V.block ?_
 refine V.loopK (ι := Nat × Value) [(5, .slice _ _ _), (6, .int _ _)] (fun ⟨k, v⟩ => [(7, .int .i64 (k : Int)), (2, v)]) (fun ⟨k, v⟩ W => Ext w W ∧ k ≤ n ∧ GO 4 QC S w.heap.size W 43 v ((xs.take k).map (fun z : Int => (z : Rat)))) (fun ⟨k, v⟩ => n - k) ((0, _)) ⟨rfl, rfl, trivial⟩ ⟨rfl, rfl, trivial⟩ ⟨Ext.refl _, Nat.zero_le _, GO.nil _ _⟩ ?_
 intro i2 E3 W1 h4
 obtain ⟨k, v⟩ := i2
 simp only at h4
 show V _ _ _ _ _ _ (ups (ups _ _) [(7, .int .i64 (k : Int)), (2, v)]) _
 obtain ⟨x5, hk, hO⟩ := h4
 have s6 := x5.sz
 have z7 := x5
 refine V.seq (V.reg rfl ?_)
 refine vlt rfl rfl ?_ ?_
 ·intro c8
  refine vnil ?_
  refine V.seq ?_
  refine V.condT rfl ?_
  refine V.skip ?_
  refine V.seq ?_
  refine V.block ?_
  refine V.seq (V.reg rfl ?_)
  refine vv (rixn (hx.ext z7) sl49 sz2 rfl rfl (by omega) (by omega)) ?_
  refine vldN (hx.ext z7) rfl sc2 (by omega) (by omega) ?_
  intro q9 hq9 hk10
  simp only [kb] at hk10
  refine asi rfl ?_
  refine vnil ?_
  refine V.reg rfl ?_
  refine vv (rmv (v := v) rfl) ?_
  refine mvi rfl ?_
  refine vo ?_
  refine xcall e37 (fFrom_ok _ _ _ (by omega) (GO.up hO hu (by omega))) rfl rfl ?_
  rintro _ W12 ⟨_, rfl, x13, hq11⟩
  have s14 := x13.sz
  have z15 := z7.trans x13
  replace hO := hO.ext okQC x13
  obtain ⟨_, _, _, _, _, _, _, _, rfl⟩ := hq11.form
  refine ⟨_, rfl, ?_⟩
  refine vo ?_
  refine xbs (zs := [.bool false, .slice _ _ _, .bool false, .slice _ _ _]) (ps := [(0, .agg #[_, _, _, _])]) (cs := [.bool _, .slice _ _ _, .bool _, .slice _ _ _]) sl30 zr43 sz43 rfl rfl rfl rfl rfl rfl ?_
  intro W16 x17 b18 nn19
  have s20 := x17.sz
  have z21 := z15.trans x17
  replace hO := hO.ext okQC x17
  refine vo ?_
  refine xappG okQC sl30 in43 rfl rfl hO rfl rfl b18 rfl rfl ((hq11.ext x17)) (by simp; omega) (by decide) (by omega) ?_
  intro v22 W23 hO24 hg25
  have y26 := hg25.below; have s27 := y26.size
  have z28 := z21.below (y26.mono (by omega))
  refine vv (ras (v := v22) rfl) ?_
  refine vnil ?_
  refine V.reg rfl ?_
  refine vv (rbin (bAdd (wi (by omega))) rfl rfl) ?_
  refine mvi rfl ?_
  refine vnil ?_
  refine ⟨rfl, (k + 1, _), ⟨rfl, rfl, trivial⟩, ⟨rfl, rfl, trivial⟩, ⟨z28, by omega, by rw [fromN_succ xs k (by omega), ← hq9]; exact hO24⟩, ?_⟩
  show n - (k + 1) < n - k
  omega
 ·intro c8
  refine vnil ?_
  refine V.seq ?_
  refine V.condF rfl ?_
  refine V.exit ?_
  refine V.seq (V.reg rfl ?_)
  refine vv (rmv (v := v) rfl) ?_
  refine vv (ras (v := v) rfl) ?_
  refine vnil ?_
  refine V.ret ?_
  refine ⟨[v], ⟨rfl, trivial⟩, ?_⟩
  obtain ⟨a', c', rfl⟩ := hO.form
  have hf := hO.fin okQC (fun b hb _ => hu b (by omega))
  refine ⟨_, _, _, rfl, z7, ?_⟩
  rw [List.take_of_length_le (by omega)] at hf ⊢
  exact hf

def resz (rs : List Rat) (k : Nat) : List Rat := (List.range k).map (vat rs)
theorem resz_succ (rs : List Rat) (k : Nat) : resz rs (k + 1) = resz rs k ++ [vat rs k] := by simp [resz, List.range_succ]
theorem resz_len (rs : List Rat) (k : Nat) : (resz rs k).length = k := by simp [resz]

set_option maxHeartbeats 400000 in
theorem vResize_ok (a1 : Option Addr) (n c : Nat) (z : Int) (N : Nat) (L1 : Nat) (xs : List Rat) (S S1 : Nat → Prop) (w : World) (hx : GA L1 S1 w a1 n c xs) (hN : min (max z 0) 65536 = (N : Int)) (hL : L1 < LY) (hl1 : 1 ≤ L1) (hu : Up S w) :
    Calls Try.prog 69 #[.slice a1 n c, .int .i64 z] w (fun e w' => ∃ ra rk rc, e = .returned (.slice ra rk rc) ∧ Ext w w' ∧ GC S w' ra rk rc (resz xs N)) := by
 have z0 := Ext.refl w; have hLX : LX = 17592186044416 := rfl; have hLY : LY = 8796093022208 := rfl
 have l1 := hx.len
 have hNN : N ≤ 65536 := by omega
 refine enter (args := [.slice a1 n c, .int .i64 z]) Try.func69 rfl rfl (Nat.le_of_ble_eq_true rfl) ?_
 refine V.seq (V.reg rfl ?_)
 refine ass rfl ?_
 refine vnil ?_
 refine V.seq ?_
 refine V.seq (V.reg rfl ?_)
 refine mvi rfl ?_
 refine vv (rmax rfl rfl rfl) ?_
 refine vv (rmin rfl rfl hN) ?_
 refine mvi rfl ?_
 refine vnil ?_
 refine V.block ?_
 refine V.loopK (ι := Nat × Value) [(0, .slice _ _ _), (8, .int _ _)] (fun ⟨k, v⟩ => [(9, .int .i64 (k : Int)), (4, v)]) (fun ⟨k, v⟩ W => Ext w W ∧ k ≤ N ∧ GO 4 QC S w.heap.size W 43 v (resz xs k)) (fun ⟨k, v⟩ => N - k) ((0, _)) ⟨rfl, rfl, trivial⟩ ⟨rfl, rfl, trivial⟩ ⟨Ext.refl _, Nat.zero_le _, GO.nil _ _⟩ ?_
 intro i2 E3 W1 h4
 obtain ⟨k, v⟩ := i2
 simp only at h4
 show V _ _ _ _ _ _ (ups (ups _ _) [(9, .int .i64 (k : Int)), (4, v)]) _
 obtain ⟨x5, hk, hO⟩ := h4
 have s6 := x5.sz
 have z7 := x5
 refine V.seq (V.reg rfl ?_)
 refine vlt rfl rfl ?_ ?_
 ·intro c8
  refine vnil ?_
  refine V.seq ?_
  refine V.condT rfl ?_
  refine V.skip ?_
  refine V.seq ?_
  refine V.block ?_
  refine V.seq (V.reg rfl ?_)
  refine mvi rfl ?_
  refine asi rfl ?_
  refine vnil ?_
  refine V.reg rfl ?_
  refine vv (rmv (v := v) rfl) ?_
  refine mvs rfl ?_
  refine mvi rfl ?_
  refine vo ?_
  obtain ⟨qsx, rxx, axx⟩ := (hx.ext z7)
  refine xcall e89 (at_ok _ _ _ _ _ _ _ rxx axx.form (by omega)) rfl rfl ?_
  rintro _ W11 ⟨_, _, _, _, _, _, _, _, rfl, x12, eq9⟩
  have s13 := x12.sz
  have z14 := z7.trans x12
  replace hO := hO.ext okQC x12
  have hq10 := (axx.qat (k)).ext x12
  rw [show ((k : Nat) : Int).toNat = k by omega] at eq9
  rw [eq9] at hq10
  refine ⟨_, rfl, ?_⟩
  refine vo ?_
  refine xcall e39 (fCanon_ok _ _ _ _ _ _ hq10 (by omega) (by omega) (GO.up hO hu (by omega))) rfl rfl ?_
  rintro _ W16 ⟨_, rfl, x17, hq15⟩
  have s18 := x17.sz
  have z19 := z14.trans x17
  replace hO := hO.ext okQC x17
  obtain ⟨_, _, _, _, _, _, _, _, rfl⟩ := hq15.form
  refine ⟨_, rfl, ?_⟩
  refine vo ?_
  refine xbs (zs := [.bool false, .slice _ _ _, .bool false, .slice _ _ _]) (ps := [(0, .agg #[_, _, _, _])]) (cs := [.bool _, .slice _ _ _, .bool _, .slice _ _ _]) sl30 zr43 sz43 rfl rfl rfl rfl rfl rfl ?_
  intro W20 x21 b22 nn23
  have s24 := x21.sz
  have z25 := z19.trans x21
  replace hO := hO.ext okQC x21
  refine vo ?_
  refine xappG okQC sl30 in43 rfl rfl hO rfl rfl b22 rfl rfl ((hq15.ext x21)) (by rw [resz_len]; omega) (by decide) (by omega) ?_
  intro v26 W27 hO28 hg29
  have y30 := hg29.below; have s31 := y30.size
  have z32 := z25.below (y30.mono (by omega))
  refine vv (ras (v := v26) rfl) ?_
  refine vnil ?_
  refine V.reg rfl ?_
  refine vv (rbin (bAdd (wi (by omega))) rfl rfl) ?_
  refine mvi rfl ?_
  refine vnil ?_
  refine ⟨rfl, (k + 1, _), ⟨rfl, rfl, trivial⟩, ⟨rfl, rfl, trivial⟩, ⟨z32, by omega, by rw [resz_succ]; exact hO28⟩, ?_⟩
  show N - (k + 1) < N - k
  omega
 ·intro c8
  refine vnil ?_
  refine V.seq ?_
  refine V.condF rfl ?_
  refine V.exit ?_
  refine V.seq (V.reg rfl ?_)
  refine vv (rmv (v := v) rfl) ?_
  refine vv (ras (v := v) rfl) ?_
  refine vnil ?_
  refine V.ret ?_
  refine ⟨[v], ⟨rfl, trivial⟩, ?_⟩
  obtain ⟨a', c', rfl⟩ := hO.form
  have hf := hO.fin okQC (fun b hb _ => hu b (by omega))
  obtain rfl : k = N := by omega
  exact ⟨_, _, _, rfl, z7, hf⟩
end Go.Proofs.Ytknbjfefeeojlaa
/- Package vec: Unit, Dot. -/
namespace Go.Proofs.Ytknbjfefeeojlaa
open Go.RowKit
attribute [local irreducible] RV VH V OpF Calls
def unitv (N : Nat) (k : Int) : List Rat := if 0 ≤ k ∧ k < N then (List.replicate N 0).set k.toNat 1 else List.replicate N 0

set_option maxHeartbeats 400000 in
theorem vUnit_ok (z k : Int) (N : Nat) (S : Nat → Prop) (w : World) (hN : min (max z 0) 65536 = (N : Int)) (hu : Up S w) :
    Calls Try.prog 19 #[.int .i64 z, .int .i64 k] w (fun e w' => ∃ ra rk rc, e = .returned (.slice ra rk rc) ∧ Ext w w' ∧ GC S w' ra rk rc (unitv N k)) := by
 have z0 := Ext.refl w; have hLX : LX = 17592186044416 := rfl; have hLY : LY = 8796093022208 := rfl
 have hNN : N ≤ 65536 := by omega
 have hu2 : ∀ W : World, w.heap.size + 1 ≤ W.heap.size → Up (SX S [w.heap.size]) W := fun W hW => SX.up (hu.mono (by omega)) (by simp <;> omega)
 refine enter (args := [.int .i64 z, .int .i64 k]) Try.func19 rfl rfl (Nat.le_of_ble_eq_true rfl) ?_
 refine V.seq (V.reg rfl ?_)
 refine ass rfl ?_
 refine vnil ?_
 refine V.seq (V.reg rfl ?_)
 refine mvi rfl ?_
 refine vv (rmax rfl rfl rfl) ?_
 refine vv (rmin rfl rfl hN) ?_
 refine vo ?_
 refine xmkS (zs := [.bool false, .slice _ _ _, .bool false, .slice _ _ _]) (N) sl30 in43 rfl rfl rfl rfl rfl (by omega) (by omega) (by omega) ?_
 intro W1 x2 out n3
 have s4 := x2.sz
 have z5 := x2
 refine ass rfl ?_
 refine vnil ?_
 refine V.seq ?_
 refine V.seq (V.reg rfl ?_)
 refine mvi rfl ?_
 refine vge rfl rfl ?_ ?_
 ·intro c6
  refine mvb rfl ?_
  refine vg rfl ?_
  refine mvi rfl ?_
  refine vg rfl ?_
  refine mvs rfl ?_
  refine vg rfl ?_
  refine vv (rlen sl30 rfl) ?_
  refine vg rfl ?_
  refine vlt rfl rfl ?_ ?_
  ·intro c7
   refine vv (rpk (v := .bool true) rfl rfl) ?_
   refine vnil ?_
   refine V.condT rfl ?_
   refine V.reg rfl ?_
   refine mvs rfl ?_
   refine mvi rfl ?_
   refine vo ?_
   refine xcall e37 (fFrom_ok _ _ _ (by omega) (hu2 _ (by omega))) rfl rfl ?_
   rintro _ W9 ⟨_, rfl, x10, hq8⟩
   have s11 := x10.sz
   have z12 := z5.trans x10
   replace out := out.ext x10
   obtain ⟨_, _, _, _, _, _, _, _, rfl⟩ := hq8.form
   refine ⟨_, rfl, ?_⟩
   refine vv (rix sl30 sz43 rfl rfl (by omega) (by omega) rfl) ?_
   refine vo ?_
   refine xstq (q := [.bool _, .slice _ _ _, .bool _, .slice _ _ _]) out rfl rfl rfl sz43 rfl rfl (by omega) (by omega) ?_
   intro W13 y14 out
   have z15 := z12.below (y14.below (by omega))
   have s16 := y14.size
   refine vnil ?_
   refine V.seq (V.reg rfl ?_)
   refine mvs rfl ?_
   refine ass rfl ?_
   refine vnil ?_
   refine V.ret ?_
   refine ⟨[.slice _ _ _], ⟨rfl, trivial⟩, ?_⟩
   refine ⟨_, _, _, rfl, z15, _, out.rs (hu _ (by omega)), ?_⟩
   rw [unitv, if_pos (show 0 ≤ k ∧ k < (N : Int) from ⟨by omega, by omega⟩)]
   exact (All2.rep (QC.zero S _) N).set ((hq8.ck (y14.ck (by intro hh; first | (simp [SX] at hh <;> omega) | omega)))).un
  ·intro c7
   refine vv (rpk (v := .bool false) rfl rfl) ?_
   refine vnil ?_
   refine V.condF rfl ?_
   refine V.skip ?_
   refine V.seq (V.reg rfl ?_)
   refine mvs rfl ?_
   refine ass rfl ?_
   refine vnil ?_
   refine V.ret ?_
   refine ⟨[.slice _ _ _], ⟨rfl, trivial⟩, ?_⟩
   refine ⟨_, _, _, rfl, z5, _, out.rs (hu _ (by omega)), ?_⟩
   rw [unitv, if_neg (show ¬ (0 ≤ k ∧ k < (N : Int)) from by omega)]
   exact All2.rep (QC.zero S _) N
 ·intro c6
  refine mvb rfl ?_
  refine vgn (b := false) rfl rfl ?_
  refine vgn (b := false) rfl rfl ?_
  refine vgn (b := false) rfl rfl ?_
  refine vgn (b := false) rfl rfl ?_
  refine vv (rpk (v := .bool false) rfl rfl) ?_
  refine vnil ?_
  refine V.condF rfl ?_
  refine V.skip ?_
  refine V.seq (V.reg rfl ?_)
  refine mvs rfl ?_
  refine ass rfl ?_
  refine vnil ?_
  refine V.ret ?_
  refine ⟨[.slice _ _ _], ⟨rfl, trivial⟩, ?_⟩
  refine ⟨_, _, _, rfl, z5, _, out.rs (hu _ (by omega)), ?_⟩
  rw [unitv, if_neg (show ¬ (0 ≤ k ∧ k < (N : Int)) from by omega)]
  exact All2.rep (QC.zero S _) N
end Go.Proofs.Ytknbjfefeeojlaa
/- Package vec: Dot. -/
namespace Go.Proofs.Ytknbjfefeeojlaa
open Go.RowKit
attribute [local irreducible] RV VH V OpF Calls
structure DJ (w : World) (S : Nat → Prop) (b4 b5 ba b1 b2 : Nat) (fv v1 v2 : Value) (q : List Value) (s : Rat) (X : World) : Prop where
  ext : Ext w X
  x4 : BoxAt X b4 q 43
  xa : BoxAt X ba q 43
  x5 : BoxAt X b5 [fv] 62
  x1 : BoxAt X b1 [v1] 30
  x2 : BoxAt X b2 [v2] 30
  qc : QC (fun x => S x ∧ x ≠ b4 ∧ x ≠ ba) X q s
section
variable {w X Y Z : World} {B b4 b5 ba b1 b2 : Nat} {fv v1 v2 : Value} {q q' : List Value} {s s' : Rat} {S : Nat → Prop}
theorem DJ.tn (h : DJ w S b4 b5 ba b1 b2 fv v1 v2 q s X) (t : Tn B X Y) (hB : w.heap.size ≤ B) : DJ w S b4 b5 ba b1 b2 fv v1 v2 q s Y :=
  ⟨t.ext h.ext hB, h.x4.tn t, h.xa.tn t, h.x5.tn t, h.x1.tn t, h.x2.tn t, h.qc.ck (t.ck _)⟩
theorem DJ.xt (h : DJ w S b4 b5 ba b1 b2 fv v1 v2 q s X) (x : Ext X Y) : DJ w S b4 b5 ba b1 b2 fv v1 v2 q s Y :=
  ⟨h.ext.trans x, h.x4.ext x, h.xa.ext x, h.x5.ext x, h.x1.ext x, h.x2.ext x, h.qc.ext x⟩
end

end Go.Proofs.Ytknbjfefeeojlaa
/- Matrices of the program: slices of rows. -/
namespace Go.Proofs.Ytknbjfefeeojlaa
open Go.RowKit
def MG {ρ : Type} (G : (Nat → Prop) → World → Option Addr → Nat → Nat → ρ → Prop) (S : Nat → Prop) (W : World) (a : Option Addr) (n c : Nat) (rss : List ρ) : Prop := ∃ qs, RS 1 S W a n c qs ∧ All2 (RowOf G S W) qs rss
section
variable {ρt : Type} {G : (Nat → Prop) → World → Option Addr → Nat → Nat → List ρt → Prop} {S S' : Nat → Prop} {W W' : World} {a : Option Addr} {n c : Nat} {rss : List (List ρt)}
theorem MG.ck (ok : ElOK (RowOf G)) (h : MG G S W a n c rss) (x : CK S W W') : MG G S W' a n c rss := by
  obtain ⟨qs, h1, h2⟩ := h; exact ⟨qs, h1.ck x, h2.imp fun _ _ h => ok.ck h x⟩
theorem MG.sub (ok : ElOK (RowOf G)) (h : MG G S W a n c rss) (hs : ∀ b, b < W.heap.size → S b → S' b) : MG G S' W a n c rss := by
  obtain ⟨qs, h1, h2⟩ := h; exact ⟨qs, h1.sub hs, h2.imp fun _ _ h => ok.sub h hs⟩
theorem MG.len (h : MG G S W a n c rss) : rss.length = n := by obtain ⟨qs, h1, h2⟩ := h; rw [← h2.len, h1.len]
theorem MG.max (h : MG G S W a n c rss) : n ≤ c ∧ c ≤ 9223372036854775807 := by obtain ⟨qs, h1, h2⟩ := h; exact ⟨h1.cap, h1.max⟩
theorem MG.isS (h : MG G S W a n c rss) {i : Int} (hi : 0 ≤ i) (hn : i < n) : a.isSome = true := by obtain ⟨qs, h1, h2⟩ := h; exact h1.isS hi hn
def rowat (rss : List (List ρt)) (i : Nat) : List ρt := rss.getD i []
theorem MG.el (h : MG G S W a n c rss) {i : Int} (hi : 0 ≤ i) (hn : i < n) : ∃ a' n' c', W.cell? (adr a i 1) = some (.slice a' n' c') ∧ G S W a' n' c' (rowat rss i.toNat) := by
  obtain ⟨qs, h1, h2⟩ := h
  obtain ⟨q, h3, h4, h5⟩ := h1.el hi hn
  obtain ⟨r, h6, a', n', c', rfl, h7⟩ := h2.get h3
  have e : rowat rss i.toNat = r := by unfold rowat; rw [List.getD_eq_getElem?_getD, h6]; rfl
  refine ⟨a', n', c', ?_, e ▸ h7⟩
  have := h5 0 _ rfl
  rwa [add0] at this
end
theorem GA.isS {L : Nat} {S : Nat → Prop} {W : World} {a : Option Addr} {n c : Nat} {rs : List Rat} (h : GA L S W a n c rs) {i : Int} (hi : 0 ≤ i) (hn : i < n) : a.isSome = true := by obtain ⟨qs, h1, h2⟩ := h; exact h1.isS hi hn
abbrev MA (L : Nat) (S : Nat → Prop) (W : World) (a : Option Addr) (n c : Nat) (rss : List (List Rat)) : Prop := MG (GA L) S W a n c rss
abbrev MC (S : Nat → Prop) (W : World) (a : Option Addr) (n c : Nat) (rss : List (List Rat)) : Prop := MG GC S W a n c rss
abbrev MX (S : Nat → Prop) (W : World) (a : Option Addr) (n c : Nat) (rss : List (List RawQ)) : Prop := MG GX S W a n c rss
section
variable {L : Nat} {S : Nat → Prop} {W W' : World} {a : Option Addr} {n c : Nat} {rss : List (List Rat)} {xss : List (List RawQ)}
theorem MA.ext (h : MA L S W a n c rss) (x : Ext W W') : MA L S W' a n c rss := MG.ck (okRowA L) h (x.ck _)
theorem MC.ext (h : MC S W a n c rss) (x : Ext W W') : MC S W' a n c rss := MG.ck okRowC h (x.ck _)
theorem MX.ext (h : MX S W a n c xss) (x : Ext W W') : MX S W' a n c xss := MG.ck okRowX h (x.ck _)
theorem MA.ck (h : MA L S W a n c rss) (x : CK S W W') : MA L S W' a n c rss := MG.ck (okRowA L) h x
theorem MC.ck (h : MC S W a n c rss) (x : CK S W W') : MC S W' a n c rss := MG.ck okRowC h x
theorem MX.ck (h : MX S W a n c xss) (x : CK S W W') : MX S W' a n c xss := MG.ck okRowX h x
end
def colsN (rss : List (List Rat)) : Nat := rss.foldl (fun m r => max m r.length) 0
theorem colsN_succ (rss : List (List Rat)) (k : Nat) (h : k < rss.length) : colsN (rss.take (k + 1)) = max (colsN (rss.take k)) (rowat rss k).length := by
  unfold colsN rowat
  rw [List.take_succ_eq_append_getElem h, List.foldl_append]
  simp [h]
def mat (rss : List (List Rat)) (i k : Nat) : Rat := vat (rowat rss i) k
section
variable {r : Option Nat} {P : Program} {ops : Array Oper} {R : Env → World → Prop} {l : List Oper} {E : Env} {W : World} {t : Tmp} {ty T : TypeId} {pos : String} {af : Array Edge} {x : Operand} {ρt : Type} {G : (Nat → Prop) → World → Option Addr → Nat → Nat → List ρt → Prop} {S : Nat → Prop} {a : Option Addr} {n c : Nat} {rss : List (List ρt)} {i : Int}
theorem vldRow (h : MG G S W a n c rss) (hx : ev E x = .pointer (some (adr a i 1))) (hT : Sc P T) (h0 : 0 ≤ i) (h1 : i < n)
    (K : ∀ a' n' c', G S W a' n' c' (rowat rss i.toNat) → RV r P ops R l (up E t (.slice a' n' c')) W) : RV r P ops R (⟨some t, .load T x, ty, pos, af, none⟩ :: l) E W := by
  obtain ⟨a', n', c', hc, hg⟩ := h.el h0 h1
  exact vv (rld1 hx hT hc) (K _ _ _ hg)
end
end Go.Proofs.Ytknbjfefeeojlaa
/- Package mat: Cols, At. -/
namespace Go.Proofs.Ytknbjfefeeojlaa
open Go.RowKit
attribute [local irreducible] RV VH V OpF Calls

set_option maxHeartbeats 400000 in
theorem mCols_ok (a1 : Option Addr) (n c : Nat) (L1 : Nat) (rss : List (List Rat)) (S1 : Nat → Prop) (w : World) (hx : MA L1 S1 w a1 n c rss) :
    Calls Try.prog 18 #[.slice a1 n c] w (fun e w' => e = .returned (.int .i64 (colsN rss : Int)) ∧ Ext w w') := by
 have z0 := Ext.refl w; have hLX : LX = 17592186044416 := rfl; have hLY : LY = 8796093022208 := rfl
 have l1 := hx.len; have l2 := hx.max
 refine enter (args := [.slice a1 n c]) Try.func18 rfl rfl (Nat.le_of_ble_eq_true rfl) ?_
 refine V.seq (V.reg rfl ?_)
 refine asi rfl ?_
 refine vnil ?_
 refine V.seq ?_
 refine V.seq (V.reg rfl ?_)
 refine mvs rfl ?_
 refine vv (rlen sl25 rfl) ?_
 refine mvi rfl ?_
 refine vnil ?_
 refine V.block ?_
 refine V.loopK (ι := Nat) [(5, .slice _ _ _), (6, .int _ _)] (fun k => [(7, .int .i64 (k : Int)), (2, .int .i64 (colsN (rss.take k) : Int))]) (fun k W => Ext w W ∧ k ≤ n) (fun k => n - k) (0) ⟨rfl, rfl, trivial⟩ ⟨rfl, rfl, trivial⟩ ⟨Ext.refl _, Nat.zero_le _⟩ ?_
 intro k E2 W1 h3
 obtain ⟨x4, hk⟩ := h3
 have s5 := x4.sz
 have z6 := x4
 refine V.seq (V.reg rfl ?_)
 refine vlt rfl rfl ?_ ?_
 ·intro c7
  refine vnil ?_
  refine V.seq ?_
  refine V.condT rfl ?_
  refine V.skip ?_
  refine V.seq ?_
  refine V.block ?_
  refine V.seq (V.reg rfl ?_)
  refine vv (rix sl25 sz30 rfl rfl (by omega) (by omega) ((hx.ext z6).isS (i := 0) (by omega) (by omega))) ?_
  refine vldRow (hx.ext z6) rfl sc30 (by omega) (by omega) ?_
  intro a8 n9 c10 hg11
  have hg11l := hg11.len; have hg11m := hg11.max
  refine ass rfl ?_
  refine vnil ?_
  refine V.reg rfl ?_
  refine mvi rfl ?_
  refine mvs rfl ?_
  refine vv (rlen sl30 rfl) ?_
  have ecs : max ((colsN (rss.take k) : Nat) : Int) ((rowat rss ((k : Int)).toNat).length : Nat) = (colsN (rss.take (k + 1)) : Int) := by rw [colsN_succ rss k (by omega)]; simp; omega
  rw [hg11l] at ecs
  refine vv (rmax rfl rfl ecs) ?_
  refine asi rfl ?_
  refine vnil ?_
  refine V.reg rfl ?_
  refine vv (rbin (bAdd (wi (by omega))) rfl rfl) ?_
  refine mvi rfl ?_
  refine vnil ?_
  refine ⟨rfl, k + 1, ⟨rfl, rfl, trivial⟩, ⟨rfl, rfl, trivial⟩, ⟨z6, by omega⟩, ?_⟩
  show n - (k + 1) < n - k
  omega
 ·intro c7
  refine vnil ?_
  refine V.seq ?_
  refine V.condF rfl ?_
  refine V.exit ?_
  refine V.seq (V.reg rfl ?_)
  refine mvi rfl ?_
  refine asi rfl ?_
  refine vnil ?_
  refine V.ret ?_
  refine ⟨[.int _ _], ⟨rfl, trivial⟩, ?_⟩
  exact ⟨by rw [List.take_of_length_le (by omega)]; rfl, z6⟩

def matI (rss : List (List Rat)) (i k : Int) : Rat := if 0 ≤ i ∧ 0 ≤ k then mat rss i.toNat k.toNat else 0
theorem mat_ge1 {rss : List (List Rat)} {i k : Nat} (h : rss.length ≤ i) : mat rss i k = 0 := by
  unfold mat rowat vat; rw [List.getD_eq_getElem?_getD (l := rss), List.getElem?_eq_none h]; simp
theorem mat_ge2 {rss : List (List Rat)} {i k : Nat} (h : (rowat rss i).length ≤ k) : mat rss i k = 0 := by
  unfold mat vat; rw [List.getD_eq_getElem?_getD, List.getElem?_eq_none h]; simp
theorem matI_neg {rss : List (List Rat)} {i k : Int} (h : i < 0 ∨ k < 0) : matI rss i k = 0 := by unfold matI; rw [if_neg (by omega)]
theorem matI_ge1 {rss : List (List Rat)} {i k : Int} (h : (rss.length : Int) ≤ i) : matI rss i k = 0 := by
  unfold matI; split
  · exact mat_ge1 (by omega)
  · rfl
theorem matI_ge2 {rss : List (List Rat)} {i k : Int} (h : ((rowat rss i.toNat).length : Int) ≤ k) : matI rss i k = 0 := by
  unfold matI; split
  · exact mat_ge2 (by omega)
  · rfl

set_option maxHeartbeats 400000 in
theorem mAt_ok (a1 : Option Addr) (n c : Nat) (i k : Int) (L1 : Nat) (rss : List (List Rat)) (S S1 : Nat → Prop) (w : World) (hx : MA L1 S1 w a1 n c rss) (hL : L1 < LY) (hl1 : 1 ≤ L1) (hu : Up S w) :
    Calls Try.prog 21 #[.slice a1 n c, .int .i64 i, .int .i64 k] w (PQ S (matI rss i k) w) := by
 have z0 := Ext.refl w; have hLX : LX = 17592186044416 := rfl; have hLY : LY = 8796093022208 := rfl
 have l1 := hx.len; have l2 := hx.max
 have hu2 : ∀ W : World, w.heap.size + 1 ≤ W.heap.size → Up (SX S [w.heap.size]) W := fun W hW => SX.up (hu.mono (by omega)) (by simp <;> omega)
 refine enter (args := [.slice a1 n c, .int .i64 i, .int .i64 k]) Try.func21 rfl rfl (Nat.le_of_ble_eq_true rfl) ?_
 refine V.seq (V.reg rfl ?_)
 refine vo ?_
 refine xal zc43 ?_
 intro W1 x2 b3 nn4
 have s5 := x2.sz
 have z6 := x2
 refine vnil ?_
 refine V.seq ?_
 refine V.seq (V.reg rfl ?_)
 refine mvi rfl ?_
 refine vlt rfl rfl ?_ ?_
 ·intro c7
  refine mvb rfl ?_
  refine vgn (b := true) rfl rfl ?_
  refine vgn (b := true) rfl rfl ?_
  refine vgn (b := true) rfl rfl ?_
  refine vgn (b := true) rfl rfl ?_
  refine vv (rpk (v := .bool true) rfl rfl) ?_
  refine mvb rfl ?_
  refine vgn (b := true) rfl rfl ?_
  refine vgn (b := true) rfl rfl ?_
  refine vv (rpk (v := .bool true) rfl rfl) ?_
  refine mvb rfl ?_
  refine vgn (b := true) rfl rfl ?_
  refine vgn (b := true) rfl rfl ?_
  refine vgn (b := true) rfl rfl ?_
  refine vgn (b := true) rfl rfl ?_
  refine vgn (b := true) rfl rfl ?_
  refine vgn (b := true) rfl rfl ?_
  refine vgn (b := true) rfl rfl ?_
  refine vv (rpk (v := .bool true) rfl rfl) ?_
  refine vnil ?_
  refine V.condT rfl ?_
  refine V.seq (V.reg rfl ?_)
  refine vv (rbd (ps := []) (cs := [.bool false, .slice _ _ _, .bool false, .slice _ _ _]) pl43 rfl rfl) ?_
  refine vo ?_
  refine sta (cs' := [_, _, _, _]) b3 rfl rfl sz43 rfl rfl rfl ?_
  intro W8 y9 b3
  have z10 := z6.below (y9.below (by omega))
  have s11 := y9.size
  refine vnil ?_
  refine V.ret ?_
  refine ⟨[_], ⟨⟨_, rfl, lvb ag43 b3 rfl⟩, trivial⟩, ?_⟩
  refine ⟨_, rfl, z10, (QC.zero S _).cast ?_⟩
  first | exact (matI_neg (by omega)).symm | exact (matI_ge1 (by omega)).symm | exact (matI_ge2 (by omega)).symm
 ·intro c7
  refine mvb rfl ?_
  refine vg rfl ?_
  refine mvi rfl ?_
  refine vg rfl ?_
  refine mvs rfl ?_
  refine vg rfl ?_
  refine vv (rlen sl25 rfl) ?_
  refine vg rfl ?_
  refine vge rfl rfl ?_ ?_
  ·intro c12
   refine vv (rpk (v := .bool true) rfl rfl) ?_
   refine mvb rfl ?_
   refine vgn (b := true) rfl rfl ?_
   refine vgn (b := true) rfl rfl ?_
   refine vv (rpk (v := .bool true) rfl rfl) ?_
   refine mvb rfl ?_
   refine vgn (b := true) rfl rfl ?_
   refine vgn (b := true) rfl rfl ?_
   refine vgn (b := true) rfl rfl ?_
   refine vgn (b := true) rfl rfl ?_
   refine vgn (b := true) rfl rfl ?_
   refine vgn (b := true) rfl rfl ?_
   refine vgn (b := true) rfl rfl ?_
   refine vv (rpk (v := .bool true) rfl rfl) ?_
   refine vnil ?_
   refine V.condT rfl ?_
   refine V.seq (V.reg rfl ?_)
   refine vv (rbd (ps := []) (cs := [.bool false, .slice _ _ _, .bool false, .slice _ _ _]) pl43 rfl rfl) ?_
   refine vo ?_
   refine sta (cs' := [_, _, _, _]) b3 rfl rfl sz43 rfl rfl rfl ?_
   intro W13 y14 b3
   have z15 := z6.below (y14.below (by omega))
   have s16 := y14.size
   refine vnil ?_
   refine V.ret ?_
   refine ⟨[_], ⟨⟨_, rfl, lvb ag43 b3 rfl⟩, trivial⟩, ?_⟩
   refine ⟨_, rfl, z15, (QC.zero S _).cast ?_⟩
   first | exact (matI_neg (by omega)).symm | exact (matI_ge1 (by omega)).symm | exact (matI_ge2 (by omega)).symm
  ·intro c12
   refine vv (rpk (v := .bool false) rfl rfl) ?_
   refine mvb rfl ?_
   refine vg rfl ?_
   refine mvi rfl ?_
   refine vg rfl ?_
   refine vlt rfl rfl ?_ ?_
   ·intro c17
    refine vv (rpk (v := .bool true) rfl rfl) ?_
    refine mvb rfl ?_
    refine vgn (b := true) rfl rfl ?_
    refine vgn (b := true) rfl rfl ?_
    refine vgn (b := true) rfl rfl ?_
    refine vgn (b := true) rfl rfl ?_
    refine vgn (b := true) rfl rfl ?_
    refine vgn (b := true) rfl rfl ?_
    refine vgn (b := true) rfl rfl ?_
    refine vv (rpk (v := .bool true) rfl rfl) ?_
    refine vnil ?_
    refine V.condT rfl ?_
    refine V.seq (V.reg rfl ?_)
    refine vv (rbd (ps := []) (cs := [.bool false, .slice _ _ _, .bool false, .slice _ _ _]) pl43 rfl rfl) ?_
    refine vo ?_
    refine sta (cs' := [_, _, _, _]) b3 rfl rfl sz43 rfl rfl rfl ?_
    intro W18 y19 b3
    have z20 := z6.below (y19.below (by omega))
    have s21 := y19.size
    refine vnil ?_
    refine V.ret ?_
    refine ⟨[_], ⟨⟨_, rfl, lvb ag43 b3 rfl⟩, trivial⟩, ?_⟩
    refine ⟨_, rfl, z20, (QC.zero S _).cast ?_⟩
    first | exact (matI_neg (by omega)).symm | exact (matI_ge1 (by omega)).symm | exact (matI_ge2 (by omega)).symm
   ·intro c17
    refine vv (rpk (v := .bool false) rfl rfl) ?_
    refine mvb rfl ?_
    refine vg rfl ?_
    refine mvi rfl ?_
    refine vg rfl ?_
    refine mvs rfl ?_
    refine vg rfl ?_
    refine mvi rfl ?_
    refine vg rfl ?_
    refine vv (rix sl25 sz30 rfl rfl (by omega) (by omega) ((hx.ext z6).isS (i := 0) (by omega) (by omega))) ?_
    refine vg rfl ?_
    refine vldRow (hx.ext z6) rfl sc30 (by omega) (by omega) ?_
    intro a22 n23 c24 hg25
    have hg25l := hg25.len; have hg25m := hg25.max
    refine vg rfl ?_
    refine vv (rlen sl30 rfl) ?_
    refine vg rfl ?_
    refine vge rfl rfl ?_ ?_
    ·intro c26
     refine vv (rpk (v := .bool true) rfl rfl) ?_
     refine vnil ?_
     refine V.condT rfl ?_
     refine V.seq (V.reg rfl ?_)
     refine vv (rbd (ps := []) (cs := [.bool false, .slice _ _ _, .bool false, .slice _ _ _]) pl43 rfl rfl) ?_
     refine vo ?_
     refine sta (cs' := [_, _, _, _]) b3 rfl rfl sz43 rfl rfl rfl ?_
     intro W27 y28 b3
     have z29 := z6.below (y28.below (by omega))
     have s30 := y28.size
     refine vnil ?_
     refine V.ret ?_
     refine ⟨[_], ⟨⟨_, rfl, lvb ag43 b3 rfl⟩, trivial⟩, ?_⟩
     refine ⟨_, rfl, z29, (QC.zero S _).cast ?_⟩
     first | exact (matI_neg (by omega)).symm | exact (matI_ge1 (by omega)).symm | exact (matI_ge2 (by omega)).symm
    ·intro c26
     refine vv (rpk (v := .bool false) rfl rfl) ?_
     refine vnil ?_
     refine V.condF rfl ?_
     refine V.skip ?_
     refine V.seq (V.reg rfl ?_)
     refine mvs rfl ?_
     refine mvi rfl ?_
     refine vv (rix sl25 sz30 rfl rfl (by omega) (by omega) ((hx.ext z6).isS (i := 0) (by omega) (by omega))) ?_
     refine vldRow (hx.ext z6) rfl sc30 (by omega) (by omega) ?_
     intro a31 n32 c33 hg34
     have hg34l := hg34.len; have hg34m := hg34.max
     refine mvi rfl ?_
     refine vv (rix sl30 sz43 rfl rfl (by omega) (by omega) (hg34.isS (i := 0) (by omega) (by omega))) ?_
     refine vldQ hg34 rfl ag43 (by omega) (by omega) ?_
     intro n35 a36 l37 c38 n39 a40 l41 c42 hq43
     refine vo ?_
     refine xcall e39 (fCanon_ok _ _ _ _ _ _ hq43 (by omega) (by omega) (hu2 _ (by omega))) rfl rfl ?_
     rintro _ W45 ⟨_, rfl, x46, hq44⟩
     have s47 := x46.sz
     have z48 := z6.trans x46
     replace b3 := b3.ext x46
     obtain ⟨_, _, _, _, _, _, _, _, rfl⟩ := hq44.form
     refine ⟨_, rfl, ?_⟩
     refine vo ?_
     refine sta (cs' := [_, _, _, _]) b3 rfl rfl sz43 rfl rfl rfl ?_
     intro W49 y50 b3
     have z51 := z48.below (y50.below (by omega))
     have s52 := y50.size
     refine vnil ?_
     refine V.ret ?_
     refine ⟨[_], ⟨⟨_, rfl, lvb ag43 b3 rfl⟩, trivial⟩, ?_⟩
     refine ⟨_, rfl, z51, ((hq44.ck (y50.ck (by intro hh; first | (simp [SX] at hh <;> omega) | omega)))).un.cast ?_⟩
     rw [matI, if_pos ⟨by omega, by omega⟩]; rfl
end Go.Proofs.Ytknbjfefeeojlaa
/- Package mat: products. -/
namespace Go.Proofs.Ytknbjfefeeojlaa
open Go.RowKit
attribute [local irreducible] RV VH V OpF Calls
theorem take_row {α : Type} (f : List Rat → α) (rss : List (List Rat)) (k : Nat) (h : k < rss.length) : (rss.take (k + 1)).map f = (rss.take k).map f ++ [f (rowat rss k)] := by
  rw [List.take_succ_eq_append_getElem h, List.map_append]; simp [rowat, h]
theorem GA.rows {L : Nat} {S : Nat → Prop} {W : World} {a : Option Addr} {n c : Nat} {rss : List (List Rat)} (h : MA L S W a n c rss) (hL : 1 ≤ L) (i : Nat) : szV L (rowat rss i) := by
  by_cases hi : i < n
  · obtain ⟨a', n', c', _, hg⟩ := h.el (i := (i : Int)) (by omega) (by omega)
    exact hg.szv hL
  · have := h.len
    unfold rowat; rw [List.getD_eq_getElem?_getD, List.getElem?_eq_none (by omega)]; intro r hr; simp at hr

end Go.Proofs.Ytknbjfefeeojlaa
/- Package mat: cut, the closures of grid. -/
namespace Go.Proofs.Ytknbjfefeeojlaa
open Go.RowKit
attribute [local irreducible] RV VH V OpF Calls

set_option maxHeartbeats 400000 in
theorem mcut_ok (z : Int) (w : World) :
    Calls Try.prog 31 #[.int .i64 z] w (fun e w' => e = .returned (.int .i64 (min (max z 0) 1024)) ∧ w = w') := by
 have z0 := Ext.refl w; have hLX : LX = 17592186044416 := rfl; have hLY : LY = 8796093022208 := rfl
 refine enter (args := [.int .i64 z]) Try.func31 rfl rfl (Nat.le_of_ble_eq_true rfl) ?_
 refine V.seq (V.reg rfl ?_)
 refine asi rfl ?_
 refine vnil ?_
 refine V.seq (V.reg rfl ?_)
 refine mvi rfl ?_
 refine vv (rmax rfl rfl rfl) ?_
 refine vv (rmin rfl rfl rfl) ?_
 refine asi rfl ?_
 refine vnil ?_
 refine V.ret ?_
 refine ⟨[.int _ _], ⟨rfl, trivial⟩, ?_⟩
 exact ⟨rfl, rfl⟩
set_option maxHeartbeats 400000 in
theorem mRes1_ok (a1 : Option Addr) (n c : Nat) (i k : Int) (b : Nat) (L1 : Nat) (rss : List (List Rat)) (S S1 : Nat → Prop) (w : World) (hb : BoxAt w b [.slice a1 n c] 25) (hx : MA L1 S1 w a1 n c rss) (hL : L1 < LY) (hl1 : 1 ≤ L1) (hu : Up S w) :
    Calls Try.prog 32 #[.int .i64 i, .int .i64 k, .pointer (some ⟨b, 0, none⟩)] w (PQ S (matI rss i k) w) := by
 have z0 := Ext.refl w; have hLX : LX = 17592186044416 := rfl; have hLY : LY = 8796093022208 := rfl
 have lb := hb.lt
 have hu2 : ∀ W : World, w.heap.size + 1 ≤ W.heap.size → Up (SX S [w.heap.size]) W := fun W hW => SX.up (hu.mono (by omega)) (by simp <;> omega)
 refine enter (args := [.int .i64 i, .int .i64 k, .pointer (some ⟨b, 0, none⟩)]) Try.func32 rfl rfl (Nat.le_of_ble_eq_true rfl) ?_
 refine V.seq (V.reg rfl ?_)
 refine vo ?_
 refine xal zc43 ?_
 intro W1 x2 b3 nn4
 have s5 := x2.sz
 have z6 := x2
 replace hb := hb.ext x2
 refine vnil ?_
 refine V.seq (V.reg rfl ?_)
 refine vv (rldb (v := .slice _ _ _) rfl sc25 hb rfl) ?_
 refine mvi rfl ?_
 refine mvi rfl ?_
 refine vo ?_
 refine xcall e21 (mAt_ok _ _ _ _ _ _ _ _ _ _ (hx.ext z6) (by omega) (by omega) (hu2 _ (by omega))) rfl rfl ?_
 rintro _ W8 ⟨_, rfl, x9, hq7⟩
 have s10 := x9.sz
 have z11 := z6.trans x9
 replace hb := hb.ext x9
 replace b3 := b3.ext x9
 obtain ⟨_, _, _, _, _, _, _, _, rfl⟩ := hq7.form
 refine ⟨_, rfl, ?_⟩
 refine vo ?_
 refine sta (cs' := [_, _, _, _]) b3 rfl rfl sz43 rfl rfl rfl ?_
 intro W12 y13 b3
 have z14 := z11.below (y13.below (by omega))
 replace hb := hb.wr y13 (by omega)
 have s15 := y13.size
 refine vnil ?_
 refine V.ret ?_
 refine ⟨[_], ⟨⟨_, rfl, lvb ag43 b3 rfl⟩, trivial⟩, ?_⟩
 exact ⟨_, rfl, z14, ((hq7.ck (y13.ck (by intro hh; first | (simp [SX] at hh <;> omega) | omega)))).un⟩

abbrev HG (fF : Nat) (cap : List Value) (atf : Int → Int → Rat) (R C : Nat) (w : World) : Prop :=
  ∀ (W : World) (i k : Nat) (S' : Nat → Prop), Ext w W → Up S' W → i < R → k < C → Calls Try.prog fF (([.int .i64 (i : Int), .int .i64 (k : Int)] : List Value) ++ cap).toArray W (PQ S' (atf i k) W)
def rowg (atf : Int → Int → Rat) (i : Int) (C k : Nat) : List Rat := (List.range C).map fun j : Nat => if j < k then atf i (j : Int) else 0
def gridm (atf : Int → Int → Rat) (R C : Nat) : List (List Rat) := (List.range R).map fun i : Nat => (List.range C).map fun j : Nat => atf (i : Int) (j : Int)
theorem rowg_zero (atf : Int → Int → Rat) (i : Int) (C : Nat) : rowg atf i C 0 = List.replicate C 0 := by
  apply List.ext_getElem <;> simp [rowg]
theorem rowg_succ (atf : Int → Int → Rat) (i : Int) (C k : Nat) : (rowg atf i C k).set k (atf i k) = rowg atf i C (k + 1) := by
  apply List.ext_getElem
  · simp [rowg]
  · intro j h1 h2
    simp only [rowg, List.getElem_set, List.getElem_map, List.getElem_range]
    by_cases h : k = j
    · subst h; simp
    · rw [if_neg h]
      by_cases h3 : j < k
      · rw [if_pos h3, if_pos (by omega)]
      · rw [if_neg h3, if_neg (by omega)]
theorem rowg_full (atf : Int → Int → Rat) (i : Int) (C : Nat) : rowg atf i C C = (List.range C).map fun j : Nat => atf i (j : Int) := by
  apply List.ext_getElem
  · simp [rowg]
  · intro j h1 h2
    simp [rowg] at h1 ⊢
    intro h; omega
theorem gridm_succ (atf : Int → Int → Rat) (R C : Nat) : gridm atf (R + 1) C = gridm atf R C ++ [(List.range C).map fun j : Nat => atf (R : Int) (j : Int)] := by simp [gridm, List.range_succ]

end Go.Proofs.Ytknbjfefeeojlaa
/- Package mat: grid.made. -/
namespace Go.Proofs.Ytknbjfefeeojlaa
open Go.RowKit
attribute [local irreducible] RV VH V OpF Calls

set_option maxHeartbeats 400000 in
theorem gmade_ok (R C : Nat) (fF : Nat) (cap : List Value) (atf : Int → Int → Rat) (L : Nat) (S : Nat → Prop) (w : World) (he : Ent Try.prog fF) (hf : HG fF cap atf R C w) (hsz : ∀ i k : Nat, sz L (atf i k)) (hL : L < LY) (hl1 : 1 ≤ L) (hR : R ≤ LV) (hC : C ≤ LV) (hu : Up S w) :
    Calls Try.prog 33 #[.agg #[.int .i64 (R : Int), .int .i64 (C : Int), .func (.func fF) #[] cap.toArray]] w (fun e w' => ∃ ra rk rc, e = .returned (.slice ra rk rc) ∧ Ext w w' ∧ MC S w' ra rk rc (gridm atf R C)) := by
 have z0 := Ext.refl w; have hLX : LX = 17592186044416 := rfl; have hLY : LY = 8796093022208 := rfl
 have hLV : LV = 1099511627776 := rfl
 refine enter (args := [.agg #[.int .i64 (R : Int), .int .i64 (C : Int), .func (.func fF) #[] cap.toArray]]) Try.func33 rfl rfl (Nat.le_of_ble_eq_true rfl) ?_
 refine V.seq (V.reg rfl ?_)
 refine vo ?_
 refine bxa rfl ?_
 intro W1 x2 b3 nn4
 have s5 := x2.sz
 have z6 := x2
 refine ass rfl ?_
 refine vnil ?_
 refine V.seq (V.reg rfl ?_)
 refine ass rfl ?_
 refine vnil ?_
 refine V.seq ?_
 refine V.seq (V.reg rfl ?_)
 refine vv (rfa rfl fd55_0) ?_
 refine vv (rldb (v := .int _ _) rfl sc3 b3 rfl) ?_
 refine mvi rfl ?_
 refine vnil ?_
 refine V.block ?_
 refine V.loopK (ι := Nat × Value) [(1, .pointer (some ⟨_, _, none⟩)), (8, .int _ _)] (fun ⟨i, v⟩ => [(9, .int .i64 (i : Int)), (3, v)]) (fun ⟨i, v⟩ W => Ext W1 W ∧ i ≤ R ∧ GO 1 (RowOf GC) S W1.heap.size W 30 v (gridm atf i C)) (fun ⟨i, v⟩ => R - i) ((0, _)) ⟨rfl, rfl, trivial⟩ ⟨rfl, rfl, trivial⟩ ⟨Ext.refl _, Nat.zero_le _, GO.nil _ _⟩ ?_
 intro i9 E10 W8 h11
 obtain ⟨i, v⟩ := i9
 simp only at h11
 show V _ _ _ _ _ _ (ups (ups _ _) [(9, .int .i64 (i : Int)), (3, v)]) _
 obtain ⟨x12, hi, hO⟩ := h11
 have s13 := x12.sz
 have z14 := z6.trans x12
 have z15 := x12
 replace b3 := b3.ext x12
 refine V.seq (V.reg rfl ?_)
 refine vlt rfl rfl ?_ ?_
 ·intro c16
  refine vnil ?_
  refine V.seq ?_
  refine V.condT rfl ?_
  refine V.skip ?_
  refine V.seq ?_
  refine V.block ?_
  refine V.seq (V.reg rfl ?_)
  refine mvi rfl ?_
  refine asi rfl ?_
  refine vnil ?_
  refine V.seq (V.reg rfl ?_)
  refine vv (rfa rfl fd55_1) ?_
  refine vv (rldb (v := .int _ _) rfl sc3 b3 rfl) ?_
  have b3m := b3; have hOm := hO
  refine vo ?_
  refine xmkS (zs := [.bool false, .slice _ _ _, .bool false, .slice _ _ _]) (C) sl30 in43 rfl rfl rfl rfl rfl (by omega) (by omega) (by omega) ?_
  intro W18 x19 row n20
  have s21 := x19.sz
  have z24 := x19
  replace hO := hO.ext okRowC x19
  refine ass rfl ?_
  refine vnil ?_
  refine V.seq ?_
  refine V.seq (V.reg rfl ?_)
  refine mvs rfl ?_
  refine vv (rlen sl30 rfl) ?_
  refine mvi rfl ?_
  refine vnil ?_
  refine V.block ?_
  have lrow := row.box.lt
  refine V.loopK (ι := Nat) [(1, .pointer (some ⟨_, _, none⟩)), (3, v), (4, .int _ _), (5, .slice _ _ _), (8, .int _ _), (9, .int _ _), (16, .int _ _)] (fun k => [(17, .int .i64 (k : Int))]) (fun k W => Ext W8 W ∧ k ≤ C ∧ ∃ qs, AQ 4 W (W8.heap.size) 43 C qs ∧ All2 (QC (SX (SO S v) [W8.heap.size]) W) qs (rowg atf i C k)) (fun k => C - k) (0) ⟨rfl, rfl, rfl, rfl, rfl, rfl, rfl, trivial⟩ ⟨rfl, trivial⟩ ⟨z24, Nat.zero_le _, _, row, by rw [rowg_zero]; exact All2.rep (QC.zero _ _) _⟩ ?_
  intro k E26 W25 h27
  obtain ⟨x28, hk, qs, hA, hQ⟩ := h27
  have s29 := x28.sz
  have z30 := z14.trans x28
  have z31 := z15.trans x28
  have z32 := x28
  have b3n := b3m.ext z32; have hO := hOm.ext okRowC z32
  have lA := hA.len; have lAb := hA.box.lt; have lQ := hQ.len
  refine V.seq (V.reg rfl ?_)
  refine vlt rfl rfl ?_ ?_
  ·intro c33
   refine vnil ?_
   refine V.seq ?_
   refine V.condT rfl ?_
   refine V.skip ?_
   refine V.seq ?_
   refine V.block ?_
   refine V.seq (V.reg rfl ?_)
   refine mvi rfl ?_
   refine asi rfl ?_
   refine vnil ?_
   refine V.reg rfl ?_
   refine mvs rfl ?_
   refine mvi rfl ?_
   refine vv (rfa rfl fd55_2) ?_
   refine vv (rldb (v := .func _ _ _) rfl sc53 b3n rfl) ?_
   refine mvi rfl ?_
   refine mvi rfl ?_
   refine vo ?_
   refine xcall he (hf _ i k (SX (SO S v) [W8.heap.size]) z30 (SX.up (S := SO S v) (bs := [W8.heap.size]) ((GO.up hOm hu (by omega)).mono (by omega)) (by simp; omega)) (by omega) (by omega)) rfl rfl ?_
   rintro _ W7 ⟨_, rfl, x7, hq7⟩
   obtain ⟨k1, k2, k3, k4, k5, k6, k7, k8, rfl⟩ := hq7.form
   refine ⟨_, rfl, ?_⟩
   have s34 := x7.sz
   have z37 := z32.trans x7
   replace hA := hA.ext x7
   replace hO := hO.ext okRowC x7
   have hqa := hq7.qa (hsz i k)
   refine vo ?_
   refine xcall e39 (fCanon_ok _ _ _ _ _ _ hqa (by omega) (by omega) (SX.up (S := SO S v) (bs := [W8.heap.size]) ((GO.up hOm hu (by omega)).mono (by omega)) (by simp; omega))) rfl rfl ?_
   rintro _ W39 ⟨_, rfl, x40, hq38⟩
   have s41 := x40.sz
   have z44 := z37.trans x40
   replace hA := hA.ext x40
   replace hO := hO.ext okRowC x40
   obtain ⟨_, _, _, _, _, _, _, _, rfl⟩ := hq38.form
   refine ⟨_, rfl, ?_⟩
   refine vv (rix sl30 sz43 rfl rfl (by omega) (by omega) rfl) ?_
   refine vo ?_
   refine xstq (q := [.bool _, .slice _ _ _, .bool _, .slice _ _ _]) hA rfl rfl rfl sz43 rfl rfl (by omega) (by omega) ?_
   intro W45 y46 hA
   have z49 := z44.below (y46.below (by omega))
   have s50 := y46.size
   refine vnil ?_
   refine V.reg rfl ?_
   refine vv (rbin (bAdd (wi (by omega))) rfl rfl) ?_
   refine mvi rfl ?_
   refine vnil ?_
   refine ⟨rfl, k + 1, ⟨rfl, rfl, rfl, rfl, rfl, rfl, rfl, trivial⟩, ⟨rfl, trivial⟩, ⟨z49, by omega, _, hA, by rw [← rowg_succ]; exact (hQ.imp fun _ _ h => h.ck (((x7.ck _).trans (x40.ck _)).trans (y46.ck (by intro hh; simp [SX] at hh <;> omega)))).set ((hq38.ck (y46.ck (by intro hh; first | (simp [SX] at hh <;> omega) | omega))))⟩, ?_⟩
   show C - (k + 1) < C - k
   omega
  ·intro c33
   refine vnil ?_
   refine V.seq ?_
   refine V.condF rfl ?_
   refine V.exit ?_
   refine V.reg rfl ?_
   refine vv (rmv (v := v) rfl) ?_
   refine mvs rfl ?_
   refine vo ?_
   refine xbs (ps := [(0, .slice _ _ _)]) (cs := [.slice _ _ _]) sl25 zr30 sz30 rfl rfl rfl rfl rfl rfl ?_
   intro W51 x52 b53 nn54
   have s55 := x52.sz
   have z57 := z31.trans x52
   replace hA := hA.ext x52
   replace hO := hO.ext okRowC x52
   refine vo ?_
   refine xappG okRowC sl25 in30 rfl rfl hO rfl rfl b53 rfl rfl ((⟨_, _, _, rfl, _, hA.rs (GO.up hOm hu (by omega) _ (Nat.le_refl _)), hQ.imp fun _ _ h => (h.ext x52).un⟩ : RowOf GC _ _ _ (rowg atf i C k))) (by simp [gridm]; omega) (by decide) (by omega) ?_
   intro v59 W60 hO61 hg62
   have y63 := hg62.below; have s64 := y63.size
   have z66 := z57.below (y63.mono (by omega))
   refine vv (ras (v := v59) rfl) ?_
   refine vnil ?_
   refine V.reg rfl ?_
   refine vv (rbin (bAdd (wi (by omega))) rfl rfl) ?_
   refine mvi rfl ?_
   refine vnil ?_
   refine ⟨rfl, (i + 1, _), ⟨rfl, rfl, trivial⟩, ⟨rfl, rfl, trivial⟩, ⟨z66, by omega, by rw [gridm_succ, ← rowg_full]; have eC : k = C := (by omega); subst eC; exact hO61⟩, ?_⟩
   show R - (i + 1) < R - i
   omega
 ·intro c16
  refine vnil ?_
  refine V.seq ?_
  refine V.condF rfl ?_
  refine V.exit ?_
  refine V.seq (V.reg rfl ?_)
  refine vv (rmv (v := v) rfl) ?_
  refine vv (ras (v := v) rfl) ?_
  refine vnil ?_
  refine V.ret ?_
  refine ⟨[v], ⟨rfl, trivial⟩, ?_⟩
  obtain rfl : i = R := by omega
  obtain ⟨a', c', rfl⟩ := hO.form
  exact ⟨_, _, _, rfl, z14, hO.fin okRowC (fun b hb _ => hu b (by omega))⟩
end Go.Proofs.Ytknbjfefeeojlaa
/- Package mat: Resize, Transpose. -/
namespace Go.Proofs.Ytknbjfefeeojlaa
open Go.RowKit
attribute [local irreducible] RV VH V OpF Calls
theorem mcut_ok' (z : Int) (N : Nat) (w : World) (h : min (max z 0) 1024 = (N : Int)) : Calls Try.prog 31 #[.int .i64 z] w fun e w' => e = .returned (.int .i64 (N : Int)) ∧ w = w' := by rw [← h]; exact mcut_ok z w

set_option maxHeartbeats 400000 in
theorem mResize_ok (a1 : Option Addr) (n c : Nat) (y z : Int) (R C : Nat) (L1 : Nat) (rss : List (List Rat)) (S S1 : Nat → Prop) (w : World) (hx : MA L1 S1 w a1 n c rss) (hR : min (max y 0) 1024 = (R : Int)) (hC : min (max z 0) 1024 = (C : Int)) (hL : L1 < LY) (hl1 : 1 ≤ L1) (hsz : ∀ i k : Nat, sz L1 (matI rss i k)) (hu : Up S w) :
    Calls Try.prog 11 #[.slice a1 n c, .int .i64 y, .int .i64 z] w (fun e w' => ∃ ra rk rc, e = .returned (.slice ra rk rc) ∧ Ext w w' ∧ MC S w' ra rk rc (gridm (matI rss) R C)) := by
 have z0 := Ext.refl w; have hLX : LX = 17592186044416 := rfl; have hLY : LY = 8796093022208 := rfl
 have hLV : LV = 1099511627776 := rfl
 refine enter (args := [.slice a1 n c, .int .i64 y, .int .i64 z]) Try.func11 rfl rfl (Nat.le_of_ble_eq_true rfl) ?_
 refine V.seq (V.reg rfl ?_)
 refine vo ?_
 refine bxs rfl ?_
 intro W1 x2 b3 nn4
 have s5 := x2.sz
 have z6 := x2
 refine ass rfl ?_
 refine vnil ?_
 refine V.seq (V.reg rfl ?_)
 refine mvi rfl ?_
 refine vo ?_
 refine xcall e31 (mcut_ok' _ R _ hR) rfl rfl ?_
 rintro _ _ ⟨rfl, rfl⟩
 refine ⟨_, rfl, ?_⟩
 refine mvi rfl ?_
 refine vo ?_
 refine xcall e31 (mcut_ok' _ C _ hC) rfl rfl ?_
 rintro _ _ ⟨rfl, rfl⟩
 refine ⟨_, rfl, ?_⟩
 refine vv (rmk1 (v := .pointer (some ⟨_, _, none⟩)) rfl) ?_
 refine vv (rbd (ps := [(0, .int _ _), (1, .int _ _), (2, .func _ _ _)]) (cs := [.int _ _, .int _ _, .func _ _ _]) pl55 rfl rfl) ?_
 refine vo ?_
 refine xcall e33 (gmade_ok R C 32 [.pointer (some ⟨w.heap.size, 0, none⟩)] (matI rss) L1 S _ e32 (fun W i k S' x u _ _ => mRes1_ok _ _ _ i k _ L1 rss S' S1 W (b3.ext x) ((hx.ext z6).ext x) hL hl1 u) hsz hL hl1 (by omega) (by omega) (hu.mono (by omega))) rfl rfl ?_
 rintro _ W9 ⟨_, _, _, rfl, x10, hv⟩
 have s11 := x10.sz
 have z12 := z6.trans x10
 refine ⟨_, rfl, ?_⟩
 refine ass rfl ?_
 refine vnil ?_
 refine V.ret ?_
 refine ⟨[.slice _ _ _], ⟨rfl, trivial⟩, ?_⟩
 exact ⟨_, _, _, rfl, z12, hv⟩

def catI (rss mss : List (List Rat)) (N : Nat) (i k : Int) : Rat := if k < N then matI rss i k else matI mss i (k - N)

set_option maxHeartbeats 400000 in
theorem mCat1_ok (a1 a2 : Option Addr) (n c m d : Nat) (i k : Nat) (N : Nat) (b1 b2 b3 : Nat) (L1 L2 : Nat) (rss mss : List (List Rat)) (S S1 S2 : Nat → Prop) (w : World) (h1 : BoxAt w b1 [.int .i64 (N : Int)] 3) (h2 : BoxAt w b2 [.slice a1 n c] 25) (h3 : BoxAt w b3 [.slice a2 m d] 25) (hx : MA L1 S1 w a1 n c rss) (hy : MA L2 S2 w a2 m d mss) (hL : L1 < LY) (hl1 : 1 ≤ L1) (hL2 : L2 < LY) (hl2 : 1 ≤ L2) (hk : (k : Int) ≤ 9223372036854775807) (hu : Up S w) :
    Calls Try.prog 40 #[.int .i64 (i : Int), .int .i64 (k : Int), .pointer (some ⟨b1, 0, none⟩), .pointer (some ⟨b2, 0, none⟩), .pointer (some ⟨b3, 0, none⟩)] w (PQ S (catI rss mss N i k) w) := by
 have z0 := Ext.refl w; have hLX : LX = 17592186044416 := rfl; have hLY : LY = 8796093022208 := rfl
 have lb1 := h1.lt; have lb2 := h2.lt; have lb3 := h3.lt
 have hu2 : ∀ W : World, w.heap.size + 1 ≤ W.heap.size → Up (SX S [w.heap.size]) W := fun W hW => SX.up (hu.mono (by omega)) (by simp <;> omega)
 refine enter (args := [.int .i64 (i : Int), .int .i64 (k : Int), .pointer (some ⟨b1, 0, none⟩), .pointer (some ⟨b2, 0, none⟩), .pointer (some ⟨b3, 0, none⟩)]) Try.func40 rfl rfl (Nat.le_of_ble_eq_true rfl) ?_
 refine V.seq (V.reg rfl ?_)
 refine vo ?_
 refine xal zc43 ?_
 intro W1 x2 b3 nn4
 have s5 := x2.sz
 have z6 := x2
 replace h1 := h1.ext x2
 replace h2 := h2.ext x2
 replace h3 := h3.ext x2
 refine vnil ?_
 refine V.seq ?_
 refine V.seq (V.reg rfl ?_)
 refine mvi rfl ?_
 refine vv (rldb (v := .int _ _) rfl sc3 h1 rfl) ?_
 refine vlt rfl rfl ?_ ?_
 ·intro c1
  refine vnil ?_
  refine V.condT rfl ?_
  refine V.seq (V.reg rfl ?_)
  refine vv (rldb (v := .slice _ _ _) rfl sc25 h2 rfl) ?_
  refine mvi rfl ?_
  refine mvi rfl ?_
  refine vo ?_
  refine xcall e21 (mAt_ok _ _ _ _ _ _ _ _ _ _ (hx.ext z6) (by omega) (by omega) (hu2 _ (by omega))) rfl rfl ?_
  rintro _ W8 ⟨_, rfl, x9, hq7⟩
  have s10 := x9.sz
  have z11 := z6.trans x9
  replace h1 := h1.ext x9
  replace h2 := h2.ext x9
  replace h3 := h3.ext x9
  replace b3 := b3.ext x9
  obtain ⟨_, _, _, _, _, _, _, _, rfl⟩ := hq7.form
  refine ⟨_, rfl, ?_⟩
  refine vo ?_
  refine sta (cs' := [_, _, _, _]) b3 rfl rfl sz43 rfl rfl rfl ?_
  intro W12 y13 b3
  have z14 := z11.below (y13.below (by omega))
  replace h1 := h1.wr y13 (by omega)
  replace h2 := h2.wr y13 (by omega)
  replace h3 := h3.wr y13 (by omega)
  have s15 := y13.size
  refine vnil ?_
  refine V.ret ?_
  refine ⟨[_], ⟨⟨_, rfl, lvb ag43 b3 rfl⟩, trivial⟩, ?_⟩
  exact ⟨_, rfl, z14, ((hq7.ck (y13.ck (by intro hh; first | (simp [SX] at hh <;> omega) | omega)))).un.cast (by rw [catI, if_pos c1])⟩
 ·intro c1
  refine vnil ?_
  refine V.condF rfl ?_
  refine V.skip ?_
  refine V.seq (V.reg rfl ?_)
  refine vv (rldb (v := .slice _ _ _) rfl sc25 h3 rfl) ?_
  refine mvi rfl ?_
  refine mvi rfl ?_
  refine vv (rldb (v := .int _ _) rfl sc3 h1 rfl) ?_
  refine vv (rbin (bSub (wi (by omega))) rfl rfl) ?_
  refine vo ?_
  refine xcall e21 (mAt_ok _ _ _ _ _ _ _ _ _ _ (hy.ext z6) (by omega) (by omega) (hu2 _ (by omega))) rfl rfl ?_
  rintro _ W17 ⟨_, rfl, x18, hq16⟩
  have s19 := x18.sz
  have z20 := z6.trans x18
  replace h1 := h1.ext x18
  replace h2 := h2.ext x18
  replace h3 := h3.ext x18
  replace b3 := b3.ext x18
  obtain ⟨_, _, _, _, _, _, _, _, rfl⟩ := hq16.form
  refine ⟨_, rfl, ?_⟩
  refine vo ?_
  refine sta (cs' := [_, _, _, _]) b3 rfl rfl sz43 rfl rfl rfl ?_
  intro W21 y22 b3
  have z23 := z20.below (y22.below (by omega))
  replace h1 := h1.wr y22 (by omega)
  replace h2 := h2.wr y22 (by omega)
  replace h3 := h3.wr y22 (by omega)
  have s24 := y22.size
  refine vnil ?_
  refine V.ret ?_
  refine ⟨[_], ⟨⟨_, rfl, lvb ag43 b3 rfl⟩, trivial⟩, ?_⟩
  exact ⟨_, rfl, z23, ((hq16.ck (y22.ck (by intro hh; first | (simp [SX] at hh <;> omega) | omega)))).un.cast (by rw [catI, if_neg (by omega)])⟩
end Go.Proofs.Ytknbjfefeeojlaa
/- Rows of matrices by their one cell; integer matrices; elements kept by a world step. -/
namespace Go.Proofs.Ytknbjfefeeojlaa
open Go.RowKit
theorem cell_ext {W W' : World} {ad : Addr} {v : Value} (x : Ext W W') (h : W.cell? ad = some v) : W'.cell? ad = some v := by
  unfold World.cell? at h ⊢
  cases hh : W.heap[ad.block]? with
  | none => rw [hh] at h; simp at h
  | some o => rw [(x.block _ (Array.getElem?_eq_some_iff.1 hh).1).trans hh]; rw [hh] at h; exact h
/-- Cells that stand there. -/
def CE (W : World) (ad : Addr) (l : List Value) : Prop := ∀ j u, l[j]? = some u → W.cell? (ad.add j) = some u
def C1 (W : World) (ad : Addr) (v : Value) : Prop := W.cell? ad = some v
theorem CE.ext {W W' : World} {ad : Addr} {l : List Value} (h : CE W ad l) (x : Ext W W') : CE W' ad l := fun j u hj => cell_ext x (h j u hj)
theorem C1.ext {W W' : World} {ad : Addr} {v : Value} (h : C1 W ad v) (x : Ext W W') : C1 W' ad v := cell_ext x h
theorem take_getD {α : Type} (d : α) (l : List α) (k : Nat) (h : k < l.length) : l.take (k + 1) = l.take k ++ [l.getD k d] := by
  rw [List.take_succ_eq_append_getElem h]; simp [h]
theorem take_rowG {ρt α : Type} (f : List ρt → α) (rss : List (List ρt)) (k : Nat) (h : k < rss.length) : (rss.take (k + 1)).map f = (rss.take k).map f ++ [f (rowat rss k)] := by
  rw [List.take_succ_eq_append_getElem h, List.map_append]; simp [rowat, h]
theorem row_leG {ρt : Type} {rss : List (List ρt)} {N : Nat} (h : ∀ r ∈ rss, r.length ≤ N) (i : Nat) : (rowat rss i).length ≤ N := by
  unfold rowat; rw [List.getD_eq_getElem?_getD]
  cases hq : rss[i]? with
  | none => simp
  | some r => exact h r (List.mem_of_getElem? hq)
def form1 (q : List Value) : Prop := ∃ a n c, q = [.slice a n c]
def rvat (qs : List (List Value)) (i : Nat) : Value := match qs[i]? with
  | some (v :: _) => v
  | _ => .slice none 0 0
theorem RowOf.form {ρ : Type} {G : (Nat → Prop) → World → Option Addr → Nat → Nat → ρ → Prop} {S : Nat → Prop} {W : World} : ∀ {qs : List (List Value)} {rss : List ρ}, All2 (RowOf G S W) qs rss → ∀ q ∈ qs, form1 q
  | _ :: _, _ :: _, ⟨h1, h2⟩, q, hq => by
    rcases List.mem_cons.1 hq with rfl | hq
    · obtain ⟨a, n, c, e, _⟩ := h1; exact ⟨a, n, c, e⟩
    · exact RowOf.form h2 q hq
section
variable {r : Option Nat} {P : Program} {ops : Array Oper} {R : Env → World → Prop} {l : List Oper} {E : Env} {W : World} {t : Tmp} {ty T : TypeId} {pos : String} {af : Array Edge} {x : Operand}
theorem RS.el1 {S : Nat → Prop} {a : Option Addr} {n c : Nat} {qs : List (List Value)} (h : RS 1 S W a n c qs) (hf : ∀ q ∈ qs, form1 q) {i : Int} (hi : 0 ≤ i) (hn : i < n) : ∃ a' n' c', rvat qs i.toNat = .slice a' n' c' ∧ W.cell? (adr a i 1) = some (.slice a' n' c') := by
  obtain ⟨q, h3, h4, h5⟩ := h.el hi hn
  obtain ⟨a', n', c', rfl⟩ := hf q (List.mem_of_getElem? h3)
  refine ⟨a', n', c', ?_, ?_⟩
  · unfold rvat; rw [h3]
  · have := h5 0 _ rfl
    rwa [add0] at this
theorem GX.isS {S : Nat → Prop} {a : Option Addr} {n c : Nat} {ρs : List RawQ} (h : GX S W a n c ρs) {i : Int} (hi : 0 ≤ i) (hn : i < n) : a.isSome = true := by obtain ⟨qs, h1, h2⟩ := h; exact h1.isS hi hn
theorem GX.max {S : Nat → Prop} {a : Option Addr} {n c : Nat} {ρs : List RawQ} (h : GX S W a n c ρs) : n ≤ c ∧ c ≤ 9223372036854775807 := by obtain ⟨qs, h1, h2⟩ := h; exact ⟨h1.cap, h1.max⟩
def rz : RawQ := ⟨false, [], false, []⟩
def xat (ρs : List RawQ) (i : Nat) : RawQ := ρs.getD i rz
theorem GX.el {S : Nat → Prop} {a : Option Addr} {n c : Nat} {ρs : List RawQ} (h : GX S W a n c ρs) {i : Int} (hi : 0 ≤ i) (hn : i < n) : ∃ n1 a1 l1 c1 n2 a2 l2 c2, QX S W [.bool n1, .slice a1 l1 c1, .bool n2, .slice a2 l2 c2] (xat ρs i.toNat) ∧
    ∀ j u, ([.bool n1, .slice a1 l1 c1, .bool n2, .slice a2 l2 c2] : List Value)[j]? = some u → W.cell? ((adr a i 4).add j) = some u := by
  obtain ⟨qs, h1, h2⟩ := h
  obtain ⟨q, h3, h4, h5⟩ := h1.el hi hn
  obtain ⟨r, h6, h7⟩ := h2.get h3
  obtain ⟨n1, a1, l1, c1, n2, a2, l2, c2, rfl⟩ := h7.form
  refine ⟨n1, a1, l1, c1, n2, a2, l2, c2, ?_, h5⟩
  have : xat ρs i.toNat = r := by unfold xat; rw [List.getD_eq_getElem?_getD, h6]; rfl
  rw [this]; exact h7
end
theorem okRowI (k : IntKind) : ElOK (RowOf (RN k)) := ⟨fun ⟨a, n, c, e, h⟩ k => ⟨a, n, c, e, h.ck k⟩, fun ⟨a, n, c, e, h⟩ k => ⟨a, n, c, e, h.sub k⟩⟩
abbrev MI (S : Nat → Prop) (W : World) (a : Option Addr) (n c : Nat) (zss : List (List Int)) : Prop := MG (RN .i64) S W a n c zss
theorem MI.ext {S : Nat → Prop} {W W' : World} {a : Option Addr} {n c : Nat} {zss : List (List Int)} (h : MI S W a n c zss) (x : Ext W W') : MI S W' a n c zss := MG.ck (okRowI .i64) h (x.ck _)
theorem MI.ck {S : Nat → Prop} {W W' : World} {a : Option Addr} {n c : Nat} {zss : List (List Int)} (h : MI S W a n c zss) (x : CK S W W') : MI S W' a n c zss := MG.ck (okRowI .i64) h x
/-- A literal of rows. -/
theorem RS.lit {s : Nat} {S : Nat → Prop} {W : World} {b : Nat} {e : TypeId} {cs : List Value} (qs : List (List Value)) (h : BoxAt W b cs e) (hc : cs = qs.flatten) (hw : ∀ q ∈ qs, q.length = s) (hS : S b) {n : Nat} (hl : qs.length = n) (hm : n ≤ 9223372036854775807) : RS s S W (some ⟨b, 0, none⟩) n n qs :=
  AQ.rs ⟨hc ▸ h, hw, hl, hm⟩ hS
theorem szMI {L : Nat} {S : Nat → Prop} {W : World} {a : Option Addr} {n c : Nat} {rss : List (List Rat)} (h : MA L S W a n c rss) (hL : 1 ≤ L) (i k : Int) : sz L (matI rss i k) := by
  unfold matI
  split
  · exact szV_at (GA.rows h hL _) hL _
  · exact sz_zero.mono hL
theorem szCat {L1 L2 L : Nat} {S1 S2 : Nat → Prop} {W W' : World} {a b : Option Addr} {n c m d : Nat} {rss mss : List (List Rat)} (hx : MA L1 S1 W a n c rss) (hy : MA L2 S2 W' b m d mss) (h1 : 1 ≤ L1) (h2 : 1 ≤ L2) (hL : max L1 L2 ≤ L) (N : Nat) (i k : Int) : sz L (catI rss mss N i k) := by
  unfold catI
  split
  · exact (szMI hx h1 _ _).mono (by omega)
  · exact (szMI hy h2 _ _).mono (by omega)
def identm (N : Nat) : List (List Rat) := (List.range N).map fun i : Nat => unitv N (i : Int)
theorem identm_succ (N k : Nat) : (List.range (k + 1)).map (fun i : Nat => unitv N (i : Int)) = (List.range k).map (fun i : Nat => unitv N (i : Int)) ++ [unitv N (k : Int)] := by simp [List.range_succ]
end Go.Proofs.Ytknbjfefeeojlaa
/- Package mat: Concat, Transpose, Identity, FromInts, Equal. -/
namespace Go.Proofs.Ytknbjfefeeojlaa
open Go.RowKit
attribute [local irreducible] RV VH V OpF Calls

set_option maxHeartbeats 400000 in
theorem mConcat_ok (a1 a2 : Option Addr) (n c m d : Nat) (L1 L2 : Nat) (rss mss : List (List Rat)) (S S1 S2 : Nat → Prop) (w : World) (hx : MA L1 S1 w a1 n c rss) (hy : MA L2 S2 w a2 m d mss) (hL : L1 < LY) (hl1 : 1 ≤ L1) (hL2 : L2 < LY) (hl2 : 1 ≤ L2) (hn : n ≤ LV) (hm : m ≤ LV) (hc : colsN rss + colsN mss ≤ LV) (hu : Up S w) :
    Calls Try.prog 22 #[.slice a1 n c, .slice a2 m d] w (fun e w' => ∃ ra rk rc, e = .returned (.slice ra rk rc) ∧ Ext w w' ∧ MC S w' ra rk rc (gridm (catI rss mss (colsN rss)) (max n m) (colsN rss + colsN mss))) := by
 have z0 := Ext.refl w; have hLX : LX = 17592186044416 := rfl; have hLY : LY = 8796093022208 := rfl
 have hLV : LV = 1099511627776 := rfl
 refine enter (args := [.slice a1 n c, .slice a2 m d]) Try.func22 rfl rfl (Nat.le_of_ble_eq_true rfl) ?_
 refine V.seq (V.reg rfl ?_)
 refine vo ?_
 refine bxs rfl ?_
 intro W1 x2 b3 nn4
 have s5 := x2.sz
 have z6 := x2
 refine vo ?_
 refine bxs rfl ?_
 intro W7 x8 b9 nn10
 have s11 := x8.sz
 have z12 := z6.trans x8
 replace b3 := b3.ext x8
 refine ass rfl ?_
 refine vnil ?_
 refine V.seq (V.reg rfl ?_)
 refine vv (rldb (v := .slice _ _ _) rfl sc25 b3 rfl) ?_
 refine vo ?_
 refine xcall e18 (mCols_ok _ _ _ _ _ _ _ (hx.ext z12)) rfl rfl ?_
 rintro _ W13 ⟨rfl, x14⟩
 have s15 := x14.sz
 have z16 := z12.trans x14
 replace b3 := b3.ext x14
 replace b9 := b9.ext x14
 refine ⟨_, rfl, ?_⟩
 refine vo ?_
 refine xal zc3 ?_
 intro W17 x18 b19 nn20
 have s21 := x18.sz
 have z22 := z16.trans x18
 replace b3 := b3.ext x18
 replace b9 := b9.ext x18
 refine vo ?_
 refine st1 (v := .int _ _) (cs' := [_]) b19 rfl rfl sz3 rfl rfl rfl rfl ?_
 intro W23 y24 b19
 have z25 := z22.below (y24.below (by omega))
 replace b3 := b3.wr y24 (by omega)
 replace b9 := b9.wr y24 (by omega)
 have s26 := y24.size
 refine vnil ?_
 refine V.seq (V.regD mixed rfl ?_)
 intro W27 x28
 have s29 := x28.sz
 have z30 := z25.trans x28
 replace b3 := b3.ext x28
 replace b9 := b9.ext x28
 replace b19 := b19.ext x28
 have q31 := Ext.refl W27
 have r32 := b3
 have r33 := b9
 have r34 := b19
 refine tk 0 rfl (by kernel_rfl) q31 (pv (fun _ y35 => rldb (v := .slice _ _ _) rfl sc25 (r32.ext y35) rfl)) ?_
 refine tk 1 rfl (by kernel_rfl) q31 (pv (fun _ y36 => rlen sl25 rfl)) ?_
 refine tk 2 rfl (by kernel_rfl) q31 (pv (fun _ y37 => rldb (v := .slice _ _ _) rfl sc25 (r33.ext y37) rfl)) ?_
 refine tk 3 rfl (by kernel_rfl) q31 (pv (fun _ y38 => rlen sl25 rfl)) ?_
 refine tk 4 rfl (by kernel_rfl) q31 (pv (fun _ y39 => rmax rfl rfl (show max (n : Int) (m : Int) = ((max n m : Nat) : Int) by omega))) ?_
 refine tk 5 rfl (by kernel_rfl) q31 (pv (fun _ y40 => rldb (v := .int _ _) rfl sc3 (r34.ext y40) rfl)) ?_
 refine tk 6 rfl (by kernel_rfl) q31 (pv (fun _ y41 => rldb (v := .slice _ _ _) rfl sc25 (r33.ext y41) rfl)) ?_
 refine tk 9 rfl (by kernel_rfl) q31 (pv (fun _ y42 => rmk3 (v := .pointer (some ⟨_, _, none⟩)) (u := .pointer (some ⟨_, _, none⟩)) (u3 := .pointer (some ⟨_, _, none⟩)) rfl rfl rfl)) ?_
 refine ef 7 (by kernel_rfl) rfl ?_
 refine xcall e18 (mCols_ok _ _ _ _ _ _ _ (hy.ext z30)) rfl rfl ?_
 rintro _ W43 ⟨rfl, x44⟩
 have s45 := x44.sz
 have z46 := z30.trans x44
 replace b3 := b3.ext x44
 replace b9 := b9.ext x44
 replace b19 := b19.ext x44
 have q47 := q31.trans x44
 refine ⟨_, rfl, ?_⟩
 refine ⟨fun _ => q47, ?_⟩
 refine tk 8 rfl (by kernel_rfl) q47 (pv (fun _ y48 => rbin (bAdd (show IntKind.i64.wrap ((colsN rss : Int) + (colsN mss : Int)) = ((colsN rss + colsN mss : Nat) : Int) by rw [wi (by omega)]; omega)) rfl rfl)) ?_
 refine tk 10 rfl (by kernel_rfl) q47 (pv (fun _ y49 => rbd (ps := [(0, .int _ _), (1, .int _ _), (2, .func _ _ _)]) (cs := [.int _ _, .int _ _, .func _ _ _]) pl55 rfl rfl)) ?_
 refine ef 11 (by kernel_rfl) rfl ?_
 refine xcall e33 (gmade_ok (max n m) (colsN rss + colsN mss) 40 [.pointer (some ⟨W13.heap.size, 0, none⟩), .pointer (some ⟨w.heap.size, 0, none⟩), .pointer (some ⟨W1.heap.size, 0, none⟩)] (catI rss mss (colsN rss)) (max L1 L2) S _ e40 (fun W i k S' x u _ hk => mCat1_ok _ _ _ _ _ _ i k (colsN rss) _ _ _ L1 L2 rss mss S' S1 S2 W (b19.ext x) (b3.ext x) (b9.ext x) ((hx.ext z46).ext x) ((hy.ext z46).ext x) hL hl1 hL2 hl2 (by omega) u) (fun i k => szCat hx hy hl1 hl2 (Nat.le_refl _) _ _ _) (by omega) (by omega) (by omega) (by omega) (hu.mono (by omega))) rfl rfl ?_
 rintro _ W50 ⟨_, _, _, rfl, x51, hv⟩
 have s52 := x51.sz
 have z53 := z46.trans x51
 have q54 := q47.trans x51
 refine ⟨_, rfl, ?_⟩
 refine ⟨fun _ => q54, ?_⟩
 refine tk 12 rfl (by kernel_rfl) q54 (pv (fun _ y55 => ras (v := .slice _ _ _) rfl)) ?_
 refine dn (by kernel_rfl) ?_
 refine V.ret ?_
 refine ⟨[.slice _ _ _], ⟨rfl, trivial⟩, ?_⟩
 exact ⟨_, _, _, rfl, z53, hv⟩
set_option maxHeartbeats 400000 in
theorem mTr1_ok (a1 : Option Addr) (n c : Nat) (i k : Int) (b : Nat) (L1 : Nat) (rss : List (List Rat)) (S S1 : Nat → Prop) (w : World) (hb : BoxAt w b [.slice a1 n c] 25) (hx : MA L1 S1 w a1 n c rss) (hL : L1 < LY) (hl1 : 1 ≤ L1) (hu : Up S w) :
    Calls Try.prog 56 #[.int .i64 i, .int .i64 k, .pointer (some ⟨b, 0, none⟩)] w (PQ S (matI rss k i) w) := by
 have z0 := Ext.refl w; have hLX : LX = 17592186044416 := rfl; have hLY : LY = 8796093022208 := rfl
 have lb := hb.lt
 have hu2 : ∀ W : World, w.heap.size + 1 ≤ W.heap.size → Up (SX S [w.heap.size]) W := fun W hW => SX.up (hu.mono (by omega)) (by simp <;> omega)
 refine enter (args := [.int .i64 i, .int .i64 k, .pointer (some ⟨b, 0, none⟩)]) Try.func56 rfl rfl (Nat.le_of_ble_eq_true rfl) ?_
 refine V.seq (V.reg rfl ?_)
 refine vo ?_
 refine xal zc43 ?_
 intro W1 x2 b3 nn4
 have s5 := x2.sz
 have z6 := x2
 replace hb := hb.ext x2
 refine vnil ?_
 refine V.seq (V.reg rfl ?_)
 refine vv (rldb (v := .slice _ _ _) rfl sc25 hb rfl) ?_
 refine mvi rfl ?_
 refine mvi rfl ?_
 refine vo ?_
 refine xcall e21 (mAt_ok _ _ _ _ _ _ _ _ _ _ (hx.ext z6) (by omega) (by omega) (hu2 _ (by omega))) rfl rfl ?_
 rintro _ W8 ⟨_, rfl, x9, hq7⟩
 have s10 := x9.sz
 have z11 := z6.trans x9
 replace hb := hb.ext x9
 replace b3 := b3.ext x9
 obtain ⟨_, _, _, _, _, _, _, _, rfl⟩ := hq7.form
 refine ⟨_, rfl, ?_⟩
 refine vo ?_
 refine sta (cs' := [_, _, _, _]) b3 rfl rfl sz43 rfl rfl rfl ?_
 intro W12 y13 b3
 have z14 := z11.below (y13.below (by omega))
 replace hb := hb.wr y13 (by omega)
 have s15 := y13.size
 refine vnil ?_
 refine V.ret ?_
 refine ⟨[_], ⟨⟨_, rfl, lvb ag43 b3 rfl⟩, trivial⟩, ?_⟩
 exact ⟨_, rfl, z14, ((hq7.ck (y13.ck (by intro hh; first | (simp [SX] at hh <;> omega) | omega)))).un⟩
set_option maxHeartbeats 400000 in
theorem mTr_ok (a1 : Option Addr) (n c : Nat) (L1 : Nat) (rss : List (List Rat)) (S S1 : Nat → Prop) (w : World) (hx : MA L1 S1 w a1 n c rss) (hL : L1 < LY) (hl1 : 1 ≤ L1) (hn : n ≤ LV) (hc : colsN rss ≤ LV) (hu : Up S w) :
    Calls Try.prog 30 #[.slice a1 n c] w (fun e w' => ∃ ra rk rc, e = .returned (.slice ra rk rc) ∧ Ext w w' ∧ MC S w' ra rk rc (gridm (fun i k => matI rss k i) (colsN rss) n)) := by
 have z0 := Ext.refl w; have hLX : LX = 17592186044416 := rfl; have hLY : LY = 8796093022208 := rfl
 have hLV : LV = 1099511627776 := rfl
 refine enter (args := [.slice a1 n c]) Try.func30 rfl rfl (Nat.le_of_ble_eq_true rfl) ?_
 refine V.seq (V.reg rfl ?_)
 refine vo ?_
 refine bxs rfl ?_
 intro W1 x2 b3 nn4
 have s5 := x2.sz
 have z6 := x2
 refine ass rfl ?_
 refine vnil ?_
 refine V.seq (V.regD mixed rfl ?_)
 intro W7 x8
 have s9 := x8.sz
 have z10 := z6.trans x8
 replace b3 := b3.ext x8
 have q11 := Ext.refl W7
 have r12 := b3
 refine tk 0 rfl (by kernel_rfl) q11 (pv (fun _ y13 => rldb (v := .slice _ _ _) rfl sc25 (r12.ext y13) rfl)) ?_
 refine tk 2 rfl (by kernel_rfl) q11 (pv (fun _ y14 => rldb (v := .slice _ _ _) rfl sc25 (r12.ext y14) rfl)) ?_
 refine tk 3 rfl (by kernel_rfl) q11 (pv (fun _ y15 => rlen sl25 rfl)) ?_
 refine tk 4 rfl (by kernel_rfl) q11 (pv (fun _ y16 => rmk1 (v := .pointer (some ⟨_, _, none⟩)) rfl)) ?_
 refine ef 1 (by kernel_rfl) rfl ?_
 refine xcall e18 (mCols_ok _ _ _ _ _ _ _ (hx.ext z10)) rfl rfl ?_
 rintro _ W17 ⟨rfl, x18⟩
 have s19 := x18.sz
 have z20 := z10.trans x18
 replace b3 := b3.ext x18
 have q21 := q11.trans x18
 refine ⟨_, rfl, ?_⟩
 refine ⟨fun _ => q21, ?_⟩
 refine tk 5 rfl (by kernel_rfl) q21 (pv (fun _ y22 => rbd (ps := [(0, .int _ _), (1, .int _ _), (2, .func _ _ _)]) (cs := [.int _ _, .int _ _, .func _ _ _]) pl55 rfl rfl)) ?_
 refine ef 6 (by kernel_rfl) rfl ?_
 refine xcall e33 (gmade_ok (colsN rss) n 56 [.pointer (some ⟨w.heap.size, 0, none⟩)] (fun i k => matI rss k i) L1 S _ e56 (fun W i k S' x u _ _ => mTr1_ok _ _ _ i k _ L1 rss S' S1 W (b3.ext x) ((hx.ext z20).ext x) hL hl1 u) (fun i k => szMI hx hl1 _ _) hL hl1 (by omega) (by omega) (hu.mono (by omega))) rfl rfl ?_
 rintro _ W23 ⟨_, _, _, rfl, x24, hv⟩
 have s25 := x24.sz
 have z26 := z20.trans x24
 have q27 := q21.trans x24
 refine ⟨_, rfl, ?_⟩
 refine ⟨fun _ => q27, ?_⟩
 refine tk 7 rfl (by kernel_rfl) q27 (pv (fun _ y28 => ras (v := .slice _ _ _) rfl)) ?_
 refine dn (by kernel_rfl) ?_
 refine V.ret ?_
 refine ⟨[.slice _ _ _], ⟨rfl, trivial⟩, ?_⟩
 exact ⟨_, _, _, rfl, z26, hv⟩
set_option maxHeartbeats 400000 in
theorem mIdent_ok (z : Int) (N : Nat) (S : Nat → Prop) (w : World) (hN : min (max z 0) 1024 = (N : Int)) (hu : Up S w) :
    Calls Try.prog 68 #[.int .i64 z] w (fun e w' => ∃ ra rk rc, e = .returned (.slice ra rk rc) ∧ Ext w w' ∧ MC S w' ra rk rc (identm N)) := by
 have z0 := Ext.refl w; have hLX : LX = 17592186044416 := rfl; have hLY : LY = 8796093022208 := rfl
 have hLV : LV = 1099511627776 := rfl
 refine enter (args := [.int .i64 z]) Try.func68 rfl rfl (Nat.le_of_ble_eq_true rfl) ?_
 refine V.seq (V.reg rfl ?_)
 refine ass rfl ?_
 refine vnil ?_
 refine V.seq ?_
 refine V.seq (V.reg rfl ?_)
 refine mvi rfl ?_
 refine vo ?_
 refine xcall e31 (mcut_ok' _ N _ hN) rfl rfl ?_
 rintro _ _ ⟨rfl, rfl⟩
 refine ⟨_, rfl, ?_⟩
 refine mvi rfl ?_
 refine vnil ?_
 refine V.block ?_
 refine V.loopK (ι := Nat × Value) [(0, .int _ _), (5, .int _ _)] (fun ⟨k, v⟩ => [(6, .int .i64 (k : Int)), (2, v)]) (fun ⟨k, v⟩ W => Ext w W ∧ k ≤ N ∧ GO 1 (RowOf GC) S w.heap.size W 30 v ((List.range k).map fun i : Nat => unitv N (i : Int))) (fun ⟨k, v⟩ => N - k) ((0, _)) ⟨rfl, rfl, trivial⟩ ⟨rfl, rfl, trivial⟩ ⟨Ext.refl _, Nat.zero_le _, GO.nil _ _⟩ ?_
 intro i3 E4 W2 h5
 obtain ⟨k, v⟩ := i3
 simp only at h5
 show V _ _ _ _ _ _ (ups (ups _ _) [(6, .int .i64 (k : Int)), (2, v)]) _
 obtain ⟨x6, hk, hO⟩ := h5
 have s7 := x6.sz
 have z8 := x6
 refine V.seq (V.reg rfl ?_)
 refine vlt rfl rfl ?_ ?_
 ·intro c9
  refine vnil ?_
  refine V.seq ?_
  refine V.condT rfl ?_
  refine V.skip ?_
  refine V.seq ?_
  refine V.block ?_
  refine V.seq (V.reg rfl ?_)
  refine mvi rfl ?_
  refine asi rfl ?_
  refine vnil ?_
  refine V.reg rfl ?_
  refine vv (rmv (v := v) rfl) ?_
  refine mvi rfl ?_
  refine vo ?_
  refine xcall e31 (mcut_ok' _ N _ hN) rfl rfl ?_
  rintro _ _ ⟨rfl, rfl⟩
  refine ⟨_, rfl, ?_⟩
  refine mvi rfl ?_
  refine vo ?_
  refine xcall e19 (vUnit_ok _ _ N _ _ (by omega) (GO.up hO hu (by omega))) rfl rfl ?_
  rintro _ W11 ⟨_, _, _, rfl, x12, hvu⟩
  have s13 := x12.sz
  have z14 := z8.trans x12
  replace hO := hO.ext okRowC x12
  refine ⟨_, rfl, ?_⟩
  refine vo ?_
  refine xbs (ps := [(0, .slice _ _ _)]) (cs := [.slice _ _ _]) sl25 zr30 sz30 rfl rfl rfl rfl rfl rfl ?_
  intro W15 x16 b17 nn18
  have s19 := x16.sz
  have z20 := z14.trans x16
  replace hO := hO.ext okRowC x16
  refine vo ?_
  refine xappG okRowC sl25 in30 rfl rfl hO rfl rfl b17 rfl rfl ((⟨_, _, _, rfl, (hvu.ext x16)⟩ : RowOf GC _ _ _ _)) (by simp; omega) (by decide) (by omega) ?_
  intro v21 W22 hO23 hg24
  have y25 := hg24.below; have s26 := y25.size
  have z27 := z20.below (y25.mono (by omega))
  refine vv (ras (v := v21) rfl) ?_
  refine vnil ?_
  refine V.reg rfl ?_
  refine vv (rbin (bAdd (wi (by omega))) rfl rfl) ?_
  refine mvi rfl ?_
  refine vnil ?_
  refine ⟨rfl, (k + 1, _), ⟨rfl, rfl, trivial⟩, ⟨rfl, rfl, trivial⟩, ⟨z27, by omega, by rw [identm_succ]; exact hO23⟩, ?_⟩
  show N - (k + 1) < N - k
  omega
 ·intro c9
  refine vnil ?_
  refine V.seq ?_
  refine V.condF rfl ?_
  refine V.exit ?_
  refine V.seq (V.reg rfl ?_)
  refine vv (rmv (v := v) rfl) ?_
  refine vv (ras (v := v) rfl) ?_
  refine vnil ?_
  refine V.ret ?_
  refine ⟨[v], ⟨rfl, trivial⟩, ?_⟩
  obtain ⟨a', c', rfl⟩ := hO.form
  have hf := hO.fin okRowC (fun b hb _ => hu b (by omega))
  have ek : k = N := (by omega)
  subst ek
  exact ⟨_, _, _, rfl, z8, hf⟩
set_option maxHeartbeats 400000 in
theorem mFrom_ok (a1 : Option Addr) (n c : Nat) (zss : List (List Int)) (S S1 : Nat → Prop) (w : World) (hx : MI S1 w a1 n c zss) (hn : n ≤ LV) (hR : ∀ r ∈ zss, r.length ≤ LV) (hu : Up S w) :
    Calls Try.prog 10 #[.slice a1 n c] w (fun e w' => ∃ ra rk rc, e = .returned (.slice ra rk rc) ∧ Ext w w' ∧ MC S w' ra rk rc (zss.map fun r => r.map fun z : Int => (z : Rat))) := by
 have z0 := Ext.refl w; have hLX : LX = 17592186044416 := rfl; have hLY : LY = 8796093022208 := rfl
 have hLV : LV = 1099511627776 := rfl
 have l1 := hx.len; have l2 := hx.max
 refine enter (args := [.slice a1 n c]) Try.func10 rfl rfl (Nat.le_of_ble_eq_true rfl) ?_
 refine V.seq (V.reg rfl ?_)
 refine ass rfl ?_
 refine vnil ?_
 refine V.seq ?_
 refine V.seq (V.reg rfl ?_)
 refine mvs rfl ?_
 refine vv (rlen sl23 rfl) ?_
 refine mvi rfl ?_
 refine vnil ?_
 refine V.block ?_
 refine V.loopK (ι := Nat × Value) [(5, .slice _ _ _), (6, .int _ _)] (fun ⟨k, v⟩ => [(7, .int .i64 (k : Int)), (2, v)]) (fun ⟨k, v⟩ W => Ext w W ∧ k ≤ n ∧ GO 1 (RowOf GC) S w.heap.size W 30 v ((zss.take k).map fun r => r.map fun z : Int => (z : Rat))) (fun ⟨k, v⟩ => n - k) ((0, _)) ⟨rfl, rfl, trivial⟩ ⟨rfl, rfl, trivial⟩ ⟨Ext.refl _, Nat.zero_le _, GO.nil _ _⟩ ?_
 intro i2 E3 W1 h4
 obtain ⟨k, v⟩ := i2
 simp only at h4
 show V _ _ _ _ _ _ (ups (ups _ _) [(7, .int .i64 (k : Int)), (2, v)]) _
 obtain ⟨x5, hk, hO⟩ := h4
 have s6 := x5.sz
 have z7 := x5
 refine V.seq (V.reg rfl ?_)
 refine vlt rfl rfl ?_ ?_
 ·intro c8
  have hrw : (rowat zss ((k : Int)).toNat).length ≤ LV := row_leG hR _
  refine vnil ?_
  refine V.seq ?_
  refine V.condT rfl ?_
  refine V.skip ?_
  refine V.seq ?_
  refine V.block ?_
  refine V.seq (V.reg rfl ?_)
  refine vv (rix sl23 sz49 rfl rfl (by omega) (by omega) ((hx.ext z7).isS (i := 0) (by omega) (by omega))) ?_
  refine vldRow (hx.ext z7) rfl sc49 (by omega) (by omega) ?_
  intro a9 n10 c11 hg12
  have hg12l := hg12.len; have hg12m := hg12.max
  refine ass rfl ?_
  refine vnil ?_
  refine V.reg rfl ?_
  refine vv (rmv (v := v) rfl) ?_
  refine mvs rfl ?_
  refine vo ?_
  refine xcall e27 (vFrom_ok _ _ _ _ _ _ _ hg12 (by omega) (GO.up hO hu (by omega))) rfl rfl ?_
  rintro _ W14 ⟨_, _, _, rfl, x15, hv13⟩
  have s16 := x15.sz
  have z17 := z7.trans x15
  replace hO := hO.ext okRowC x15
  have hv13l := hv13.len
  refine ⟨_, rfl, ?_⟩
  refine vo ?_
  refine xbs (ps := [(0, .slice _ _ _)]) (cs := [.slice _ _ _]) sl25 zr30 sz30 rfl rfl rfl rfl rfl rfl ?_
  intro W18 x19 b20 nn21
  have s22 := x19.sz
  have z23 := z17.trans x19
  replace hO := hO.ext okRowC x19
  refine vo ?_
  refine xappG okRowC sl25 in30 rfl rfl hO rfl rfl b20 rfl rfl ((⟨_, _, _, rfl, (hv13.ext x19)⟩ : RowOf GC _ _ _ _)) (by simp; omega) (by decide) (by omega) ?_
  intro v24 W25 hO26 hg27
  have y28 := hg27.below; have s29 := y28.size
  have z30 := z23.below (y28.mono (by omega))
  refine vv (ras (v := v24) rfl) ?_
  refine vnil ?_
  refine V.reg rfl ?_
  refine vv (rbin (bAdd (wi (by omega))) rfl rfl) ?_
  refine mvi rfl ?_
  refine vnil ?_
  refine ⟨rfl, (k + 1, _), ⟨rfl, rfl, trivial⟩, ⟨rfl, rfl, trivial⟩, ⟨z30, by omega, by rw [take_rowG _ zss k (by omega)]; exact hO26⟩, ?_⟩
  show n - (k + 1) < n - k
  omega
 ·intro c8
  refine vnil ?_
  refine V.seq ?_
  refine V.condF rfl ?_
  refine V.exit ?_
  refine V.seq (V.reg rfl ?_)
  refine vv (rmv (v := v) rfl) ?_
  refine vv (ras (v := v) rfl) ?_
  refine vnil ?_
  refine V.ret ?_
  refine ⟨[v], ⟨rfl, trivial⟩, ?_⟩
  obtain ⟨a', c', rfl⟩ := hO.form
  have hf := hO.fin okRowC (fun b hb _ => hu b (by omega))
  refine ⟨_, _, _, rfl, z7, ?_⟩
  rw [List.take_of_length_le (by omega)] at hf ⊢
  exact hf
end Go.Proofs.Ytknbjfefeeojlaa
/- Digits in base 65536: plain mathematics. -/
namespace Go.Proofs.Ytknbjfefeeojlaa
/-- Any block. -/
def TT (_ : Nat) : Prop := True
theorem TT.up (w : Go.World) : Up TT w := fun _ _ => trivial
/-- Each word in two halves. -/
def h2 (xs : List Int) : List Int := xs.flatMap fun x => [x % 65536, x / 65536]
/-- Two halves to a word. -/
def p2 : List Int → List Int
  | [] => []
  | [a] => [a]
  | a :: b :: l => (a + b * 65536) :: p2 l
end Go.Proofs.Ytknbjfefeeojlaa
/- From canonical to raw; what the laws ask of closed lists. -/
namespace Go.Proofs.Ytknbjfefeeojlaa
open Go.RowKit
attribute [local irreducible] RV VH V OpF Calls
section
variable {S S1 S2 : Nat → Prop} {W : World} {a a1 a2 : Option Addr} {n c m d L : Nat} {rs ss : List Rat} {rss mss : List (List Rat)}
theorem MC.ma (h : MC S W a n c rss) (hs : ∀ r ∈ rss, szV L r) : MA L S W a n c rss := by
  obtain ⟨qs, h1, h2⟩ := h
  refine ⟨qs, h1, ?_⟩
  clear h1
  induction qs generalizing rss with
  | nil => cases rss <;> simp_all [All2]
  | cons q qs ih => cases rss with
    | nil => exact h2.elim
    | cons r rs => obtain ⟨a, n, c, e, h3⟩ := h2.1; exact ⟨⟨a, n, c, e, h3.va (hs r (by simp))⟩, ih (fun x hx => hs x (by simp [hx])) h2.2⟩
theorem MC.cast {rss' : List (List Rat)} (h : MC S W a n c rss) (e : rss = rss') : MC S W a n c rss' := e ▸ h
/-- Small numbers, asked by reckoning. -/
def szB (r : Rat) : Bool := decide ((r.num.natAbs : Int) < b32 ^ 1) && decide ((r.den : Int) < b32 ^ 1)
theorem szB_sz {r : Rat} (h : szB r = true) : sz 1 r := by
  unfold szB at h; simp only [Bool.and_eq_true, decide_eq_true_eq] at h; exact h
theorem szV_B (h : rs.all szB = true) : szV 1 rs := fun r hr => szB_sz (List.all_eq_true.1 h r hr)
theorem szM_B (h : rss.all (fun r => r.all szB) = true) : ∀ r ∈ rss, szV 1 r := fun r hr => szV_B (List.all_eq_true.1 h r hr)
end
end Go.Proofs.Ytknbjfefeeojlaa
/- From a walk to a row: an argument reads behind the call as it read before, where below the old size nothing has turned. -/
namespace Go.Proofs.Ytknbjfefeeojlaa
open Go.ChangeShapes Go.WideShapes Go.ChangeAt Go.RowKit
attribute [local irreducible] RV VH V OpF Calls
theorem Try.own : ownKnob Try.prog.godebug = none := by kernel_rfl
theorem Try.laidOut : laidOutB Try.prog = true := by kernel_rfl
theorem trodAll_stays {H : Type} {enc : TypeId × Value → H} {P : Program} (hl : laidOutB P = true) {W W' : World} {sp' : Nat → Bool} : ∀ {ts : List TypeId} {vs : List Value} {ds : List (DataW H)} {ps : List MemPlace}, (ts.all fun t => P.readableRec t && decide (t < P.types.size)) = true →
    DataW.TrodAll enc P W 0 (fun _ => true) true ts vs ds ps → (∀ p ∈ ps, W.sameAt W' p) → (∀ p ∈ ps, sp' p.block = true) → DataW.TrodAll enc P W' 0 sp' true ts vs ds ps
  | [], [], [], _, _, h, _, _ => h
  | t :: ts, v :: vs, d :: ds, ps, hr, ⟨p, q, h1, h2, e⟩, hs, hsp => by
    rw [List.all_cons, Bool.and_eq_true] at hr
    obtain ⟨hr1, hr2⟩ := hr
    rw [Bool.and_eq_true, decide_eq_true_eq] at hr1
    subst e
    exact ⟨p, q, WideElems.Trod_stays hl hr1.1 hr1.2 h1 (fun x hx => hs x (List.mem_append_left _ hx)) (fun x hx => hsp x (List.mem_append_left _ hx)),
      trodAll_stays hl hr2 h2 (fun x hx => hs x (List.mem_append_right _ hx)) (fun x hx => hsp x (List.mem_append_right _ hx)), rfl⟩
/-- A law's row, behind the walk: it returned true, and of what was there nothing has turned. -/
theorem post_law {H : Type} {enc : TypeId × Value → H} {P : Program} {f : Func} {s : ChangeSpec} {apart fresh handsOn again : Bool} {W W' : World} {args : Array Value} {ds : List (DataW H)} {before : List MemPlace} {tb : TypeId}
    (hW : DataW.Whole enc P f.params.toList s.vars apart W args.toList ds [] before) (hv : s.vars = []) (hl : laidOutB P = true) (hr : (f.params.toList.all fun t => P.readableRec t && decide (t < P.types.size)) = true)
    (hx : Below W.heap.size W W') (hf : s.fn H (ds ++ []) = { results := [.lit (.bool true)], args := ds }) (ht : f.resultTypes = #[tb]) (hb : P.underlying tb = some .bool) :
    s.post enc P f apart fresh handsOn again W args (.bool true) W' := by
  have hlt := hW.lt
  have hW' := hW
  obtain ⟨p, q, hA, hV, rfl, hz, hn⟩ := hW
  rw [hv] at hV
  have hq : q = [] := hV
  subst hq
  rw [List.append_nil] at hlt hz hn hW'
  have hsame : ∀ x ∈ p, W.sameAt W' x := fun x hx' => hx.same (hlt x hx')
  have harg : ∀ sp : Nat → Bool, (∀ x ∈ p, sp x.block = true) → DataW.TrodAll enc P W' 0 sp true f.params.toList args.toList ds p := fun sp hsp => trodAll_stays hl hr hA hsame hsp
  have hlist : (Value.bool true).resultList f.resultTypes.size = [.bool true] := by rw [ht]; rfl
  have hres : ∀ (b : Nat) (sp : Nat → Bool) (hd : Bool), DataW.TrodAll enc P W' b sp hd f.resultTypes.toList ((Value.bool true).resultList f.resultTypes.size) (s.fn H (ds ++ [])).results [] := fun b sp hd => by
    rw [hlist, ht, hf]; exact trodAll_mk1 (shut_bool hb true)
  have harg' : ∀ sp : Nat → Bool, (∀ x ∈ p, sp x.block = true) → DataW.TrodAll enc P W' 0 sp true f.params.toList args.toList (s.fn H (ds ++ [])).args p := fun sp hsp => by rw [hf]; exact harg sp hsp
  have hvar : ∀ sp : Nat → Bool, DataW.TrodVars enc P W' sp s.vars (s.fn H (ds ++ [])).vars [] := fun sp => by rw [hv, hf]; rfl
  refine ⟨ds, [], p, [], p, [], hW', hres _ _ _, harg' _ (fun x hx' => by simpa using hlt x hx'), hvar _, World.keptBut_mono (fun x hx' => ⟨hx', .inr (by simpa using hx')⟩) (hx.frame _), fun _ => ?_⟩
  refine ⟨?_, _, _, ([] ++ p) ++ [], ⟨[] ++ p, [], trodAll_append (harg' _ (fun _ _ => rfl)) (hres _ _ _), hvar _, rfl, ?_, ?_⟩, ?_⟩
  · intro j t r h1 h2
    rw [hlist] at h2
    rw [ht] at h1
    cases j with
    | zero => simp at h1 h2; subst h1 h2; exact okWide_bool_mk hb true
    | succ j => simp at h1
  · intro b off hp
    have hp' : MemPlace.cell b off ∈ p := by simpa using hp
    rw [hx.frozen (hlt _ hp')]
    exact hz b off hp'
  · intro ha; simpa using hn ha
  · intro x hx' _; simpa using hx'
end Go.Proofs.Ytknbjfefeeojlaa
/- Parts of elements; sizes of raw vectors and matrices. -/
namespace Go.Proofs.Ytknbjfefeeojlaa
open Go.RowKit
attribute [local irreducible] RV VH V OpF Calls
theorem add_add (ad : Addr) (m j : Nat) : (ad.add m).add j = ad.add (m + j) := by
  unfold Addr.add
  by_cases hm : m = 0
  · subst hm; simp
  · by_cases hj : j = 0
    · subst hj; simp
    · simp [hm, hj]; omega
theorem CE.part {W : World} {ad : Addr} {l l' : List Value} (h : CE W ad l) (m : Nat) (e : (l.drop m).take l'.length = l') : CE W (ad.add m) l' := fun j u hj => by
  rw [add_add]
  refine h _ _ ?_
  rw [← e, List.getElem?_take] at hj
  split at hj
  · rwa [List.getElem?_drop] at hj
  · cases hj
section
variable {P : Program} {ρ : Operand → Value} {W : World} {d : Option Tmp} {ty T : TypeId} {pos : String} {af : Array Edge} {g : Option (Nat × Bool)} {x : Operand} {ad : Addr}
end
theorem QX.two {S : Nat → Prop} {W : World} {n1 n2 : Bool} {a1 a2 : Option Addr} {l1 c1 l2 c2 : Nat} {ρ : RawQ} (h : QX S W [.bool n1, .slice a1 l1 c1, .bool n2, .slice a2 l2 c2] ρ) : n1 = ρ.n1 ∧ RN .u32 S W a1 l1 c1 ρ.xs ∧ n2 = ρ.n2 ∧ RN .u32 S W a2 l2 c2 ρ.ys := by
  obtain ⟨_, _, _, _, _, _, e, h1, h2⟩ := h
  simp only [List.cons.injEq, Value.bool.injEq, Value.slice.injEq, and_true] at e
  obtain ⟨rfl, ⟨rfl, rfl, rfl⟩, rfl, rfl, rfl, rfl⟩ := e
  exact ⟨rfl, h1, rfl, h2⟩
/-- Matrices among which no element is long. -/
abbrev MXX (S : Nat → Prop) (W : World) (a : Option Addr) (n c : Nat) (ms : List (List (List RawQ))) : Prop := MG MX S W a n c ms
theorem okRowMX : ElOK (RowOf MX) := ⟨fun ⟨a, n, c, e, h⟩ k => ⟨a, n, c, e, MG.ck okRowX h k⟩, fun ⟨a, n, c, e, h⟩ k => ⟨a, n, c, e, MG.sub okRowX h k⟩⟩
theorem MXX.ext {S : Nat → Prop} {W W' : World} {a : Option Addr} {n c : Nat} {ms : List (List (List RawQ))} (h : MXX S W a n c ms) (x : Ext W W') : MXX S W' a n c ms := MG.ck okRowMX h (x.ck _)
section
variable {r : Option Nat} {P : Program} {ops : Array Oper} {R : Env → World → Prop} {E : Env} {W : World} {t : Tmp} {t1 t2 ty : TypeId} {pos : String} {af : Array Edge} {S : World → Prop} {fuel : Nat} {listed : Array Bool} {x y : Operand} {k : IntKind} {m n : Int}
theorem tkLt {g : Option (Nat × Bool)} (i : Nat) (hi : ops[i]? = some ⟨some t, .binOp .lss t1 x y t2, ty, pos, af, g⟩) (hf : (Region.noSelect ops && Region.free .any ops listed i && (Region.ready .any ops listed).contains i) = true) (hS : S W) (hx : ev E x = .int k m) (hy : ev E y = .int k n)
    (hp : ∀ q, (∀ W, S W → (execOp (ev E) ⟨some t, .binOp .lss t1 x y t2, ty, pos, af, g⟩).run P W = .ok (.value (.bool q)) W) → PureIf P ops S ⟨some t, .binOp .lss t1 x y t2, ty, pos, af, g⟩ (.bool q) E)
    (kt : m < n → VH r P ops S R fuel (listed.setIfInBounds i true) (up E t (.bool true)) W) (kf : n ≤ m → VH r P ops S R fuel (listed.setIfInBounds i true) (up E t (.bool false)) W) : VH r P ops S R (fuel + 1) listed E W := by
  by_cases h : m < n
  · exact tk i hi hf hS (hp true fun W _ => rcmp (cLt (decide_eq_true h)) rfl hx hy) (kt h)
  · exact tk i hi hf hS (hp false fun W _ => rcmp (cLt (decide_eq_false h)) rfl hx hy) (kf (by omega))
theorem tkGe {g : Option (Nat × Bool)} (i : Nat) (hi : ops[i]? = some ⟨some t, .binOp .geq t1 x y t2, ty, pos, af, g⟩) (hf : (Region.noSelect ops && Region.free .any ops listed i && (Region.ready .any ops listed).contains i) = true) (hS : S W) (hx : ev E x = .int k m) (hy : ev E y = .int k n)
    (hp : ∀ q, (∀ W, S W → (execOp (ev E) ⟨some t, .binOp .geq t1 x y t2, ty, pos, af, g⟩).run P W = .ok (.value (.bool q)) W) → PureIf P ops S ⟨some t, .binOp .geq t1 x y t2, ty, pos, af, g⟩ (.bool q) E)
    (kt : n ≤ m → VH r P ops S R fuel (listed.setIfInBounds i true) (up E t (.bool true)) W) (kf : m < n → VH r P ops S R fuel (listed.setIfInBounds i true) (up E t (.bool false)) W) : VH r P ops S R (fuel + 1) listed E W := by
  by_cases h : n ≤ m
  · exact tk i hi hf hS (hp true fun W _ => rcmp (cGe (decide_eq_true h)) rfl hx hy) (kt h)
  · exact tk i hi hf hS (hp false fun W _ => rcmp (cGe (decide_eq_false h)) rfl hx hy) (kf (by omega))
theorem tkLe {g : Option (Nat × Bool)} (i : Nat) (hi : ops[i]? = some ⟨some t, .binOp .leq t1 x y t2, ty, pos, af, g⟩) (hf : (Region.noSelect ops && Region.free .any ops listed i && (Region.ready .any ops listed).contains i) = true) (hS : S W) (hx : ev E x = .int k m) (hy : ev E y = .int k n)
    (hp : ∀ q, (∀ W, S W → (execOp (ev E) ⟨some t, .binOp .leq t1 x y t2, ty, pos, af, g⟩).run P W = .ok (.value (.bool q)) W) → PureIf P ops S ⟨some t, .binOp .leq t1 x y t2, ty, pos, af, g⟩ (.bool q) E)
    (kt : m ≤ n → VH r P ops S R fuel (listed.setIfInBounds i true) (up E t (.bool true)) W) (kf : n < m → VH r P ops S R fuel (listed.setIfInBounds i true) (up E t (.bool false)) W) : VH r P ops S R (fuel + 1) listed E W := by
  by_cases h : m ≤ n
  · exact tk i hi hf hS (hp true fun W _ => rcmp (cLe (decide_eq_true h)) rfl hx hy) (kt h)
  · exact tk i hi hf hS (hp false fun W _ => rcmp (cLe (decide_eq_false h)) rfl hx hy) (kf (by omega))
theorem tkNe {g : Option (Nat × Bool)} (i : Nat) (hi : ops[i]? = some ⟨some t, .binOp .neq t1 x y t2, ty, pos, af, g⟩) (hf : (Region.noSelect ops && Region.free .any ops listed i && (Region.ready .any ops listed).contains i) = true) (hS : S W) (hx : ev E x = .int k m) (hy : ev E y = .int k n)
    (hp : ∀ q, (∀ W, S W → (execOp (ev E) ⟨some t, .binOp .neq t1 x y t2, ty, pos, af, g⟩).run P W = .ok (.value (.bool q)) W) → PureIf P ops S ⟨some t, .binOp .neq t1 x y t2, ty, pos, af, g⟩ (.bool q) E)
    (kt : m ≠ n → VH r P ops S R fuel (listed.setIfInBounds i true) (up E t (.bool true)) W) (kf : m = n → VH r P ops S R fuel (listed.setIfInBounds i true) (up E t (.bool false)) W) : VH r P ops S R (fuel + 1) listed E W := by
  by_cases h : m ≠ n
  · exact tk i hi hf hS (hp true fun W _ => rcmp (cNe (decide_eq_true h)) rfl hx hy) (kt h)
  · exact tk i hi hf hS (hp false fun W _ => rcmp (cNe (decide_eq_false h)) rfl hx hy) (kf (by omega))
end
end Go.Proofs.Ytknbjfefeeojlaa
/- Matrices as lists: plain mathematics for the laws of layer 4. -/
namespace Go.Proofs.Ytknbjfefeeojlaa
/-- f 0 + .. + f (k - 1). -/
def sumk (f : Nat → Rat) : Nat → Rat
  | 0 => 0
  | k + 1 => sumk f k + f k
theorem sumk_ext {f g : Nat → Rat} : ∀ {k : Nat}, (∀ i, i < k → f i = g i) → sumk f k = sumk g k
  | 0, _ => rfl
  | k + 1, h => by simp only [sumk]; rw [sumk_ext fun i hi => h i (by omega), h k (by omega)]
theorem sumk_zero {f : Nat → Rat} : ∀ {k : Nat}, (∀ i, i < k → f i = 0) → sumk f k = 0
  | 0, _ => rfl
  | k + 1, h => by simp only [sumk]; rw [sumk_zero fun i hi => h i (by omega), h k (by omega), Rat.zero_add]
theorem vat_ge {rs : List Rat} {i : Nat} (h : rs.length ≤ i) : vat rs i = 0 := by unfold vat; rw [List.getD_eq_getElem?_getD, List.getElem?_eq_none h]; rfl
theorem vat_lt {rs : List Rat} {i : Nat} (h : i < rs.length) : vat rs i = rs[i] := by unfold vat; rw [List.getD_eq_getElem?_getD, List.getElem?_eq_getElem h]; rfl
theorem vat_rep (N : Nat) (j : Nat) : vat (List.replicate N 0) j = 0 := by
  rcases Nat.lt_or_ge j N with h | h
  · rw [vat_lt (by simpa using h)]; simp
  · exact vat_ge (by simpa using h)
theorem vat_zipf (gf : Rat → Rat → Rat) (xs ys : List Rat) {k i : Nat} (h : i < k) : vat (zipf gf xs ys k) i = gf (vat xs i) (vat ys i) := by
  rw [vat_lt (by rw [zipf_len]; exact h)]; simp [zipf]
theorem colsN_le {rss : List (List Rat)} {N : Nat} (h : ∀ r ∈ rss, r.length ≤ N) : colsN rss ≤ N := by
  have key : ∀ (l : List (List Rat)) (m : Nat), m ≤ N → (∀ r ∈ l, r.length ≤ N) → l.foldl (fun m r => max m r.length) m ≤ N := by
    intro l
    induction l with
    | nil => intro m hm _; exact hm
    | cons x l ih => intro m hm h; exact ih _ (by have := h x (by simp); show max m x.length ≤ N; omega) fun r hr => h r (by simp [hr])
  exact key rss 0 (Nat.zero_le _) h
theorem unitv_len (N : Nat) (k : Int) : (unitv N k).length = N := by unfold unitv; split <;> simp
end Go.Proofs.Ytknbjfefeeojlaa
/- Package mat: Equal. -/
namespace Go.Proofs.Ytknbjfefeeojlaa
open Go.RowKit
attribute [local irreducible] RV VH V OpF Calls
structure EJ (w : World) (b4 b1 b2 : Nat) (v1 v2 : Value) (s : Bool) (X : World) : Prop where
  ext : Ext w X
  x4 : BoxAt X b4 [.bool s] 4
  x1 : BoxAt X b1 [v1] 25
  x2 : BoxAt X b2 [v2] 25
theorem EJ.tn {w X Y : World} {B b4 b1 b2 : Nat} {v1 v2 : Value} {s : Bool} (h : EJ w b4 b1 b2 v1 v2 s X) (t : Tn B X Y) (hB : w.heap.size ≤ B) : EJ w b4 b1 b2 v1 v2 s Y := ⟨t.ext h.ext hB, h.x4.tn t, h.x1.tn t, h.x2.tn t⟩
theorem EJ.xt {w X Y : World} {b4 b1 b2 : Nat} {v1 v2 : Value} {s : Bool} (h : EJ w b4 b1 b2 v1 v2 s X) (x : Ext X Y) : EJ w b4 b1 b2 v1 v2 s Y := ⟨h.ext.trans x, h.x4.ext x, h.x1.ext x, h.x2.ext x⟩

end Go.Proofs.Ytknbjfefeeojlaa
/- Parts of slices; sizes of products; the equalities that hold. -/
namespace Go.Proofs.Ytknbjfefeeojlaa
open Go.RowKit
attribute [local irreducible] RV VH V OpF Calls
theorem GA.cut {L : Nat} {S : Nat → Prop} {W : World} {a : Option Addr} {n c l m : Nat} {rs : List Rat} (h : GA L S W a n c rs) (h0 : l ≤ m) (hm : m ≤ n) : GA L S W (if c = l then a else a.map (·.add (l * 4))) (m - l) (c - l) ((rs.take m).drop l) := by
  obtain ⟨qs, h1, h2⟩ := h; exact ⟨_, h1.cut h0 hm, (h2.take m).drop l⟩
theorem GC.cut {S : Nat → Prop} {W : World} {a : Option Addr} {n c l m : Nat} {rs : List Rat} (h : GC S W a n c rs) (h0 : l ≤ m) (hm : m ≤ n) : GC S W (if c = l then a else a.map (·.add (l * 4))) (m - l) (c - l) ((rs.take m).drop l) := by
  obtain ⟨qs, h1, h2⟩ := h; exact ⟨_, h1.cut h0 hm, (h2.take m).drop l⟩
section
variable {P : Program} {ρ : Operand → Value} {W : World} {d : Option Tmp} {ty T e : TypeId} {pos : String} {af : Array Edge} {g : Option (Nat × Bool)} {x y u : Operand}
end
theorem GO.old {ρt : Type} {El : (Nat → Prop) → World → List Value → ρt → Prop} {S : Nat → Prop} {s B : Nat} {W : World} {e : TypeId} {v : Value} {rs : List ρt} (h : GO s El S B W e v rs) : ∀ b, b < B → v.ownBlock ≠ some b := fun b hb e => by
  obtain ⟨qs, h1, _⟩ := h
  have := (h1.low b e).1; omega
theorem MX.ma {L : Nat} {S : Nat → Prop} {W : World} {a : Option Addr} {n c : Nat} {ρss : List (List RawQ)} (h : MX S W a n c ρss) (hs : ∀ r ∈ ρss, ∀ ρ ∈ r, szQ L ρ) : MA L S W a n c (ρss.map (·.map qval)) := by
  obtain ⟨qs, h1, h2⟩ := h
  refine ⟨qs, h1, ?_⟩
  clear h1
  induction qs generalizing ρss with
  | nil => cases ρss <;> simp_all [All2]
  | cons q qs ih => cases ρss with
    | nil => exact h2.elim
    | cons r rs => obtain ⟨a, n, c, e, h3⟩ := h2.1; exact ⟨⟨a, n, c, e, h3.va (hs r (by simp))⟩, ih (fun x hx => hs x (by simp [hx])) h2.2⟩
theorem gridm_sz {L : Nat} {f : Int → Int → Rat} {R C : Nat} (h : ∀ i k : Nat, sz L (f i k)) : ∀ r ∈ gridm f R C, szV L r := by
  intro r hr q hq
  obtain ⟨i, _, rfl⟩ := List.mem_map.1 hr
  obtain ⟨k, _, rfl⟩ := List.mem_map.1 hq
  exact h i k
theorem len_gridm (f : Int → Int → Rat) (R C : Nat) : (gridm f R C).length = R := by simp [gridm]
theorem szOne : sz 1 1 := by constructor <;> decide
theorem unitv_sz (N : Nat) (k : Int) : szV 1 (unitv N k) := by
  intro r hr
  unfold unitv at hr
  split at hr
  · rcases List.mem_or_eq_of_mem_set hr with h | h
    · rw [(List.mem_replicate.1 h).2]; exact sz_zero
    · rw [h]; exact szOne
  · rw [(List.mem_replicate.1 hr).2]; exact sz_zero
theorem MA.rowsz {L : Nat} {S : Nat → Prop} {W : World} {a : Option Addr} {n c : Nat} {rss : List (List Rat)} (h : MA L S W a n c rss) (hL : 1 ≤ L) : ∀ r ∈ rss, szV L r := fun r hr => by
  obtain ⟨i, hi⟩ := List.getElem?_of_mem hr
  have := GA.rows h hL i
  unfold rowat at this
  rwa [List.getD_eq_getElem?_getD, hi] at this
section
variable {L1 L2 : Nat} {S1 S2 : Nat → Prop} {w : World} {a1 a2 : Option Addr} {n c m d : Nat} {xs ys : List Rat} {rss mss : List (List Rat)}
theorem vEq_true (w : World) (hx : GA L1 S1 w a1 n c xs) (hy : GA L2 S2 w a2 m d ys) (hL : L1 + L2 < LY) (hl1 : 1 ≤ L1) (hl2 : 1 ≤ L2) (hn : n ≤ LV) (hm : m ≤ LV) (e : ∀ j, vat xs j = vat ys j) : Calls Try.prog 17 #[.slice a1 n c, .slice a2 m d] w fun e w' => e = .returned (.bool true) ∧ Ext w w' := by
  refine (vEqual_ok _ _ _ _ _ _ _ _ _ _ _ _ w hx hy hL hl1 hl2 hn hm).mono ?_
  rintro _ _ ⟨q, h1, h2, h3⟩
  exact ⟨by rw [h1, h3.2 fun j _ => e j], h2⟩
end
end Go.Proofs.Ytknbjfefeeojlaa
/- Packages pylonref02: Sub Cmp; pylonref03: At Lex Unit; pylonref04: At row Same. -/
namespace Go.Proofs.Ytknbjfefeeojlaa
open Go.RowKit
attribute [local irreducible] RV VH V OpF Calls
theorem QA.cast {L : Nat} {S : Nat → Prop} {W : World} {q : List Value} {r r' : Rat} (h : QA L S W q r) (e : r = r') : QA L S W q r' := e ▸ h
end Go.Proofs.Ytknbjfefeeojlaa
/- Packages pylonref03: Unit; pylonref04: cut place made Fit Turn Unit. -/
namespace Go.Proofs.Ytknbjfefeeojlaa
open Go.RowKit
attribute [local irreducible] RV VH V OpF Calls
theorem szOne' : sz 1 ((1 : Int) : Rat) := by constructor <;> decide
theorem GO.lt {ρt : Type} {El : (Nat → Prop) → World → List Value → ρt → Prop} {S : Nat → Prop} {s B : Nat} {W : World} {e : TypeId} {v : Value} {rs : List ρt} (h : GO s El S B W e v rs) : ∀ b, W.heap.size ≤ b → v.ownBlock ≠ some b := fun b hb e => by
  obtain ⟨qs, h1, _⟩ := h
  have := (h1.low b e).2; omega

end Go.Proofs.Ytknbjfefeeojlaa
/- Packages pylonlaw01 to pylonlaw04: Own. -/
namespace Go.Proofs.Ytknbjfefeeojlaa
open Go.RowKit
attribute [local irreducible] RV VH V OpF Calls
theorem QX.mk' {S : Nat → Prop} {W : World} {ρ : RawQ} {a1 a2 : Option Addr} {l1 c1 l2 c2 : Nat} {n1 n2 : Bool} (e1 : n1 = ρ.n1) (h1 : RN .u32 S W a1 l1 c1 ρ.xs) (e2 : n2 = ρ.n2) (h2 : RN .u32 S W a2 l2 c2 ρ.ys) : QX S W [.bool n1, .slice a1 l1 c1, .bool n2, .slice a2 l2 c2] ρ := by
  subst e1 e2; exact ⟨_, _, _, _, _, _, rfl, h1, h2⟩


end Go.Proofs.Ytknbjfefeeojlaa
/- A region that draws its order, in which some operations break what the loads rest on; every such load stands ahead of them. -/
namespace Go.Proofs.Ytknbjfefeeojlaa
open Go.RowKit
section
variable {r : Option Nat} {P : Program} {N : Nat} {ops : Array Oper} {S S' : World → Prop} {R : Env → World → Prop} {fuel i : Nat} {listed : Array Bool} {E : Env} {W : World} {d : Option Tmp} {op : Op} {t : Tmp} {ty : TypeId} {pos : String} {af : Array Edge} {ds : List Deferred} {Q : EQ} {v : Value} {bs : List Nat} {oi : Oper}
/-- No breaking operation was done. -/
def whole (bs : List Nat) (listed : Array Bool) : Bool := bs.all fun j => !(listed.getD j true)
def VB (bs : List Nat) (r : Option Nat) (P : Program) (ops : Array Oper) (S : World → Prop) (R : Env → World → Prop) : Nat → Array Bool → Env → World → Prop
  | 0, listed, E, W => Region.ready .any ops listed = [] ∧ R E W
  | fuel + 1, listed, E, W => (Region.ready .any ops listed = [] → R E W) ∧
      ∀ i ∈ Region.ready .any ops listed, opI r P ops i (fun E' W' => (whole bs (listed.setIfInBounds i true) = true → S W') ∧ VB bs r P ops S R fuel (listed.setIfInBounds i true) E' W') E W
theorem VB.va : ∀ (fuel : Nat) (listed : Array Bool) (E : Env) (W : World), VB bs r P ops S R fuel listed E W → VA r P ops R fuel listed E W
  | 0, _, _, _, h => h
  | fuel + 1, _, _, _, h => ⟨h.1, fun i hi => (h.2 i hi).mono fun E' W' h' => VB.va fuel _ E' W' h'.2⟩
def depB (ops : Array Oper) (bs : List Nat) (i : Nat) : Bool := bs.all fun j => !(j == i) && match ops[j]? with
  | none => true
  | some o => o.after.any fun e => Region.binds .any e && e.on == i
theorem whole_set {j : Nat} (h : whole bs listed = true) (hj : bs.contains j = false) : whole bs (listed.setIfInBounds j true) = true := by
  unfold whole at *
  rw [List.all_eq_true] at *
  intro k hk
  have hkj : j ≠ k := fun e => by subst e; simp at hj; exact hj hk
  rw [getD_set_ne true hkj]; exact h k hk
theorem whole_un {j : Nat} (h : whole bs (listed.setIfInBounds j true) = true) : whole bs listed = true := by
  unfold whole at *
  rw [List.all_eq_true] at *
  intro k hk
  have := h k hk
  by_cases e : j = k
  · subst e
    rcases Nat.lt_or_ge j listed.size with h' | h'
    · simp [h'] at this
    · simp [Array.getElem?_eq_none h'] at this
  · rwa [getD_set_ne true e] at this
theorem VB.first (hi : ops[i]? = some oi) (hbi : bs.contains i = false) (hsel : ∀ (j : Nat) (o : Oper) cs b, ops[j]? = some o → o.op ≠ .select cs b) (hk : (depB ops bs i = true ∧ ∀ W, S W → S' W) ∨ (∀ W, S' W)) :
    ∀ (fuel : Nat) (listed : Array Bool) (E : Env) (W : World),
      (∀ j oj, ops[j]? = some oj → j ≠ i → listed.getD j true = false → (∀ e ∈ oj.after, Region.binds .any e = true → e.on ≠ i) → oi.apart ops oj = true) →
      i ∈ Region.ready .any ops listed → PureIf P ops S' oi v E → (depB ops bs i = true → whole bs listed = true) → (whole bs listed = true → S W) →
      VB bs r P ops S R fuel (listed.setIfInBounds i true) (puto E oi.dst v) W → VB bs r P ops S R (fuel + 1) listed E W := by
  intro fuel
  have hS' : ∀ {listed : Array Bool} {W : World}, (depB ops bs i = true → whole bs listed = true) → (whole bs listed = true → S W) → S' W := fun h1 h2 => by
    rcases hk with ⟨h3, h4⟩ | h4
    · exact h4 _ (h2 (h1 h3))
    · exact h4 _
  induction fuel with
  | zero =>
    intro listed E W _ hr hy hw hS H
    refine ⟨fun h => (by rw [h] at hr; cases hr), fun j hj => ?_⟩
    by_cases hji : j = i
    · subst hji
      exact hy.opI hi (hS' hw hS) ⟨fun hb => hS (whole_un hb), H⟩
    · have := ready_mono hj hji
      rw [H.1] at this
      cases this
  | succ fuel ih =>
    intro listed E W hfree hr hy hw hS H
    refine ⟨fun h => (by rw [h] at hr; cases hr), fun j hj => ?_⟩
    by_cases hji : j = i
    · subst hji
      exact hy.opI hi (hS' hw hS) ⟨fun hb => hS (whole_un hb), H⟩
    · have h1 := H.2 j (ready_mono hj hji)
      obtain ⟨hjun, oj, hoj, hall⟩ := mem_ready.1 hj
      have hnot : ∀ e ∈ oj.after, Region.binds .any e = true → e.on ≠ i := fun e he hb heq => by
        have h1 := hall e he hb
        have h0 := (mem_ready.1 hr).1
        rw [heq] at h1
        rcases Nat.lt_or_ge i listed.size with h' | h'
        · simp [h'] at h0 h1; rw [h0] at h1; cases h1
        · simp [Array.getElem?_eq_none h'] at h1
      have h2 := opI_put (r := r) hoj (hfree j oj hoj hji hjun hnot) (fun cs b => hsel i oi cs b hi) (fun cs b => hsel j oj cs b hoj) hy h1
      have hfree' : ∀ k ok, ops[k]? = some ok → k ≠ i → (listed.setIfInBounds j true).getD k true = false →
          (∀ e ∈ ok.after, Region.binds .any e = true → e.on ≠ i) → oi.apart ops ok = true := fun k ok hk hki hun hno => by
        refine hfree k ok hk hki ?_ hno
        by_cases hjk : j = k
        · subst hjk; exact hjun
        · rw [getD_set_ne true hjk] at hun; exact hun
      have hnb : depB ops bs i = true → bs.contains j = false := fun hd => by
        cases hc : bs.contains j with
        | false => rfl
        | true =>
          have h5 := (List.all_eq_true.1 hd) j (by simpa using hc)
          simp only [hoj, Bool.and_eq_true] at h5
          obtain ⟨e, he, hb⟩ := Array.any_eq_true'.1 h5.2
          simp only [Bool.and_eq_true, beq_iff_eq] at hb
          exact absurd hb.2 (hnot e he hb.1)
      refine h2.mono fun E' W' h3 => ⟨fun hb => ?_, ih (listed.setIfInBounds j true) E' W' hfree' (ready_mono hr (Ne.symm hji)) h3.1 (fun hd => whole_set (hw hd) (hnb hd)) (fun hb => ?_) ?_⟩
      · refine h3.2.1 ?_
        rw [Array.setIfInBounds_comm _ _ (Ne.symm hji)]; exact whole_set hb hbi
      · refine h3.2.1 ?_
        rw [Array.setIfInBounds_comm _ _ (Ne.symm hji)]; exact whole_set hb hbi
      · rw [Array.setIfInBounds_comm _ _ hji]
        exact h3.2.2
theorem V.regB {id : Nat} (bs : List Nat) (hm : P.follows .mixedOrders = true) (hl : dstsOK N ops.toList = true)
    (h : ∀ W1, Ext W W1 → VB bs r P ops (Ext W1) (fun E W => Q .normal E ds W) ops.size (Array.replicate ops.size false) E W1) : V r P N ds (.region id ops true) Q E W := fun a hrep hd =>
  wpIn_region_any hm (VA.wp (ds := ds) hl (fun a E W hr hd h => ⟨E, hr, by rw [hd]; exact h⟩) _ _ a E _ hrep hd (VB.va _ _ _ _ (h _ ((Ext.refl W).drew))))
/-- An operation that rests on no world. -/
theorem tkP {g : Option (Nat × Bool)} (i : Nat) (hi : ops[i]? = some ⟨some t, op, ty, pos, af, g⟩) (hf : (Region.noSelect ops && Region.free .any ops listed i && (Region.ready .any ops listed).contains i && !(bs.contains i)) = true) (hw : (!(depB ops bs i) || whole bs listed) = true) (hS : whole bs listed = true → S W) (hy : PureIf P ops (fun _ => True) ⟨some t, op, ty, pos, af, g⟩ v E)
    (k : VB bs r P ops S R fuel (listed.setIfInBounds i true) (up E t v) W) : VB bs r P ops S R (fuel + 1) listed E W := by
  simp only [Bool.and_eq_true, Bool.not_eq_true'] at hf
  refine VB.first hi hf.2 (Region.noSelect_spec hf.1.1.1) (.inr fun _ => trivial) fuel listed E W (Region.free_spec hi hf.1.1.2) (by simpa using hf.1.2) hy (fun hd => ?_) hS k
  rw [hd] at hw; simpa using hw
/-- A load: it stands ahead of all that break. -/
theorem tkB {g : Option (Nat × Bool)} (i : Nat) (hi : ops[i]? = some ⟨some t, op, ty, pos, af, g⟩) (hf : (Region.noSelect ops && Region.free .any ops listed i && (Region.ready .any ops listed).contains i && !(bs.contains i) && depB ops bs i && whole bs listed) = true) (hS : S W) (hy : PureIf P ops S ⟨some t, op, ty, pos, af, g⟩ v E)
    (k : VB bs r P ops S R fuel (listed.setIfInBounds i true) (up E t v) W) : VB bs r P ops S R (fuel + 1) listed E W := by
  simp only [Bool.and_eq_true, Bool.not_eq_true'] at hf
  exact VB.first hi hf.1.1.2 (Region.noSelect_spec hf.1.1.1.1.1) (.inl ⟨hf.1.2, fun _ h => h⟩) fuel listed E W (Region.free_spec hi hf.1.1.1.1.2) (by simpa using hf.1.1.1.2) hy (fun _ => hf.2) (fun _ => hS) k
theorem efB (i : Nat) (hr : Region.ready .any ops listed = [i]) (hi : ops[i]? = some ⟨d, op, ty, pos, af, none⟩) (h : OpF r P (ev E) ⟨d, op, ty, pos, af, none⟩ W fun v W' => (whole bs (listed.setIfInBounds i true) = true → S W') ∧ VB bs r P ops S R fuel (listed.setIfInBounds i true) (puto E d v) W') : VB bs r P ops S R (fuel + 1) listed E W := by
  refine ⟨fun h0 => (by rw [hr] at h0; cases h0), fun j hj => ?_⟩
  rw [hr] at hj
  obtain rfl : j = i := by simpa using hj
  unfold opI
  simp only [hi]
  rw [if_pos (by rfl)]; exact h
theorem dnB (hr : Region.ready .any ops listed = []) (h : R E W) : VB bs r P ops S R fuel listed E W := by
  cases fuel with
  | zero => exact ⟨hr, h⟩
  | succ n => exact ⟨fun _ => h, by rw [hr]; simp⟩
theorem notWf {p : Prop} (h : whole bs listed = false) : whole bs listed = true → p := fun h' => (by rw [h] at h'; cases h')
theorem notW {p q : Prop} (h : whole bs listed = false) (k : q) : (whole bs listed = true → p) ∧ q := ⟨fun h' => (by rw [h] at h'; cases h'), k⟩
end
end Go.Proofs.Ytknbjfefeeojlaa
/- A slice of the call's own whose elements are stored anew; a matrix under elimination. -/
namespace Go.Proofs.Ytknbjfefeeojlaa
open Go.RowKit
attribute [local irreducible] RV VH V OpF Calls
section
variable {P : Program} {ρ : Operand → Value} {W W' : World} {d : Option Tmp} {ty T e : TypeId} {pos : String} {af : Array Edge} {g : Option (Nat × Bool)} {x y : Operand} {v u : Value} {K : Value → World → Prop} {s B n c : Nat} {a : Option Addr} {qs : List (List Value)}
theorem OS.own (h : OS s B W e v qs) (hn : 0 < qs.length) : ∃ b c cur, v = .slice (some ⟨b, 0, none⟩) qs.length c ∧ v.ownBlock = some b ∧ B ≤ b ∧ BoxAt W b cur e ∧ qs.length ≤ c ∧ c ≤ maxLen ∧ cur.length = c * s ∧ cur.take (qs.length * s) = qs.flatten := by
  rcases h.row.2 with ⟨_, h0⟩ | ⟨b, cap, cur, rfl, hb, hh, h1, h2, h3, h4⟩
  · omega
  · exact ⟨b, cap, cur.toList, rfl, rfl, hb, by unfold BoxAt; simpa using hh, h1, h2, by simpa using h3, h4⟩
theorem OS.of {b c : Nat} {cur : List Value} (hw : ∀ q ∈ qs, q.length = s) (hB : B ≤ b) (hb : BoxAt W b cur e) (h1 : qs.length ≤ c) (h2 : c ≤ maxLen) (h3 : cur.length = c * s) (h4 : cur.take (qs.length * s) = qs.flatten) : OS s B W e (.slice (some ⟨b, 0, none⟩) qs.length c) qs :=
  ⟨⟨flat_len hw, .inr ⟨b, c, cur.toArray, rfl, hB, hb, h1, h2, by simpa using h3, by simpa using h4⟩⟩, hw⟩
theorem take_set_flat {cur : List Value} {q : List Value} {i m : Nat} (hi : i + q.length ≤ m) (hm : m ≤ cur.length) : (cur.take i ++ q ++ cur.drop (i + q.length)).take m = (cur.take m).take i ++ q ++ (cur.take m).drop (i + q.length) := by
  have h1 : (cur.take m).take i = cur.take i := by rw [List.take_take]; congr 1; omega
  have h2 : (cur.take m).drop (i + q.length) = (cur.drop (i + q.length)).take (m - (i + q.length)) := List.drop_take
  have h3 : (cur.take i ++ q).length = i + q.length := by rw [List.length_append, List.length_take]; omega
  rw [h1, h2, List.take_append, List.take_of_length_le (by omega), h3]
/-- v[i] = u, in a slice of the call's own. -/
theorem xstS {r : Option Nat} {i : Int} {q : List Value} (h : OS s B W e v qs) (hv : v = .slice a n c) (hx : ρ x = .pointer (some (adr a i s))) (hy : ρ y = u) (hu : u.cells = q.toArray) (hT : Sz P T q.length) (hq : q.length = s) (ho : (q.all Value.oneCell') = true) (h0 : 0 ≤ i) (h1 : i < n)
    (hk2 : ∀ b W', v.ownBlock = some b → Wr b W W' → OS s B W' e v (qs.set i.toNat q) → K undef W') : OpF r P ρ ⟨d, .store T x y, ty, pos, af, g⟩ W K := by
  obtain ⟨a1, c1, e1⟩ := h.form
  have en : n = qs.length := by rw [hv] at e1; injection e1
  obtain ⟨b, cap, cur, e2, e3, hB, hb, h2, h3, h4, h5⟩ := h.own (by omega)
  have ea : a = some ⟨b, 0, none⟩ := by rw [hv] at e2; injection e2
  subst ea
  have hlt : i.toNat < qs.length := by omega
  have hle : i.toNat * s + s ≤ qs.length * s := by rw [← Nat.succ_mul]; exact Nat.mul_le_mul_right _ hlt
  have hcl : qs.length * s ≤ cur.length := by rw [h4]; exact Nat.mul_le_mul_right _ h2
  refine xst (o := i.toNat * s) (vs := q) (cs' := cur.take (i.toNat * s) ++ q ++ cur.drop (i.toNat * s + q.length)) ?_ hy hT hu ho hb (by omega) rfl ?_
  · rw [hx]; simp [adr, addO]
  · intro W' y' hb'
    refine hk2 b W' e3 y' ?_
    rw [e2]
    have hw : ∀ p ∈ qs.set i.toNat q, p.length = s := fun p hp => by
      rcases List.mem_or_eq_of_mem_set hp with h | h'
      · exact (by assumption : OS s B W e v qs).wd p h
      · subst h'; exact hq
    have hl : (qs.set i.toNat q).length = qs.length := List.length_set
    have := OS.of (W := W') (e := e) (c := cap) (qs := qs.set i.toNat q) hw hB hb' (by omega) h3 ?_ ?_
    · rwa [hl] at this
    · simp; omega
    · rw [hl, take_set_flat (by omega) hcl, h5, flat_set h.wd hlt hq, hq]
end
section
variable {ρt : Type} {El : (Nat → Prop) → World → List Value → ρt → Prop} {S : Nat → Prop} {P : Program} {ρ : Operand → Value} {W W' : World} {d : Option Tmp} {ty T e : TypeId} {pos : String} {af : Array Edge} {g : Option (Nat × Bool)} {x y : Operand} {v u : Value} {K : Value → World → Prop} {s B n c : Nat} {a : Option Addr} {rs : List ρt} {rr : ρt}
theorem xstG {r : Option Nat} {i : Int} {q : List Value} (ok : ElOK El) (h : GO s El S B W e v rs) (hv : v = .slice a n c) (hx : ρ x = .pointer (some (adr a i s))) (hy : ρ y = u) (hu : u.cells = q.toArray) (hT : Sz P T q.length) (hq : q.length = s) (ho : (q.all Value.oneCell') = true) (h0 : 0 ≤ i) (h1 : i < n)
    (hel : El (SO S v) W q rr) (hk2 : ∀ b W', v.ownBlock = some b → Wr b W W' → GO s El S B W' e v (rs.set i.toNat rr) → K undef W') : OpF r P ρ ⟨d, .store T x y, ty, pos, af, g⟩ W K := by
  obtain ⟨qs, h2, h3⟩ := h
  refine xstS h2 hv hx hy hu hT hq ho h0 h1 ?_
  intro b W' hb y' hO
  refine hk2 b W' hb y' ⟨_, hO, ?_⟩
  have := h3.set (k := i.toNat) hel
  exact this.imp fun q r hq => ok.ck hq (y'.ck (fun hh => hh.2 hb))
/-- What is read of such a slice. -/
theorem GO.rd {El : (Nat → Prop) → World → List Value → ρt → Prop} (ok : ElOK El) (h : GO s El S B W e (.slice a n c) rs) : ∃ qs, RS s TT W a n c qs ∧ All2 (El TT W) qs rs := by
  obtain ⟨qs, h2, h3⟩ := h
  exact ⟨qs, h2.rs (fun _ _ _ => trivial), h3.imp fun _ _ hq => ok.sub hq fun _ _ _ => trivial⟩
end
end Go.Proofs.Ytknbjfefeeojlaa
/- A matrix under elimination: what is reckoned, and the state of the call. -/
namespace Go.Proofs.Ytknbjfefeeojlaa
open Go.RowKit
attribute [local irreducible] RV VH V OpF Calls
def sclR (r : Rat) (xs : List Rat) : List Rat := zipf (fun a b => r * a + b) xs [] (max xs.length 0)
def axR (r : Rat) (xs ys : List Rat) : List Rat := zipf (fun a b => r * a + b) xs ys (max xs.length ys.length)
theorem sclR_len (r : Rat) (xs : List Rat) : (sclR r xs).length = xs.length := by simp [sclR, zipf]
theorem axR_len (r : Rat) (xs ys : List Rat) : (axR r xs ys).length = max xs.length ys.length := by simp [axR, zipf]
/-- p: the first row at d or behind it whose element k is not 0; the number of rows, if there is none. -/
def IsP (rows : List (List Rat)) (k d p : Nat) : Prop := d ≤ p ∧ p ≤ rows.length ∧ (∀ j, d ≤ j → j < p → mat rows j k = 0) ∧ (p < rows.length → mat rows p k ≠ 0)
theorem IsP.uniq {rows : List (List Rat)} {k d p q : Nat} (h : IsP rows k d p) (h' : IsP rows k d q) : p = q := by
  rcases Nat.lt_trichotomy p q with hl | hl | hl
  · exact absurd (h'.2.2.1 p h.1 hl) (h.2.2.2 (by have := h'.2.1; omega))
  · exact hl
  · exact absurd (h.2.2.1 q h'.1 hl) (h'.2.2.2 (by have := h.2.1; omega))
def pfind (rows : List (List Rat)) (k : Nat) : Nat → Nat → Nat
  | 0, d => d
  | n + 1, d => if mat rows d k = 0 then pfind rows k n (d + 1) else d
def pf (rows : List (List Rat)) (k d : Nat) : Nat := pfind rows k (rows.length - d) d
theorem pfind_is (rows : List (List Rat)) (k : Nat) : ∀ (n d : Nat), d + n = rows.length → IsP rows k d (pfind rows k n d)
  | 0, d, h => ⟨Nat.le_refl _, by unfold pfind; omega, fun j h1 h2 => by unfold pfind at h2; omega, fun hh => by unfold pfind at hh; omega⟩
  | n + 1, d, h => by
    unfold pfind
    split
    · rename_i h0
      obtain ⟨h1, h2, h3, h4⟩ := pfind_is rows k n (d + 1) (by omega)
      refine ⟨by omega, h2, fun j hj hj2 => ?_, h4⟩
      rcases Nat.lt_or_eq_of_le hj with hj | rfl
      · exact h3 j hj hj2
      · exact h0
    · rename_i h0
      exact ⟨Nat.le_refl _, by omega, fun j h1 h2 => by omega, fun _ => h0⟩
theorem pf_is {rows : List (List Rat)} {k d : Nat} (h : d ≤ rows.length) : IsP rows k d (pf rows k d) := pfind_is rows k _ d (by omega)
theorem IsP.pf {rows : List (List Rat)} {k d p : Nat} (h : IsP rows k d p) : pf rows k d = p := (pf_is (Nat.le_trans h.1 h.2.1)).uniq h
def swapR (rows : List (List Rat)) (i j : Nat) : List (List Rat) := (rows.set i (rowat rows j)).set j (rowat rows i)
theorem set_rowat (rows : List (List Rat)) (i : Nat) : rows.set i (rowat rows i) = rows := by
  refine List.ext_getElem? fun j => ?_
  rw [List.getElem?_set]
  split
  · rename_i h; subst h
    split
    · rename_i h; unfold rowat; simp [h]
    · rename_i h; rw [List.getElem?_eq_none (by omega)]
  · rfl
theorem swapR_self (rows : List (List Rat)) (i : Nat) : swapR rows i i = rows := by unfold swapR; rw [set_rowat, set_rowat]
theorem swapR_len (rows : List (List Rat)) (i j : Nat) : (swapR rows i j).length = rows.length := by simp [swapR]
/-- The elimination in column k, by row d, in the rows ahead of row i. -/
def elimT (rows : List (List Rat)) (d k j : Nat) : List Rat := if j = d ∨ mat rows j k = 0 then rowat rows j else axR (-(mat rows j k)) (rowat rows d) (rowat rows j)
def elimS (rows : List (List Rat)) (d k i : Nat) : List (List Rat) := (List.range rows.length).map fun j => if j < i then elimT rows d k j else rowat rows j
theorem elimS_len (rows : List (List Rat)) (d k i : Nat) : (elimS rows d k i).length = rows.length := by simp [elimS]
theorem elimS_row {rows : List (List Rat)} {d k i j : Nat} (h : j < rows.length) : rowat (elimS rows d k i) j = if j < i then elimT rows d k j else rowat rows j := by
  unfold elimS; rw [rowat, List.getD_eq_getElem?_getD, List.getElem?_map, List.getElem?_range h]; simp
theorem rows_ext {rows mows : List (List Rat)} (hl : rows.length = mows.length) (h : ∀ j, j < rows.length → rowat rows j = rowat mows j) : rows = mows := by
  refine List.ext_getElem hl fun j h1 h2 => ?_
  have := h j h1
  simpa [rowat, h1, h2] using this
theorem elimS_zero (rows : List (List Rat)) (d k : Nat) : elimS rows d k 0 = rows := rows_ext (elimS_len _ _ _ _) fun j hj => by rw [elimS_len] at hj; rw [elimS_row hj, if_neg (by omega)]
theorem rowat_set {rows : List (List Rat)} {i j : Nat} {r : List Rat} (h : i < rows.length) : rowat (rows.set i r) j = if j = i then r else rowat rows j := by
  unfold rowat
  rw [List.getD_eq_getElem?_getD, List.getElem?_set]
  by_cases e : i = j
  · subst e; simp [h]
  · rw [if_neg e, if_neg (fun h => e h.symm)]; simp
theorem elimS_succ {rows : List (List Rat)} {d k i : Nat} (h : i < rows.length) : elimS rows d k (i + 1) = (elimS rows d k i).set i (elimT rows d k i) := by
  refine rows_ext (by simp [elimS_len]) fun j hj => ?_
  rw [elimS_len] at hj
  rw [rowat_set (by rw [elimS_len]; exact h), elimS_row hj, elimS_row hj]
  by_cases e : j = i
  · subst e; rw [if_pos (by omega), if_pos rfl]
  · rw [if_neg e]; by_cases e2 : j < i
    · rw [if_pos (by omega), if_pos e2]
    · rw [if_neg (by omega), if_neg e2]
theorem elimS_keep {rows : List (List Rat)} {d k i : Nat} (h : i < rows.length) (e : i = d ∨ mat rows i k = 0) : elimS rows d k (i + 1) = elimS rows d k i := by
  rw [elimS_succ h, elimT, if_pos e]
  have := set_rowat (elimS rows d k i) i
  rwa [elimS_row h, if_neg (by omega)] at this
/-- Row d is divided by its element k. -/
def divR (rows : List (List Rat)) (d k : Nat) : List (List Rat) := rows.set d (sclR (1 / mat rows d k) (rowat rows d))
theorem divR_len (rows : List (List Rat)) (d k : Nat) : (divR rows d k).length = rows.length := by simp [divR]
def colR (rows : List (List Rat)) (d k p : Nat) : List (List Rat) := elimS (divR (swapR rows p d) d k) d k rows.length
theorem colR_len (rows : List (List Rat)) (d k p : Nat) : (colR rows d k p).length = rows.length := by simp [colR, elimS_len, divR_len, swapR_len]
/-- One column. -/
def colS (s : List (List Rat) × List Int × Rat) (k : Nat) : List (List Rat) × List Int × Rat :=
  if pf s.1 k s.2.1.length < s.1.length then
    (colR s.1 s.2.1.length k (pf s.1 k s.2.1.length), s.2.1 ++ [(k : Int)], (if pf s.1 k s.2.1.length = s.2.1.length then s.2.2 else -s.2.2) * mat (swapR s.1 (pf s.1 k s.2.1.length) s.2.1.length) s.2.1.length k)
  else s
def redS (rows : List (List Rat)) : Nat → List (List Rat) × List Int × Rat
  | 0 => (rows, [], 1)
  | n + 1 => colS (redS rows n) n
/-! ### Lengths and sizes -/
def rect (N : Nat) (rows : List (List Rat)) : Prop := ∀ r ∈ rows, r.length = N
theorem rect.row {N : Nat} {rows : List (List Rat)} (h : rect N rows) {i : Nat} (hi : i < rows.length) : (rowat rows i).length = N := by
  refine h _ ?_; unfold rowat; simp [hi]
theorem rect.set {N : Nat} {rows : List (List Rat)} (h : rect N rows) {i : Nat} {r : List Rat} (hr : r.length = N) : rect N (rows.set i r) := fun x hx => by
  rcases List.mem_or_eq_of_mem_set hx with h' | rfl
  · exact h x h'
  · exact hr
theorem rect.of {N : Nat} {rows : List (List Rat)} (h : ∀ i, i < rows.length → (rowat rows i).length = N) : rect N rows := fun x hx => by
  obtain ⟨i, hi⟩ := List.getElem?_of_mem hx
  have hl := (List.getElem?_eq_some_iff.1 hi).1
  have := h i hl
  unfold rowat at this; rw [List.getD_eq_getElem?_getD, hi] at this; exact this
theorem rect.swap {N : Nat} {rows : List (List Rat)} (h : rect N rows) {i j : Nat} (hi : i < rows.length) (hj : j < rows.length) : rect N (swapR rows i j) := (h.set (h.row hj)).set (h.row hi)
theorem rect.div {N : Nat} {rows : List (List Rat)} (h : rect N rows) {d k : Nat} (hd : d < rows.length) : rect N (divR rows d k) := h.set (by rw [sclR_len]; exact h.row hd)
theorem rect.elimT {N : Nat} {rows : List (List Rat)} (h : rect N rows) {d k j : Nat} (hd : d < rows.length) (hj : j < rows.length) : (elimT rows d k j).length = N := by
  unfold Proofs.Ytknbjfefeeojlaa.elimT
  split
  · exact h.row hj
  · rw [axR_len, h.row hd, h.row hj]; omega
theorem rect.elim {N : Nat} {rows : List (List Rat)} (h : rect N rows) {d k i : Nat} (hd : d < rows.length) : rect N (elimS rows d k i) := rect.of fun j hj => by
  rw [elimS_len] at hj
  rw [elimS_row hj]
  split
  · exact h.elimT hd hj
  · exact h.row hj
theorem rect.col {N : Nat} {rows : List (List Rat)} (h : rect N rows) {d k p : Nat} (hd : d < rows.length) (hp : p < rows.length) : rect N (colR rows d k p) :=
  ((h.swap hp hd).div (by rw [swapR_len]; exact hd)).elim (by rw [divR_len, swapR_len]; exact hd)
def szR (L : Nat) (rows : List (List Rat)) : Prop := ∀ r ∈ rows, szV L r
theorem szR.mono {L L' : Nat} {rows : List (List Rat)} (h : szR L rows) (hL : L ≤ L') : szR L' rows := fun r hr q hq => (h r hr q hq).mono hL
theorem szR.row {L : Nat} {rows : List (List Rat)} (h : szR L rows) (i : Nat) : szV L (rowat rows i) := by
  unfold rowat; rw [List.getD_eq_getElem?_getD]
  cases hq : rows[i]? with
  | none => intro q hq; simp at hq
  | some r => exact h r (List.mem_of_getElem? hq)
theorem szR.at {L : Nat} {rows : List (List Rat)} (h : szR L rows) (hL : 1 ≤ L) (i k : Nat) : sz L (mat rows i k) := szV_at (h.row i) hL k
theorem szR.set {L : Nat} {rows : List (List Rat)} (h : szR L rows) {i : Nat} {r : List Rat} (hr : szV L r) : szR L (rows.set i r) := fun x hx => by
  rcases List.mem_or_eq_of_mem_set hx with h' | rfl
  · exact h x h'
  · exact hr
theorem szR.swap {L : Nat} {rows : List (List Rat)} (h : szR L rows) (i j : Nat) : szR L (swapR rows i j) := (h.set (h.row j)).set (h.row i)
theorem sz_inv {L : Nat} {r : Rat} (h : sz L r) (hL : 1 ≤ L) : sz L (1 / r) := by
  rw [Rat.div_def, Rat.one_mul]
  by_cases h0 : r = 0
  · subst h0; rw [Rat.inv_zero]; exact sz_zero.mono hL
  · have e : r⁻¹ = Rat.divInt r.den r.num := by rw [Rat.inv_def]
    rw [e]
    have hd : (0 : Int) < r.den := by have := r.den_pos; omega
    rcases Int.lt_trichotomy r.num 0 with hn | hn | hn
    · have e2 := Rat.neg_divInt_neg (r.den : Int) r.num
      rw [← e2]
      exact sz_divInt (by have := h.2; rw [Int.natAbs_neg]; simpa using this) (by omega) (by have := h.1; omega)
    · exact absurd (Rat.num_eq_zero.1 hn) h0
    · exact sz_divInt (by have := h.2; simpa using this) hn (by have := h.1; omega)
theorem sclR_sz {a b L : Nat} {r : Rat} {xs : List Rat} (hr : sz a r) (hx : szV b xs) (hb : 1 ≤ b) (hL : a + b ≤ L) : szV L (sclR r xs) := szV_zip fun i _ => by
  rw [show vat ([] : List Rat) i = 0 from rfl, Rat.add_zero]; exact (sz_mul hr (szV_at hx hb i)).mono hL
theorem szR.div {L : Nat} {rows : List (List Rat)} (h : szR L rows) (hL : 1 ≤ L) (d k : Nat) : szR (2 * L) (divR rows d k) :=
  (h.mono (by omega)).set (sclR_sz (sz_inv (h.at hL d k) hL) (h.row d) hL (by omega))
end Go.Proofs.Ytknbjfefeeojlaa
/- The state of a matrix under elimination in the store. -/
namespace Go.Proofs.Ytknbjfefeeojlaa
open Go.RowKit
attribute [local irreducible] RV VH V OpF Calls
theorem rnc {P : Program} {ρ : Operand → Value} {d : Option Tmp} {ty : TypeId} {pos : String} {af : Array Edge} {g : Option (Nat × Bool)} {x : Operand} {v : Value} {ad : Addr} {W : World} (hx : ρ x = v) (hv : v = .pointer (some ad)) : (execOp ρ ⟨d, .nilCheck x, ty, pos, af, g⟩).run P W = .ok (.value v) W := by
  subst hx; unfold execOp; simp [hv]
def XS (B bw : Nat) (pv : Value) : Nat → Prop := fun b => B ≤ b ∧ b ≠ bw ∧ pv.ownBlock ≠ some b
def KQ (bw : Nat) (v pv : Value) : Nat → Prop := fun b => b ≠ bw ∧ v.ownBlock ≠ some b ∧ pv.ownBlock ≠ some b
/-- The two callbacks of a work: what they hold, and what they do. -/
structure CL (xd : Nat → Prop) (fs fd : Value) (CX : Nat → (Nat → Prop) → World → Rat → Prop) : Prop where
  ck : ∀ {L : Nat} {S S' : Nat → Prop} {W W' : World} {δ : Rat}, CX L S W δ → CK S' W W' → (∀ b, b < W.heap.size → S b → S' b) → (∀ b, xd b → S' b) → CX L S W' δ
  sub : ∀ {L : Nat} {S S' : Nat → Prop} {W : World} {δ : Rat}, CX L S W δ → (∀ b, b < W.heap.size → S b → S' b) → CX L S' W δ
  mono : ∀ {L L' : Nat} {S : Nat → Prop} {W : World} {δ : Rat}, CX L S W δ → L ≤ L' → CX L' S W δ
  sw : ∃ (f : Nat) (cap : List Value), fs = .func (.func f) #[] cap.toArray ∧ Ent Try.prog f ∧ ∀ (L : Nat) (S : Nat → Prop) (W : World) (δ : Rat), CX L S W δ → Up S W → L + 1 < LY → Calls Try.prog f (([] : List Value) ++ cap).toArray W fun e W' => e = .returned (.tuple #[]) ∧ KD (fun b => ¬ xd b) W W' ∧ CX L S W' (-δ)
  dv : ∃ (f : Nat) (cap : List Value), fd = .func (.func f) #[] cap.toArray ∧ Ent Try.prog f ∧ ∀ (L M : Nat) (S : Nat → Prop) (W : World) (δ : Rat) (q : List Value) (r : Rat), CX L S W δ → Up S W → QA M TT W q r → 1 ≤ M → L + M + 1 < LY → Calls Try.prog f (([.agg q.toArray] : List Value) ++ cap).toArray W fun e W' => e = .returned (.tuple #[]) ∧ KD (fun b => ¬ xd b) W W' ∧ CX (L + M) S W' (δ * r)
structure WS (B bw : Nat) (fs fd : Value) (xd : Nat → Prop) (CX : Nat → (Nat → Prop) → World → Rat → Prop) (v pv : Value) (L : Nat) (rows : List (List Rat)) (piv : List Int) (δ : Rat) (W : World) : Prop where
  cl : CL xd fs fd CX
  x : BoxAt W bw [v, pv, fs, fd] 0
  g : GO 1 (RowOf GC) (XS B bw pv) B W 30 v rows
  p : OI .i64 B W 3 pv piv
  c : CX L (KQ bw v pv) W δ
  hB : B ≤ bw
  hx : ∀ b, xd b → b < B
theorem OS.obox {s B : Nat} {W : World} {e : TypeId} {v : Value} {qs : List (List Value)} (h : OS s B W e v qs) {b : Nat} (hb : v.ownBlock = some b) : ∃ cur, BoxAt W b cur e := by
  rcases h.row.2 with ⟨rfl, _⟩ | ⟨b', cap, cur, rfl, _, hh, _⟩
  · simp [Value.ownBlock] at hb
  · simp only [Value.ownBlock, Option.some.injEq] at hb
    subst hb
    exact ⟨cur.toList, by unfold BoxAt; simpa using hh⟩
section
variable {B bw L n c : Nat} {fs fd v pv pv' : Value} {xd : Nat → Prop} {CX : Nat → (Nat → Prop) → World → Rat → Prop} {rows : List (List Rat)} {piv : List Int} {δ : Rat} {W W' : World} {a : Option Addr}
theorem WS.ext (h : WS B bw fs fd xd CX v pv L rows piv δ W) (y : Ext W W') : WS B bw fs fd xd CX v pv L rows piv δ W' :=
  ⟨h.cl, h.x.ext y, h.g.ext okRowC y, h.p.ext y, h.cl.ck h.c (y.ck fun _ => True) (fun _ _ _ => trivial) (fun _ _ => trivial), h.hB, h.hx⟩
theorem WS.vb (h : WS B bw fs fd xd CX v pv L rows piv δ W) : v.ownBlock ≠ some bw := by
  obtain ⟨qs, h1, _⟩ := h.g; exact h1.neBox h.x (by decide)
theorem WS.pb (h : WS B bw fs fd xd CX v pv L rows piv δ W) : pv.ownBlock ≠ some bw := h.p.neBox h.x (by decide)
theorem WS.vp (h : WS B bw fs fd xd CX v pv L rows piv δ W) {b : Nat} (e : v.ownBlock = some b) : pv.ownBlock ≠ some b := by
  obtain ⟨qs, h1, _⟩ := h.g
  obtain ⟨cur, hb⟩ := h1.obox e
  exact h.p.neBox hb (by decide)
theorem WS.vlow (h : WS B bw fs fd xd CX v pv L rows piv δ W) : ∀ b, v.ownBlock = some b → B ≤ b ∧ b < W.heap.size := by
  obtain ⟨qs, h1, _⟩ := h.g; exact h1.low
theorem WS.up (h : WS B bw fs fd xd CX v pv L rows piv δ W) : Up (SO (XS B bw pv) v) W := fun b hb => by
  have := h.x.lt; have := h.hB
  exact ⟨⟨by omega, by omega, fun e => by have := (h.p.low b e).2; omega⟩, fun e => by have := (h.vlow b e).2; omega⟩
theorem WS.upq (h : WS B bw fs fd xd CX v pv L rows piv δ W) : Up (KQ bw v pv) W := fun b hb => by
  have := h.x.lt
  exact ⟨by omega, fun e => by have := (h.vlow b e).2; omega, fun e => by have := (h.p.low b e).2; omega⟩
theorem WS.mc (h : WS B bw fs fd xd CX v pv L rows piv δ W) (hv : v = .slice a n c) : MC TT W a n c rows := by
  subst hv; exact GO.rd okRowC h.g
theorem WS.pn (h : WS B bw fs fd xd CX v pv L rows piv δ W) (hv : pv = .slice a n c) : RN .i64 TT W a n c piv := by
  subst hv; exact h.p.rn fun _ _ _ => trivial
theorem WS.row (h : WS B bw fs fd xd CX v pv L rows piv δ W) (hv : v = .slice a n c) {i : Int} (h0 : 0 ≤ i) (h1 : i < n) : ∃ a' n' c', W.cell? (adr a i 1) = some (.slice a' n' c') ∧ GC (SO (XS B bw pv) v) W a' n' c' (rowat rows i.toNat) := by
  obtain ⟨qs, h2, h3⟩ := h.g
  have h2' := h2
  rw [hv] at h2'
  have hr : RS 1 TT W a n c qs := h2'.rs fun _ _ _ => trivial
  obtain ⟨q, h4, h5, h6⟩ := hr.el h0 h1
  obtain ⟨r, h7, a', n', c', rfl, h8⟩ := h3.get h4
  have e : rowat rows i.toNat = r := by unfold rowat; rw [List.getD_eq_getElem?_getD, h7]; rfl
  refine ⟨a', n', c', ?_, e ▸ h8⟩
  have := h6 0 _ rfl
  rwa [add0] at this
theorem WS.sz (h : WS B bw fs fd xd CX v pv L rows piv δ W) {L' : Nat} (hL : L ≤ L') : WS B bw fs fd xd CX v pv L' rows piv δ W := ⟨h.cl, h.x, h.g, h.p, h.cl.mono h.c hL, h.hB, h.hx⟩
theorem WS.kq (h : WS B bw fs fd xd CX v pv L rows piv δ W) {b : Nat} (hb : b < B) : KQ bw v pv b := ⟨by have := h.hB; omega, fun e => by have := (h.vlow b e).1; omega, fun e => by have := (h.p.low b e).1; omega⟩
/-- One element more in the list of the pivots, and the new list is stored. -/
theorem WS.push {W1 W2 : World} {z : Int} (h : WS B bw fs fd xd CX v pv L rows piv δ W) (hO : OI .i64 B W1 3 pv' (piv ++ [z])) (hg : W.grownBy W1 pv.ownBlock) (ho : pv'.ownBlock = pv.ownBlock ∨ pv'.ownBlock = some W.heap.size) (hos : Below 0 W W1) (y : Wr bw W1 W2) (hb : BoxAt W2 bw [v, pv', fs, fd] 0) :
    WS B bw fs fd xd CX v pv' L rows (piv ++ [z]) δ W2 ∧ KD (KQ bw v pv) W W2 := by
  have nb : ∀ b, b < W.heap.size → pv.ownBlock ≠ some b → pv'.ownBlock ≠ some b := fun b hb hp e => by
    rcases ho with h' | h'
    · exact hp (h' ▸ e)
    · rw [h'] at e; injection e with e; omega
  have kg : CK (fun b => pv.ownBlock ≠ some b) W W1 := grown_ck hg fun b e h => h e
  have kd : KD (KQ bw v pv) W W2 := (grown_kd hg (fun b e hd => hd.2.2 e) hos).trans (y.kd fun hd => hd.1 rfl)
  refine ⟨⟨h.cl, hb, ?_, ?_, ?_, h.hB, h.hx⟩, kd⟩
  · obtain ⟨qs, h1, h2⟩ := h.g
    have o1 : OS 1 B W1 30 v qs := h1.ck kg fun b e => h.vp e
    refine ⟨qs, o1.ck (y.ck (S := fun b => b ≠ bw) fun hh => hh rfl) (fun b e => fun hh => h.vb (hh ▸ e)), h2.imp fun _ _ hq => ?_⟩
    have h3 := okRowC.sub (S' := fun b => SO (XS B bw pv) v b ∧ pv'.ownBlock ≠ some b) hq fun b hb hs => ⟨hs, nb b hb hs.1.2.2⟩
    have h4 := okRowC.ck h3 (kg.sub fun b hs => hs.1.1.2.2)
    have h5 := okRowC.ck h4 (y.ck (fun hh => hh.1.1.2.1 rfl))
    exact okRowC.sub h5 fun b _ hs => ⟨⟨hs.1.1.1, hs.1.1.2.1, hs.2⟩, hs.1.2⟩
  · refine hO.ck (y.ck (S := fun b => b ≠ bw) fun hh => hh rfl) (fun b e hh => ?_)
    subst hh
    rcases ho with h' | h'
    · exact h.pb (h' ▸ e)
    · rw [h'] at e; injection e with e; have := h.x.lt; omega
  · exact h.cl.ck (h.cl.sub h.c (S' := fun b => KQ bw v pv b ∧ pv'.ownBlock ≠ some b) fun b hb hs => ⟨hs, nb b hb hs.2.2⟩) kd.ck (fun b _ hs => hs.1) (fun b hx => h.kq (h.hx b hx)) |> fun c => h.cl.sub c fun b _ hs => ⟨hs.1.1, hs.1.2.1, hs.2⟩
theorem WS.nb (h : WS B bw fs fd xd CX v pv L rows piv δ W) {b : Nat} {cs : List Value} {T : TypeId} (hb : BoxAt W b cs T) (h1 : T ≠ 30) (h2 : T ≠ 3) (h3 : b ≠ bw) : KQ bw v pv b := by
  obtain ⟨qs, h4, _⟩ := h.g
  exact ⟨h3, h4.neBox hb h1, h.p.neBox hb h2⟩
theorem WS.nx (h : WS B bw fs fd xd CX v pv L rows piv δ W) {b : Nat} (hb : B ≤ b) : ¬ xd b := fun hx => by have := h.hx b hx; omega
theorem WS.ma {L' : Nat} (h : WS B bw fs fd xd CX v pv L rows piv δ W) (hv : v = .slice a n c) (hs : szR L' rows) : MA L' TT W a n c rows := (h.mc hv).ma hs
theorem so_kq {b : Nat} (h : SO (XS B bw pv) v b) : KQ bw v pv b := ⟨h.1.2.1, h.2, h.1.2.2⟩
end
section
variable {B bw L n c n' c' : Nat} {fs fd v pv u : Value} {xd : Nat → Prop} {CX : Nat → (Nat → Prop) → World → Rat → Prop} {rows : List (List Rat)} {piv : List Int} {δ : Rat} {W W' : World} {a a' : Option Addr} {ρ : Operand → Value} {d : Option Tmp} {ty T : TypeId} {pos : String} {af : Array Edge} {gd : Option (Nat × Bool)} {x y : Operand} {K : Value → World → Prop} {rr : List Rat}
end
end Go.Proofs.Ytknbjfefeeojlaa
/- Package solve: the small functions; matrices of the call's own. -/
namespace Go.Proofs.Ytknbjfefeeojlaa
open Go.RowKit
attribute [local irreducible] RV VH V OpF Calls
theorem GO.res {ρt : Type} {El : (Nat → Prop) → World → List Value → ρt → Prop} {S S' : Nat → Prop} {s B : Nat} {W : World} {e : TypeId} {v : Value} {rs : List ρt} (ok : ElOK El) (h : GO s El S B W e v rs) (hS : ∀ b, b < W.heap.size → S b → S' b) : GO s El S' B W e v rs := by
  obtain ⟨qs, h1, h2⟩ := h
  exact ⟨qs, h1, h2.imp fun _ _ hq => ok.sub hq fun b hb hs => ⟨hS b hb hs.1, hs.2⟩⟩

end Go.Proofs.Ytknbjfefeeojlaa
/- Package solve: all columns, the places of the pivots, Reduce and Rank. -/
namespace Go.Proofs.Ytknbjfefeeojlaa
open Go.RowKit
attribute [local irreducible] RV VH V OpF Calls
theorem WS.fin {B bw L n c n' c' : Nat} {fs fd : Value} {xd : Nat → Prop} {CX : Nat → (Nat → Prop) → World → Rat → Prop} {rows : List (List Rat)} {piv : List Int} {δ : Rat} {W : World} {a a' : Option Addr} {S : Nat → Prop} (h : WS B bw fs fd xd CX (.slice a n c) (.slice a' n' c') L rows piv δ W) (hS : ∀ b, B ≤ b → b < W.heap.size → S b) : MC S W a n c rows ∧ RN .i64 S W a' n' c' piv := by
  refine ⟨?_, h.p.rn hS⟩
  obtain ⟨qs, h1, h2⟩ := h.g
  exact ⟨qs, h1.rs hS, h2.imp fun _ _ hq => okRowC.sub hq fun b hb hs => hS b hs.1.1 hb⟩

end Go.Proofs.Ytknbjfefeeojlaa
/- Package solve: Reduce and Rank. -/
namespace Go.Proofs.Ytknbjfefeeojlaa
open Go.RowKit
attribute [local irreducible] RV VH V OpF Calls
theorem MC.take {S : Nat → Prop} {W : World} {a : Option Addr} {n c m : Nat} {rss : List (List Rat)} (h : MC S W a n c rss) (hm : m ≤ n) : MC S W a m c (rss.take m) := by
  obtain ⟨qs, h1, h2⟩ := h
  refine ⟨qs.take m, ?_, h2.take m⟩
  have h3 := h1.cut (Nat.zero_le m) hm
  have e : (if c = 0 then a else a.map (·.add (0 * 1))) = a := by
    split
    · rfl
    · cases a <;> simp [add0]
  rw [e] at h3
  simpa using h3
theorem gridm_rect (f : Int → Int → Rat) (R C : Nat) : rect C (gridm f R C) := by
  intro r hr
  obtain ⟨i, _, rfl⟩ := List.mem_map.1 hr
  simp [rowg]
theorem WS.below {B bw L : Nat} {fs fd v pv : Value} {CX : Nat → (Nat → Prop) → World → Rat → Prop} {rows : List (List Rat)} {piv : List Int} {δ : Rat} {W W' : World} {B0 : Nat} {xd : Nat → Prop} (h : WS B bw fs fd xd CX v pv L rows piv δ W) (k : KD (fun b => b < W.heap.size ∧ b ≠ bw ∧ v.ownBlock ≠ some b ∧ ¬ xd b) W W') (hB0 : B0 ≤ B) (hx : ∀ b, xd b → B0 ≤ b) : Below B0 W W' :=
  k.below (fun q hq => ⟨by have := h.x.lt; have := h.hB; omega, by have := h.hB; omega, fun e => by have := (h.vlow q e).1; omega, fun hh => by have := hx q hh; omega⟩) (by have := h.x.lt; have := h.hB; omega)

end Go.Proofs.Ytknbjfefeeojlaa
/- Package solve: Inverse and the augmented matrix. -/
namespace Go.Proofs.Ytknbjfefeeojlaa
open Go.RowKit
attribute [local irreducible] RV VH V OpF Calls
theorem MC.nil (S : Nat → Prop) (W : World) : MC S W none 0 0 [] := ⟨[], RS.nil _ _ _ _ _ (by omega), trivial⟩
theorem identm_rect (n : Nat) : rect n (identm n) := by
  intro r hr
  obtain ⟨i, _, rfl⟩ := List.mem_map.1 hr
  exact unitv_len _ _
theorem identm_len (n : Nat) : (identm n).length = n := by simp [identm]
theorem identm_sz (n : Nat) : szR 1 (identm n) := by
  intro r hr
  obtain ⟨i, _, rfl⟩ := List.mem_map.1 hr
  exact unitv_sz _ _
theorem colsN_rect_le {N : Nat} {rss : List (List Rat)} (h : rect N rss) : colsN rss ≤ N := colsN_le fun x hx => by rw [h x hx]; exact Nat.le_refl _

end Go.Proofs.Ytknbjfefeeojlaa
/- Package solve: the augmented matrix. -/
namespace Go.Proofs.Ytknbjfefeeojlaa
open Go.RowKit
attribute [local irreducible] RV VH V OpF Calls
theorem resz_sz {L : Nat} {bs : List Rat} (h : szV L bs) (hL : 1 ≤ L) (k : Nat) : szV L (resz bs k) := by
  intro r hr
  unfold resz at hr
  obtain ⟨i, _, rfl⟩ := List.mem_map.1 hr
  exact szV_at h hL i


theorem szR.matI {L : Nat} {rows : List (List Rat)} (h : szR L rows) (hL : 1 ≤ L) (i k : Int) : sz L (Proofs.Ytknbjfefeeojlaa.matI rows i k) := by
  unfold Proofs.Ytknbjfefeeojlaa.matI
  split
  · exact h.at hL _ _
  · exact sz_zero.mono hL

end Go.Proofs.Ytknbjfefeeojlaa
/- Loops that leave records behind; the basis of the null space, as it is reckoned. -/
namespace Go.Proofs.Ytknbjfefeeojlaa
open Go.RowKit
section
variable {r : Option Nat} {P : Program} {N : Nat} {ds : List Deferred} {Q : EQ} {E : Env} {W : World}
/-- Records of loops that are over. -/
structure MkO (B : Nat) (Ds : List Nat) (W : World) : Prop where
  at' : ∀ D ∈ Ds, B ≤ D ∧ W.heap[D]? = some (.deferred (some []))
  nd : Ds.Nodup
theorem MkO.nil (B : Nat) (W : World) : MkO B [] W := ⟨by simp, List.nodup_nil⟩
theorem MkO.ext {B : Nat} {Ds : List Nat} {W W' : World} (h : MkO B Ds W) (x : Ext W W') : MkO B Ds W' := ⟨fun D hD => ⟨(h.at' D hD).1, (x.block _ (Array.getElem?_eq_some_iff.1 (h.at' D hD).2).1).trans (h.at' D hD).2⟩, h.nd⟩
theorem MkO.kb {B B' : Nat} {Ds : List Nat} {W W' : World} (h : MkO B Ds W) (x : KB B' W W') : MkO B Ds W' := ⟨fun D hD => ⟨(h.at' D hD).1, x.recs _ _ (h.at' D hD).2 rfl⟩, h.nd⟩
theorem MkO.cons {B D : Nat} {Ds : List Nat} {W : World} (h : MkO B Ds W) (hD : W.heap[D]? = some (.deferred (some []))) (hB : B ≤ D) (hn : D ∉ Ds) : MkO B (D :: Ds) W := ⟨fun D' h' => by
  rcases List.mem_cons.1 h' with rfl | h'
  · exact ⟨hB, hD⟩
  · exact h.at' D' h', List.nodup_cons.2 ⟨hn, h.nd⟩⟩
theorem MkO.lt {B : Nat} {Ds : List Nat} {W : World} (h : MkO B Ds W) : ∀ D ∈ Ds, D < W.heap.size := fun D hD => (Array.getElem?_eq_some_iff.1 (h.at' D hD).2).1
end
theorem wd_mem {piv : List Int} {k : Int} : (∃ j, j < piv.length ∧ wd piv j = k) ↔ k ∈ piv := by
  constructor
  · rintro ⟨j, hj, rfl⟩
    simp [wd, hj]
  · intro h
    obtain ⟨j, hj⟩ := List.getElem?_of_mem h
    have hl := (List.getElem?_eq_some_iff.1 hj).1
    refine ⟨j, hl, ?_⟩
    simp only [wd, Int.toNat_natCast]; rw [List.getD_eq_getElem?_getD, hj]; rfl
end Go.Proofs.Ytknbjfefeeojlaa
/- Package solve: NullSpace. -/
namespace Go.Proofs.Ytknbjfefeeojlaa
open Go.RowKit
attribute [local irreducible] RV VH V OpF Calls
theorem GO.tn {ρt : Type} {El : (Nat → Prop) → World → List Value → ρt → Prop} {S : Nat → Prop} {s B B' : Nat} {W W' : World} {e : TypeId} {v : Value} {rs : List ρt} (ok : ElOK El) (h : GO s El S B W e v rs) (t : Tn B' W W') : GO s El S B W' e v rs := by
  obtain ⟨qs, h1, h2⟩ := h
  exact ⟨qs, h1.ck (t.ck fun _ => True) fun _ _ => trivial, h2.imp fun _ _ hq => ok.ck hq (t.ck _)⟩
theorem AR.tn {k : IntKind} {W W' : World} {b e n B : Nat} {xs : List Int} (h : AR k W b e n xs) (t : Tn B W W') : AR k W' b e n xs := h.ck (t.ck fun _ => True) trivial
end Go.Proofs.Ytknbjfefeeojlaa
/- Package solve: Solve. -/
namespace Go.Proofs.Ytknbjfefeeojlaa
open Go.RowKit
attribute [local irreducible] RV VH V OpF Calls
/-- A box that holds a pointer is none of the blocks of a matrix. -/
theorem RN.np {k : IntKind} {S : Nat → Prop} {W : World} {a : Option Addr} {n c nb : Nat} {xs : List Int} {p : Option Addr} {T : TypeId} (h : RN k S W a n c xs) (hb : BoxAt W nb [.pointer p] T) : RN k (fun b => S b ∧ b ≠ nb) W a n c xs :=
  ⟨h.len, h.cap, h.max, h.wf, fun hn => by
    obtain ⟨b, off, cs, T', fz, e, h1, h2, hc⟩ := h.at_ hn
    refine ⟨b, off, cs, T', fz, e, ⟨h1, fun eb => ?_⟩, h2, hc⟩
    subst eb
    have h3 := hc 0 hn
    unfold BoxAt at hb
    rw [hb] at h2; cases h2
    rcases off with _ | o <;> simp at h3⟩
theorem QC.np {S : Nat → Prop} {W : World} {q : List Value} {r : Rat} {nb : Nat} {p : Option Addr} {T : TypeId} (h : QC S W q r) (hb : BoxAt W nb [.pointer p] T) : QC (fun b => S b ∧ b ≠ nb) W q r := by
  obtain ⟨a1, l1, c1, a2, l2, c2, e, h1, h2⟩ := h
  exact ⟨a1, l1, c1, a2, l2, c2, e, h1.np hb, h2.np hb⟩
theorem GC.np {S : Nat → Prop} {W : World} {a : Option Addr} {n c nb : Nat} {rs : List Rat} {p : Option Addr} {T : TypeId} (h : GC S W a n c rs) (hb : BoxAt W nb [.pointer p] T) : GC (fun b => S b ∧ b ≠ nb) W a n c rs := by
  obtain ⟨qs, h1, h2⟩ := h
  refine ⟨qs, ⟨h1.len, h1.cap, h1.max, h1.wd, fun hn => ?_⟩, h2.imp fun _ _ hq => hq.np hb⟩
  obtain ⟨b, off, cs, T', fz, e, h3, h4, hc⟩ := h1.at_ hn
  refine ⟨b, off, cs, T', fz, e, ⟨h3, fun eb => ?_⟩, h4, hc⟩
  subst eb
  have hl : 0 < qs.length := by rw [h1.len]; exact hn
  obtain ⟨r, _, hq⟩ := h2.get (List.getElem?_eq_getElem hl)
  obtain ⟨n1, a1, l1, c1, n2, a2, l2, c2, eq⟩ := hq.form
  have h5 := hc 0 _ (List.getElem?_eq_getElem hl) 0 (.bool n1) (by rw [eq]; rfl)
  unfold BoxAt at hb
  rw [hb] at h4; cases h4
  rcases off with _ | o <;> simp at h5
theorem KD.low {D : Nat → Prop} {B : Nat} {X Y Z : World} (h : Below B X Y) (k : KD D Y Z) (hD : ∀ q, q < B → D q) (hs : B ≤ Y.heap.size) : Below B X Z := h.trans (k.below hD hs)

end Go.Proofs.Ytknbjfefeeojlaa
/- A guarded call in a region that draws its order; a literal of two rationals. -/
namespace Go.Proofs.Ytknbjfefeeojlaa
open Go.RowKit
section
variable {r : Option Nat} {P : Program} {ops : Array Oper} {S : World → Prop} {R : Env → World → Prop} {fuel : Nat} {listed : Array Bool} {E : Env} {W : World} {d : Option Tmp} {op : Op} {ty : TypeId} {pos : String} {af : Array Edge}
theorem efg {j : Nat} {want : Bool} (i : Nat) (hr : Region.ready .any ops listed = [i]) (hi : ops[i]? = some ⟨d, op, ty, pos, af, some (j, want)⟩) (hg : yE ops E j = some want) (h : OpF r P (ev E) ⟨d, op, ty, pos, af, some (j, want)⟩ W fun v W' => (lastOp ops i = false → S W') ∧ VH r P ops S R fuel (listed.setIfInBounds i true) (puto E d v) W') : VH r P ops S R (fuel + 1) listed E W := by
  refine ⟨fun h0 => (by rw [hr] at h0; cases h0), fun k hk => ?_⟩
  rw [hr] at hk
  obtain rfl : k = i := by simpa using hk
  unfold opI
  simp only [hi]
  rw [if_pos (by simp [wE, Region.wanted, hg])]; exact h
end
end Go.Proofs.Ytknbjfefeeojlaa
/- Package pylonlaw05: the sizes that the laws speak of, and the examples. -/
namespace Go.Proofs.Ytknbjfefeeojlaa
open Go.RowKit
attribute [local irreducible] RV VH V OpF Calls


section
variable {L : Nat} {S S1 S2 : Nat → Prop} {a1 a2 : Option Addr} {n c m d : Nat} {rss : List (List Rat)} {bs : List Rat}
end

set_option maxHeartbeats 400000 in
theorem rInts5_ok (a1 a2 : Option Addr) (n c m d : Nat) (xs ys : List Int) (S1 S2 : Nat → Prop) (w : World) (hx : RN .i64 S1 w a1 n c xs) (hy : RN .i64 S2 w a2 m d ys) :
    Calls Try.prog 44 #[.slice a1 n c, .slice a2 m d] w (fun e w' => ∃ q, e = .returned (.bool q) ∧ Ext w w' ∧ (q = true ↔ xs = ys)) := by
 have z0 := Ext.refl w; have hLX : LX = 17592186044416 := rfl; have hLY : LY = 8796093022208 := rfl
 have l1 := hx.len; have l2 := hx.cap; have l3 := hx.max; have l4 := hy.len; have l5 := hy.cap; have l6 := hy.max
 refine enter (args := [.slice a1 n c, .slice a2 m d]) Try.func44 rfl rfl (Nat.le_of_ble_eq_true rfl) ?_
 refine V.seq (V.reg rfl ?_)
 refine asb rfl ?_
 refine vnil ?_
 refine V.seq ?_
 refine V.seq (V.reg rfl ?_)
 refine mvs rfl ?_
 refine vv (rlen sl74 rfl) ?_
 refine mvs rfl ?_
 refine vv (rlen sl74 rfl) ?_
 refine vne rfl rfl ?_ ?_
 ·intro c1
  refine vnil ?_
  refine V.condT rfl ?_
  refine V.seq (V.reg rfl ?_)
  refine asb rfl ?_
  refine vnil ?_
  refine V.ret ?_
  refine ⟨[.bool false], ⟨rfl, trivial⟩, ?_⟩
  exact ⟨_, rfl, (Ext.refl w), ⟨fun h => (by cases h), fun h => by subst h; omega⟩⟩
 ·intro c1
  refine vnil ?_
  refine V.condF rfl ?_
  refine V.skip ?_
  refine V.seq ?_
  refine V.seq (V.reg rfl ?_)
  refine asi rfl ?_
  refine vnil ?_
  refine V.block ?_
  refine V.loopK (ι := Nat) [(0, .slice _ _ _), (1, .slice _ _ _)] (fun k => [(5, .int .i64 (k : Int))]) (fun k W => Ext w W ∧ k ≤ n ∧ xs.take k = ys.take k) (fun k => n - k) (0) ⟨rfl, rfl, trivial⟩ ⟨rfl, trivial⟩ ⟨Ext.refl _, Nat.zero_le _, rfl⟩ ?_
  intro k E3 W2 h4
  obtain ⟨x5, hk, ht⟩ := h4
  have s6 := x5.sz
  have z7 := x5
  refine V.seq ?_
  refine V.seq (V.reg rfl ?_)
  refine mvi rfl ?_
  refine mvs rfl ?_
  refine vv (rlen sl74 rfl) ?_
  refine vlt rfl rfl ?_ ?_
  ·intro c8
   refine vnil ?_
   refine V.condT rfl ?_
   refine V.skip ?_
   refine V.seq ?_
   refine V.block ?_
   refine V.seq (V.regD mixed rfl ?_)
   intro W9 x10
   have s11 := x10.sz
   have z12 := z7.trans x10
   have q13 := Ext.refl W9
   refine tk 0 rfl (by kernel_rfl) q13 (pv (fun _ y14 => rmv (v := .slice _ _ _) rfl)) ?_
   refine tk 1 rfl (by kernel_rfl) q13 (pv (fun _ y15 => rmv (v := .int _ _) rfl)) ?_
   refine tk 2 rfl (by kernel_rfl) q13 (pv (fun _ y16 => rixn ((hx.ext z12).ext y16) sl74 sz3 rfl rfl (by omega) (by omega))) ?_
   refine tk 3 rfl (by kernel_rfl) q13 (pv (fun _ y17 => rldN ((hx.ext z12).ext y17) rfl sc3 (by omega) (by omega))) ?_
   refine tk 4 rfl (by kernel_rfl) q13 (pv (fun _ y18 => rmv (v := .slice _ _ _) rfl)) ?_
   refine tk 5 rfl (by kernel_rfl) q13 (pv (fun _ y19 => rmv (v := .int _ _) rfl)) ?_
   refine tk 6 rfl (by kernel_rfl) q13 (pv (fun _ y20 => rixn ((hy.ext z12).ext y20) sl74 sz3 rfl rfl (by omega) (by omega))) ?_
   refine tk 7 rfl (by kernel_rfl) q13 (pv (fun _ y21 => rldN ((hy.ext z12).ext y21) rfl sc3 (by omega) (by omega))) ?_
   refine tkNe 8 rfl (by kernel_rfl) q13 rfl rfl (fun _ h => pv h) ?_ ?_
   ·intro cz
    refine dn (by kernel_rfl) ?_
    refine V.condT rfl ?_
    refine V.seq (V.reg rfl ?_)
    refine asb rfl ?_
    refine vnil ?_
    refine V.ret ?_
    refine ⟨[.bool false], ⟨rfl, trivial⟩, ?_⟩
    exact ⟨_, rfl, z12, ⟨fun h => (by cases h), fun h => absurd (by rw [h]) cz⟩⟩
   ·intro cz
    refine dn (by kernel_rfl) ?_
    refine V.condF rfl ?_
    refine V.skip ?_
    refine V.reg rfl ?_
    refine mvi rfl ?_
    refine vv (rbin (bAdd (wi (by omega))) rfl rfl) ?_
    refine asi rfl ?_
    refine vnil ?_
    refine ⟨rfl, k + 1, ⟨rfl, rfl, trivial⟩, ⟨rfl, trivial⟩, ⟨z12, by omega, by rw [take_getD 0 xs k (by omega), take_getD 0 ys k (by omega), ht]; simp only [wd, Int.toNat_natCast] at cz; rw [cz]⟩, ?_⟩
    show n - (k + 1) < n - k
    omega
  ·intro c8
   refine vnil ?_
   refine V.condF rfl ?_
   refine V.exit ?_
   refine V.seq (V.reg rfl ?_)
   refine asb rfl ?_
   refine vnil ?_
   refine V.ret ?_
   refine ⟨[.bool true], ⟨rfl, trivial⟩, ?_⟩
   refine ⟨_, rfl, z7, ?_⟩
   rw [List.take_of_length_le (by omega), List.take_of_length_le (by omega)] at ht
   exact ⟨fun _ => ht, fun _ => rfl⟩

theorem rInts5_true {S1 S2 : Nat → Prop} {a1 a2 : Option Addr} {n c m d : Nat} {xs ys : List Int} (w : World) (hx : RN .i64 S1 w a1 n c xs) (hy : RN .i64 S2 w a2 m d ys) (e : xs = ys) : Calls Try.prog 44 #[.slice a1 n c, .slice a2 m d] w fun e w' => e = .returned (.bool true) ∧ Ext w w' := by
  refine (rInts5_ok _ _ _ _ _ _ _ _ _ _ w hx hy).mono ?_
  rintro _ _ ⟨q, h1, h2, h3⟩
  exact ⟨by rw [h1, h3.2 e], h2⟩


end Go.Proofs.Ytknbjfefeeojlaa
/- Package vec: FirstGreater, Sign; package lp: sizes. -/
namespace Go.Proofs.Ytknbjfefeeojlaa
open Go.RowKit
attribute [local irreducible] RV VH V OpF Calls
structure CG (w : World) (b4 b5 b1 b2 : Nat) (v1 v2 : Value) (s : Int) (q : Bool) (X : World) : Prop where
  ext : Ext w X
  x4 : BoxAt X b4 [.int .i64 s] 3
  x5 : BoxAt X b5 [.bool q] 4
  x1 : BoxAt X b1 [v1] 30
  x2 : BoxAt X b2 [v2] 30
theorem CG.tn {w X Y : World} {B b4 b5 b1 b2 : Nat} {v1 v2 : Value} {s : Int} {q : Bool} (h : CG w b4 b5 b1 b2 v1 v2 s q X) (t : Tn B X Y) (hB : w.heap.size ≤ B) : CG w b4 b5 b1 b2 v1 v2 s q Y := ⟨t.ext h.ext hB, h.x4.tn t, h.x5.tn t, h.x1.tn t, h.x2.tn t⟩
theorem CG.xt {w X Y : World} {b4 b5 b1 b2 : Nat} {v1 v2 : Value} {s : Int} {q : Bool} (h : CG w b4 b5 b1 b2 v1 v2 s q X) (x : Ext X Y) : CG w b4 b5 b1 b2 v1 v2 s q Y := ⟨h.ext.trans x, h.x4.ext x, h.x5.ext x, h.x1.ext x, h.x2.ext x⟩

set_option maxHeartbeats 400000 in
theorem vFirst_ok (a1 a2 : Option Addr) (n c m d : Nat) (L1 L2 : Nat) (xs ys : List Rat) (S1 S2 : Nat → Prop) (w : World) (hx : GA L1 S1 w a1 n c xs) (hy : GA L2 S2 w a2 m d ys) (hL : L1 + L2 < LY) (hl1 : 1 ≤ L1) (hl2 : 1 ≤ L2) (hn : n ≤ LV) (hm : m ≤ LV) :
    Calls Try.prog 81 #[.slice a1 n c, .slice a2 m d] w (fun e w' => ∃ (s : Int) (q : Bool), e = .returned (.tuple #[.int .i64 s, .bool q]) ∧ Ext w w' ∧ (q = true ↔ ∃ j, j < max n m ∧ vat ys j < vat xs j)) := by
 have z0 := Ext.refl w; have hLX : LX = 17592186044416 := rfl; have hLY : LY = 8796093022208 := rfl
 have hLV : LV = 1099511627776 := rfl
 have l1 := hx.len; have l2 := hy.len
 obtain ⟨qs1, rx, ax⟩ := hx; obtain ⟨qs2, ry, ay⟩ := hy
 have f1 := ax.form; have f2 := ay.form
 refine enter (args := [.slice a1 n c, .slice a2 m d]) Try.func81 rfl rfl (Nat.le_of_ble_eq_true rfl) ?_
 refine V.seq (V.reg rfl ?_)
 refine vo ?_
 refine xal zc3 ?_
 intro W1 x2 b3 nn4
 have s5 := x2.sz
 have z6 := x2
 refine vo ?_
 refine xal zc4 ?_
 intro W7 x8 b9 nn10
 have s11 := x8.sz
 have z12 := z6.trans x8
 replace b3 := b3.ext x8
 refine vnil ?_
 refine V.seq ?_
 refine V.seq (V.reg rfl ?_)
 refine mvs rfl ?_
 refine mvs rfl ?_
 refine vo ?_
 refine xcall e59 (both_ok _ _ _ _ _ _ _) rfl rfl ?_
 rintro _ W13 ⟨b1, b2, eb1, eb2, rfl, x14, hb1, hb2⟩
 have s15 := x14.sz
 have z16 := z12.trans x14
 replace b3 := b3.ext x14
 replace b9 := b9.ext x14
 have lb1 := hb1.lt; have lb2 := hb2.lt
 refine ⟨_, rfl, ?_⟩
 refine vnil ?_
 refine V.block ?_
 have lb4 := b3.lt; have lb5 := b9.lt
 refine V.rf (gf := 88) rfl e88 (both_iter hb1 hb2 ((rx.sub (S' := fun q => q < w.heap.size ∨ q = b1 ∨ q = b2) (fun b hb _ => .inl hb)).ext z16) ((ry.sub (S' := fun q => q < w.heap.size ∨ q = b1 ∨ q = b2) (fun b hb _ => .inl hb)).ext z16) f1 f2 (.inr (.inl rfl)) (.inr (.inr rfl))) (Ext.refl _) (by rintro k (h | rfl | rfl) <;> omega) rfl (fun i X => CG w (w.heap.size) (W1.heap.size) b1 b2 (.slice a1 n c) (.slice a2 m d) 0 false X ∧ ∀ j, j < i → ¬ vat ys j < vat xs j) (fun cd i X => cd = .ret ∧ CG w (w.heap.size) (W1.heap.size) b1 b2 (.slice a1 n c) (.slice a2 m d) (i : Int) true X ∧ 0 < cq (vat xs i) (vat ys i)) (fun i X Y ⟨hA, h⟩ t => ⟨hA.tn t (by omega), h⟩) (fun cd i X Y ⟨h0, hA, h⟩ t => ⟨h0, hA.tn t (by omega), h⟩) (⟨⟨z16, b3, b9, hb1, hb2⟩, fun j hj => absurd hj (Nat.not_lt_zero _)⟩) ?_ ?_ ?_
 ·intro l17 i18 X19 hi20 hM21 hk22 hs23
  obtain ⟨m1, d1, e1, g1, m2, d2, e2, g2, p1⟩ := qat_form f1 i18; obtain ⟨m3, d3, e3, g3, m4, d4, e4, g4, p2⟩ := qat_form f2 i18
  have ev2 : (Value.agg (qat qs1 i18 ++ qat qs2 i18).toArray) = .agg #[.bool m1, .slice d1 e1 g1, .bool m2, .slice d2 e2 g2, .bool m3, .slice d3 e3 g3, .bool m4, .slice d4 e4 g4] := by rw [p1, p2]; rfl
  show V _ _ _ _ _ _ (up (up _ _ _) _ (Value.agg (qat qs1 i18 ++ qat qs2 i18).toArray)) _
  rw [ev2]
  have zX := Ext.refl X19
  refine V.seq (V.reg rfl ?_)
  refine asi rfl ?_
  refine vnil ?_
  refine V.reg rfl ?_
  refine vo ?_
  refine xal zc85 ?_
  intro W24 x25 b26 nn27
  have s28 := x25.sz
  have z29 := x25
  refine vo ?_
  refine sta (cs' := [_, _, _, _, _, _, _, _]) b26 rfl rfl sz85 rfl rfl rfl ?_
  intro W30 y31 b26
  have z32 := z29.below (y31.below (by omega))
  have s33 := y31.size
  refine vnil ?_
  obtain ⟨hA, hQ⟩ := hi20
  replace hA := hA.xt z32
  have l8 := b26.lt; have lA4 := hA.x4.lt; have sX := z32.sz
  refine ⟨rfl, Kf.ext z32, ?_⟩
  intro Z34 t35
  replace hA := hA.tn t35 (by omega); have x8 := b26.tn t35; have st8 := t35.size; have x4 := hA.x4; have x5 := hA.x5
  have zZ := Ext.refl Z34
  have hqx := ((ax.qat i18).sub (S' := fun _ => True) (fun _ _ _ => trivial)).ext hA.ext; have hqy := ((ay.qat i18).sub (S' := fun _ => True) (fun _ _ _ => trivial)).ext hA.ext; rw [p1] at hqx; rw [p2] at hqy
  refine V.block ?_
  refine V.seq (V.reg rfl ?_)
  refine vv (rixa (i := 0) Try.underlying85 sz43 rfl rfl (by decide)) ?_
  refine vv (rldb4 rfl ag43 x8 rfl rfl rfl rfl ) ?_
  refine vv (rixa (i := 1) Try.underlying85 sz43 rfl rfl (by decide)) ?_
  refine vv (rldb4 rfl ag43 x8 rfl rfl rfl rfl ) ?_
  refine vo ?_
  refine xcall e38 (fCmp_ok _ _ _ _ _ _ _ _ _ hqx hqy (by omega) (by omega) (by omega)) rfl rfl ?_
  rintro _ W36 ⟨rfl, x37⟩
  have s38 := x37.sz
  replace x4 := x4.ext x37
  replace x5 := x5.ext x37
  replace x8 := x8.ext x37
  refine ⟨_, rfl, ?_⟩
  refine vgt rfl rfl ?_ ?_
  ·intro c1
   refine vnil ?_
   refine V.condT rfl ?_
   refine V.seq (V.reg rfl ?_)
   refine mvi rfl ?_
   refine vo ?_
   refine st1 (v := .int _ _) (cs' := [_]) x4 rfl rfl sz3 rfl rfl rfl rfl ?_
   intro W40 y41 x4
   replace x5 := x5.wr y41 (by omega)
   replace x8 := x8.wr y41 (by omega)
   have s42 := y41.size
   refine vo ?_
   refine st1 (v := .bool true) (cs' := [_]) x5 rfl rfl sz4 rfl rfl rfl rfl ?_
   intro W43 y44 x5
   replace x4 := x4.wr y44 (by omega)
   replace x8 := x8.wr y44 (by omega)
   have s45 := y44.size
   refine vnil ?_
   refine V.ret ?_
   have hB := hA.xt x37
   have hB5 := hB.x5.wr y41 (by omega)
   exact ⟨(Kf.ext x37).trans ((Kf.wr y41 hB.x4 (by rintro (h | h | h) <;> omega)).trans (Kf.wr y44 hB5 (by rintro (h | h | h) <;> omega))), rfl, ⟨(hB.ext.below (y41.below (by omega))).below (y44.below (by omega)), x4, x5, (hB.x1.wr y41 (by omega)).wr y44 (by omega), (hB.x2.wr y41 (by omega)).wr y44 (by omega)⟩, c1⟩
  ·intro c1
   refine vnil ?_
   refine V.condF rfl ?_
   refine V.skip ?_
   exact ⟨Kf.ext x37, hA.xt x37, fun j hj => by
    rcases Nat.lt_succ_iff_lt_or_eq.1 hj with h | rfl
    ·exact hQ j h
    ·exact fun h => by have := cq_pos.2 h; omega⟩
 ·intro D46 X47 hD48 hI49 hdf50 hs51
  obtain ⟨hA, hQ⟩ := hI49
  have x4 := hA.x4; have x5 := hA.x5
  refine V.seq (V.reg rfl ?_)
  refine vo ?_
  refine st1 (v := .int _ _) (cs' := [_]) x4 rfl rfl sz3 rfl rfl rfl rfl ?_
  intro W52 y53 x4
  have z54 := hA.ext.below (y53.below (by omega))
  replace x5 := x5.wr y53 (by omega)
  have hd55 := y53.obj hdf50 (by omega)
  have s56 := y53.size
  refine vo ?_
  refine st1 (v := .bool false) (cs' := [_]) x5 rfl rfl sz4 rfl rfl rfl rfl ?_
  intro W57 y58 x5
  have z59 := z54.below (y58.below (by omega))
  replace x4 := x4.wr y58 (by omega)
  have hd60 := y58.obj hd55 (by omega)
  have s61 := y58.size
  refine vnil ?_
  refine V.ret ?_
  refine ⟨D46, rfl, hd60, ?_⟩
  have tp := Tn.putObj (B := w.heap.size) (.deferred none) hd60 (by omega) rfl
  have x4 := x4.tn tp
  have x5 := x5.tn tp
  have z62 := tp.ext z59 (Nat.le_refl _)
  refine ⟨[.int _ _, .bool false], ⟨⟨_, rfl, lv1 sc3 x4 rfl⟩, ⟨_, rfl, lv1 sc4 x5 rfl⟩, trivial⟩, ?_⟩
  exact ⟨_, _, rfl, z62, fun h => (by cases h), fun ⟨j, hj, h⟩ => absurd h (hQ j hj)⟩
 ·rintro D' cd i X hD' hi ⟨rfl, hA, hne⟩ hdf hs
  have x4 := hA.x4; have x5 := hA.x5
  refine V.ret ?_
  refine ⟨D', rfl, hdf, ?_⟩
  have tp := Tn.putObj (B := w.heap.size) (.deferred none) hdf (by omega) rfl
  have x4 := x4.tn tp
  have x5 := x5.tn tp
  have z63 := tp.ext hA.ext (Nat.le_refl _)
  refine ⟨[.int _ _, .bool _], ⟨⟨_, rfl, lv1 sc3 x4 rfl⟩, ⟨_, rfl, lv1 sc4 x5 rfl⟩, trivial⟩, ?_⟩
  exact ⟨_, _, rfl, z63, fun _ => ⟨i, hi, cq_pos.1 hne⟩, fun _ => rfl⟩
set_option maxHeartbeats 400000 in
theorem vSign_ok (a1 : Option Addr) (n c L1 : Nat) (xs : List Rat) (S1 : Nat → Prop) (w : World) (hx : GA L1 S1 w a1 n c xs) (hL1 : 3 * L1 + 2 < LY) (hl1 : 1 ≤ L1) (hn : n ≤ LV) :
    Calls Try.prog 80 #[.slice a1 n c] w (fun e w' => ∃ s, e = .returned (.int .i64 s) ∧ Ext w w' ∧ LexP xs [] (max n 0) s) := by
 have z0 := Ext.refl w; have hLX : LX = 17592186044416 := rfl; have hLY : LY = 8796093022208 := rfl
 have hLV : LV = 1099511627776 := rfl
 refine enter (args := [.slice a1 n c]) Try.func80 rfl rfl (Nat.le_of_ble_eq_true rfl) ?_
 refine V.seq (V.reg rfl ?_)
 refine asi rfl ?_
 refine vnil ?_
 refine V.seq (V.reg rfl ?_)
 refine mvs rfl ?_
 refine vo ?_
 refine xcall e36 (vCompare_ok _ _ _ _ _ _ L1 1 xs [] S1 TT _ hx (GA.nil _ _ _) (by omega) (by omega) (by omega) (by omega) (by omega)) rfl rfl ?_
 rintro _ W1 ⟨sg, rfl, x2, hsg⟩
 have s3 := x2.sz
 have z4 := x2
 refine ⟨_, rfl, ?_⟩
 refine asi rfl ?_
 refine vnil ?_
 refine V.ret ?_
 refine ⟨[.int _ _], ⟨rfl, trivial⟩, ?_⟩
 exact ⟨_, rfl, z4, hsg⟩
end Go.Proofs.Ytknbjfefeeojlaa
/- Package lp: Slack. -/
namespace Go.Proofs.Ytknbjfefeeojlaa
open Go.RowKit
attribute [local irreducible] RV VH V OpF Calls
structure SJ (w : World) (T1 : TypeId) (b1 b3 b4 : Nat) (cs1 : List Value) (v3 v : Value) (qs : List (List Value)) (X : World) : Prop where
  ext : Ext w X
  x1 : BoxAt X b1 cs1 T1
  x3 : BoxAt X b3 [v3] 30
  x4 : BoxAt X b4 [v] 30
  os : OS 4 w.heap.size X 43 v qs
section
variable {w X Y : World} {T1 : TypeId} {B b1 b3 b4 : Nat} {cs1 : List Value} {v3 v v' : Value} {qs : List (List Value)} {rs : List Rat} {S : Nat → Prop}
theorem SJ.tn (h : SJ w T1 b1 b3 b4 cs1 v3 v qs X) (t : Tn B X Y) (hB : w.heap.size ≤ B) : SJ w T1 b1 b3 b4 cs1 v3 v qs Y :=
  ⟨t.ext h.ext hB, h.x1.tn t, h.x3.tn t, h.x4.tn t, h.os.ck (t.ck fun _ => True) fun _ _ => trivial⟩
theorem SJ.xt (h : SJ w T1 b1 b3 b4 cs1 v3 v qs X) (x : Ext X Y) : SJ w T1 b1 b3 b4 cs1 v3 v qs Y :=
  ⟨h.ext.trans x, h.x1.ext x, h.x3.ext x, h.x4.ext x, h.os.ext x⟩
theorem SJ.up (hu : Up S w) (h : SJ w T1 b1 b3 b4 cs1 v3 v qs X) : Up (SW S b4 v) X := fun b hb =>
  ⟨hu b (Nat.le_trans h.ext.sz hb), fun e => by have := h.x4.lt; omega, fun e => by have := (h.os.low b e).2; omega⟩
theorem SJ.app {Z : World} {q : List Value} (h : SJ w T1 b1 b3 b4 cs1 v3 v qs X) (hT : T1 ≠ 43) (hO : OS 4 w.heap.size Y 43 v' (qs ++ [q])) (hg : X.grownBy Y v.ownBlock) (ho : v'.ownBlock = v.ownBlock ∨ v'.ownBlock = some X.heap.size)
    (y : Wr b4 Y Z) (hb : BoxAt Z b4 [v'] 30) (hl : w.heap.size ≤ b4) (n1 : b1 ≠ b4) (n3 : b3 ≠ b4) :
    SJ w T1 b1 b3 b4 cs1 v3 v' (qs ++ [q]) Z ∧ KB w.heap.size X Z ∧ KD (fun k => k < w.heap.size ∨ k = b1) X Z := by
  have k1 : KB w.heap.size X Y := KB.grownS h.os hg (Nat.le_refl _) h.ext.sz
  have ne : ∀ {b : Nat} {cs : List Value} {T : TypeId}, BoxAt X b cs T → T ≠ 43 → BoxAt Y b cs T := fun hb hT => hb.ck (S := fun q => v.ownBlock ≠ some q) (grown_ck hg fun b e h => h e) (h.os.neBox hb hT)
  have k2 : KB w.heap.size Y Z := KB.wr y (ne h.x4 (by decide)) hl
  have o4 : v'.ownBlock ≠ some b4 := by
    rcases ho with h' | h' <;> rw [h']
    · exact h.os.neBox h.x4 (by decide)
    · intro e; injection e with e; have := h.x4.lt; omega
  refine ⟨⟨h.ext.below (k1.trans k2).below, (ne h.x1 hT).wr y n1, (ne h.x3 (by decide)).wr y n3, hb, hO.ck (y.ck (S := fun q => q ≠ b4) (fun h => h rfl)) (fun b e e2 => o4 (e2 ▸ e))⟩, k1.trans k2, ?_⟩
  refine (grown_kd hg (fun b e hd => ?_) (k1.below.mono (Nat.zero_le _))).trans (y.kd (fun hd => ?_))
  · rcases hd with hd | rfl
    · have := (h.os.low b e).1; omega
    · exact h.os.neBox h.x1 hT e
  · rcases hd with hd | hd
    · omega
    · exact n1 hd.symm
end
end Go.Proofs.Ytknbjfefeeojlaa
/- Package lp: Valid. -/
namespace Go.Proofs.Ytknbjfefeeojlaa
open Go.RowKit
attribute [local irreducible] RV VH V OpF Calls
section
variable {P : Program} {ρ : Operand → Value} {W : World} {d : Option Tmp} {ty : TypeId} {pos : String} {af : Array Edge} {g : Option (Nat × Bool)} {x y : Operand}
theorem part_int {t : TypeId} {k : IntKind} {xs : Array Value} {i : Nat} {v : Value} (hu : P.underlying t = some (.int k)) (hx : xs[i]? = some v) : (part t xs i).run P W = .ok v W := by
  simp [part, isAgg, run_underlying hu, hx]
theorem eqF_int {D : Nat} {f : Field} {fs : List Field} {xs ys : Array Value} {k k' : IntKind} {a b : Int} (hn : (f.name == "_") = false) (hu : P.underlying f.type = some (.int k)) (hx : xs[f.offset]? = some (.int k' a)) (hy : ys[f.offset]? = some (.int k' b)) {q : Bool}
    (h : (Op.eqFields (D + 1) xs ys fs).run P W = .ok q W) : (Op.eqFields (D + 1) xs ys (f :: fs)).run P W = .ok ((a == b) && q) W := by
  have hn' : f.name ≠ "_" := fun e => by rw [e] at hn; exact absurd hn (by decide)
  rw [Op.eqFields, if_pos hn']
  simp only [Sem.run_bind, part_int hu hx, part_int hu hy, Result.andThen_ok, run_equalIn_int W D f.type k' k a b hu]
  cases hq : (a == b) <;> simp [h]
theorem rseq4 {t2 : TypeId} {a1 a2 a3 a4 b1 b2 b3 b4 : Int} {q : Bool} (hx : ρ x = .agg #[.int .i64 a1, .int .i64 a2, .int .i64 a3, .int .i64 a4]) (hy : ρ y = .agg #[.int .i64 b1, .int .i64 b2, .int .i64 b3, .int .i64 b4]) (hq : ((a1 == b1) && ((a2 == b2) && ((a3 == b3) && ((a4 == b4) && true)))) = q) :
    (execOp ρ ⟨d, .binOp .eql 133 x y t2, ty, pos, af, g⟩).run Try.prog W = .ok (.value (.bool q)) W := by
  subst hq
  have h1 := run_eqGuard_agg (P := Try.prog) W .eql 133 x y #[.int .i64 a1, .int .i64 a2, .int .i64 a3, .int .i64 a4] #[.int .i64 b1, .int .i64 b2, .int .i64 b3, .int .i64 b4] (by kernel_rfl)
  have h2 := run_eql_struct (P := Try.prog) W 133 #[.int .i64 a1, .int .i64 a2, .int .i64 a3, .int .i64 a4] #[.int .i64 b1, .int .i64 b2, .int .i64 b3, .int .i64 b4]
  have h3 := run_equalIn_agg (P := Try.prog) W 9999 133 #[.int .i64 a1, .int .i64 a2, .int .i64 a3, .int .i64 a4] #[.int .i64 b1, .int .i64 b2, .int .i64 b3, .int .i64 b4] (by kernel_rfl) (by kernel_rfl)
  obtain ⟨f1, f2, f3, f4, hf, ⟨n1, u1, o1⟩, ⟨n2, u2, o2⟩, ⟨n3, u3, o3⟩, n4, u4, o4⟩ : ∃ f1 f2 f3 f4 : Field, (Try.prog.fieldsOf 133).toList = [f1, f2, f3, f4] ∧
      ((f1.name == "_") = false ∧ Try.prog.underlying f1.type = some (.int .i64) ∧ f1.offset = 0) ∧ ((f2.name == "_") = false ∧ Try.prog.underlying f2.type = some (.int .i64) ∧ f2.offset = 1) ∧
      ((f3.name == "_") = false ∧ Try.prog.underlying f3.type = some (.int .i64) ∧ f3.offset = 2) ∧ (f4.name == "_") = false ∧ Try.prog.underlying f4.type = some (.int .i64) ∧ f4.offset = 3 :=
    ⟨(Try.prog.fieldsOf 133).toList[0]!, (Try.prog.fieldsOf 133).toList[1]!, (Try.prog.fieldsOf 133).toList[2]!, (Try.prog.fieldsOf 133).toList[3]!, by kernel_rfl, ⟨by kernel_rfl, by kernel_rfl, by kernel_rfl⟩, ⟨by kernel_rfl, by kernel_rfl, by kernel_rfl⟩, ⟨by kernel_rfl, by kernel_rfl, by kernel_rfl⟩, by kernel_rfl, by kernel_rfl, by kernel_rfl⟩
  have h4 : (Op.eqFields 9999 #[.int .i64 a1, .int .i64 a2, .int .i64 a3, .int .i64 a4] #[.int .i64 b1, .int .i64 b2, .int .i64 b3, .int .i64 b4] (Try.prog.fieldsOf 133).toList).run Try.prog W = .ok ((a1 == b1) && ((a2 == b2) && ((a3 == b3) && ((a4 == b4) && true)))) W := by
    rw [hf]
    exact eqF_int n1 u1 (by rw [o1]; rfl) (by rw [o1]; rfl) (eqF_int n2 u2 (by rw [o2]; rfl) (by rw [o2]; rfl) (eqF_int n3 u3 (by rw [o3]; rfl) (by rw [o3]; rfl) (eqF_int n4 u4 (by rw [o4]; rfl) (by rw [o4]; rfl) (by simp [Op.eqFields]))))
  have h5 : (binOp .eql 133 (.agg #[.int .i64 a1, .int .i64 a2, .int .i64 a3, .int .i64 a4]) (.agg #[.int .i64 b1, .int .i64 b2, .int .i64 b3, .int .i64 b4])).run Try.prog W = .ok (.bool ((a1 == b1) && ((a2 == b2) && ((a3 == b3) && ((a4 == b4) && true))))) W := by
    rw [h2, h3, h4]; rfl
  unfold execOp
  simp only [hx, hy, Sem.run_bind, h1, h5, Result.andThen_ok]
  rfl
end

set_option maxHeartbeats 400000 in
theorem of_lp_ok (nv : Int) (a0 a1 a2 : Option Addr) (n0 c0 n c m d : Nat) (w : World) :
    Calls Try.prog 99 #[.agg #[.int .i64 nv, .slice a0 n0 c0, .slice a1 n c, .slice a2 m d]] w (fun e w' => e = .returned (.agg #[.int .i64 nv, .int .i64 (n0 : Int), .int .i64 (n : Int), .int .i64 (m : Int)]) ∧ Ext w w') := by
 have z0 := Ext.refl w; have hLX : LX = 17592186044416 := rfl; have hLY : LY = 8796093022208 := rfl
 refine enter (args := [.agg #[.int .i64 nv, .slice a0 n0 c0, .slice a1 n c, .slice a2 m d]]) Try.func99 rfl rfl (Nat.le_of_ble_eq_true rfl) ?_
 refine V.seq (V.reg rfl ?_)
 refine vo ?_
 refine bxa rfl ?_
 intro W1 x2 b3 nn4
 have s5 := x2.sz
 have z6 := x2
 refine vo ?_
 refine xal zc133 ?_
 intro W7 x8 b9 nn10
 have s11 := x8.sz
 have z12 := z6.trans x8
 replace b3 := b3.ext x8
 refine vnil ?_
 refine V.seq (V.reg rfl ?_)
 refine vv (rfa rfl fd71_0) ?_
 refine vv (rldb (v := .int _ _) rfl sc3 b3 rfl) ?_
 refine vv (rfa rfl fd71_1) ?_
 refine vv (rldb (v := .slice _ _ _) rfl sc25 b3 rfl) ?_
 refine vv (rlen sl25 rfl) ?_
 refine vv (rfa rfl fd71_2) ?_
 refine vv (rldb (v := .slice _ _ _) rfl sc25 b3 rfl) ?_
 refine vv (rlen sl25 rfl) ?_
 refine vv (rfa rfl fd71_3) ?_
 refine vv (rldb (v := .slice _ _ _) rfl sc30 b3 rfl) ?_
 refine vv (rlen sl30 rfl) ?_
 refine vv (rbd (ps := [(0, .int _ _), (1, .int _ _), (2, .int _ _), (3, .int _ _)]) (cs := [.int _ _, .int _ _, .int _ _, .int _ _]) pl133 rfl rfl) ?_
 refine vo ?_
 refine sta (cs' := [_, _, _, _]) b9 rfl rfl sz133 rfl rfl rfl ?_
 intro W13 y14 b9
 have z15 := z12.below (y14.below (by omega))
 have s16 := y14.size
 refine vnil ?_
 refine V.ret ?_
 refine ⟨[_], ⟨⟨_, rfl, lvb ag133 b9 rfl⟩, trivial⟩, ?_⟩
 exact ⟨rfl, z15⟩
set_option maxHeartbeats 400000 in
theorem cut_lp_ok (x0 x1 x2 x3 : Int) (w : World) :
    Calls Try.prog 100 #[.agg #[.int .i64 x0, .int .i64 x1, .int .i64 x2, .int .i64 x3]] w (fun e w' => e = .returned (.agg #[.int .i64 (min (max x0 0) 64), .int .i64 (min (max x1 1) 4), .int .i64 (min x2 128), .int .i64 (min x2 128)]) ∧ Ext w w') := by
 have z0 := Ext.refl w; have hLX : LX = 17592186044416 := rfl; have hLY : LY = 8796093022208 := rfl
 refine enter (args := [.agg #[.int .i64 x0, .int .i64 x1, .int .i64 x2, .int .i64 x3]]) Try.func100 rfl rfl (Nat.le_of_ble_eq_true rfl) ?_
 refine V.seq (V.reg rfl ?_)
 refine vo ?_
 refine bxa rfl ?_
 intro W1 x2 b3 nn4
 have s5 := x2.sz
 have z6 := x2
 refine vo ?_
 refine xal zc133 ?_
 intro W7 x8 b9 nn10
 have s11 := x8.sz
 have z12 := z6.trans x8
 replace b3 := b3.ext x8
 refine vnil ?_
 refine V.seq (V.reg rfl ?_)
 refine vv (rfa rfl fd133_2) ?_
 refine vv (rldb (v := .int _ _) rfl sc3 b3 rfl) ?_
 refine vv (rmin rfl rfl rfl) ?_
 refine asi rfl ?_
 refine vnil ?_
 refine V.seq (V.reg rfl ?_)
 refine vv (rfa rfl fd133_0) ?_
 refine vv (rldb (v := .int _ _) rfl sc3 b3 rfl) ?_
 refine vv (rmax rfl rfl rfl) ?_
 refine vv (rmin rfl rfl rfl) ?_
 refine vv (rfa rfl fd133_1) ?_
 refine vv (rldb (v := .int _ _) rfl sc3 b3 rfl) ?_
 refine vv (rmax rfl rfl rfl) ?_
 refine vv (rmin rfl rfl rfl) ?_
 refine mvi rfl ?_
 refine mvi rfl ?_
 refine vv (rbd (ps := [(0, .int _ _), (1, .int _ _), (2, .int _ _), (3, .int _ _)]) (cs := [.int _ _, .int _ _, .int _ _, .int _ _]) pl133 rfl rfl) ?_
 refine vo ?_
 refine sta (cs' := [_, _, _, _]) b9 rfl rfl sz133 rfl rfl rfl ?_
 intro W13 y14 b9
 have z15 := z12.below (y14.below (by omega))
 have s16 := y14.size
 refine vnil ?_
 refine V.ret ?_
 refine ⟨[_], ⟨⟨_, rfl, lvb ag133 b9 rfl⟩, trivial⟩, ?_⟩
 exact ⟨rfl, z15⟩

structure ValidP (nv : Int) (n0 n m : Nat) (obj rss : List (List Rat)) : Prop where
  sz : 0 ≤ nv ∧ nv ≤ 64 ∧ 1 ≤ n0 ∧ n0 ≤ 4 ∧ n ≤ 128 ∧ m = n
  co : (colsN obj : Int) ≤ nv
  cr : (colsN rss : Int) ≤ nv

set_option maxHeartbeats 1000000 in
theorem valid_ok (L : Nat) (obj rss : List (List Rat)) (S0 S1 : Nat → Prop) (nv : Int) (a0 a1 a2 : Option Addr) (n0 c0 n c m d : Nat) (w : World) (ho : MA L S0 w a0 n0 c0 obj) (hx : MA L S1 w a1 n c rss) :
    Calls Try.prog 67 #[.agg #[.int .i64 nv, .slice a0 n0 c0, .slice a1 n c, .slice a2 m d]] w (fun e w' => ∃ q, e = .returned (.bool q) ∧ Ext w w' ∧ (q = true ↔ ValidP nv n0 n m obj rss)) := by
 have z0 := Ext.refl w; have hLX : LX = 17592186044416 := rfl; have hLY : LY = 8796093022208 := rfl
 have hLV : LV = 1099511627776 := rfl
 have l0 := ho.len; have l1 := hx.len
 refine enter (args := [.agg #[.int .i64 nv, .slice a0 n0 c0, .slice a1 n c, .slice a2 m d]]) Try.func67 rfl rfl (Nat.le_of_ble_eq_true rfl) ?_
 refine V.seq (V.reg rfl ?_)
 refine vo ?_
 refine bxa rfl ?_
 intro W1 x2 b3 nn4
 have s5 := x2.sz
 have z6 := x2
 refine asb rfl ?_
 refine vnil ?_
 refine V.seq (V.reg rfl ?_)
 refine vv (rldb4 rfl ag71 b3 rfl rfl rfl rfl ) ?_
 refine vo ?_
 refine xcall e99 (of_lp_ok _ _ _ _ _ _ _ _ _ _ _) rfl rfl ?_
 rintro _ Wo ⟨rfl, xo⟩
 by_cases hsz : 0 ≤ nv ∧ nv ≤ 64 ∧ 1 ≤ n0 ∧ n0 ≤ 4 ∧ n ≤ 128 ∧ m = n
 ·refine ⟨_, rfl, ?_⟩
  have s7 := xo.sz
  have z8 := z6.trans xo
  replace b3 := b3.ext xo
  refine vo ?_
  refine xal zc133 ?_
  intro W9 x10 b11 nn12
  have s13 := x10.sz
  have z14 := z8.trans x10
  replace b3 := b3.ext x10
  refine vo ?_
  refine sta (cs' := [_, _, _, _]) b11 rfl rfl sz133 rfl rfl rfl ?_
  intro W15 y16 b11
  have z17 := z14.below (y16.below (by omega))
  replace b3 := b3.wr y16 (by omega)
  have s18 := y16.size
  refine vnil ?_
  refine V.seq (V.regD mixed rfl ?_)
  intro W19 x20
  have s21 := x20.sz
  have z22 := z17.trans x20
  replace b3 := b3.ext x20
  replace b11 := b11.ext x20
  have q23 := Ext.refl W19
  have r24 := b3
  have r25 := b11
  refine tk 0 rfl (by kernel_rfl) q23 (pv (fun _ y26 => rldb4 rfl ag133 (r25.ext y26) rfl rfl rfl rfl )) ?_
  refine tk 1 rfl (by kernel_rfl) q23 (pv (fun _ y27 => rldb4 rfl ag133 (r25.ext y27) rfl rfl rfl rfl )) ?_
  refine ef 2 (by kernel_rfl) rfl ?_
  refine xcall e100 (cut_lp_ok _ _ _ _ _) rfl rfl ?_
  rintro _ W28 ⟨rfl, x29⟩
  have s30 := x29.sz
  have z31 := z22.trans x29
  have q32 := q23.trans x29
  refine ⟨_, rfl, ?_⟩
  refine ⟨fun _ => q32, ?_⟩
  refine tk 3 rfl (by kernel_rfl) q32 (pv (fun _ y33 => rseq4 (q := true) rfl rfl (by simp only [Bool.and_eq_true, beq_iff_eq, and_true]; omega))) ?_
  refine tk 4 rfl (by kernel_rfl) q32 (pv (fun _ y34 => rmv (v := .bool true) rfl)) ?_
  refine tk 5 rfl (by kernel_rfl) q32 (pg rfl (fun _ y35 => rfa rfl fd71_1)) ?_
  refine tk 6 rfl (by kernel_rfl) q32 (pg rfl (fun _ y36 => rldb (v := .slice _ _ _) rfl sc25 (r24.ext y36) rfl)) ?_
  refine tk 8 rfl (by kernel_rfl) q32 (pg rfl (fun _ y37 => rfa rfl fd71_0)) ?_
  refine tk 9 rfl (by kernel_rfl) q32 (pg rfl (fun _ y38 => rldb (v := .int _ _) rfl sc3 (r24.ext y38) rfl)) ?_
  refine efg 7 (by kernel_rfl) rfl rfl ?_
  refine xcall e18 (mCols_ok _ _ _ _ _ _ _ (ho.ext z31)) rfl rfl ?_
  rintro _ W39 ⟨rfl, x40⟩
  have s41 := x40.sz
  have z42 := z31.trans x40
  have q43 := q32.trans x40
  refine ⟨_, rfl, ?_⟩
  refine ⟨fun _ => q43, ?_⟩
  refine tkLe 10 rfl (by kernel_rfl) q43 rfl rfl (fun _ h => pg rfl h) ?_ ?_
  ·intro c10
   refine tk 11 rfl (by kernel_rfl) q43 (pv (fun _ y45 => rpk (v := .bool true) rfl rfl)) ?_
   refine tk 12 rfl (by kernel_rfl) q43 (pv (fun _ y46 => rmv (v := .bool true) rfl)) ?_
   refine tk 13 rfl (by kernel_rfl) q43 (pg rfl (fun _ y47 => rfa rfl fd71_2)) ?_
   refine tk 14 rfl (by kernel_rfl) q43 (pg rfl (fun _ y48 => rldb (v := .slice _ _ _) rfl sc25 (r24.ext y48) rfl)) ?_
   refine tk 16 rfl (by kernel_rfl) q43 (pg rfl (fun _ y49 => rfa rfl fd71_0)) ?_
   refine tk 17 rfl (by kernel_rfl) q43 (pg rfl (fun _ y50 => rldb (v := .int _ _) rfl sc3 (r24.ext y50) rfl)) ?_
   refine efg 15 (by kernel_rfl) rfl rfl ?_
   refine xcall e18 (mCols_ok _ _ _ _ _ _ _ (hx.ext z42)) rfl rfl ?_
   rintro _ W51 ⟨rfl, x52⟩
   have s53 := x52.sz
   have z54 := z42.trans x52
   have q55 := q43.trans x52
   refine ⟨_, rfl, ?_⟩
   refine ⟨fun _ => q55, ?_⟩
   refine tkLe 18 rfl (by kernel_rfl) q55 rfl rfl (fun _ h => pg rfl h) ?_ ?_
   ·intro c18
    refine tk 19 rfl (by kernel_rfl) q55 (pv (fun _ y57 => rpk (v := .bool true) rfl rfl)) ?_
    refine tk 20 rfl (by kernel_rfl) q55 (pv (fun _ y58 => ras (v := .bool true) rfl)) ?_
    refine dn (by kernel_rfl) ?_
    refine V.ret ?_
    refine ⟨[.bool true], ⟨rfl, trivial⟩, ?_⟩
    refine ⟨_, rfl, z54, ?_⟩
    first | exact ⟨fun _ => ⟨hsz, by omega, by omega⟩, fun _ => rfl⟩ | exact ⟨fun h => (by cases h), fun h => by have h1 := h.sz; have h2 := h.co; have h3 := h.cr; omega⟩
   ·intro c18
    refine tk 19 rfl (by kernel_rfl) q55 (pv (fun _ y59 => rpk (v := .bool false) rfl rfl)) ?_
    refine tk 20 rfl (by kernel_rfl) q55 (pv (fun _ y60 => ras (v := .bool false) rfl)) ?_
    refine dn (by kernel_rfl) ?_
    refine V.ret ?_
    refine ⟨[.bool false], ⟨rfl, trivial⟩, ?_⟩
    refine ⟨_, rfl, z54, ?_⟩
    first | exact ⟨fun _ => ⟨hsz, by omega, by omega⟩, fun _ => rfl⟩ | exact ⟨fun h => (by cases h), fun h => by have h1 := h.sz; have h2 := h.co; have h3 := h.cr; omega⟩
  ·intro c10
   refine tk 11 rfl (by kernel_rfl) q43 (pv (fun _ y61 => rpk (v := .bool false) rfl rfl)) ?_
   refine tk 12 rfl (by kernel_rfl) q43 (pv (fun _ y62 => rmv (v := .bool false) rfl)) ?_
   refine tk 13 rfl (by kernel_rfl) q43 (pgn (b := false) rfl rfl) ?_
   refine tk 14 rfl (by kernel_rfl) q43 (pgn (b := false) rfl rfl) ?_
   refine tk 15 rfl (by kernel_rfl) q43 (pgn (b := false) rfl rfl) ?_
   refine tk 16 rfl (by kernel_rfl) q43 (pgn (b := false) rfl rfl) ?_
   refine tk 17 rfl (by kernel_rfl) q43 (pgn (b := false) rfl rfl) ?_
   refine tk 18 rfl (by kernel_rfl) q43 (pgn (b := false) rfl rfl) ?_
   refine tk 19 rfl (by kernel_rfl) q43 (pv (fun _ y63 => rpk (v := .bool false) rfl rfl)) ?_
   refine tk 20 rfl (by kernel_rfl) q43 (pv (fun _ y64 => ras (v := .bool false) rfl)) ?_
   refine dn (by kernel_rfl) ?_
   refine V.ret ?_
   refine ⟨[.bool false], ⟨rfl, trivial⟩, ?_⟩
   refine ⟨_, rfl, z42, ?_⟩
   first | exact ⟨fun _ => ⟨hsz, by omega, by omega⟩, fun _ => rfl⟩ | exact ⟨fun h => (by cases h), fun h => by have h1 := h.sz; have h2 := h.co; have h3 := h.cr; omega⟩
 ·refine ⟨_, rfl, ?_⟩
  have s65 := xo.sz
  have z66 := z6.trans xo
  replace b3 := b3.ext xo
  refine vo ?_
  refine xal zc133 ?_
  intro W67 x68 b69 nn70
  have s71 := x68.sz
  have z72 := z66.trans x68
  replace b3 := b3.ext x68
  refine vo ?_
  refine sta (cs' := [_, _, _, _]) b69 rfl rfl sz133 rfl rfl rfl ?_
  intro W73 y74 b69
  have z75 := z72.below (y74.below (by omega))
  replace b3 := b3.wr y74 (by omega)
  have s76 := y74.size
  refine vnil ?_
  refine V.seq (V.regD mixed rfl ?_)
  intro W77 x78
  have s79 := x78.sz
  have z80 := z75.trans x78
  replace b3 := b3.ext x78
  replace b69 := b69.ext x78
  have q81 := Ext.refl W77
  have r82 := b3
  have r83 := b69
  refine tk 0 rfl (by kernel_rfl) q81 (pv (fun _ y84 => rldb4 rfl ag133 (r83.ext y84) rfl rfl rfl rfl )) ?_
  refine tk 1 rfl (by kernel_rfl) q81 (pv (fun _ y85 => rldb4 rfl ag133 (r83.ext y85) rfl rfl rfl rfl )) ?_
  refine ef 2 (by kernel_rfl) rfl ?_
  refine xcall e100 (cut_lp_ok _ _ _ _ _) rfl rfl ?_
  rintro _ W86 ⟨rfl, x87⟩
  have s88 := x87.sz
  have z89 := z80.trans x87
  have q90 := q81.trans x87
  refine ⟨_, rfl, ?_⟩
  refine ⟨fun _ => q90, ?_⟩
  refine tk 3 rfl (by kernel_rfl) q90 (pv (fun _ y91 => rseq4 (q := false) rfl rfl (by rw [Bool.eq_false_iff]; intro hh; simp only [Bool.and_eq_true, beq_iff_eq, and_true, ne_eq] at hh; omega))) ?_
  refine tk 4 rfl (by kernel_rfl) q90 (pv (fun _ y92 => rmv (v := .bool false) rfl)) ?_
  refine tk 5 rfl (by kernel_rfl) q90 (pgn (b := false) rfl rfl) ?_
  refine tk 6 rfl (by kernel_rfl) q90 (pgn (b := false) rfl rfl) ?_
  refine tk 7 rfl (by kernel_rfl) q90 (pgn (b := false) rfl rfl) ?_
  refine tk 8 rfl (by kernel_rfl) q90 (pgn (b := false) rfl rfl) ?_
  refine tk 9 rfl (by kernel_rfl) q90 (pgn (b := false) rfl rfl) ?_
  refine tk 10 rfl (by kernel_rfl) q90 (pgn (b := false) rfl rfl) ?_
  refine tk 11 rfl (by kernel_rfl) q90 (pv (fun _ y93 => rpk (v := .bool false) rfl rfl)) ?_
  refine tk 12 rfl (by kernel_rfl) q90 (pv (fun _ y94 => rmv (v := .bool false) rfl)) ?_
  refine tk 13 rfl (by kernel_rfl) q90 (pgn (b := false) rfl rfl) ?_
  refine tk 14 rfl (by kernel_rfl) q90 (pgn (b := false) rfl rfl) ?_
  refine tk 15 rfl (by kernel_rfl) q90 (pgn (b := false) rfl rfl) ?_
  refine tk 16 rfl (by kernel_rfl) q90 (pgn (b := false) rfl rfl) ?_
  refine tk 17 rfl (by kernel_rfl) q90 (pgn (b := false) rfl rfl) ?_
  refine tk 18 rfl (by kernel_rfl) q90 (pgn (b := false) rfl rfl) ?_
  refine tk 19 rfl (by kernel_rfl) q90 (pv (fun _ y95 => rpk (v := .bool false) rfl rfl)) ?_
  refine tk 20 rfl (by kernel_rfl) q90 (pv (fun _ y96 => ras (v := .bool false) rfl)) ?_
  refine dn (by kernel_rfl) ?_
  refine V.ret ?_
  refine ⟨[.bool false], ⟨rfl, trivial⟩, ?_⟩
  refine ⟨_, rfl, z89, ?_⟩
  first | exact ⟨fun _ => ⟨hsz, by omega, by omega⟩, fun _ => rfl⟩ | exact ⟨fun h => (by cases h), fun h => by have h1 := h.sz; have h2 := h.co; have h3 := h.cr; omega⟩
end Go.Proofs.Ytknbjfefeeojlaa
/- Package lp: Feasible. -/
namespace Go.Proofs.Ytknbjfefeeojlaa
open Go.RowKit
attribute [local irreducible] RV VH V OpF Calls
def nonneg (rs : List Rat) : Prop := ∀ i, ¬ vat rs i < 0
theorem fg_neg {rs : List Rat} {k : Nat} {q : Bool} (hl : rs.length = k) (h : q = true ↔ ∃ j, j < max 0 k ∧ vat rs j < vat [] j) : q = true ↔ ¬ nonneg rs := by
  refine h.trans ⟨fun ⟨j, _, h1⟩ h2 => h2 j h1, fun h1 => ?_⟩
  false_or_by_contra; rename_i h2
  refine h1 fun i hi => ?_
  rcases Nat.lt_or_ge i k with h3 | h3
  · exact h2 ⟨i, by omega, hi⟩
  · rw [vat_ge (by omega)] at hi; exact absurd hi (by decide)
end Go.Proofs.Ytknbjfefeeojlaa
/- slices: Index, Contains; tableau: the state. -/
namespace Go.Proofs.Ytknbjfefeeojlaa
open Go.RowKit
attribute [local irreducible] RV VH V OpF Calls

set_option maxHeartbeats 400000 in
theorem index_ok (a1 : Option Addr) (n c : Nat) (xs : List Int) (z : Int) (S1 : Nat → Prop) (w : World) (hx : RN .i64 S1 w a1 n c xs) :
    Calls Try.prog 102 #[.slice a1 n c, .int .i64 z] w (fun e w' => ∃ q : Int, e = .returned (.int .i64 q) ∧ w = w' ∧ ((q = -1 ∧ ∀ j : Nat, j < n → wd xs j ≠ z) ∨ ∃ k : Nat, k < n ∧ q = k ∧ wd xs k = z ∧ ∀ j : Nat, j < k → wd xs j ≠ z)) := by
 have z0 := Ext.refl w; have hLX : LX = 17592186044416 := rfl; have hLY : LY = 8796093022208 := rfl
 have l1 := hx.len; have l2 := hx.cap; have l3 := hx.max
 refine enter (args := [.slice a1 n c, .int .i64 z]) Try.func102 rfl rfl (Nat.le_of_ble_eq_true rfl) ?_
 refine V.seq (V.reg rfl ?_)
 refine asi rfl ?_
 refine vnil ?_
 refine V.seq ?_
 refine V.seq (V.reg rfl ?_)
 refine mvs rfl ?_
 refine vv (rlen sl74 rfl) ?_
 refine mvi rfl ?_
 refine vnil ?_
 refine V.block ?_
 refine V.loopK (ι := Nat) [(0, .slice _ _ _), (1, .int _ _), (7, .int _ _)] (fun k => [(8, .int .i64 (k : Int))]) (fun k W => w = W ∧ k ≤ n ∧ ∀ j : Nat, j < k → wd xs j ≠ z) (fun k => n - k) (0) ⟨rfl, rfl, rfl, trivial⟩ ⟨rfl, trivial⟩ ⟨rfl, Nat.zero_le _, fun j hj => absurd hj (Nat.not_lt_zero _)⟩ ?_
 intro k E2 W1 h3
 obtain ⟨rfl, hk, hz⟩ := h3
 refine V.seq (V.reg rfl ?_)
 refine vlt rfl rfl ?_ ?_
 ·intro c4
  refine vnil ?_
  refine V.seq ?_
  refine V.condT rfl ?_
  refine V.skip ?_
  refine V.seq ?_
  refine V.block ?_
  refine V.seq (V.reg rfl ?_)
  refine mvi rfl ?_
  refine asi rfl ?_
  refine vnil ?_
  refine V.seq (V.reg rfl ?_)
  refine mvi rfl ?_
  refine mvs rfl ?_
  refine mvi rfl ?_
  refine vv (rixn hx sl74 sz3 rfl rfl (by omega) (by omega)) ?_
  refine vldN hx rfl sc3 (by omega) (by omega) ?_
  intro q5 hq5 hk6
  simp only [kb] at hk6
  refine veq rfl rfl ?_ ?_
  ·intro cz
   refine vnil ?_
   refine V.condT rfl ?_
   refine V.seq (V.reg rfl ?_)
   refine mvi rfl ?_
   refine asi rfl ?_
   refine vnil ?_
   refine V.ret ?_
   refine ⟨[.int _ _], ⟨rfl, trivial⟩, ?_⟩
   exact ⟨_, rfl, rfl, .inr ⟨k, by omega, rfl, by omega, hz⟩⟩
  ·intro cz
   refine vnil ?_
   refine V.condF rfl ?_
   refine V.skip ?_
   refine V.reg rfl ?_
   refine vv (rbin (bAdd (wi (by omega))) rfl rfl) ?_
   refine mvi rfl ?_
   refine vnil ?_
   refine ⟨rfl, k + 1, ⟨rfl, rfl, rfl, trivial⟩, ⟨rfl, trivial⟩, ⟨rfl, by omega, fun j hj => (by
    rcases Nat.lt_succ_iff_lt_or_eq.1 hj with h | rfl
    ·exact hz j h
    ·omega)⟩, ?_⟩
   show n - (k + 1) < n - k
   omega
 ·intro c4
  refine vnil ?_
  refine V.seq ?_
  refine V.condF rfl ?_
  refine V.exit ?_
  refine V.seq (V.reg rfl ?_)
  refine asi rfl ?_
  refine vnil ?_
  refine V.ret ?_
  refine ⟨[.int _ _], ⟨rfl, trivial⟩, ?_⟩
  exact ⟨_, rfl, rfl, .inl ⟨rfl, fun j hj => hz j (by omega)⟩⟩
set_option maxHeartbeats 400000 in
theorem contains_ok (a1 : Option Addr) (n c : Nat) (xs : List Int) (z : Int) (S1 : Nat → Prop) (w : World) (hx : RN .i64 S1 w a1 n c xs) :
    Calls Try.prog 72 #[.slice a1 n c, .int .i64 z] w (fun e w' => ∃ q, e = .returned (.bool q) ∧ w = w' ∧ (q = true ↔ z ∈ xs)) := by
 have z0 := Ext.refl w; have hLX : LX = 17592186044416 := rfl; have hLY : LY = 8796093022208 := rfl
 have l1 := hx.len
 refine enter (args := [.slice a1 n c, .int .i64 z]) Try.func72 rfl rfl (Nat.le_of_ble_eq_true rfl) ?_
 refine V.seq (V.reg rfl ?_)
 refine asb rfl ?_
 refine vnil ?_
 refine V.seq (V.reg rfl ?_)
 refine mvs rfl ?_
 refine mvi rfl ?_
 refine vo ?_
 refine xcall e102 (index_ok _ _ _ _ _ _ _ hx) rfl rfl ?_
 rintro _ _ ⟨q9, rfl, rfl, hq9⟩
 refine ⟨_, rfl, ?_⟩
 refine vge rfl rfl ?_ ?_
 ·intro c13
  refine asb rfl ?_
  refine vnil ?_
  refine V.ret ?_
  refine ⟨[.bool true], ⟨rfl, trivial⟩, ?_⟩
  refine ⟨_, rfl, rfl, ?_⟩
  rcases hq9 with ⟨hq1, hq2⟩ | ⟨k, hk, hq1, hq2, _⟩
  ·first | omega | exact ⟨fun h => (by cases h), fun h => by obtain ⟨j, hj, e⟩ := wd_mem.2 h; exact absurd e (hq2 j (by omega))⟩
  ·first | omega | exact ⟨fun _ => wd_mem.1 ⟨k, by omega, hq2⟩, fun _ => rfl⟩
 ·intro c13
  refine asb rfl ?_
  refine vnil ?_
  refine V.ret ?_
  refine ⟨[.bool false], ⟨rfl, trivial⟩, ?_⟩
  refine ⟨_, rfl, rfl, ?_⟩
  rcases hq9 with ⟨hq1, hq2⟩ | ⟨k, hk, hq1, hq2, _⟩
  ·first | omega | exact ⟨fun h => (by cases h), fun h => by obtain ⟨j, hj, e⟩ := wd_mem.2 h; exact absurd e (hq2 j (by omega))⟩
  ·first | omega | exact ⟨fun _ => wd_mem.1 ⟨k, by omega, hq2⟩, fun _ => rfl⟩
end Go.Proofs.Ytknbjfefeeojlaa

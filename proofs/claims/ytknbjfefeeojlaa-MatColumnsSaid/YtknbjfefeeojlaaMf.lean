/- Package mat: Concat, Transpose, Identity, FromInts, Equal. -/
import Derived.Test.YtknbjfefeeojlaaMx
namespace Go.Proofs.Ytknbjfefeeojlaa
open Go.RowKit
attribute [local irreducible] RV VH V OpF Calls

set_option maxHeartbeats 400000 in
theorem mConcat_ok (a1 a2 : Option Addr) (n c m d : Nat) (L1 L2 : Nat) (rss mss : List (List Rat)) (S S1 S2 : Nat → Prop) (w : World) (hx : MA L1 S1 w a1 n c rss) (hy : MA L2 S2 w a2 m d mss) (hL : L1 < LY) (hl1 : 1 ≤ L1) (hL2 : L2 < LY) (hl2 : 1 ≤ L2) (hn : n ≤ LV) (hm : m ≤ LV) (hc : colsN rss + colsN mss ≤ LV) (hu : Up S w) :
    Calls Try.prog 22 #[.slice a1 n c, .slice a2 m d] w (fun e w' => ∃ ra rk rc, e = .returned (.slice ra rk rc) ∧ Ext w w' ∧ MC S w' ra rk rc (gridm (catI rss mss (colsN rss)) (max n m) (colsN rss + colsN mss))) := by
  have z0 := Ext.refl w; have hLX : LX = 17592186044416 := rfl; have hLY : LY = 8796093022208 := rfl
  have hLV : LV = 1099511627776 := rfl
  refine enter (args := [.slice a1 n c, .slice a2 m d]) Try.func22 rfl rfl (Nat.le_of_ble_eq_true rfl) ?_
  refine V.seq (V.reg rfl ?_)
  refine vo ?_
  refine bxs rfl ?_
  intro W1 x2 b3 nn4
  have s5 := x2.sz
  have z6 := x2
  refine vo ?_
  refine bxs rfl ?_
  intro W7 x8 b9 nn10
  have s11 := x8.sz
  have z12 := z6.trans x8
  replace b3 := b3.ext x8
  refine ass rfl ?_
  refine vnil ?_
  refine V.seq (V.reg rfl ?_)
  refine vv (rldb (v := .slice _ _ _) rfl sc25 b3 rfl) ?_
  refine vo ?_
  refine xcall e18 (mCols_ok _ _ _ _ _ _ _ (hx.ext z12)) rfl rfl ?_
  rintro _ W13 ⟨rfl, x14⟩
  have s15 := x14.sz
  have z16 := z12.trans x14
  replace b3 := b3.ext x14
  replace b9 := b9.ext x14
  refine ⟨_, rfl, ?_⟩
  refine vo ?_
  refine xal zc3 ?_
  intro W17 x18 b19 nn20
  have s21 := x18.sz
  have z22 := z16.trans x18
  replace b3 := b3.ext x18
  replace b9 := b9.ext x18
  refine vo ?_
  refine st1 (v := .int _ _) (cs' := [_]) b19 rfl rfl sz3 rfl rfl rfl rfl ?_
  intro W23 y24 b19
  have z25 := z22.below (y24.below (by omega))
  replace b3 := b3.wr y24 (by omega)
  replace b9 := b9.wr y24 (by omega)
  have s26 := y24.size
  refine vnil ?_
  refine V.seq (V.regD mixed rfl ?_)
  intro W27 x28
  have s29 := x28.sz
  have z30 := z25.trans x28
  replace b3 := b3.ext x28
  replace b9 := b9.ext x28
  replace b19 := b19.ext x28
  have q31 := Ext.refl W27
  have r32 := b3
  have r33 := b9
  have r34 := b19
  refine tk 0 rfl (by kernel_rfl) q31 (pv (fun _ y35 => rldb (v := .slice _ _ _) rfl sc25 (r32.ext y35) rfl)) ?_
  refine tk 1 rfl (by kernel_rfl) q31 (pv (fun _ y36 => rlen sl25 rfl)) ?_
  refine tk 2 rfl (by kernel_rfl) q31 (pv (fun _ y37 => rldb (v := .slice _ _ _) rfl sc25 (r33.ext y37) rfl)) ?_
  refine tk 3 rfl (by kernel_rfl) q31 (pv (fun _ y38 => rlen sl25 rfl)) ?_
  refine tk 4 rfl (by kernel_rfl) q31 (pv (fun _ y39 => rmax rfl rfl (show max (n : Int) (m : Int) = ((max n m : Nat) : Int) by omega))) ?_
  refine tk 5 rfl (by kernel_rfl) q31 (pv (fun _ y40 => rldb (v := .int _ _) rfl sc3 (r34.ext y40) rfl)) ?_
  refine tk 6 rfl (by kernel_rfl) q31 (pv (fun _ y41 => rldb (v := .slice _ _ _) rfl sc25 (r33.ext y41) rfl)) ?_
  refine tk 9 rfl (by kernel_rfl) q31 (pv (fun _ y42 => rmk3 (v := .pointer (some ⟨_, _, none⟩)) (u := .pointer (some ⟨_, _, none⟩)) (u3 := .pointer (some ⟨_, _, none⟩)) rfl rfl rfl)) ?_
  refine ef 7 (by kernel_rfl) rfl ?_
  refine xcall e18 (mCols_ok _ _ _ _ _ _ _ (hy.ext z30)) rfl rfl ?_
  rintro _ W43 ⟨rfl, x44⟩
  have s45 := x44.sz
  have z46 := z30.trans x44
  replace b3 := b3.ext x44
  replace b9 := b9.ext x44
  replace b19 := b19.ext x44
  have q47 := q31.trans x44
  refine ⟨_, rfl, ?_⟩
  refine ⟨fun _ => q47, ?_⟩
  refine tk 8 rfl (by kernel_rfl) q47 (pv (fun _ y48 => rbin (bAdd (show IntKind.i64.wrap ((colsN rss : Int) + (colsN mss : Int)) = ((colsN rss + colsN mss : Nat) : Int) by rw [wi (by omega)]; omega)) rfl rfl)) ?_
  refine tk 10 rfl (by kernel_rfl) q47 (pv (fun _ y49 => rbd (ps := [(0, .int _ _), (1, .int _ _), (2, .func _ _ _)]) (cs := [.int _ _, .int _ _, .func _ _ _]) pl55 rfl rfl)) ?_
  refine ef 11 (by kernel_rfl) rfl ?_
  refine xcall e33 (gmade_ok (max n m) (colsN rss + colsN mss) 40 [.pointer (some ⟨W13.heap.size, 0, none⟩), .pointer (some ⟨w.heap.size, 0, none⟩), .pointer (some ⟨W1.heap.size, 0, none⟩)] (catI rss mss (colsN rss)) (max L1 L2) S _ e40 (fun W i k S' x u _ hk => mCat1_ok _ _ _ _ _ _ i k (colsN rss) _ _ _ L1 L2 rss mss S' S1 S2 W (b19.ext x) (b3.ext x) (b9.ext x) ((hx.ext z46).ext x) ((hy.ext z46).ext x) hL hl1 hL2 hl2 (by omega) u) (fun i k => szCat hx hy hl1 hl2 (Nat.le_refl _) _ _ _) (by omega) (by omega) (by omega) (by omega) (hu.mono (by omega))) rfl rfl ?_
  rintro _ W50 ⟨_, _, _, rfl, x51, hv⟩
  have s52 := x51.sz
  have z53 := z46.trans x51
  replace b3 := b3.ext x51
  replace b9 := b9.ext x51
  replace b19 := b19.ext x51
  have q54 := q47.trans x51
  refine ⟨_, rfl, ?_⟩
  refine ⟨fun _ => q54, ?_⟩
  refine tk 12 rfl (by kernel_rfl) q54 (pv (fun _ y55 => ras (v := .slice _ _ _) rfl)) ?_
  refine dn (by kernel_rfl) ?_
  refine V.ret ?_
  refine ⟨[.slice _ _ _], ⟨rfl, trivial⟩, ?_⟩
  exact ⟨_, _, _, rfl, z53, hv⟩
set_option maxHeartbeats 400000 in
theorem mTr1_ok (a1 : Option Addr) (n c : Nat) (i k : Int) (b : Nat) (L1 : Nat) (rss : List (List Rat)) (S S1 : Nat → Prop) (w : World) (hb : BoxAt w b [.slice a1 n c] 25) (hx : MA L1 S1 w a1 n c rss) (hL : L1 < LY) (hl1 : 1 ≤ L1) (hu : Up S w) :
    Calls Try.prog 56 #[.int .i64 i, .int .i64 k, .pointer (some ⟨b, 0, none⟩)] w (PQ S (matI rss k i) w) := by
  have z0 := Ext.refl w; have hLX : LX = 17592186044416 := rfl; have hLY : LY = 8796093022208 := rfl
  have lb := hb.lt
  have hu2 : ∀ W : World, w.heap.size + 1 ≤ W.heap.size → Up (SX S [w.heap.size]) W := fun W hW => SX.up (hu.mono (by omega)) (by simp <;> omega)
  refine enter (args := [.int .i64 i, .int .i64 k, .pointer (some ⟨b, 0, none⟩)]) Try.func56 rfl rfl (Nat.le_of_ble_eq_true rfl) ?_
  refine V.seq (V.reg rfl ?_)
  refine vo ?_
  refine xal zc43 ?_
  intro W1 x2 b3 nn4
  have s5 := x2.sz
  have z6 := x2
  replace hb := hb.ext x2
  refine vnil ?_
  refine V.seq (V.reg rfl ?_)
  refine vv (rldb (v := .slice _ _ _) rfl sc25 hb rfl) ?_
  refine mvi rfl ?_
  refine mvi rfl ?_
  refine vo ?_
  refine xcall e21 (mAt_ok _ _ _ _ _ _ _ _ _ _ (hx.ext z6) (by omega) (by omega) (hu2 _ (by omega))) rfl rfl ?_
  rintro _ W8 ⟨_, rfl, x9, hq7⟩
  have s10 := x9.sz
  have z11 := z6.trans x9
  replace hb := hb.ext x9
  replace b3 := b3.ext x9
  obtain ⟨_, _, _, _, _, _, _, _, rfl⟩ := hq7.form
  refine ⟨_, rfl, ?_⟩
  refine vo ?_
  refine sta (cs' := [_, _, _, _]) b3 rfl rfl sz43 rfl rfl rfl ?_
  intro W12 y13 b3
  have z14 := z11.below (y13.below (by omega))
  replace hb := hb.wr y13 (by omega)
  have s15 := y13.size
  refine vnil ?_
  refine V.ret ?_
  refine ⟨[_], ⟨⟨_, rfl, lvb ag43 b3 rfl⟩, trivial⟩, ?_⟩
  exact ⟨_, rfl, z14, ((hq7.ck (y13.ck (by intro hh; simp [SX] at hh <;> omega)))).un⟩
set_option maxHeartbeats 400000 in
theorem mTr_ok (a1 : Option Addr) (n c : Nat) (L1 : Nat) (rss : List (List Rat)) (S S1 : Nat → Prop) (w : World) (hx : MA L1 S1 w a1 n c rss) (hL : L1 < LY) (hl1 : 1 ≤ L1) (hn : n ≤ LV) (hc : colsN rss ≤ LV) (hu : Up S w) :
    Calls Try.prog 30 #[.slice a1 n c] w (fun e w' => ∃ ra rk rc, e = .returned (.slice ra rk rc) ∧ Ext w w' ∧ MC S w' ra rk rc (gridm (fun i k => matI rss k i) (colsN rss) n)) := by
  have z0 := Ext.refl w; have hLX : LX = 17592186044416 := rfl; have hLY : LY = 8796093022208 := rfl
  have hLV : LV = 1099511627776 := rfl
  refine enter (args := [.slice a1 n c]) Try.func30 rfl rfl (Nat.le_of_ble_eq_true rfl) ?_
  refine V.seq (V.reg rfl ?_)
  refine vo ?_
  refine bxs rfl ?_
  intro W1 x2 b3 nn4
  have s5 := x2.sz
  have z6 := x2
  refine ass rfl ?_
  refine vnil ?_
  refine V.seq (V.regD mixed rfl ?_)
  intro W7 x8
  have s9 := x8.sz
  have z10 := z6.trans x8
  replace b3 := b3.ext x8
  have q11 := Ext.refl W7
  have r12 := b3
  refine tk 0 rfl (by kernel_rfl) q11 (pv (fun _ y13 => rldb (v := .slice _ _ _) rfl sc25 (r12.ext y13) rfl)) ?_
  refine tk 2 rfl (by kernel_rfl) q11 (pv (fun _ y14 => rldb (v := .slice _ _ _) rfl sc25 (r12.ext y14) rfl)) ?_
  refine tk 3 rfl (by kernel_rfl) q11 (pv (fun _ y15 => rlen sl25 rfl)) ?_
  refine tk 4 rfl (by kernel_rfl) q11 (pv (fun _ y16 => rmk1 (v := .pointer (some ⟨_, _, none⟩)) rfl)) ?_
  refine ef 1 (by kernel_rfl) rfl ?_
  refine xcall e18 (mCols_ok _ _ _ _ _ _ _ (hx.ext z10)) rfl rfl ?_
  rintro _ W17 ⟨rfl, x18⟩
  have s19 := x18.sz
  have z20 := z10.trans x18
  replace b3 := b3.ext x18
  have q21 := q11.trans x18
  refine ⟨_, rfl, ?_⟩
  refine ⟨fun _ => q21, ?_⟩
  refine tk 5 rfl (by kernel_rfl) q21 (pv (fun _ y22 => rbd (ps := [(0, .int _ _), (1, .int _ _), (2, .func _ _ _)]) (cs := [.int _ _, .int _ _, .func _ _ _]) pl55 rfl rfl)) ?_
  refine ef 6 (by kernel_rfl) rfl ?_
  refine xcall e33 (gmade_ok (colsN rss) n 56 [.pointer (some ⟨w.heap.size, 0, none⟩)] (fun i k => matI rss k i) L1 S _ e56 (fun W i k S' x u _ _ => mTr1_ok _ _ _ i k _ L1 rss S' S1 W (b3.ext x) ((hx.ext z20).ext x) hL hl1 u) (fun i k => szMI hx hl1 _ _) hL hl1 (by omega) (by omega) (hu.mono (by omega))) rfl rfl ?_
  rintro _ W23 ⟨_, _, _, rfl, x24, hv⟩
  have s25 := x24.sz
  have z26 := z20.trans x24
  replace b3 := b3.ext x24
  have q27 := q21.trans x24
  refine ⟨_, rfl, ?_⟩
  refine ⟨fun _ => q27, ?_⟩
  refine tk 7 rfl (by kernel_rfl) q27 (pv (fun _ y28 => ras (v := .slice _ _ _) rfl)) ?_
  refine dn (by kernel_rfl) ?_
  refine V.ret ?_
  refine ⟨[.slice _ _ _], ⟨rfl, trivial⟩, ?_⟩
  exact ⟨_, _, _, rfl, z26, hv⟩
set_option maxHeartbeats 400000 in
theorem mIdent_ok (z : Int) (N : Nat) (S : Nat → Prop) (w : World) (hN : min (max z 0) 1024 = (N : Int)) (hu : Up S w) :
    Calls Try.prog 68 #[.int .i64 z] w (fun e w' => ∃ ra rk rc, e = .returned (.slice ra rk rc) ∧ Ext w w' ∧ MC S w' ra rk rc (identm N)) := by
  have z0 := Ext.refl w; have hLX : LX = 17592186044416 := rfl; have hLY : LY = 8796093022208 := rfl
  have hLV : LV = 1099511627776 := rfl
  refine enter (args := [.int .i64 z]) Try.func68 rfl rfl (Nat.le_of_ble_eq_true rfl) ?_
  refine V.seq (V.reg rfl ?_)
  refine ass rfl ?_
  refine vnil ?_
  refine V.seq ?_
  refine V.seq (V.reg rfl ?_)
  refine mvi rfl ?_
  refine vo ?_
  refine xcall e31 (mcut_ok' _ N _ hN) rfl rfl ?_
  rintro _ _ ⟨rfl, rfl⟩
  refine ⟨_, rfl, ?_⟩
  refine mvi rfl ?_
  refine vnil ?_
  refine V.block ?_
  refine V.loopK (ι := Nat × Value) [(0, .int _ _), (5, .int _ _)] (fun ⟨k, v⟩ => [(6, .int .i64 (k : Int)), (2, v)]) (fun ⟨k, v⟩ W => Ext w W ∧ k ≤ N ∧ GO 1 (RowOf GC) S w.heap.size W 30 v ((List.range k).map fun i : Nat => unitv N (i : Int))) (fun ⟨k, v⟩ => N - k) ((0, _)) ⟨rfl, rfl, trivial⟩ ⟨rfl, rfl, trivial⟩ ⟨Ext.refl _, Nat.zero_le _, GO.nil _ _⟩ ?_
  intro i3 E4 W2 h5
  obtain ⟨k, v⟩ := i3
  simp only at h5
  show V _ _ _ _ _ _ (ups (ups _ _) [(6, .int .i64 (k : Int)), (2, v)]) _
  obtain ⟨x6, hk, hO⟩ := h5
  have s7 := x6.sz
  have z8 := x6
  refine V.seq (V.reg rfl ?_)
  refine vlt rfl rfl ?_ ?_
  · intro c9
    refine vnil ?_
    refine V.seq ?_
    refine V.condT rfl ?_
    refine V.skip ?_
    refine V.seq ?_
    refine V.block ?_
    refine V.seq (V.reg rfl ?_)
    refine mvi rfl ?_
    refine asi rfl ?_
    refine vnil ?_
    refine V.reg rfl ?_
    refine vv (rmv (v := v) rfl) ?_
    refine mvi rfl ?_
    refine vo ?_
    refine xcall e31 (mcut_ok' _ N _ hN) rfl rfl ?_
    rintro _ _ ⟨rfl, rfl⟩
    refine ⟨_, rfl, ?_⟩
    refine mvi rfl ?_
    refine vo ?_
    refine xcall e19 (vUnit_ok _ _ N _ _ (by omega) (GO.up hO hu (by omega))) rfl rfl ?_
    rintro _ W11 ⟨_, _, _, rfl, x12, hvu⟩
    have s13 := x12.sz
    have z14 := z8.trans x12
    replace hO := hO.ext okRowC x12
    refine ⟨_, rfl, ?_⟩
    refine vo ?_
    refine xbs (ps := [(0, .slice _ _ _)]) (cs := [.slice _ _ _]) sl25 zr30 sz30 rfl rfl rfl rfl rfl rfl ?_
    intro W15 x16 b17 nn18
    have s19 := x16.sz
    have z20 := z14.trans x16
    replace hO := hO.ext okRowC x16
    refine vo ?_
    refine xappG okRowC sl25 in30 rfl rfl hO rfl rfl b17 rfl rfl ((⟨_, _, _, rfl, (hvu.ext x16)⟩ : RowOf GC _ _ _ _)) (by simp; omega) (by decide) (by omega) ?_
    intro v21 W22 hO23 hg24
    have y25 := hg24.below; have s26 := y25.size
    have z27 := z20.below (y25.mono (by omega))
    refine vv (ras (v := v21) rfl) ?_
    refine vnil ?_
    refine V.reg rfl ?_
    refine vv (rbin (bAdd (wi (by omega))) rfl rfl) ?_
    refine mvi rfl ?_
    refine vnil ?_
    refine ⟨rfl, (k + 1, _), ⟨rfl, rfl, trivial⟩, ⟨rfl, rfl, trivial⟩, ⟨z27, by omega, by rw [identm_succ]; exact hO23⟩, ?_⟩
    show N - (k + 1) < N - k
    omega
  · intro c9
    refine vnil ?_
    refine V.seq ?_
    refine V.condF rfl ?_
    refine V.exit ?_
    refine V.seq (V.reg rfl ?_)
    refine vv (rmv (v := v) rfl) ?_
    refine vv (ras (v := v) rfl) ?_
    refine vnil ?_
    refine V.ret ?_
    refine ⟨[v], ⟨rfl, trivial⟩, ?_⟩
    obtain ⟨a', c', rfl⟩ := hO.form
    have hf := hO.fin okRowC (fun b hb _ => hu b (by omega))
    have ek : k = N := (by omega)
    subst ek
    exact ⟨_, _, _, rfl, z8, hf⟩
set_option maxHeartbeats 400000 in
theorem mFrom_ok (a1 : Option Addr) (n c : Nat) (zss : List (List Int)) (S S1 : Nat → Prop) (w : World) (hx : MI S1 w a1 n c zss) (hn : n ≤ LV) (hR : ∀ r ∈ zss, r.length ≤ LV) (hu : Up S w) :
    Calls Try.prog 10 #[.slice a1 n c] w (fun e w' => ∃ ra rk rc, e = .returned (.slice ra rk rc) ∧ Ext w w' ∧ MC S w' ra rk rc (zss.map fun r => r.map fun z : Int => (z : Rat))) := by
  have z0 := Ext.refl w; have hLX : LX = 17592186044416 := rfl; have hLY : LY = 8796093022208 := rfl
  have hLV : LV = 1099511627776 := rfl
  have l1 := hx.len; have l2 := hx.max
  refine enter (args := [.slice a1 n c]) Try.func10 rfl rfl (Nat.le_of_ble_eq_true rfl) ?_
  refine V.seq (V.reg rfl ?_)
  refine ass rfl ?_
  refine vnil ?_
  refine V.seq ?_
  refine V.seq (V.reg rfl ?_)
  refine mvs rfl ?_
  refine vv (rlen sl23 rfl) ?_
  refine mvi rfl ?_
  refine vnil ?_
  refine V.block ?_
  refine V.loopK (ι := Nat × Value) [(5, .slice _ _ _), (6, .int _ _)] (fun ⟨k, v⟩ => [(7, .int .i64 (k : Int)), (2, v)]) (fun ⟨k, v⟩ W => Ext w W ∧ k ≤ n ∧ GO 1 (RowOf GC) S w.heap.size W 30 v ((zss.take k).map fun r => r.map fun z : Int => (z : Rat))) (fun ⟨k, v⟩ => n - k) ((0, _)) ⟨rfl, rfl, trivial⟩ ⟨rfl, rfl, trivial⟩ ⟨Ext.refl _, Nat.zero_le _, GO.nil _ _⟩ ?_
  intro i2 E3 W1 h4
  obtain ⟨k, v⟩ := i2
  simp only at h4
  show V _ _ _ _ _ _ (ups (ups _ _) [(7, .int .i64 (k : Int)), (2, v)]) _
  obtain ⟨x5, hk, hO⟩ := h4
  have s6 := x5.sz
  have z7 := x5
  refine V.seq (V.reg rfl ?_)
  refine vlt rfl rfl ?_ ?_
  · intro c8
    have hrw : (rowat zss ((k : Int)).toNat).length ≤ LV := row_leG hR _
    refine vnil ?_
    refine V.seq ?_
    refine V.condT rfl ?_
    refine V.skip ?_
    refine V.seq ?_
    refine V.block ?_
    refine V.seq (V.reg rfl ?_)
    refine vv (rix sl23 sz49 rfl rfl (by omega) (by omega) ((hx.ext z7).isS (i := 0) (by omega) (by omega))) ?_
    refine vldRow (hx.ext z7) rfl sc49 (by omega) (by omega) ?_
    intro a9 n10 c11 hg12
    have hg12l := hg12.len; have hg12m := hg12.max
    refine ass rfl ?_
    refine vnil ?_
    refine V.reg rfl ?_
    refine vv (rmv (v := v) rfl) ?_
    refine mvs rfl ?_
    refine vo ?_
    refine xcall e27 (vFrom_ok _ _ _ _ _ _ _ hg12 (by omega) (GO.up hO hu (by omega))) rfl rfl ?_
    rintro _ W14 ⟨_, _, _, rfl, x15, hv13⟩
    have s16 := x15.sz
    have z17 := z7.trans x15
    replace hO := hO.ext okRowC x15
    have hv13l := hv13.len
    refine ⟨_, rfl, ?_⟩
    refine vo ?_
    refine xbs (ps := [(0, .slice _ _ _)]) (cs := [.slice _ _ _]) sl25 zr30 sz30 rfl rfl rfl rfl rfl rfl ?_
    intro W18 x19 b20 nn21
    have s22 := x19.sz
    have z23 := z17.trans x19
    replace hO := hO.ext okRowC x19
    refine vo ?_
    refine xappG okRowC sl25 in30 rfl rfl hO rfl rfl b20 rfl rfl ((⟨_, _, _, rfl, (hv13.ext x19)⟩ : RowOf GC _ _ _ _)) (by simp; omega) (by decide) (by omega) ?_
    intro v24 W25 hO26 hg27
    have y28 := hg27.below; have s29 := y28.size
    have z30 := z23.below (y28.mono (by omega))
    refine vv (ras (v := v24) rfl) ?_
    refine vnil ?_
    refine V.reg rfl ?_
    refine vv (rbin (bAdd (wi (by omega))) rfl rfl) ?_
    refine mvi rfl ?_
    refine vnil ?_
    refine ⟨rfl, (k + 1, _), ⟨rfl, rfl, trivial⟩, ⟨rfl, rfl, trivial⟩, ⟨z30, by omega, by rw [take_rowG _ zss k (by omega)]; exact hO26⟩, ?_⟩
    show n - (k + 1) < n - k
    omega
  · intro c8
    refine vnil ?_
    refine V.seq ?_
    refine V.condF rfl ?_
    refine V.exit ?_
    refine V.seq (V.reg rfl ?_)
    refine vv (rmv (v := v) rfl) ?_
    refine vv (ras (v := v) rfl) ?_
    refine vnil ?_
    refine V.ret ?_
    refine ⟨[v], ⟨rfl, trivial⟩, ?_⟩
    obtain ⟨a', c', rfl⟩ := hO.form
    have hf := hO.fin okRowC (fun b hb _ => hu b (by omega))
    refine ⟨_, _, _, rfl, z7, ?_⟩
    rw [List.take_of_length_le (by omega)] at hf ⊢
    exact hf
set_option maxHeartbeats 400000 in
theorem mboth_iter {D : Nat → Prop} {w : World} {a1 a2 : Option Addr} {n c m d : Nat} {qs1 qs2 : List (List Value)} {b1 b2 : Nat} (hb1 : BoxAt w b1 [.slice a1 n c] 25) (hb2 : BoxAt w b2 [.slice a2 m d] 25) (hx : RS 1 D w a1 n c qs1) (hy : RS 1 D w a2 m d qs2) (f1 : ∀ q ∈ qs1, form1 q) (f2 : ∀ q ∈ qs2, form1 q) (h1 : D b1) (h2 : D b2) :
    Iter Try.prog 66 #[.pointer (some ⟨b1, 0, none⟩), .pointer (some ⟨b2, 0, none⟩)] (fun i => rvat qs1 i) (fun i => rvat qs2 i) D (max n m) w := by
  have z0 := Ext.refl w; have hLX : LX = 17592186044416 := rfl; have hLY : LY = 8796093022208 := rfl
  intro l J Jx X hX hJs hJxs hY hJ0
  have hx0 := hx.ext hX; have hy0 := hy.ext hX; have b10 := hb1.ext hX; have b20 := hb2.ext hX
  have l1 := hx.len; have l2 := hy.len; have q1 := hx.cap; have q2 := hy.cap; have q3 := hx.max; have q4 := hy.max
  refine enter (args := [.func (.yield l) #[] #[], .pointer (some ⟨b1, 0, none⟩), .pointer (some ⟨b2, 0, none⟩)]) Try.func66 rfl rfl (Nat.le_of_ble_eq_true rfl) ?_
  refine V.seq (V.reg rfl ?_)
  refine vv (rldb (v := .slice _ _ _) rfl sc25 b10 rfl) ?_
  refine vv (rlen sl25 rfl) ?_
  refine vv (rldb (v := .slice _ _ _) rfl sc25 b20 rfl) ?_
  refine vv (rlen sl25 rfl) ?_
  refine vv (rmax rfl rfl (show max (n : Int) (m : Int) = ((max n m : Nat) : Int) by omega)) ?_
  refine mvi rfl ?_
  refine vnil ?_
  refine V.block ?_
  refine V.loopK (ι := Nat) [(0, .func _ _ _), (1, .pointer (some ⟨_, _, none⟩)), (2, .pointer (some ⟨_, _, none⟩)), (11, .int _ _)] (fun k => [(12, .int .i64 (k : Int))]) (fun k W => J k W ∧ KD D w W ∧ k ≤ max n m) (fun k => max n m - k) (0) ⟨rfl, rfl, rfl, rfl, trivial⟩ ⟨rfl, trivial⟩ ⟨hJ0, hX.kd, Nat.zero_le _⟩ ?_
  intro k E2 W1 h3
  obtain ⟨hJ, hkd, hk⟩ := h3
  have hx1 := hx.kd hkd
  have hy1 := hy.kd hkd
  have b1' := hb1.kd hkd h1; have b2' := hb2.kd hkd h2
  refine V.seq (V.reg rfl ?_)
  refine vlt rfl rfl ?_ ?_
  · intro c4
    refine vnil ?_
    refine V.seq ?_
    refine V.condT rfl ?_
    refine V.skip ?_
    refine V.seq ?_
    refine V.block ?_
    refine V.seq (V.reg rfl ?_)
    refine mvi rfl ?_
    refine asi rfl ?_
    refine vnil ?_
    refine V.seq (V.reg rfl ?_)
    refine ass rfl ?_
    refine ass rfl ?_
    refine vnil ?_
    refine V.seq ?_
    refine V.seq (V.reg rfl ?_)
    refine mvi rfl ?_
    refine vv (rldb (v := .slice _ _ _) rfl sc25 b1' rfl) ?_
    refine vv (rlen sl25 rfl) ?_
    refine vlt rfl rfl ?_ ?_
    · intro c5
      refine vnil ?_
      refine V.condT rfl ?_
      refine V.reg rfl ?_
      refine vv (rldb (v := .slice _ _ _) rfl sc25 b1' rfl) ?_
      refine mvi rfl ?_
      refine vv (rix sl25 sz30 rfl rfl (by omega) (by omega) (hx1.isS (i := 0) (by omega) (by omega))) ?_
      refine vldR1 hx1 f1 rfl sc30 (by omega) (by omega) ?_
      intro a6 n7 c8 hq9
      refine ass rfl ?_
      refine vnil ?_
      refine V.seq ?_
      refine V.seq (V.reg rfl ?_)
      refine mvi rfl ?_
      refine vv (rldb (v := .slice _ _ _) rfl sc25 b2' rfl) ?_
      refine vv (rlen sl25 rfl) ?_
      refine vlt rfl rfl ?_ ?_
      · intro c10
        refine vnil ?_
        refine V.condT rfl ?_
        refine V.reg rfl ?_
        refine vv (rldb (v := .slice _ _ _) rfl sc25 b2' rfl) ?_
        refine mvi rfl ?_
        refine vv (rix sl25 sz30 rfl rfl (by omega) (by omega) (hy1.isS (i := 0) (by omega) (by omega))) ?_
        refine vldR1 hy1 f2 rfl sc30 (by omega) (by omega) ?_
        intro a11 n12 c13 hq14
        refine ass rfl ?_
        refine vnil ?_
        refine V.seq (V.reg rfl ?_)
        refine mvf rfl ?_
        refine mvs rfl ?_
        refine mvs rfl ?_
        refine vo ?_
        have hYk : ∀ u v : Value, u = rvat qs1 k → v = rvat qs2 k → YieldAt Fence.wide 0 Try.prog l #[u, v] W1 (fun e B => (e = .returned (.bool true) ∧ J (k + 1) B ∧ KD D W1 B) ∨ (e = .returned (.bool false) ∧ Jx k B ∧ KD D W1 B)) := by intro u v eu ev; subst eu; subst ev; exact hY k _ hJ (by omega) hkd
        refine xyield (vs := [.slice _ _ _, .slice _ _ _]) rfl rfl (hYk (.slice _ _ _) (.slice _ _ _) (by rw [show ((k : Int)).toNat = k by omega] at hq9; exact hq9.symm) (by rw [show ((k : Int)).toNat = k by omega] at hq14; exact hq14.symm)) ?_
        rintro _ W' (⟨rfl, hJ', hkd'⟩ | ⟨rfl, hJx, hkd'⟩) <;> refine ⟨_, rfl, ?_⟩
        · skip
          refine vv (rnot (q := false) rfl rfl) ?_
          refine vnil ?_
          refine V.condF rfl ?_
          refine V.skip ?_
          refine V.reg rfl ?_
          refine vv (rbin (bAdd (wi (by omega))) rfl rfl) ?_
          refine mvi rfl ?_
          refine vnil ?_
          refine ⟨rfl, k + 1, ⟨rfl, rfl, rfl, rfl, trivial⟩, ⟨rfl, trivial⟩, ⟨hJ', hkd.trans hkd', by omega⟩, ?_⟩
          show max n m - (k + 1) < max n m - k
          omega
        · skip
          refine vv (rnot (q := true) rfl rfl) ?_
          refine vnil ?_
          refine V.condT rfl ?_
          refine V.ret ?_
          refine ⟨[], trivial, ?_⟩
          exact ⟨⟨_, rfl⟩, .inr ⟨k, by omega, hJx⟩⟩
      · intro c10
        refine vnil ?_
        refine V.condF rfl ?_
        refine V.skip ?_
        refine V.seq (V.reg rfl ?_)
        refine mvf rfl ?_
        refine mvs rfl ?_
        refine mvs rfl ?_
        refine vo ?_
        have hYk : ∀ u v : Value, u = rvat qs1 k → v = rvat qs2 k → YieldAt Fence.wide 0 Try.prog l #[u, v] W1 (fun e B => (e = .returned (.bool true) ∧ J (k + 1) B ∧ KD D W1 B) ∨ (e = .returned (.bool false) ∧ Jx k B ∧ KD D W1 B)) := by intro u v eu ev; subst eu; subst ev; exact hY k _ hJ (by omega) hkd
        refine xyield (vs := [.slice _ _ _, .slice _ _ _]) rfl rfl (hYk (.slice _ _ _) (.slice _ _ _) (by rw [show ((k : Int)).toNat = k by omega] at hq9; exact hq9.symm) (by exact (rvat_ge (by omega)).symm)) ?_
        rintro _ W' (⟨rfl, hJ', hkd'⟩ | ⟨rfl, hJx, hkd'⟩) <;> refine ⟨_, rfl, ?_⟩
        · skip
          refine vv (rnot (q := false) rfl rfl) ?_
          refine vnil ?_
          refine V.condF rfl ?_
          refine V.skip ?_
          refine V.reg rfl ?_
          refine vv (rbin (bAdd (wi (by omega))) rfl rfl) ?_
          refine mvi rfl ?_
          refine vnil ?_
          refine ⟨rfl, k + 1, ⟨rfl, rfl, rfl, rfl, trivial⟩, ⟨rfl, trivial⟩, ⟨hJ', hkd.trans hkd', by omega⟩, ?_⟩
          show max n m - (k + 1) < max n m - k
          omega
        · skip
          refine vv (rnot (q := true) rfl rfl) ?_
          refine vnil ?_
          refine V.condT rfl ?_
          refine V.ret ?_
          refine ⟨[], trivial, ?_⟩
          exact ⟨⟨_, rfl⟩, .inr ⟨k, by omega, hJx⟩⟩
    · intro c5
      refine vnil ?_
      refine V.condF rfl ?_
      refine V.skip ?_
      refine V.seq ?_
      refine V.seq (V.reg rfl ?_)
      refine mvi rfl ?_
      refine vv (rldb (v := .slice _ _ _) rfl sc25 b2' rfl) ?_
      refine vv (rlen sl25 rfl) ?_
      refine vlt rfl rfl ?_ ?_
      · intro c15
        refine vnil ?_
        refine V.condT rfl ?_
        refine V.reg rfl ?_
        refine vv (rldb (v := .slice _ _ _) rfl sc25 b2' rfl) ?_
        refine mvi rfl ?_
        refine vv (rix sl25 sz30 rfl rfl (by omega) (by omega) (hy1.isS (i := 0) (by omega) (by omega))) ?_
        refine vldR1 hy1 f2 rfl sc30 (by omega) (by omega) ?_
        intro a16 n17 c18 hq19
        refine ass rfl ?_
        refine vnil ?_
        refine V.seq (V.reg rfl ?_)
        refine mvf rfl ?_
        refine mvs rfl ?_
        refine mvs rfl ?_
        refine vo ?_
        have hYk : ∀ u v : Value, u = rvat qs1 k → v = rvat qs2 k → YieldAt Fence.wide 0 Try.prog l #[u, v] W1 (fun e B => (e = .returned (.bool true) ∧ J (k + 1) B ∧ KD D W1 B) ∨ (e = .returned (.bool false) ∧ Jx k B ∧ KD D W1 B)) := by intro u v eu ev; subst eu; subst ev; exact hY k _ hJ (by omega) hkd
        refine xyield (vs := [.slice _ _ _, .slice _ _ _]) rfl rfl (hYk (.slice _ _ _) (.slice _ _ _) (by exact (rvat_ge (by omega)).symm) (by rw [show ((k : Int)).toNat = k by omega] at hq19; exact hq19.symm)) ?_
        rintro _ W' (⟨rfl, hJ', hkd'⟩ | ⟨rfl, hJx, hkd'⟩) <;> refine ⟨_, rfl, ?_⟩
        · skip
          refine vv (rnot (q := false) rfl rfl) ?_
          refine vnil ?_
          refine V.condF rfl ?_
          refine V.skip ?_
          refine V.reg rfl ?_
          refine vv (rbin (bAdd (wi (by omega))) rfl rfl) ?_
          refine mvi rfl ?_
          refine vnil ?_
          refine ⟨rfl, k + 1, ⟨rfl, rfl, rfl, rfl, trivial⟩, ⟨rfl, trivial⟩, ⟨hJ', hkd.trans hkd', by omega⟩, ?_⟩
          show max n m - (k + 1) < max n m - k
          omega
        · skip
          refine vv (rnot (q := true) rfl rfl) ?_
          refine vnil ?_
          refine V.condT rfl ?_
          refine V.ret ?_
          refine ⟨[], trivial, ?_⟩
          exact ⟨⟨_, rfl⟩, .inr ⟨k, by omega, hJx⟩⟩
      · intro c15
        refine vnil ?_
        refine V.condF rfl ?_
        refine V.skip ?_
        refine V.seq (V.reg rfl ?_)
        refine mvf rfl ?_
        refine mvs rfl ?_
        refine mvs rfl ?_
        refine vo ?_
        have hYk : ∀ u v : Value, u = rvat qs1 k → v = rvat qs2 k → YieldAt Fence.wide 0 Try.prog l #[u, v] W1 (fun e B => (e = .returned (.bool true) ∧ J (k + 1) B ∧ KD D W1 B) ∨ (e = .returned (.bool false) ∧ Jx k B ∧ KD D W1 B)) := by intro u v eu ev; subst eu; subst ev; exact hY k _ hJ (by omega) hkd
        refine xyield (vs := [.slice _ _ _, .slice _ _ _]) rfl rfl (hYk (.slice _ _ _) (.slice _ _ _) (by exact (rvat_ge (by omega)).symm) (by exact (rvat_ge (by omega)).symm)) ?_
        rintro _ W' (⟨rfl, hJ', hkd'⟩ | ⟨rfl, hJx, hkd'⟩) <;> refine ⟨_, rfl, ?_⟩
        · skip
          refine vv (rnot (q := false) rfl rfl) ?_
          refine vnil ?_
          refine V.condF rfl ?_
          refine V.skip ?_
          refine V.reg rfl ?_
          refine vv (rbin (bAdd (wi (by omega))) rfl rfl) ?_
          refine mvi rfl ?_
          refine vnil ?_
          refine ⟨rfl, k + 1, ⟨rfl, rfl, rfl, rfl, trivial⟩, ⟨rfl, trivial⟩, ⟨hJ', hkd.trans hkd', by omega⟩, ?_⟩
          show max n m - (k + 1) < max n m - k
          omega
        · skip
          refine vv (rnot (q := true) rfl rfl) ?_
          refine vnil ?_
          refine V.condT rfl ?_
          refine V.ret ?_
          refine ⟨[], trivial, ?_⟩
          exact ⟨⟨_, rfl⟩, .inr ⟨k, by omega, hJx⟩⟩
  · intro c4
    refine vnil ?_
    refine V.seq ?_
    refine V.condF rfl ?_
    refine V.exit ?_
    refine ⟨[], trivial, ?_⟩
    exact ⟨⟨_, rfl⟩, .inl (by rw [show max n m = k by omega]; exact hJ)⟩
set_option maxHeartbeats 400000 in
theorem mboth_ok (a1 a2 : Option Addr) (n c m d : Nat) (w : World) :
    Calls Try.prog 41 #[.slice a1 n c, .slice a2 m d] w (fun e w' => ∃ b1 b2, b1 = w.heap.size ∧ b2 = w.heap.size + 1 ∧ e = .returned (.func (.func 66) #[] #[.pointer (some ⟨b1, 0, none⟩), .pointer (some ⟨b2, 0, none⟩)]) ∧ Ext w w' ∧ BoxAt w' b1 [.slice a1 n c] 25 ∧ BoxAt w' b2 [.slice a2 m d] 25) := by
  have z0 := Ext.refl w; have hLX : LX = 17592186044416 := rfl; have hLY : LY = 8796093022208 := rfl
  refine enter (args := [.slice a1 n c, .slice a2 m d]) Try.func41 rfl rfl (Nat.le_of_ble_eq_true rfl) ?_
  refine V.seq (V.reg rfl ?_)
  refine vo ?_
  refine bxs rfl ?_
  intro W1 x2 b3 nn4
  have s5 := x2.sz
  have z6 := x2
  refine vo ?_
  refine bxs rfl ?_
  intro W7 x8 b9 nn10
  have s11 := x8.sz
  have z12 := z6.trans x8
  replace b3 := b3.ext x8
  refine asn rfl ?_
  refine vnil ?_
  refine V.seq (V.reg rfl ?_)
  refine vv (rmk2 (v := .pointer (some ⟨_, _, none⟩)) (u := .pointer (some ⟨_, _, none⟩)) rfl rfl) ?_
  refine asf rfl ?_
  refine vnil ?_
  refine V.ret ?_
  refine ⟨[.func _ _ _], ⟨rfl, trivial⟩, ?_⟩
  exact ⟨_, _, rfl, by omega, rfl, z12, b3, b9⟩
end Go.Proofs.Ytknbjfefeeojlaa

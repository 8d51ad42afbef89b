/- Package solve: NullSpace. -/
import Derived.Test.YtknbjfefeeojlaaGreatMgqlk7
namespace Go.Proofs.YtknbjfefeeojlaaGreat
open Go.RowKit
attribute [local irreducible] RV VH V OpF Calls
theorem GO.tn {ρt : Type} {El : (Nat → Prop) → World → List Value → ρt → Prop} {S : Nat → Prop} {s B B' : Nat} {W W' : World} {e : TypeId} {v : Value} {rs : List ρt} (ok : ElOK El) (h : GO s El S B W e v rs) (t : Tn B' W W') : GO s El S B W' e v rs := by
  obtain ⟨qs, h1, h2⟩ := h
  exact ⟨qs, h1.ck (t.ck fun _ => True) fun _ _ => trivial, h2.imp fun _ _ hq => ok.ck hq (t.ck _)⟩
theorem AR.tn {k : IntKind} {W W' : World} {b e n B : Nat} {xs : List Int} (h : AR k W b e n xs) (t : Tn B W W') : AR k W' b e n xs := h.ck (t.ck fun _ => True) trivial
theorem redS_pv (rows : List (List Rat)) (n : Nat) : ∀ j, j < (redS rows n).2.1.length → 0 ≤ wd (redS rows n).2.1 j ∧ wd (redS rows n).2.1 j < n := fun j hj => by
  obtain ⟨k, h1, h2⟩ := (redS_piv rows n).1 j hj; omega

set_option maxHeartbeats 400000 in
theorem vUnit_own (z k : Int) (N : Nat) (S : Nat → Prop) (w : World) (hN : min (max z 0) 65536 = (N : Int)) (hu : Up S w) :
    Calls Tryz.prog 118 #[.int .i64 z, .int .i64 k] w (fun e w' => ∃ b qs, e = .returned (.slice (some ⟨b, 0, none⟩) N N) ∧ Ext w w' ∧ w.heap.size ≤ b ∧ AQ 4 w' b 48 N qs ∧ All2 (QC (SX S [b]) w') qs (unitv N k)) := by
 have z0 := Ext.refl w; have hLX : LX = 17592186044416 := rfl; have hLY : LY = 8796093022208 := rfl
 have hNN : N ≤ 65536 := by omega
 have hu2 : ∀ W : World, w.heap.size + 1 ≤ W.heap.size → Up (SX S [w.heap.size]) W := fun W hW => SX.up (hu.mono (by omega)) (by simp <;> omega)
 refine enter (args := [.int .i64 z, .int .i64 k]) Tryz.func118 rfl rfl (Nat.le_of_ble_eq_true rfl) ?_
 refine V.seq (V.reg rfl ?_)
 refine ass rfl ?_
 refine vnil ?_
 refine V.seq (V.reg rfl ?_)
 refine mvi rfl ?_
 refine vv (rmax rfl rfl rfl) ?_
 refine vv (rmin rfl rfl hN) ?_
 refine vo ?_
 refine xmkS (zs := [.bool false, .slice _ _ _, .bool false, .slice _ _ _]) (N) sl23 in48 rfl rfl rfl rfl rfl (by omega) (by omega) (by omega) ?_
 intro W1 x2 out n3
 have s4 := x2.sz
 have z5 := x2
 refine ass rfl ?_
 refine vnil ?_
 refine V.seq ?_
 refine V.seq (V.reg rfl ?_)
 refine mvi rfl ?_
 refine vge rfl rfl ?_ ?_
 ·intro c6
  refine mvb rfl ?_
  refine vg rfl ?_
  refine mvi rfl ?_
  refine vg rfl ?_
  refine mvs rfl ?_
  refine vg rfl ?_
  refine vv (rlen sl23 rfl) ?_
  refine vg rfl ?_
  refine vlt rfl rfl ?_ ?_
  ·intro c7
   refine vv (rpk (v := .bool true) rfl rfl) ?_
   refine vnil ?_
   refine V.condT rfl ?_
   refine V.reg rfl ?_
   refine mvs rfl ?_
   refine mvi rfl ?_
   refine vo ?_
   refine xcall e27 (fFrom_ok _ _ _ (by omega) (hu2 _ (by omega))) rfl rfl ?_
   rintro _ W9 ⟨_, rfl, x10, hq8⟩
   have s11 := x10.sz
   have z12 := z5.trans x10
   replace out := out.ext x10
   obtain ⟨_, _, _, _, _, _, _, _, rfl⟩ := hq8.form
   refine ⟨_, rfl, ?_⟩
   refine vv (rix sl23 sz48 rfl rfl (by omega) (by omega) rfl) ?_
   refine vo ?_
   refine xstq (q := [.bool _, .slice _ _ _, .bool _, .slice _ _ _]) out rfl rfl rfl sz48 rfl rfl (by omega) (by omega) ?_
   intro W13 y14 out
   have z15 := z12.below (y14.below (by omega))
   have s16 := y14.size
   refine vnil ?_
   refine V.seq (V.reg rfl ?_)
   refine mvs rfl ?_
   refine ass rfl ?_
   refine vnil ?_
   refine V.ret ?_
   refine ⟨[.slice _ _ _], ⟨rfl, trivial⟩, ?_⟩
   refine ⟨_, _, rfl, z15, Nat.le_refl _, out, ?_⟩
   rw [unitv, if_pos (show 0 ≤ k ∧ k < (N : Int) from ⟨by omega, by omega⟩)]
   exact (All2.rep (QC.zero _ _) N).set (hq8.ck (y14.ck (by intro hh; first | (simp [SX] at hh <;> omega) | omega)))
  ·intro c7
   refine vv (rpk (v := .bool false) rfl rfl) ?_
   refine vnil ?_
   refine V.condF rfl ?_
   refine V.skip ?_
   refine V.seq (V.reg rfl ?_)
   refine mvs rfl ?_
   refine ass rfl ?_
   refine vnil ?_
   refine V.ret ?_
   refine ⟨[.slice _ _ _], ⟨rfl, trivial⟩, ?_⟩
   refine ⟨_, _, rfl, z5, Nat.le_refl _, out, ?_⟩
   rw [unitv, if_neg (show ¬ (0 ≤ k ∧ k < (N : Int)) from by omega)]
   exact All2.rep (QC.zero _ _) N
 ·intro c6
  refine mvb rfl ?_
  refine vgn (b := false) rfl rfl ?_
  refine vgn (b := false) rfl rfl ?_
  refine vgn (b := false) rfl rfl ?_
  refine vgn (b := false) rfl rfl ?_
  refine vv (rpk (v := .bool false) rfl rfl) ?_
  refine vnil ?_
  refine V.condF rfl ?_
  refine V.skip ?_
  refine V.seq (V.reg rfl ?_)
  refine mvs rfl ?_
  refine ass rfl ?_
  refine vnil ?_
  refine V.ret ?_
  refine ⟨[.slice _ _ _], ⟨rfl, trivial⟩, ?_⟩
  refine ⟨_, _, rfl, z5, Nat.le_refl _, out, ?_⟩
  rw [unitv, if_neg (show ¬ (0 ≤ k ∧ k < (N : Int)) from by omega)]
  exact All2.rep (QC.zero _ _) N
set_option maxHeartbeats 2000000 in
theorem sNull_ok (a1 : Option Addr) (n c L : Nat) (rss : List (List Rat)) (S S1 : Nat → Prop) (w : World) (hx : MA L S1 w a1 n c rss) (hl1 : 1 ≤ L) (hn : n ≤ 1024) (hc : colsN rss ≤ 1024) (hL5 : 15 * (L * 5 ^ colsN rss) + 2 < LY) (hu : Up S w) :
    Calls Tryz.prog 64 #[.slice a1 n c] w (fun e w' => ∃ ra rk rc, e = .returned (.slice ra rk rc) ∧ Ext w w' ∧ MC S w' ra rk rc (nullS rss n)) := by
 have z0 := Ext.refl w; have hLX : LX = 17592186044416 := rfl; have hLY : LY = 8796093022208 := rfl
 have hLV : LV = 1099511627776 := rfl
 have h51 : L * 1 ≤ L * 5 ^ colsN rss := Nat.mul_le_mul_left _ (Nat.pow_pos (by omega))
 refine enter (args := [.slice a1 n c]) Tryz.func64 rfl rfl (Nat.le_of_ble_eq_true rfl) ?_
 refine V.seq (V.reg rfl ?_)
 refine ass rfl ?_
 refine vnil ?_
 refine V.seq (V.reg rfl ?_)
 refine mvs rfl ?_
 refine vo ?_
 refine xcall e35 (mCols_ok _ _ _ _ _ _ _ hx) rfl rfl ?_
 rintro _ W1 ⟨rfl, x2⟩
 have s3 := x2.sz
 have z4 := x2
 refine ⟨_, rfl, ?_⟩
 refine asi rfl ?_
 refine vnil ?_
 refine V.seq (V.reg rfl ?_)
 refine mvs rfl ?_
 refine vo ?_
 refine xcall e123 (begin_ok _ _ _ L _ _ _ (hx.ext z4) (by omega) (by omega) (by omega) (by omega)) rfl rfl ?_
 rintro _ W6 ⟨bw, vw, rfl, x7, hbw, hbx, hbG⟩
 have s8 := x7.sz
 have z9 := z4.trans x7
 have hK0 := WS.begin hbx hbG hbw L; have lbw := hbx.lt
 refine ⟨_, rfl, ?_⟩
 obtain ⟨rows, hrows⟩ : ∃ r, r = gridm (matI rss) n (colsN rss) := ⟨_, rfl⟩
 have hrect : rect (colsN rss) rows := by rw [hrows]; exact gridm_rect _ _ _
 have hszr : szR L rows := by rw [hrows]; exact gridm_sz (fun i k => szMI (hx.ext z9) (by omega) _ _)
 have hrl : rows.length ≤ 1024 := by rw [hrows, len_gridm]; exact hn
 rw [← hrows] at hbG hK0
 refine mvi rfl ?_
 refine vo ?_
 have hS1 := hK0
 refine xcall e125 (all5_ok _ bw _ _ _ _ vw L (colsN rss) (colsN rss) rows _ hS1 hrect hszr (by omega) (by omega) hL5 hrl (by omega)) rfl rfl ?_
 rintro _ Wal ⟨pvw, rfl, kdal, hK, hpval⟩
 refine ⟨_, rfl, ?_⟩
 have hbl := hS1.below (B0 := W1.heap.size) kdal (Nat.le_refl _) (fun _ h => h.elim); have szal := kdal.size
 have z11 := z9.below (hbl.mono (by omega))
 obtain ⟨av, cv, rfl⟩ := hK.g.form; obtain ⟨ap, cp, rfl⟩ := hK.p.form
 obtain ⟨s, hs⟩ : ∃ s, s = redS rows (colsN rss) := ⟨_, rfl⟩; rw [← hs] at hK; have hall := redS_all hrect hszr (by omega) (colsN rss); rw [← hs] at hall; have hKx := hK.x; have hKm := (hK.mc rfl).max; have hKq := (hK.pn rfl).cap; have hKq2 := (hK.pn rfl).max
 have hrp := hK.p.rn (S := fun b => b < Wal.heap.size) (fun b _ h => h)
 have hpv : ∀ j, j < s.2.1.length → 0 ≤ wd s.2.1 j ∧ wd s.2.1 j < colsN rss := by rw [hs]; exact redS_pv rows _
 have hal1 := Nat.le_refl Wal.heap.size
 refine vo ?_
 refine xal zc132 ?_
 intro W14 x15 b16 nn17
 have s18 := x15.sz
 have z19 := z11.trans x15
 have z21 := x15
 replace hKx := hKx.ext x15
 refine vo ?_
 refine st1 (v := .pointer (some ⟨_, _, none⟩)) (cs' := [_]) b16 rfl rfl sz132 rfl rfl rfl rfl ?_
 intro W22 y23 b16
 have z24 := z19.below (y23.below (by omega))
 have z26 := z21.below (y23.below (by omega))
 replace hKx := hKx.wr y23 (by omega)
 have s27 := y23.size
 refine vnil ?_
 refine V.seq (V.reg rfl ?_)
 refine mvi rfl ?_
 have hK3 := (hK.ext z26); have b4r := b16; have bxr := hKx; have z3 := z24; have hrp3 := (hrp.ext z26); have s3z := z3.sz; have lb4r := b4r.lt
 refine vo ?_
 refine xmk ((colsN rss)) sl73 in3 (by simp [kb]) rfl rfl (by omega) (by omega) (by omega) ?_
 intro W29 x30 pva n31
 have s32 := x30.sz
 have z36 := x30
 replace hKx := hKx.ext x30
 replace b16 := b16.ext x30
 refine vo ?_
 refine xal zc73 ?_
 intro W37 x38 b39 nn40
 have s41 := x38.sz
 have z45 := z36.trans x38
 replace hKx := hKx.ext x38
 replace b16 := b16.ext x38
 replace pva := pva.ext x38
 refine vo ?_
 refine st1 (v := .slice _ _ _) (cs' := [_]) b39 rfl rfl sz73 rfl rfl rfl rfl ?_
 intro W46 y47 b39
 have z51 := z45.below (y47.below (by omega))
 replace hKx := hKx.wr y47 (by omega)
 replace b16 := b16.wr y47 (by omega)
 replace pva := pva.wr y47 (by omega)
 have s52 := y47.size
 refine vnil ?_
 refine V.seq ?_
 refine V.seq (V.reg rfl ?_)
 refine vv (rldb (v := .pointer (some ⟨_, _, none⟩)) rfl sc132 b16 rfl) ?_
 refine vo ?_
 refine xcall e126 (places_ok bw _) rfl rfl ?_
 rintro _ W53 ⟨b1, eb1, rfl, x54, hb1⟩
 have s55 := x54.sz
 have z59 := z51.trans x54
 replace hKx := hKx.ext x54
 replace pva := pva.ext x54
 replace b39 := b39.ext x54
 have lb1 := hb1.lt
 refine ⟨_, rfl, ?_⟩
 refine vnil ?_
 refine V.block ?_
 have lpv := pva.box.lt; have lb5 := b39.lt
 have lbx := (hKx).lt
 refine V.rf (gf := 170) rfl e170 (places_iter (D := fun q => q < W53.heap.size ∧ q ≠ W22.heap.size) (hb1) hKx ((hrp3.ext z59).sub (fun b _ h => ⟨by omega, by omega⟩)) ⟨by omega, by omega⟩ ⟨by omega, by omega⟩) (Ext.refl _) (by rintro k ⟨h, _⟩; exact h) rfl (fun i X => Ext W22 X ∧ AR .i64 X (W22.heap.size) 3 (colsN rss) (pvA s.2.1 (colsN rss) i) ∧ BoxAt X (W29.heap.size) [.slice (some ⟨W22.heap.size, 0, none⟩) (colsN rss) (colsN rss)] 73) (fun _ _ _ => False) (fun i X Y ⟨h1, h2, h3⟩ t => ⟨t.ext h1 (by omega), h2.tn t, h3.tn t⟩) (fun _ _ _ _ h _ => h) (⟨z59, pva, b39⟩) ?_ ?_ ?_
 ·intro l60 i61 X62 hi63 hM64 hk65 hs66
  refine V.seq (V.reg rfl ?_)
  refine asi rfl ?_
  refine vnil ?_
  refine V.reg rfl ?_
  refine asi rfl ?_
  refine vnil ?_
  refine ⟨rfl, Kf.refl _ _ _, ?_⟩
  intro Z67 t68
  obtain ⟨hX0, hA, h5⟩ := hi63
  replace hX0 := t68.ext hX0 (by omega); replace hA := hA.tn t68; replace h5 := h5.tn t68; have hAb := hA.box; have hwi := hpv i61 (by omega); have hAl := hA.box.lt; have sX0 := hX0.sz
  refine V.block ?_
  refine V.reg rfl ?_
  refine vv (rldb (v := .slice _ _ _) rfl sc73 h5 rfl) ?_
  refine mvi rfl ?_
  refine mvi rfl ?_
  refine vv (rbin (bAdd (wi (by omega))) rfl rfl) ?_
  refine vv (rix sl73 sz3 rfl rfl (by omega) (by omega) rfl) ?_
  refine vo ?_
  refine xsti hA rfl rfl sz3 (by simp only [kb]; omega) (by omega) (by omega) ?_
  intro W69 y70 hA
  replace h5 := h5.wr y70 (by omega)
  have s71 := y70.size
  refine vnil ?_
  exact ⟨Kf.wr y70 hAb (by rintro ⟨_, h⟩; exact h rfl), hX0.below (y70.below (by omega)), hA, h5⟩
 ·intro D72 X73 hD74 hI75 hdf76 hs77
  obtain ⟨hX0, hA, h5⟩ := hI75
  have zR := z3.trans hX0; have hKr := hK3.ext hX0; have b4x := b4r.ext hX0; have bxx := bxr.ext hX0; have sR := zR.sz; have sR2 := hX0.sz; have hMr := hKr.fin (S := fun b => b < X73.heap.size ∧ w.heap.size ≤ b) (fun b hb hb2 => ⟨hb2, by omega⟩)
  obtain ⟨hM0, hP0⟩ := hMr
  have hmk0 := (MkO.nil w.heap.size X73).cons hdf76 (by omega) (by simp)
  refine V.seq ?_
  refine V.seq (V.reg rfl ?_)
  refine mvi rfl ?_
  refine mvi rfl ?_
  refine vnil ?_
  refine V.block ?_
  refine V.loopD (ι := Nat × Value) [(3, .int _ _), (4, .pointer (some ⟨_, _, none⟩)), (5, .pointer (some ⟨_, _, none⟩)), (29, .int _ _)] (fun ⟨k, v⟩ => [(30, .int .i64 (k : Int)), (2, v)]) (fun ⟨k, v⟩ ds W => ∃ Ds, ds = Ds.map mark ∧ MkO w.heap.size Ds W ∧ k ≤ colsN rss ∧ Ext w W ∧ X73.heap.size ≤ W.heap.size ∧ MC (fun b => b < X73.heap.size ∧ w.heap.size ≤ b) W av s.1.length cv s.1 ∧ RN .i64 (fun b => b < X73.heap.size ∧ w.heap.size ≤ b) W ap s.2.1.length cp s.2.1 ∧ BoxAt W bw [.slice av s.1.length cv, .slice ap s.2.1.length cp, .func (.func 167) #[] #[], .func (.func 168) #[] #[]] 141 ∧ BoxAt W (Wal.heap.size) [.pointer (some ⟨bw, 0, none⟩)] 132 ∧ BoxAt W (W29.heap.size) [.slice (some ⟨W22.heap.size, 0, none⟩) (colsN rss) (colsN rss)] 73 ∧ AR .i64 W (W22.heap.size) 3 (colsN rss) (pvA s.2.1 (colsN rss) s.2.1.length) ∧ GO 1 (RowOf GC) S X73.heap.size W 23 v (nullL s.1 s.2.1 (colsN rss) k)) (fun ⟨k, v⟩ => colsN rss - k) ((0, _)) ⟨rfl, rfl, rfl, rfl, trivial⟩ ⟨rfl, rfl, trivial⟩ ⟨[D72], rfl, hmk0, Nat.zero_le _, zR, Nat.le_refl _, hM0, hP0, bxx, b4x, h5, hA, GO.nil _ _⟩ ?_
  intro i79 E80 ds W78 h81
  obtain ⟨k, v⟩ := i79
  simp only at h81
  show V _ _ _ _ _ _ (ups (ups _ _) [(30, .int .i64 (k : Int)), (2, v)]) _
  obtain ⟨Ds, rfl, hmk, hk, hzw, hWL, hM, hP, bxk, b4k, b5k, hA, hO⟩ := h81
  have zzk := Ext.refl W78; have szw := hzw.sz; have lb4k := b4k.lt; have lb5k := b5k.lt; have lAk := hA.box.lt; have lbxk := bxk.lt; have hO0 := hO; have b4k0 := b4k; have b5k0 := b5k; have bxk0 := bxk; have hA0 := hA
  refine V.seq (V.reg rfl ?_)
  refine vlt rfl rfl ?_ ?_
  ·intro c82
   refine vnil ?_
   refine V.seq ?_
   refine V.condT rfl ?_
   refine V.skip ?_
   refine V.seq ?_
   refine V.block ?_
   refine V.seq (V.reg rfl ?_)
   refine mvi rfl ?_
   refine vo ?_
   refine xal zc3 ?_
   intro W83 x84 b85 nn86
   have s87 := x84.sz
   have z88 := hzw.trans x84
   have z89 := x84
   replace b4k := b4k.ext x84
   replace b5k := b5k.ext x84
   replace hA := hA.ext x84
   replace bxk := bxk.ext x84
   refine vo ?_
   refine st1 (v := .int _ _) (cs' := [_]) b85 rfl rfl sz3 rfl rfl rfl rfl ?_
   intro W90 y91 b85
   have z92 := z88.below (y91.below (by omega))
   have z93 := z89.below (y91.below (by omega))
   replace b4k := b4k.wr y91 (by omega)
   replace b5k := b5k.wr y91 (by omega)
   replace hA := hA.wr y91 (by omega)
   replace bxk := bxk.wr y91 (by omega)
   have s94 := y91.size
   refine vnil ?_
   refine V.seq ?_
   refine V.seq (V.reg rfl ?_)
   refine vv (rldb (v := .slice _ _ _) rfl sc73 b5k rfl) ?_
   refine vv (rldb (v := .int _ _) rfl sc3 b85 rfl) ?_
   refine vv (rix sl73 sz3 rfl rfl (by omega) (by omega) rfl) ?_
   refine vldN (hA.rn (S := fun _ => True) trivial) rfl sc3 (by omega) (by omega) ?_
   intro q95 hq95 hk96
   simp only [kb] at hk96
   refine vgt rfl rfl ?_ ?_
   ·intro c97
    have hnp0 := pvA_pos s.2.1 (colsN rss) hpv k (by omega) s.2.1.length (Nat.le_refl _)
    rw [wd_mem, ← hq95] at hnp0
    have hnp : (k : Int) ∈ s.2.1 := hnp0.1 (by omega)
    refine vnil ?_
    refine V.condT rfl ?_
    refine V.exit ?_
    refine V.reg rfl ?_
    refine vv (rbin (bAdd (wi (by omega))) rfl rfl) ?_
    refine mvi rfl ?_
    refine vnil ?_
    refine ⟨(k + 1, _), ⟨rfl, rfl, rfl, rfl, trivial⟩, ⟨rfl, rfl, trivial⟩, ⟨Ds, rfl, hmk.ext z93, by omega, z92, by omega, (hM.ext z93), (hP.ext z93), bxk, b4k, b5k, hA, (by rw [nullL, if_pos hnp]; exact hO0.ext okRowC z93)⟩, ?_⟩
    show colsN rss - (k + 1) < colsN rss - k
    omega
   ·intro c97
    have hnp0 := pvA_pos s.2.1 (colsN rss) hpv k (by omega) s.2.1.length (Nat.le_refl _)
    rw [wd_mem, ← hq95] at hnp0
    have hnp : ¬ (k : Int) ∈ s.2.1 := fun h => by have := hnp0.2 h; omega
    refine vnil ?_
    refine V.condF rfl ?_
    refine V.skip ?_
    refine V.seq (V.reg rfl ?_)
    refine mvi rfl ?_
    refine vv (rldb (v := .int _ _) rfl sc3 b85 rfl) ?_
    refine vo ?_
    refine xcall e118 (vUnit_own _ _ (colsN rss) (fun b => W78.heap.size ≤ b) _ (by omega) (fun b hb => by omega)) rfl rfl ?_
    rintro _ W98 ⟨bx, qs0, rfl, x99, hbx0, hAx, hQx⟩
    have s100 := x99.sz
    have z102 := z93.trans x99
    replace b4k := b4k.ext x99
    replace b5k := b5k.ext x99
    replace hA := hA.ext x99
    replace bxk := bxk.ext x99
    replace b85 := b85.ext x99
    have lAx := hAx.box.lt
    refine ⟨_, rfl, ?_⟩
    refine vo ?_
    refine xal zc23 ?_
    intro W104 x105 b106 nn107
    have s108 := x105.sz
    have z110 := z102.trans x105
    have z111 := x105
    replace b4k := b4k.ext x105
    replace b5k := b5k.ext x105
    replace hA := hA.ext x105
    replace bxk := bxk.ext x105
    replace b85 := b85.ext x105
    replace hAx := hAx.ext x105
    refine vo ?_
    refine st1 (v := .slice _ _ _) (cs' := [_]) b106 rfl rfl sz23 rfl rfl rfl rfl ?_
    intro W112 y113 b106
    have z115 := z110.below (y113.below (by omega))
    have z116 := z111.below (y113.below (by omega))
    replace b4k := b4k.wr y113 (by omega)
    replace b5k := b5k.wr y113 (by omega)
    replace hA := hA.wr y113 (by omega)
    replace bxk := bxk.wr y113 (by omega)
    replace b85 := b85.wr y113 (by omega)
    replace hAx := hAx.wr y113 (by omega)
    have s117 := y113.size
    refine vnil ?_
    refine V.seq ?_
    refine V.seq (V.reg rfl ?_)
    refine vv (rldb (v := .pointer (some ⟨_, _, none⟩)) rfl sc132 b4k rfl) ?_
    refine vo ?_
    refine xcall e126 (places_ok bw _) rfl rfl ?_
    rintro _ W118 ⟨b1, eb1, rfl, x119, hb1⟩
    have s120 := x119.sz
    have z122 := z115.trans x119
    have z123 := z116.trans x119
    replace b4k := b4k.ext x119
    replace b5k := b5k.ext x119
    replace hA := hA.ext x119
    replace bxk := bxk.ext x119
    replace b85 := b85.ext x119
    replace hAx := hAx.ext x119
    replace b106 := b106.ext x119
    have lb1 := hb1.lt
    refine ⟨_, rfl, ?_⟩
    refine vnil ?_
    refine V.block ?_
    have lb8 := b85.lt; have lb9 := b106.lt; have zk1 := z122; have szk1 := zk1.sz; have bx1 := bxk; have b41 := b4k; have b51 := b5k; have pv1 := hA
    refine V.rf (gf := 170) rfl e170 (places_iter (D := fun q => q < W118.heap.size ∧ q ≠ bx) (hb1) bx1 ((hP.ext zk1).sub (fun b _ h => ⟨by omega, by omega⟩)) ⟨by omega, by omega⟩ ⟨by omega, by omega⟩) (Ext.refl _) (by rintro k ⟨h, _⟩; exact h) rfl (fun i X => Ext W78 X ∧ BoxAt X (W78.heap.size) [.int .i64 (k : Int)] 3 ∧ BoxAt X (W98.heap.size) [.slice (some ⟨bx, 0, none⟩) (colsN rss) (colsN rss)] 23 ∧ ∃ qs, AQ 4 X bx 48 (colsN rss) qs ∧ All2 (QC (SX (fun b => W78.heap.size ≤ b) [bx]) X) qs (nvec s.1 s.2.1 (colsN rss) k i)) (fun _ _ _ => False) (fun i X Y ⟨h1, h2, h3, qs, h4, h5⟩ t => ⟨t.ext h1 (by omega), h2.tn t, h3.tn t, qs, h4.tn t, h5.imp fun _ _ h => h.ck (t.ck _)⟩) (fun _ _ _ _ h _ => h) (⟨zk1, b85, b106, _, hAx, hQx.imp fun _ _ h => h.ext z123⟩) ?_ ?_ ?_
    ·intro l124 i125 X126 hi127 hM128 hk129 hs130
     refine V.seq (V.reg rfl ?_)
     refine asi rfl ?_
     refine vnil ?_
     refine V.reg rfl ?_
     refine asi rfl ?_
     refine vnil ?_
     refine ⟨rfl, Kf.refl _ _ _, ?_⟩
     intro Z131 t132
     obtain ⟨hX0, h8, h9, qs, hA2, hQ2⟩ := hi127
     replace hX0 := t132.ext hX0 (by omega); replace hA2 := hA2.tn t132; replace h8 := h8.tn t132; replace h9 := h9.tn t132; replace hQ2 := hQ2.imp fun _ _ h => h.ck (t132.ck _); have hAb := hA2.box; have hwi := hpv i125 (by omega); have hAl := hA2.box.lt; have sX0 := hX0.sz; have hM2 := hM.ext hX0; have b42 := b4k0.ext hX0; have bx2 := bxk0.ext hX0
     have hzz := Ext.refl Z131
     have hrw := hall.2.2.1.row (i := ((i125 : Nat) : Int).toNat) (by omega)
     obtain ⟨ra5, rk5, rc5, hc5, hg5⟩ := hM2.el (i := (i125 : Int)) (by omega) (by omega)
     have ce5 : C1 Z131 _ _ := hc5; have hga5 := hg5.va (hall.2.2.2.row _); have hgl5 := hg5.len
     obtain ⟨en0, ea0, el0, ec0, em0, eb0, ek0, ed0, hq0, hc0⟩ := hga5.el (i := (k : Int)) (by omega) (by omega)
     have ce0 : CE Z131 _ _ := hc0
     have hux : ∀ W : World, Z131.heap.size ≤ W.heap.size → Up (SX (fun b => W78.heap.size ≤ b) [bx]) W := fun W hW b hb => ⟨by omega, by simp; omega⟩
     refine V.block ?_
     refine V.regD mixed rfl ?_
     intro W133 x134
     have s135 := x134.sz
     have z136 := x134
     replace hA2 := hA2.ext x134
     replace h8 := h8.ext x134
     replace h9 := h9.ext x134
     replace b42 := b42.ext x134
     replace bx2 := bx2.ext x134
     have q137 := Ext.refl W133
     have r138 := hA2
     have r139 := h8
     have r140 := h9
     have r141 := b42
     have r142 := bx2
     refine tk 0 rfl (by kernel_rfl) q137 (pv (fun _ y143 => rldb (v := .slice _ _ _) rfl sc23 (r140.ext y143) rfl)) ?_
     refine tk 1 rfl (by kernel_rfl) q137 (pv (fun _ y144 => rmv (v := .int _ _) rfl)) ?_
     refine tk 2 rfl (by kernel_rfl) q137 (pv (fun _ y145 => rldb (v := .pointer (some ⟨_, _, none⟩)) rfl sc132 (r141.ext y145) rfl)) ?_
     refine tk 3 rfl (by kernel_rfl) q137 (pv (fun _ y146 => rnc (v := .pointer (some ⟨_, _, none⟩)) rfl rfl)) ?_
     refine tk 4 rfl (by kernel_rfl) q137 (pv (fun _ y147 => rfa rfl fd141_0)) ?_
     refine tk 5 rfl (by kernel_rfl) q137 (pv (fun _ y148 => rldb (v := .slice av _ cv) rfl sc22 (r142.ext y148) rfl)) ?_
     refine tk 6 rfl (by kernel_rfl) q137 (pv (fun _ y149 => rmv (v := .int _ _) rfl)) ?_
     refine tk 7 rfl (by kernel_rfl) q137 (pv (fun _ y150 => rix sl22 sz23 rfl rfl (by omega) (by omega) (((hM2.ext z136).ext y150).isS (i := 0) (by omega) (by omega)))) ?_
     refine tk 8 rfl (by kernel_rfl) q137 (pv (fun _ y151 => rld1 (v := .slice _ _ _) rfl sc23 ((ce5.ext z136).ext y151))) ?_
     refine tk 9 rfl (by kernel_rfl) q137 (pv (fun _ y152 => rldb (v := .int _ _) rfl sc3 (r139.ext y152) rfl)) ?_
     refine tk 10 rfl (by kernel_rfl) q137 (pv (fun _ y153 => rix sl23 sz48 rfl rfl (by omega) (by omega) (((hga5.ext z136).ext y153).isS (i := 0) (by omega) (by omega)))) ?_
     refine tk 11 rfl (by kernel_rfl) q137 (pv (fun _ y154 => rldn (l := [.bool _, .slice _ _ _, .bool _, .slice _ _ _]) rfl ag48 rfl ((ce0.ext z136).ext y154))) ?_
     refine ef 12 (by kernel_rfl) rfl ?_
     refine xcall e72 (fNeg_ok _ _ _ _ _ _ (hq0.ext z136) (by omega) (by omega) (hux _ (by omega))) rfl rfl ?_
     rintro _ W156 ⟨_, rfl, x157, hq155⟩
     have s158 := x157.sz
     replace hA2 := hA2.ext x157
     replace h8 := h8.ext x157
     replace h9 := h9.ext x157
     have q160 := q137.trans x157
     obtain ⟨_, _, _, _, _, _, _, _, rfl⟩ := hq155.form
     refine ⟨_, rfl, ?_⟩
     refine ⟨fun _ => q160, ?_⟩
     refine tk 13 rfl (by kernel_rfl) q160 (pv (fun _ y161 => rix sl23 sz48 rfl rfl (by omega) (by omega) rfl)) ?_
     refine ef 14 (by kernel_rfl) rfl ?_
     refine xstq (q := [.bool _, .slice _ _ _, .bool _, .slice _ _ _]) hA2 rfl rfl rfl sz48 rfl rfl (by omega) (by omega) ?_
     intro W162 y163 hA2
     replace h8 := h8.wr y163 (by omega)
     replace h9 := h9.wr y163 (by omega)
     have s164 := y163.size
     refine lastT (by kernel_rfl) ?_
     refine dn (by kernel_rfl) ?_
     exact ⟨(Kf.ext (x134.trans x157)).trans (Kf.wr y163 (hAb.ext (x134.trans x157)) (by rintro ⟨_, h⟩; exact h rfl)), (hX0.trans (x134.trans x157)).below (y163.below (by omega)), h8, h9, _, hA2, ((hQ2.imp fun _ _ h => h.ext (x134.trans x157)).set (hq155.ext (Ext.refl _))).imp fun _ _ h => h.ck (y163.ck (fun hh => hh.2 (by simp)))⟩
    ·intro D165 X166 hD167 hI168 hdf169 hs170
     obtain ⟨hX0, h8, h9, qs, hA2, hQ2⟩ := hI168
     have zw2 := hzw.trans hX0; have sX0 := hX0.sz; have lA2 := hA2.box.lt; have b42 := b4k0.ext hX0; have b52 := b5k0.ext hX0; have pv2 := hA0.ext hX0; have bx2 := bxk0.ext hX0; have hO2 := hO0.ext okRowC hX0; have zx2 := Ext.refl X166
     have hmk2 := (hmk.ext hX0).cons hdf169 (by omega) (fun h => by have := hmk.lt _ h; omega)
     refine V.reg rfl ?_
     refine vv (rmv (v := v) rfl) ?_
     refine vv (rldb (v := .slice _ _ _) rfl sc23 h9 rfl) ?_
     refine vo ?_
     refine xbs (ps := [(0, .slice _ _ _)]) (cs := [.slice _ _ _]) sl22 zr23 sz23 rfl rfl rfl rfl rfl rfl ?_
     intro W171 x172 b173 nn174
     have s175 := x172.sz
     have z176 := zw2.trans x172
     have z177 := hX0.trans x172
     have z178 := x172
     replace b42 := b42.ext x172
     replace b52 := b52.ext x172
     replace pv2 := pv2.ext x172
     replace bx2 := bx2.ext x172
     replace hA2 := hA2.ext x172
     replace h9 := h9.ext x172
     replace hO2 := hO2.ext okRowC x172
     have hMb := (hM.ext z177); have hPb := (hP.ext z177); have hmkb := hmk2.ext z178; have bxb := bx2
     refine vo ?_
     refine xappG okRowC sl22 in23 rfl rfl hO2 rfl rfl b173 rfl rfl ((⟨_, _, _, rfl, _, hA2.rs (S := SO S v) ⟨hu _ (by omega), fun e => by obtain ⟨qs', hg', _⟩ := hO0; have := (hg'.low _ e).2; omega⟩, hQ2.imp fun _ _ h => (h.ext z178).sub fun b hb hs => ⟨hu _ (by have := hs.1; omega), fun e => by obtain ⟨qs', hg', _⟩ := hO0; have := (hg'.low _ e).2; have := hs.1; omega⟩⟩ : RowOf GC _ _ _ _)) (by have := nullL_len s.1 s.2.1 (colsN rss) k; omega) (by decide) (by omega) ?_
     intro v179 W180 hO181 hg182
     have y183 := hg182.below; have s184 := y183.size
     have z185 := z176.below (y183.mono (by omega))
     replace b42 := b42.bl y183 (by omega)
     replace b52 := b52.bl y183 (by omega)
     replace pv2 := pv2.bl y183 (by omega)
     replace bx2 := bx2.bl y183 (by omega)
     refine vv (ras (v := v179) rfl) ?_
     refine vnil ?_
     refine V.reg rfl ?_
     refine vv (rbin (bAdd (wi (by omega))) rfl rfl) ?_
     refine mvi rfl ?_
     refine vnil ?_
     refine ⟨(k + 1, _), ⟨rfl, rfl, rfl, rfl, trivial⟩, ⟨rfl, rfl, trivial⟩, ⟨D165 :: Ds, rfl, hmkb.kb hg182, by omega, z185, by omega, hMb.ck (Below.kd (D := fun b => b < X73.heap.size ∧ w.heap.size ≤ b) y183 (fun k h _ => h.1)).ck, hPb.ck (Below.kd (D := fun b => b < X73.heap.size ∧ w.heap.size ≤ b) y183 (fun k h _ => h.1)).ck, bx2, b42, b52, pv2, (by rw [nullL, if_neg hnp]; exact hO181)⟩, ?_⟩
     show colsN rss - (k + 1) < colsN rss - k
     omega
    ·intro _ _ _ _ _ _ h; exact h.elim
  ·intro c82
   refine vnil ?_
   refine V.seq ?_
   refine V.condF rfl ?_
   refine V.exit ?_
   refine V.seq (V.reg rfl ?_)
   refine vv (rmv (v := v) rfl) ?_
   refine vv (ras (v := v) rfl) ?_
   refine vnil ?_
   refine V.ret ?_
   refine Lv_all hmk fun Wl tl => ?_
   refine ⟨[v], ⟨rfl, trivial⟩, ?_⟩
   have hO9 := hO.tn okRowC tl
   obtain ⟨a', c', rfl⟩ := hO9.form
   refine ⟨_, _, _, rfl, tl.ext hzw (Nat.le_refl _), ?_⟩
   have hfin := hO9.fin okRowC (fun b hb _ => hu b (by omega))
   have ek : k = colsN rss := by omega
   unfold nullS; rw [← hrows, ← hs]; subst ek; exact hfin
 ·intro _ _ _ _ _ _ h; exact h.elim
end Go.Proofs.YtknbjfefeeojlaaGreat
/- Package solve: Solve. -/
namespace Go.Proofs.YtknbjfefeeojlaaGreat
open Go.RowKit
attribute [local irreducible] RV VH V OpF Calls
/-- The vector of the solution, after i pivots. -/
def svec (rows : List (List Rat)) (piv : List Int) (N : Nat) : Nat → List Rat
  | 0 => List.replicate N 0
  | i + 1 => (svec rows piv N i).set (wd piv i).toNat (mat rows i N)
/-- The reduced augmented matrix. -/
def solW (rss : List (List Rat)) (bs : List Rat) (M : Nat) : List (List Rat) × List Int × Rat :=
  redS (gridm (matI (wideM rss bs M (colsN rss))) M (colsN (wideM rss bs M (colsN rss)))) (colsN rss + 1)

def solX (rss : List (List Rat)) (bs : List Rat) (M : Nat) : List Rat := if (colsN rss : Int) ∈ (solW rss bs M).2.1 then [] else svec (solW rss bs M).1 (solW rss bs M).2.1 (colsN rss) (solW rss bs M).2.1.length

def solF (rss : List (List Rat)) (bs : List Rat) (n M : Nat) : List (List Rat) := if (colsN rss : Int) ∈ (solW rss bs M).2.1 then [] else nullS rss n

def solE (rss : List (List Rat)) (bs : List Rat) (M : Nat) : Int := if (colsN rss : Int) ∈ (solW rss bs M).2.1 then 8 else 0
theorem wide_rect (rss : List (List Rat)) (bs : List Rat) (M N : Nat) : rect (N + 1) (gridm (matI (wideM rss bs M N)) M (colsN (wideM rss bs M N))) := by
  rcases Nat.eq_zero_or_pos M with h0 | h0
  · subst h0; intro r hr; simp [gridm] at hr
  · have : colsN (wideM rss bs M N) = N + 1 := by rw [wideM, colsN_gridm, Nat.min_eq_right h0]; omega
    rw [this]; exact gridm_rect _ _ _
theorem wide_cols (rss : List (List Rat)) (bs : List Rat) (M N : Nat) : colsN (wideM rss bs M N) ≤ N + 1 := colsN_rect_le (gridm_rect _ _ _)
/-- A box that holds a pointer is none of the blocks of a matrix. -/
theorem RN.np {k : IntKind} {S : Nat → Prop} {W : World} {a : Option Addr} {n c nb : Nat} {xs : List Int} {p : Option Addr} {T : TypeId} (h : RN k S W a n c xs) (hb : BoxAt W nb [.pointer p] T) : RN k (fun b => S b ∧ b ≠ nb) W a n c xs :=
  ⟨h.len, h.cap, h.max, h.wf, fun hn => by
    obtain ⟨b, off, cs, T', fz, e, h1, h2, hc⟩ := h.at_ hn
    refine ⟨b, off, cs, T', fz, e, ⟨h1, fun eb => ?_⟩, h2, hc⟩
    subst eb
    have h3 := hc 0 hn
    unfold BoxAt at hb
    rw [hb] at h2; cases h2
    rcases off with _ | o <;> simp at h3⟩
theorem QC.np {S : Nat → Prop} {W : World} {q : List Value} {r : Rat} {nb : Nat} {p : Option Addr} {T : TypeId} (h : QC S W q r) (hb : BoxAt W nb [.pointer p] T) : QC (fun b => S b ∧ b ≠ nb) W q r := by
  obtain ⟨a1, l1, c1, a2, l2, c2, e, h1, h2⟩ := h
  exact ⟨a1, l1, c1, a2, l2, c2, e, h1.np hb, h2.np hb⟩
theorem GC.np {S : Nat → Prop} {W : World} {a : Option Addr} {n c nb : Nat} {rs : List Rat} {p : Option Addr} {T : TypeId} (h : GC S W a n c rs) (hb : BoxAt W nb [.pointer p] T) : GC (fun b => S b ∧ b ≠ nb) W a n c rs := by
  obtain ⟨qs, h1, h2⟩ := h
  refine ⟨qs, ⟨h1.len, h1.cap, h1.max, h1.wd, fun hn => ?_⟩, h2.imp fun _ _ hq => hq.np hb⟩
  obtain ⟨b, off, cs, T', fz, e, h3, h4, hc⟩ := h1.at_ hn
  refine ⟨b, off, cs, T', fz, e, ⟨h3, fun eb => ?_⟩, h4, hc⟩
  subst eb
  have hl : 0 < qs.length := by rw [h1.len]; exact hn
  obtain ⟨r, _, hq⟩ := h2.get (List.getElem?_eq_getElem hl)
  obtain ⟨n1, a1, l1, c1, n2, a2, l2, c2, eq⟩ := hq.form
  have h5 := hc 0 _ (List.getElem?_eq_getElem hl) 0 (.bool n1) (by rw [eq]; rfl)
  unfold BoxAt at hb
  rw [hb] at h4; cases h4
  rcases off with _ | o <;> simp at h5
theorem WS.wrp {B bw L nb : Nat} {fs fd v pv : Value} {CX : Nat → (Nat → Prop) → World → Rat → Prop} {rows : List (List Rat)} {piv : List Int} {δ : Rat} {W W' : World} {xd : Nat → Prop} {p : Option Addr} {T : TypeId} (h : WS B bw fs fd xd CX v pv L rows piv δ W) (hb : BoxAt W nb [.pointer p] T) (h1 : T ≠ 23) (h2 : T ≠ 3) (h3 : nb ≠ bw) (hx : ¬ xd nb) (y : Wr nb W W') (hc : CX L (fun b => KQ bw v pv b ∧ b ≠ nb) W δ) : WS B bw fs fd xd CX v pv L rows piv δ W' := by
  have kq := h.nb hb h1 h2 h3
  have k : KD (fun b => b ≠ nb) W W' := y.kd fun h => h rfl
  refine ⟨h.cl, h.x.kd k (Ne.symm h3), ?_, h.p.ck k.ck (fun b e hh => kq.2.2 (hh ▸ e)), h.cl.sub (h.cl.ck hc (S' := fun b => b ≠ nb) k.ck (fun b _ hs => hs.2) (fun b hb' e => hx (e ▸ hb'))) (fun b _ hs => hs.1), h.hB, h.hx⟩
  obtain ⟨qs, h4, h5⟩ := h.g
  refine ⟨qs, h4.ck k.ck fun b e hh => kq.2.1 (hh ▸ e), h5.imp fun _ _ hq => ?_⟩
  obtain ⟨a, n, c, e, hg⟩ := hq
  exact ⟨a, n, c, e, ((hg.np hb).ck (k.ck.sub fun b hs => hs.2)).sub fun b _ hs => hs.1⟩
theorem KD.low {D : Nat → Prop} {B : Nat} {X Y Z : World} (h : Below B X Y) (k : KD D Y Z) (hD : ∀ q, q < B → D q) (hs : B ≤ Y.heap.size) : Below B X Z := h.trans (k.below hD hs)

set_option maxHeartbeats 2000000 in
theorem sSolve_ok (a1 a2 : Option Addr) (n c m d L : Nat) (rss : List (List Rat)) (bs : List Rat) (S S1 S2 : Nat → Prop) (w : World) (hx : MA L S1 w a1 n c rss) (hy : GA L S2 w a2 m d bs) (hl1 : 1 ≤ L) (hn : n ≤ 1000) (hm : m ≤ 1000) (hc : colsN rss ≤ 1000) (hL5 : 15 * (L * 5 ^ (colsN rss + 1)) + 2 < LY) (hu : Up S w) :
    Calls Tryz.prog 51 #[.slice a1 n c, .slice a2 m d] w (fun e w' => ∃ ax nx cx af nf cf er, e = .returned (.tuple #[.slice ax nx cx, .slice af nf cf, .int .i64 er]) ∧ Ext w w' ∧ GC S w' ax nx cx (solX rss bs (max n m)) ∧ MC S w' af nf cf (solF rss bs n (max n m)) ∧ er = solE rss bs (max n m)) := by
 have z0 := Ext.refl w; have hLX : LX = 17592186044416 := rfl; have hLY : LY = 8796093022208 := rfl
 have hLV : LV = 1099511627776 := rfl
 have h51 : L * 1 ≤ L * 5 ^ (colsN rss + 1) := Nat.mul_le_mul_left _ (Nat.pow_pos (by omega))
 have h52 : L * 5 ^ colsN rss ≤ L * 5 ^ (colsN rss + 1) := Nat.mul_le_mul_left _ (Nat.pow_le_pow_right (by omega) (by omega))
 refine enter (args := [.slice a1 n c, .slice a2 m d]) Tryz.func51 rfl rfl (Nat.le_of_ble_eq_true rfl) ?_
 refine V.seq (V.reg rfl ?_)
 refine vo ?_
 refine xal zc23 ?_
 intro W1 x2 b3 nn4
 have s5 := x2.sz
 have z6 := x2
 refine vo ?_
 refine xal zc22 ?_
 intro W7 x8 b9 nn10
 have s11 := x8.sz
 have z12 := z6.trans x8
 replace b3 := b3.ext x8
 refine vo ?_
 refine xal zc31 ?_
 intro W13 x14 b15 nn16
 have s17 := x14.sz
 have z18 := z12.trans x14
 replace b3 := b3.ext x14
 replace b9 := b9.ext x14
 refine vnil ?_
 refine V.seq (V.reg rfl ?_)
 refine mvs rfl ?_
 refine vo ?_
 refine xcall e35 (mCols_ok _ _ _ _ _ _ _ (hx.ext z18)) rfl rfl ?_
 rintro _ W19 ⟨rfl, x20⟩
 have s21 := x20.sz
 have z22 := z18.trans x20
 replace b3 := b3.ext x20
 replace b9 := b9.ext x20
 replace b15 := b15.ext x20
 refine ⟨_, rfl, ?_⟩
 refine vo ?_
 refine xal zc3 ?_
 intro W23 x24 b25 nn26
 have s27 := x24.sz
 have z28 := z22.trans x24
 replace b3 := b3.ext x24
 replace b9 := b9.ext x24
 replace b15 := b15.ext x24
 refine vo ?_
 refine st1 (v := .int _ _) (cs' := [_]) b25 rfl rfl sz3 rfl rfl rfl rfl ?_
 intro W29 y30 b25
 have z31 := z28.below (y30.below (by omega))
 replace b3 := b3.wr y30 (by omega)
 replace b9 := b9.wr y30 (by omega)
 replace b15 := b15.wr y30 (by omega)
 have s32 := y30.size
 refine vnil ?_
 obtain ⟨rows, hrows⟩ : ∃ r, r = gridm (matI (wideM rss bs (max n m) (colsN rss))) (max n m) (colsN (wideM rss bs (max n m) (colsN rss))) := ⟨_, rfl⟩
 have hrect : rect (colsN rss + 1) rows := by rw [hrows]; exact wide_rect _ _ _ _
 have hwsz : szR L (wideM rss bs (max n m) (colsN rss)) := gridm_sz fun i k => wideF_sz (hx.rowsz hl1) (hy.szv hl1) hl1 _ _
 have hszr : szR L rows := by rw [hrows]; exact gridm_sz (fun i k => hwsz.matI hl1 _ _)
 have hrl : rows.length ≤ 1024 := by rw [hrows, len_gridm]; omega
 have hwc := wide_cols rss bs (max n m) (colsN rss)
 obtain ⟨s, hs⟩ : ∃ s, s = redS rows (colsN rss + 1) := ⟨_, rfl⟩
 have hall := redS_all hrect hszr hl1 (colsN rss + 1); rw [← hs] at hall
 have hsol : solW rss bs (max n m) = s := by rw [hs, hrows]; rfl
 have hpv : ∀ j, j < s.2.1.length → 0 ≤ wd s.2.1 j ∧ wd s.2.1 j < ((colsN rss + 1 : Nat) : Int) := by rw [hs]; exact redS_pv rows _
 refine V.seq (V.regJ (ι := Nat × Nat × Option Addr × Nat × Option Addr × Nat × Nat) [(0, .slice _ _ _), (1, .slice _ _ _), (4, .pointer (some ⟨_, _, none⟩)), (5, .pointer (some ⟨_, _, none⟩)), (6, .pointer (some ⟨_, _, none⟩)), (7, .pointer (some ⟨_, _, none⟩))] (fun ⟨nb, bw, av, cv, ap, cp, B0⟩ => [(8, .pointer (some ⟨nb, 0, none⟩))]) (fun ⟨nb, bw, av, cv, ap, cp, B0⟩ W => Ext W29 W ∧ W29.heap.size ≤ nb ∧ W29.heap.size ≤ B0 ∧ nb ≠ bw ∧ WS B0 bw (.func (.func 167) #[] #[]) (.func (.func 168) #[] #[]) (fun _ => False) (fun _ _ _ _ => True) (.slice av s.1.length cv) (.slice ap s.2.1.length cp) (L * 5 ^ (colsN rss + 1)) s.1 s.2.1 s.2.2 W ∧ BoxAt W nb [.pointer (some ⟨bw, 0, none⟩)] 132) mixed rfl ⟨rfl, rfl, rfl, rfl, rfl, rfl, trivial⟩ ?_ ?_)
 ·skip
  intro W34 x35
  have s36 := x35.sz
  have z37 := z31.trans x35
  have z38 := x35
  replace b3 := b3.ext x35
  replace b9 := b9.ext x35
  replace b15 := b15.ext x35
  replace b25 := b25.ext x35
  have q39 := Ext.refl W34
  have r40 := b3
  have r41 := b9
  have r42 := b15
  have r43 := b25
  refine tk 0 rfl (by kernel_rfl) q39 (pv (fun _ y44 => rmv (v := .slice _ _ _) rfl)) ?_
  refine tk 1 rfl (by kernel_rfl) q39 (pv (fun _ y45 => rmv (v := .slice _ _ _) rfl)) ?_
  refine tk 4 rfl (by kernel_rfl) q39 (pv (fun _ y46 => rldb (v := .int _ _) rfl sc3 (r43.ext y46) rfl)) ?_
  refine tk 5 rfl (by kernel_rfl) q39 (pv (fun _ y47 => rbin (bAdd (wi (by omega))) rfl rfl)) ?_
  refine efs 2 [7] (by kernel_rfl) ⟨?_, ?_, trivial⟩
  ·skip
   refine efI rfl ?_
   refine xcall e124 (sWide_ok _ _ _ _ _ _ L rss bs TT S1 S2 _ (hx.ext z37) (hy.ext z37) hl1 (by omega) (by omega) (by omega) (by omega) (TT.up _)) rfl rfl ?_
   rintro _ W48 ⟨_, nw, _, rfl, x49, hwm⟩
   have s50 := x49.sz
   have z52 := z38.trans x49
   have q53 := q39.trans x49
   have hwl := hwm.len; rw [wideM, len_gridm] at hwl
   have hwma := hwm.ma (L := L) hwsz
   refine ⟨_, rfl, ?_⟩
   refine ⟨fun _ => q53, ?_⟩
   refine efs 3 [7] (by kernel_rfl) ⟨?_, ?_, trivial⟩
   ·skip
    refine efI rfl ?_
    refine xcall e123 (begin_ok _ _ _ L _ _ _ ((hwm).ma (L := L) hwsz) (by omega) (by omega) (by omega) (by omega)) rfl rfl ?_
    rintro _ W55 ⟨bw, vw, rfl, x56, hbw, hbx, hbG⟩
    have s57 := x56.sz
    have z59 := z52.trans x56
    have q61 := q53.trans x56
    rw [show nw = max n m by omega, ← hrows] at hbG
    have hK0 := WS.begin hbx hbG hbw L; have lbw := hbx.lt
    refine ⟨_, rfl, ?_⟩
    refine ⟨fun _ => q61, ?_⟩
    refine efs 6 [7] (by kernel_rfl) ⟨?_, ?_, trivial⟩
    ·skip
     refine efI rfl ?_
     have hS1 := hK0
     refine xcall e125 (all5_ok _ bw _ _ _ _ vw L (colsN rss + 1) (colsN rss + 1) rows _ hS1 hrect hszr (Nat.le_refl _) hl1 hL5 hrl (by omega)) rfl rfl ?_
     rintro _ Wal ⟨pvw, rfl, kdal, hK, hpval⟩
     refine ⟨_, rfl, ?_⟩
     have hbl := hS1.below (B0 := W48.heap.size) kdal (Nat.le_refl _) (fun _ h => h.elim); have szal := kdal.size
     have z63 := z59.below (hbl.mono (by omega))
     have q65 := q61.below (hbl.mono (by omega))
     obtain ⟨av, cv, rfl⟩ := hK.g.form; obtain ⟨ap, cp, rfl⟩ := hK.p.form
     rw [← hs] at hK
     refine ⟨fun _ => q65, ?_⟩
     refine ef 7 (by kernel_rfl) rfl ?_
     refine xal zc132 ?_
     intro W67 x68 b69 nn70
     have s71 := x68.sz
     have z73 := z63.trans x68
     have z75 := x68
     have q76 := q65.trans x68
     refine ⟨fun _ => q76, ?_⟩
     refine ef 8 (by kernel_rfl) rfl ?_
     have hK8 := (hK.ext z75); have hb80 := b69
     refine st1 (v := .pointer (some ⟨_, _, none⟩)) (cs' := [_]) b69 rfl rfl sz132 rfl rfl rfl rfl ?_
     intro W77 y78 b69
     have z80 := z73.below (y78.below (by omega))
     have s83 := y78.size
     refine lastT (by kernel_rfl) ?_
     refine dn (by kernel_rfl) ?_
     have hKj := hK8.wrp hb80 (by decide) (by decide) (by omega) (fun h => h) y78 trivial
     exact ⟨(Wal.heap.size, bw, av, cv, ap, cp, W48.heap.size), ⟨rfl, rfl, rfl, rfl, rfl, rfl, trivial⟩, ⟨rfl, trivial⟩, z80, by omega, by omega, by omega, hKj, b69⟩
    ·skip
     refine efI rfl ?_
     refine xal zc132 ?_
     intro W84 x85 b86 nn87
     have s88 := x85.sz
     have z90 := z59.trans x85
     have q92 := q61.trans x85
     refine ⟨fun _ => q92, ?_⟩
     refine ef 6 (by kernel_rfl) rfl ?_
     have hS1 := (hK0.ext x85)
     refine xcall e125 (all5_ok _ bw _ _ _ _ vw L (colsN rss + 1) (colsN rss + 1) rows _ hS1 hrect hszr (Nat.le_refl _) hl1 hL5 hrl (by omega)) rfl rfl ?_
     rintro _ Wal ⟨pvw, rfl, kdal, hK, hpval⟩
     refine ⟨_, rfl, ?_⟩
     have hbl := hS1.below (B0 := W48.heap.size) kdal (Nat.le_refl _) (fun _ h => h.elim); have szal := kdal.size
     have z94 := z90.below (hbl.mono (by omega))
     replace b86 := b86.kd kdal ⟨b86.lt, by omega, (hS1.nb b86 (by decide) (by decide) (by omega)).2.1, fun h => h⟩
     have q96 := q92.below (hbl.mono (by omega))
     obtain ⟨av, cv, rfl⟩ := hK.g.form; obtain ⟨ap, cp, rfl⟩ := hK.p.form
     rw [← hs] at hK
     refine ⟨fun _ => q96, ?_⟩
     refine ef 8 (by kernel_rfl) rfl ?_
     have hK8 := hK; have hb80 := b86
     refine st1 (v := .pointer (some ⟨_, _, none⟩)) (cs' := [_]) b86 rfl rfl sz132 rfl rfl rfl rfl ?_
     intro W98 y99 b86
     have z101 := z94.below (y99.below (by omega))
     have s103 := y99.size
     refine lastT (by kernel_rfl) ?_
     refine dn (by kernel_rfl) ?_
     have hKj := hK8.wrp hb80 (by decide) (by decide) (by omega) (fun h => h) y99 trivial
     exact ⟨(W55.heap.size, bw, av, cv, ap, cp, W48.heap.size), ⟨rfl, rfl, rfl, rfl, rfl, rfl, trivial⟩, ⟨rfl, trivial⟩, z101, by omega, by omega, by omega, hKj, b86⟩
   ·skip
    refine efI rfl ?_
    refine xal zc132 ?_
    intro W104 x105 b106 nn107
    have s108 := x105.sz
    have z110 := z52.trans x105
    have q111 := q53.trans x105
    refine ⟨fun _ => q111, ?_⟩
    refine ef 3 (by kernel_rfl) rfl ?_
    refine xcall e123 (begin_ok _ _ _ L _ _ _ (((hwm.ext x105)).ma (L := L) hwsz) (by omega) (by omega) (by omega) (by omega)) rfl rfl ?_
    rintro _ W113 ⟨bw, vw, rfl, x114, hbw, hbx, hbG⟩
    have s115 := x114.sz
    have z117 := z110.trans x114
    replace b106 := b106.ext x114
    have q119 := q111.trans x114
    rw [show nw = max n m by omega, ← hrows] at hbG
    have hK0 := WS.begin hbx hbG hbw L; have lbw := hbx.lt
    refine ⟨_, rfl, ?_⟩
    refine ⟨fun _ => q119, ?_⟩
    refine ef 6 (by kernel_rfl) rfl ?_
    have hS1 := hK0
    refine xcall e125 (all5_ok _ bw _ _ _ _ vw L (colsN rss + 1) (colsN rss + 1) rows _ hS1 hrect hszr (Nat.le_refl _) hl1 hL5 hrl (by omega)) rfl rfl ?_
    rintro _ Wal ⟨pvw, rfl, kdal, hK, hpval⟩
    refine ⟨_, rfl, ?_⟩
    have hbl := hS1.below (B0 := W104.heap.size) kdal (Nat.le_refl _) (fun _ h => h.elim); have szal := kdal.size
    have z121 := z117.below (hbl.mono (by omega))
    replace b106 := b106.bl hbl (by omega)
    have q123 := q119.below (hbl.mono (by omega))
    obtain ⟨av, cv, rfl⟩ := hK.g.form; obtain ⟨ap, cp, rfl⟩ := hK.p.form
    rw [← hs] at hK
    refine ⟨fun _ => q123, ?_⟩
    refine ef 8 (by kernel_rfl) rfl ?_
    have hK8 := hK; have hb80 := b106
    refine st1 (v := .pointer (some ⟨_, _, none⟩)) (cs' := [_]) b106 rfl rfl sz132 rfl rfl rfl rfl ?_
    intro W125 y126 b106
    have z128 := z121.below (y126.below (by omega))
    have s129 := y126.size
    refine lastT (by kernel_rfl) ?_
    refine dn (by kernel_rfl) ?_
    have hKj := hK8.wrp hb80 (by decide) (by decide) (by omega) (fun h => h) y126 trivial
    exact ⟨(W48.heap.size, bw, av, cv, ap, cp, W104.heap.size), ⟨rfl, rfl, rfl, rfl, rfl, rfl, trivial⟩, ⟨rfl, trivial⟩, z128, by omega, by omega, by omega, hKj, b106⟩
  ·skip
   refine efI rfl ?_
   refine xal zc132 ?_
   intro W130 x131 b132 nn133
   have s134 := x131.sz
   have z135 := z37.trans x131
   have z136 := z38.trans x131
   have q137 := q39.trans x131
   refine ⟨fun _ => q137, ?_⟩
   refine ef 2 (by kernel_rfl) rfl ?_
   refine xcall e124 (sWide_ok _ _ _ _ _ _ L rss bs TT S1 S2 _ (hx.ext z135) (hy.ext z135) hl1 (by omega) (by omega) (by omega) (by omega) (TT.up _)) rfl rfl ?_
   rintro _ W138 ⟨_, nw, _, rfl, x139, hwm⟩
   have s140 := x139.sz
   have z142 := z136.trans x139
   replace b132 := b132.ext x139
   have q143 := q137.trans x139
   have hwl := hwm.len; rw [wideM, len_gridm] at hwl
   have hwma := hwm.ma (L := L) hwsz
   refine ⟨_, rfl, ?_⟩
   refine ⟨fun _ => q143, ?_⟩
   refine ef 3 (by kernel_rfl) rfl ?_
   refine xcall e123 (begin_ok _ _ _ L _ _ _ ((hwm).ma (L := L) hwsz) (by omega) (by omega) (by omega) (by omega)) rfl rfl ?_
   rintro _ W145 ⟨bw, vw, rfl, x146, hbw, hbx, hbG⟩
   have s147 := x146.sz
   have z149 := z142.trans x146
   replace b132 := b132.ext x146
   have q151 := q143.trans x146
   rw [show nw = max n m by omega, ← hrows] at hbG
   have hK0 := WS.begin hbx hbG hbw L; have lbw := hbx.lt
   refine ⟨_, rfl, ?_⟩
   refine ⟨fun _ => q151, ?_⟩
   refine ef 6 (by kernel_rfl) rfl ?_
   have hS1 := hK0
   refine xcall e125 (all5_ok _ bw _ _ _ _ vw L (colsN rss + 1) (colsN rss + 1) rows _ hS1 hrect hszr (Nat.le_refl _) hl1 hL5 hrl (by omega)) rfl rfl ?_
   rintro _ Wal ⟨pvw, rfl, kdal, hK, hpval⟩
   refine ⟨_, rfl, ?_⟩
   have hbl := hS1.below (B0 := W138.heap.size) kdal (Nat.le_refl _) (fun _ h => h.elim); have szal := kdal.size
   have z153 := z149.below (hbl.mono (by omega))
   replace b132 := b132.bl hbl (by omega)
   have q155 := q151.below (hbl.mono (by omega))
   obtain ⟨av, cv, rfl⟩ := hK.g.form; obtain ⟨ap, cp, rfl⟩ := hK.p.form
   rw [← hs] at hK
   refine ⟨fun _ => q155, ?_⟩
   refine ef 8 (by kernel_rfl) rfl ?_
   have hK8 := hK; have hb80 := b132
   refine st1 (v := .pointer (some ⟨_, _, none⟩)) (cs' := [_]) b132 rfl rfl sz132 rfl rfl rfl rfl ?_
   intro W157 y158 b132
   have z160 := z153.below (y158.below (by omega))
   have s161 := y158.size
   refine lastT (by kernel_rfl) ?_
   refine dn (by kernel_rfl) ?_
   have hKj := hK8.wrp hb80 (by decide) (by decide) (by omega) (fun h => h) y158 trivial
   exact ⟨(W34.heap.size, bw, av, cv, ap, cp, W138.heap.size), ⟨rfl, rfl, rfl, rfl, rfl, rfl, trivial⟩, ⟨rfl, trivial⟩, z160, by omega, by omega, by omega, hKj, b132⟩
 ·skip
  intro i164 E165 W163 h166
  obtain ⟨nb, bw, av, cv, ap, cp, B0⟩ := i164
  simp only at h166
  show thenV _ _ .normal (ups (ups _ _) [(8, .pointer (some ⟨nb, 0, none⟩))]) _ _
  obtain ⟨x167, hnb, hB0, hnbw, hK, hb8⟩ := h166
  have s168 := x167.sz
  have z169 := z31.trans x167
  replace b3 := b3.ext x167
  replace b9 := b9.ext x167
  replace b15 := b15.ext x167
  replace b25 := b25.ext x167
  have hKx := hK.x; have lnb := hb8.lt; have lKx := hKx.lt; have hKB := hK.hB
  have hrp := hK.p.rn (S := fun b => B0 ≤ b ∧ b < W163.heap.size) (fun b h1 h => ⟨h1, h⟩)
  have hMr := (hK.fin (S := fun b => B0 ≤ b ∧ b < W163.heap.size) (fun b h1 h => ⟨h1, h⟩)).1
  have hKq := hrp.cap; have hKq2 := hrp.max
  refine V.seq (V.reg rfl ?_)
  refine vv (rldb (v := .int _ _) rfl sc3 b25 rfl) ?_
  refine vo ?_
  refine xmkS (zs := [.bool false, .slice _ _ _, .bool false, .slice _ _ _]) ((colsN rss)) sl23 in48 rfl rfl rfl rfl rfl (by omega) (by omega) (by omega) ?_
  intro W172 x173 xa n174
  have s175 := x173.sz
  have z176 := z169.trans x173
  have z178 := x173
  replace b3 := b3.ext x173
  replace b9 := b9.ext x173
  replace b15 := b15.ext x173
  replace b25 := b25.ext x173
  replace hKx := hKx.ext x173
  replace hb8 := hb8.ext x173
  refine vo ?_
  refine st1 (v := .slice _ _ _) (cs' := [_]) b3 rfl rfl sz23 rfl rfl rfl rfl ?_
  intro W179 y180 b3
  have z181 := z176.below (y180.below (by omega))
  replace b9 := b9.wr y180 (by omega)
  replace b15 := b15.wr y180 (by omega)
  replace b25 := b25.wr y180 (by omega)
  replace hKx := hKx.wr y180 (by omega)
  replace hb8 := hb8.wr y180 (by omega)
  replace xa := xa.wr y180 (by omega)
  have s182 := y180.size
  refine vnil ?_
  refine V.seq ?_
  refine V.seq (V.reg rfl ?_)
  refine vv (rldb (v := .pointer (some ⟨_, _, none⟩)) rfl sc132 hb8 rfl) ?_
  refine vo ?_
  refine xcall e126 (places_ok bw _) rfl rfl ?_
  rintro _ W183 ⟨b1, eb1, rfl, x184, hb1⟩
  have s185 := x184.sz
  have z186 := z181.trans x184
  replace b3 := b3.ext x184
  replace b9 := b9.ext x184
  replace b15 := b15.ext x184
  replace b25 := b25.ext x184
  replace hKx := hKx.ext x184
  replace hb8 := hb8.ext x184
  replace xa := xa.ext x184
  have lb1 := hb1.lt
  refine ⟨_, rfl, ?_⟩
  refine vnil ?_
  refine V.block ?_
  have l4 := b3.lt; have l5 := b9.lt; have l6 := b15.lt; have l7 := b25.lt; have l8 := hb8.lt; have lxa := xa.box.lt; have lxw := hKx.lt; have zR := z186; have b7r := b25; have b8r := hb8; have bxr := hKx; have hMR := ((hMr.ext z178).ck ((y180.ck (by intro hh; first | (simp [SX] at hh <;> omega) | omega)).trans (x184.ck _))); have szR := zR.sz
  have hxR := (hx.ext z186)
  refine V.rf (gf := 170) rfl e170 (places_iter (D := (fun q => q < W183.heap.size ∧ q ≠ W163.heap.size ∧ q ≠ w.heap.size ∧ q ≠ W1.heap.size ∧ q ≠ W7.heap.size)) (hb1) bxr ((((hrp.ext z178).ck ((y180.ck (by intro hh; first | (simp [SX] at hh <;> omega) | omega)).trans (x184.ck _)))).sub (fun b hb h => ⟨hb, by omega, by omega, by omega, by omega⟩)) ⟨by omega, by omega, by omega, by omega, by omega⟩ ⟨by omega, by omega, by omega, by omega, by omega⟩) (Ext.refl _) (by rintro k ⟨h, _⟩; exact h) rfl (fun i X => KD (fun q => q < W183.heap.size ∧ q ≠ W163.heap.size ∧ q ≠ w.heap.size ∧ q ≠ W1.heap.size ∧ q ≠ W7.heap.size) W183 X ∧ (∀ j, j < i → wd s.2.1 j ≠ (colsN rss : Int)) ∧ BoxAt X (w.heap.size) [.slice (some ⟨W163.heap.size, 0, none⟩) (colsN rss) (colsN rss)] 23 ∧ BoxAt X (W1.heap.size) [.slice none 0 0] 22 ∧ BoxAt X (W7.heap.size) [.int .i64 0] 31 ∧ ∃ qs, AQ 4 X (W163.heap.size) 48 (colsN rss) qs ∧ All2 (QC (fun b => B0 ≤ b ∧ b < W163.heap.size) X) qs (svec s.1 s.2.1 (colsN rss) i)) (fun cd i X => cd = .ret ∧ KD (fun q => q < W183.heap.size ∧ q ≠ W163.heap.size ∧ q ≠ w.heap.size ∧ q ≠ W1.heap.size ∧ q ≠ W7.heap.size) W183 X ∧ wd s.2.1 i = (colsN rss : Int) ∧ i < s.2.1.length ∧ BoxAt X (w.heap.size) [.slice none 0 0] 23 ∧ BoxAt X (W1.heap.size) [.slice none 0 0] 22 ∧ BoxAt X (W7.heap.size) [.int .i64 8] 31) (fun i X Y ⟨h1, h2, h3, h4, h5, qs, h6, h7⟩ t => ⟨h1.trans (t.kd fun k h => h.1), h2, h3.tn t, h4.tn t, h5.tn t, qs, h6.tn t, h7.imp fun _ _ h => h.ck (t.ck _)⟩) (fun cd i X Y ⟨h0, h1, h2, h3, h4, h5, h6⟩ t => ⟨h0, h1.trans (t.kd fun k h => h.1), h2, h3, h4.tn t, h5.tn t, h6.tn t⟩) (⟨KD.refl _ _, fun j hj => absurd hj (Nat.not_lt_zero _), b3, b9, b15, _, xa, All2.rep (QC.zero _ _) _⟩) ?_ ?_ ?_
  ·intro l187 i188 X189 hi190 hM191 hk192 hs193
   refine V.seq (V.reg rfl ?_)
   refine asi rfl ?_
   refine vnil ?_
   refine V.reg rfl ?_
   refine asi rfl ?_
   refine vnil ?_
   refine ⟨rfl, Kf.refl _ _ _, ?_⟩
   intro Z194 t195
   obtain ⟨hkx, hne, h4, h5, h6, qs, hA2, hQ2⟩ := hi190
   replace hkx := hkx.trans (t195.kd fun k h => h.1); replace hA2 := hA2.tn t195; replace h4 := h4.tn t195; replace h5 := h5.tn t195; replace h6 := h6.tn t195; replace hQ2 := hQ2.imp fun _ _ h => h.ck (t195.ck _); have hAb := hA2.box; have hwi := hpv i188 (by omega); have hAl := hA2.box.lt; have sX0 := hkx.size
   have h7 := b7r.kd hkx ⟨by omega, by omega, by omega, by omega, by omega⟩; have h8 := b8r.kd hkx ⟨by omega, by omega, by omega, by omega, by omega⟩; have hxx := bxr.kd hkx ⟨by omega, by omega, by omega, by omega, by omega⟩; have hM2 := hMR.ck (hkx.ck.sub fun b hb => ⟨by omega, by omega, by omega, by omega, by omega⟩); have hzz := Ext.refl Z194
   refine V.block ?_
   refine V.seq ?_
   refine V.seq (V.reg rfl ?_)
   refine mvi rfl ?_
   refine vv (rldb (v := .int _ _) rfl sc3 h7 rfl) ?_
   refine veq rfl rfl ?_ ?_
   ·intro c7
    refine vnil ?_
    refine V.condT rfl ?_
    refine V.seq (V.reg rfl ?_)
    have hj4 := h4
    refine vo ?_
    refine st1 (v := .slice _ _ _) (cs' := [_]) h4 rfl rfl sz23 rfl rfl rfl rfl ?_
    intro W196 y197 h4
    replace hA2 := hA2.wr y197 (by omega)
    replace h5 := h5.wr y197 (by omega)
    replace h6 := h6.wr y197 (by omega)
    replace h7 := h7.wr y197 (by omega)
    replace h8 := h8.wr y197 (by omega)
    replace hxx := hxx.wr y197 (by omega)
    have s198 := y197.size
    have hj5 := h5
    refine vo ?_
    refine st1 (v := .slice _ _ _) (cs' := [_]) h5 rfl rfl sz22 rfl rfl rfl rfl ?_
    intro W199 y200 h5
    replace hA2 := hA2.wr y200 (by omega)
    replace h4 := h4.wr y200 (by omega)
    replace h6 := h6.wr y200 (by omega)
    replace h7 := h7.wr y200 (by omega)
    replace h8 := h8.wr y200 (by omega)
    replace hxx := hxx.wr y200 (by omega)
    have s201 := y200.size
    have hj6 := h6
    refine vo ?_
    refine st1 (v := .int _ _) (cs' := [_]) h6 rfl rfl sz31 rfl rfl rfl rfl ?_
    intro W202 y203 h6
    replace hA2 := hA2.wr y203 (by omega)
    replace h4 := h4.wr y203 (by omega)
    replace h5 := h5.wr y203 (by omega)
    replace h7 := h7.wr y203 (by omega)
    replace h8 := h8.wr y203 (by omega)
    replace hxx := hxx.wr y203 (by omega)
    have s204 := y203.size
    refine vnil ?_
    refine V.ret ?_
    exact ⟨((Kf.wr y197 hj4 (fun h => h.2.2.1 rfl)).trans (Kf.wr y200 hj5 (fun h => h.2.2.2.1 rfl))).trans (Kf.wr y203 hj6 (fun h => h.2.2.2.2 rfl)), rfl, ((hkx.trans (y197.kd fun h => h.2.2.1 rfl)).trans (y200.kd fun h => h.2.2.2.1 rfl)).trans (y203.kd fun h => h.2.2.2.2 rfl), c7, by omega, h4, h5, h6⟩
   ·intro c7
    have hMz := hM2
    have hrw := hall.2.2.1.row (i := ((i188 : Nat) : Int).toNat) (by omega)
    obtain ⟨ra5, rk5, rc5, hc5, hg5⟩ := hMz.el (i := (i188 : Int)) (by omega) (by omega)
    have ce5 : C1 Z194 _ _ := hc5; have hgl5 := hg5.len
    obtain ⟨qsr, hrs5, hqr5⟩ := hg5
    obtain ⟨qel, hqe1, hqe2, hqe3⟩ := hrs5.el (i := ((colsN rss : Nat) : Int)) (by omega) (by omega)
    obtain ⟨rel, hre1, hqel⟩ := hqr5.get hqe1
    obtain ⟨en0, ea0, el0, ec0, em0, eb0, ek0, ed0, rfl⟩ := hqel.form
    have ce0 : CE Z194 _ _ := hqe3
    obtain rfl : mat s.1 i188 (colsN rss) = rel := by have h : vat (rowat s.1 i188) (colsN rss) = rel := (by unfold vat; rw [List.getD_eq_getElem?_getD]; simp only [Int.toNat_natCast] at hre1; rw [hre1]; rfl); exact h
    refine vnil ?_
    refine V.condF rfl ?_
    refine V.skip ?_
    refine V.regD mixed rfl ?_
    intro W205 x206
    have s207 := x206.sz
    have z208 := x206
    replace hA2 := hA2.ext x206
    replace h4 := h4.ext x206
    replace h5 := h5.ext x206
    replace h6 := h6.ext x206
    replace h7 := h7.ext x206
    replace h8 := h8.ext x206
    replace hxx := hxx.ext x206
    have q209 := Ext.refl W205
    have r210 := hA2
    have r211 := h4
    have r212 := h5
    have r213 := h6
    have r214 := h7
    have r215 := h8
    have r216 := hxx
    refine tk 0 rfl (by kernel_rfl) q209 (pv (fun _ y217 => rldb (v := .slice _ _ _) rfl sc23 (r211.ext y217) rfl)) ?_
    refine tk 1 rfl (by kernel_rfl) q209 (pv (fun _ y218 => rmv (v := .int _ _) rfl)) ?_
    refine tk 2 rfl (by kernel_rfl) q209 (pv (fun _ y219 => rldb (v := .pointer (some ⟨_, _, none⟩)) rfl sc132 (r215.ext y219) rfl)) ?_
    refine tk 3 rfl (by kernel_rfl) q209 (pv (fun _ y220 => rnc (v := .pointer (some ⟨_, _, none⟩)) rfl rfl)) ?_
    refine tk 4 rfl (by kernel_rfl) q209 (pv (fun _ y221 => rfa rfl fd141_0)) ?_
    refine tk 5 rfl (by kernel_rfl) q209 (pv (fun _ y222 => rldb (v := .slice av _ cv) rfl sc22 (r216.ext y222) rfl)) ?_
    refine tk 6 rfl (by kernel_rfl) q209 (pv (fun _ y223 => rmv (v := .int _ _) rfl)) ?_
    refine tk 7 rfl (by kernel_rfl) q209 (pv (fun _ y224 => rix sl22 sz23 rfl rfl (by omega) (by omega) (((hM2.ext z208).ext y224).isS (i := 0) (by omega) (by omega)))) ?_
    refine tk 8 rfl (by kernel_rfl) q209 (pv (fun _ y225 => rld1 (v := .slice _ _ _) rfl sc23 ((ce5.ext z208).ext y225))) ?_
    refine tk 9 rfl (by kernel_rfl) q209 (pv (fun _ y226 => rldb (v := .int _ _) rfl sc3 (r214.ext y226) rfl)) ?_
    refine tk 10 rfl (by kernel_rfl) q209 (pv (fun _ y227 => rix sl23 sz48 rfl rfl (by omega) (by omega) (hrs5.isS (i := 0) (by omega) (by omega)))) ?_
    refine tk 11 rfl (by kernel_rfl) q209 (pv (fun _ y228 => rldn (l := [.bool _, .slice _ _ _, .bool _, .slice _ _ _]) rfl ag48 rfl ((ce0.ext z208).ext y228))) ?_
    refine tk 12 rfl (by kernel_rfl) q209 (pv (fun _ y229 => rix sl23 sz48 rfl rfl (by omega) (by omega) rfl)) ?_
    refine ef 13 (by kernel_rfl) rfl ?_
    refine xstq (q := [.bool _, .slice _ _ _, .bool _, .slice _ _ _]) hA2 rfl rfl rfl sz48 rfl rfl (by omega) (by omega) ?_
    intro W230 y231 hA2
    replace h4 := h4.wr y231 (by omega)
    replace h5 := h5.wr y231 (by omega)
    replace h6 := h6.wr y231 (by omega)
    replace h7 := h7.wr y231 (by omega)
    replace h8 := h8.wr y231 (by omega)
    replace hxx := hxx.wr y231 (by omega)
    have s232 := y231.size
    refine lastT (by kernel_rfl) ?_
    refine dn (by kernel_rfl) ?_
    exact ⟨(Kf.ext x206).trans (Kf.wr y231 (hAb.ext x206) (fun h => h.2.1 rfl)), (hkx.trans (Ext.kd x206)).trans (y231.kd fun h => h.2.1 rfl), fun j hj => (by rcases Nat.lt_succ_iff_lt_or_eq.1 hj with h | rfl; exact hne j h; exact c7), h4, h5, h6, _, hA2, ((hQ2.imp fun _ _ h => h.ext x206).set (hqel.ext x206)).imp fun _ _ h => h.ck (y231.ck (fun hh => by omega))⟩
  ·intro D233 X234 hD235 hI236 hdf237 hs238
   obtain ⟨hkx, hne, h4, h5, h6, qs, hA2, hQ2⟩ := hI236
   have szx := hkx.size; have hlw : Ext w X234 := KD.low zR hkx (fun q hq => ⟨by omega, by omega, by omega, by omega, by omega⟩) (by omega)
   have hx2 := hx.ext hlw; have lA2 := hA2.box.lt; have zX := Ext.refl X234
   refine V.seq (V.regB [3] mixed rfl ?_)
   intro W239 x240
   have s241 := x240.sz
   have z242 := hlw.trans x240
   have z243 := x240
   replace hA2 := hA2.ext x240
   replace h4 := h4.ext x240
   replace h5 := h5.ext x240
   replace h6 := h6.ext x240
   have hd244 := x240.obj hdf237
   have q245 := Ext.refl W239
   have r246 := hA2
   have r247 := h4
   have r248 := h5
   have r249 := h6
   refine tkB 0 rfl (by kernel_rfl) q245 (pv (fun _ y250 => rldb (v := .slice _ _ _) rfl sc23 (r247.ext y250) rfl)) ?_
   refine tkP 1 rfl (by kernel_rfl) (by kernel_rfl) (fun _ => q245) (pv (fun _ _ => rmv (v := .slice _ _ _) rfl)) ?_
   refine efB 2 (by kernel_rfl) rfl ?_
   refine xcall e64 (sNull_ok _ _ _ L rss (fun b => W239.heap.size ≤ b) S1 _ (hx2.ext z243) hl1 (by omega) (by omega) (by omega) (fun b hb => by omega)) rfl rfl ?_
   rintro _ W252 ⟨an, nn, cn, rfl, x253, hN⟩
   have s254 := x253.sz
   have z255 := z242.trans x253
   replace hA2 := hA2.ext x253
   replace h4 := h4.ext x253
   replace h5 := h5.ext x253
   replace h6 := h6.ext x253
   have hd257 := x253.obj hd244
   have q258 := q245.trans x253
   refine ⟨_, rfl, ?_⟩
   refine ⟨fun _ => q258, ?_⟩
   refine efB 3 (by kernel_rfl) rfl ?_
   refine st1 (v := .slice _ _ _) (cs' := [_]) h4 rfl rfl sz23 rfl rfl rfl rfl ?_
   intro W259 y260 h4
   have z261 := z255.below (y260.below (by omega))
   replace hA2 := hA2.wr y260 (by omega)
   replace h5 := h5.wr y260 (by omega)
   replace h6 := h6.wr y260 (by omega)
   have hd262 := y260.obj hd257 (by omega)
   have s263 := y260.size
   refine notW (by kernel_rfl) ?_
   refine efB 4 (by kernel_rfl) rfl ?_
   refine st1 (v := .slice _ _ _) (cs' := [_]) h5 rfl rfl sz22 rfl rfl rfl rfl ?_
   intro W264 y265 h5
   have z266 := z261.below (y265.below (by omega))
   replace hA2 := hA2.wr y265 (by omega)
   replace h4 := h4.wr y265 (by omega)
   replace h6 := h6.wr y265 (by omega)
   have hd267 := y265.obj hd262 (by omega)
   have s268 := y265.size
   refine notW (by kernel_rfl) ?_
   refine efB 5 (by kernel_rfl) rfl ?_
   refine st1 (v := .int _ _) (cs' := [_]) h6 rfl rfl sz31 rfl rfl rfl rfl ?_
   intro W269 y270 h6
   have z271 := z266.below (y270.below (by omega))
   replace hA2 := hA2.wr y270 (by omega)
   replace h4 := h4.wr y270 (by omega)
   replace h5 := h5.wr y270 (by omega)
   have hd272 := y270.obj hd267 (by omega)
   have s273 := y270.size
   refine notW (by kernel_rfl) ?_
   refine dnB (by kernel_rfl) ?_
   refine V.ret ?_
   refine ⟨D233, rfl, hd272, ?_⟩
   have tp := Tn.putObj (B := w.heap.size) (.deferred none) hd272 (by omega) rfl
   have hA2 := hA2.tn tp
   have h4 := h4.tn tp
   have h5 := h5.tn tp
   have h6 := h6.tn tp
   have z274 := tp.ext z271 (Nat.le_refl _)
   refine ⟨[.slice _ _ _, .slice _ _ _, .int _ _], ⟨⟨_, rfl, lv1 sc23 h4 rfl⟩, ⟨_, rfl, lv1 sc22 h5 rfl⟩, ⟨_, rfl, lv1 sc31 h6 rfl⟩, trivial⟩, ?_⟩
   have hN9 := (hN.ck (((y260.ck (by intro hh; first | (simp [SX] at hh <;> omega) | omega)).trans (y265.ck (by intro hh; first | (simp [SX] at hh <;> omega) | omega))).trans (y270.ck (by intro hh; first | (simp [SX] at hh <;> omega) | omega)))); have hQ9 := hQ2.imp fun _ _ h => h.ck (((((x240.ck _).trans (x253.ck _)).trans (y260.ck (fun hh => by have := hh.1; omega))).trans (y265.ck (fun hh => by have := hh.1; omega))).trans (y270.ck (fun hh => by have := hh.1; omega)))
   have hni : ¬ (colsN rss : Int) ∈ (solW rss bs (max n m)).2.1 := by rw [hsol]; intro h; obtain ⟨j, hj, e⟩ := wd_mem.2 h; exact hne j hj e
   refine ⟨_, _, _, _, _, _, 0, rfl, z274, ?_, ?_, ?_⟩
   ·rw [solX, if_neg hni, hsol]; exact ⟨qs, hA2.rs (hu _ (by omega)), hQ9.imp fun _ _ h => (h.ck (tp.ck _)).sub fun b hb hs => hu b (by omega)⟩
   ·rw [solF, if_neg hni]; exact MG.sub okRowC (hN9.ck (tp.ck _)) fun b hb hs => hu b (by omega)
   ·rw [solE, if_neg hni]
  ·rintro D' cd i X hD' hi ⟨rfl, hkx, c7, hil, h4, h5, h6⟩ hdf hs
   have szx := hkx.size; have hlw : Ext w X := KD.low zR hkx (fun q hq => ⟨by omega, by omega, by omega, by omega, by omega⟩) (by omega)
   refine V.ret ?_
   refine ⟨D', rfl, hdf, ?_⟩
   have tp := Tn.putObj (B := w.heap.size) (.deferred none) hdf (by omega) rfl
   have h4 := h4.tn tp
   have h5 := h5.tn tp
   have h6 := h6.tn tp
   have z275 := tp.ext hlw (Nat.le_refl _)
   refine ⟨[.slice _ _ _, .slice _ _ _, .int _ _], ⟨⟨_, rfl, lv1 sc23 h4 rfl⟩, ⟨_, rfl, lv1 sc22 h5 rfl⟩, ⟨_, rfl, lv1 sc31 h6 rfl⟩, trivial⟩, ?_⟩
   have hin : (colsN rss : Int) ∈ (solW rss bs (max n m)).2.1 := by rw [hsol]; exact wd_mem.1 ⟨i, hil, c7⟩
   refine ⟨none, 0, 0, none, 0, 0, 8, rfl, z275, ?_, ?_, ?_⟩
   ·rw [solX, if_pos hin]; exact ⟨[], RS.nil _ _ _ _ _ (by omega), trivial⟩
   ·rw [solF, if_pos hin]; exact MC.nil _ _
   ·rw [solE, if_pos hin]
end Go.Proofs.YtknbjfefeeojlaaGreat
/- Systems of equations and the reduced form: plain mathematics for the laws of layer 5. -/
namespace Go.Proofs.YtknbjfefeeojlaaGreat
section
variable {rows0 rows : List (List Rat)} {piv : List Int} {n N : Nat}
end
def padm (rss : List (List Rat)) : List (List Rat) := gridm (matI rss) rss.length (colsN rss)
theorem mat_take {rows : List (List Rat)} {m i : Nat} (h : i < m) (k : Nat) : mat (rows.take m) i k = mat rows i k := by
  unfold mat rowat
  rw [List.getD_eq_getElem?_getD, List.getD_eq_getElem?_getD, List.getElem?_take, if_pos h]
def redR (rss : List (List Rat)) : List (List Rat) := (redS (padm rss) (colsN rss)).1.take (redS (padm rss) (colsN rss)).2.1.length
end Go.Proofs.YtknbjfefeeojlaaGreat
/- A guarded call in a region that draws its order; a literal of two rationals. -/
namespace Go.Proofs.YtknbjfefeeojlaaGreat
open Go.RowKit
section
variable {r : Option Nat} {P : Program} {ops : Array Oper} {S : World → Prop} {R : Env → World → Prop} {fuel : Nat} {listed : Array Bool} {E : Env} {W : World} {d : Option Tmp} {op : Op} {ty : TypeId} {pos : String} {af : Array Edge}
theorem efg {j : Nat} {want : Bool} (i : Nat) (hr : Region.ready .any ops listed = [i]) (hi : ops[i]? = some ⟨d, op, ty, pos, af, some (j, want)⟩) (hg : yE ops E j = some want) (h : OpF r P (ev E) ⟨d, op, ty, pos, af, some (j, want)⟩ W fun v W' => (lastOp ops i = false → S W') ∧ VH r P ops S R fuel (listed.setIfInBounds i true) (puto E d v) W') : VH r P ops S R (fuel + 1) listed E W := by
  refine ⟨fun h0 => (by rw [hr] at h0; cases h0), fun k hk => ?_⟩
  rw [hr] at hk
  obtain rfl : k = i := by simpa using hk
  unfold opI
  simp only [hi]
  rw [if_pos (by simp [wE, Region.wanted, hg])]; exact h
end
theorem fillS2 (z0 z1 z2 z3 u0 u1 u2 u3 v0 v1 v2 v3 : Value) : Instr.fill (fun i => some (i * 4, 4)) (List.replicate 2 [z0, z1, z2, z3]).flatten.toArray [(0, .agg #[u0, u1, u2, u3]), (1, .agg #[v0, v1, v2, v3])] = some [u0, u1, u2, u3, v0, v1, v2, v3].toArray := fill24 _ _ _ _ _ _ _ _ _ _ _ _ _ _ _ _
end Go.Proofs.YtknbjfefeeojlaaGreat
/- Package pylonlaw05: the sizes that the laws speak of, and the examples. -/
namespace Go.Proofs.YtknbjfefeeojlaaGreat
open Go.RowKit
attribute [local irreducible] RV VH V OpF Calls

set_option maxHeartbeats 400000 in
theorem tall_ok (a1 : Option Addr) (n c : Nat) (rss : List (List RawQ)) (S1 : Nat → Prop) (w : World) (hx : MX S1 w a1 n c rss) :
    Calls Tryz.prog 120 #[.slice a1 n c] w (fun e w' => ∃ q, e = .returned (.bool q) ∧ w = w') := by
 have z0 := Ext.refl w; have hLX : LX = 17592186044416 := rfl; have hLY : LY = 8796093022208 := rfl
 have l1 := hx.len; have l2 := hx.max
 refine enter (args := [.slice a1 n c]) Tryz.func120 rfl rfl (Nat.le_of_ble_eq_true rfl) ?_
 refine V.seq (V.reg rfl ?_)
 refine asb rfl ?_
 refine vnil ?_
 refine V.seq ?_
 refine V.seq (V.reg rfl ?_)
 refine asi rfl ?_
 refine vnil ?_
 refine V.block ?_
 refine V.loopK (ι := Nat) [(0, .slice _ _ _)] (fun k => [(3, .int .i64 (k : Int))]) (fun k W => w = W ∧ k ≤ n) (fun k => n - k) (0) ⟨rfl, trivial⟩ ⟨rfl, trivial⟩ ⟨rfl, Nat.zero_le _⟩ ?_
 intro k E2 W1 h3
 obtain ⟨rfl, hk⟩ := h3
 refine V.seq ?_
 refine V.seq (V.reg rfl ?_)
 refine mvi rfl ?_
 refine mvs rfl ?_
 refine vv (rlen sl22 rfl) ?_
 refine vlt rfl rfl ?_ ?_
 ·intro c4
  refine vnil ?_
  refine V.condT rfl ?_
  refine V.skip ?_
  refine V.seq ?_
  refine V.block ?_
  refine V.seq (V.reg rfl ?_)
  refine asi rfl ?_
  refine vnil ?_
  refine V.block ?_
  refine V.loopK (ι := Nat) [(0, .slice _ _ _), (3, .int _ _), (5, .int _ _), (6, .slice _ _ _), (7, .int _ _), (8, .bool true)] (fun j => [(4, .int .i64 (j : Int))]) (fun j W => w = W ∧ j ≤ (rowat rss ((k : Int)).toNat).length) (fun j => (rowat rss ((k : Int)).toNat).length - j) (0) ⟨rfl, rfl, rfl, rfl, rfl, rfl, trivial⟩ ⟨rfl, trivial⟩ ⟨rfl, Nat.zero_le _⟩ ?_
  intro j E6 W5 h7
  obtain ⟨rfl, hj⟩ := h7
  refine V.seq ?_
  refine V.seq (V.reg rfl ?_)
  refine mvi rfl ?_
  refine mvs rfl ?_
  refine mvi rfl ?_
  refine vv (rix sl22 sz23 rfl rfl (by omega) (by omega) (hx.isS (i := 0) (by omega) (by omega))) ?_
  refine vldRow hx rfl sc23 (by omega) (by omega) ?_
  intro a8 n9 c10 hg11
  have hg11l := hg11.len; have hg11m := hg11.max
  refine vv (rlen sl23 rfl) ?_
  refine vlt rfl rfl ?_ ?_
  ·intro c12
   refine vnil ?_
   refine V.condT rfl ?_
   refine V.skip ?_
   refine V.seq ?_
   refine V.block ?_
   refine V.seq (V.reg rfl ?_)
   refine mvs rfl ?_
   refine mvi rfl ?_
   refine vv (rix sl22 sz23 rfl rfl (by omega) (by omega) (hx.isS (i := 0) (by omega) (by omega))) ?_
   refine vldRow hx rfl sc23 (by omega) (by omega) ?_
   intro a13 n14 c15 hg16
   have hg16l := hg16.len; have hg16m := hg16.max
   refine mvi rfl ?_
   obtain ⟨en0, ea0, el0, ec0, em0, eb0, ek0, ed0, hq0, hc0⟩ := hg16.el (i := (j : Int)) (by omega) (by omega)
   have ce0 : CE w _ _ := hc0
   refine vv (rix sl23 sz48 rfl rfl (by omega) (by omega) (GX.isS (i := 0) hg16 (by omega) (by omega))) ?_
   refine vv (rfaG rfl fd48_0) ?_
   refine vv (rfaG rfl fd46_1) ?_
   refine vv (rld1 (v := .slice _ _ _) rfl sc44 ((ce0.part (l' := [.bool _, .slice _ _ _]) 0 rfl) 1 _ rfl)) ?_
   refine vv (rlen sl44 rfl) ?_
   refine vgt rfl rfl ?_ ?_
   ·intro c17
    refine mvb rfl ?_
    refine vgn (b := true) rfl rfl ?_
    refine vgn (b := true) rfl rfl ?_
    refine vgn (b := true) rfl rfl ?_
    refine vgn (b := true) rfl rfl ?_
    refine vgn (b := true) rfl rfl ?_
    refine vgn (b := true) rfl rfl ?_
    refine vgn (b := true) rfl rfl ?_
    refine vgn (b := true) rfl rfl ?_
    refine vgn (b := true) rfl rfl ?_
    refine vgn (b := true) rfl rfl ?_
    refine vgn (b := true) rfl rfl ?_
    refine vv (rpk (v := .bool true) rfl rfl) ?_
    refine vnil ?_
    refine V.condT rfl ?_
    refine V.seq (V.reg rfl ?_)
    refine asb rfl ?_
    refine vnil ?_
    refine V.ret ?_
    refine ⟨[.bool true], ⟨rfl, trivial⟩, ?_⟩
    exact ⟨_, rfl, rfl⟩
   ·intro c17
    refine mvb rfl ?_
    refine vg rfl ?_
    refine mvs rfl ?_
    refine vg rfl ?_
    refine mvi rfl ?_
    refine vg rfl ?_
    refine vv (rix sl22 sz23 rfl rfl (by omega) (by omega) (hx.isS (i := 0) (by omega) (by omega))) ?_
    refine vg rfl ?_
    refine vldRow hx rfl sc23 (by omega) (by omega) ?_
    intro a18 n19 c20 hg21
    have hg21l := hg21.len; have hg21m := hg21.max
    refine vg rfl ?_
    refine mvi rfl ?_
    refine vg rfl ?_
    obtain ⟨en1, ea1, el1, ec1, em1, eb1, ek1, ed1, hq1, hc1⟩ := hg21.el (i := (j : Int)) (by omega) (by omega)
    have ce1 : CE w _ _ := hc1
    refine vv (rix sl23 sz48 rfl rfl (by omega) (by omega) (GX.isS (i := 0) hg21 (by omega) (by omega))) ?_
    refine vg rfl ?_
    refine vv (rfaG rfl fd48_1) ?_
    refine vg rfl ?_
    refine vv (rfaG rfl fd46_1) ?_
    refine vg rfl ?_
    refine vv (rld1 (v := .slice _ _ _) rfl sc44 ((ce1.part (l' := [.bool _, .slice _ _ _]) 2 rfl) 1 _ rfl)) ?_
    refine vg rfl ?_
    refine vv (rlen sl44 rfl) ?_
    refine vg rfl ?_
    refine vgt rfl rfl ?_ ?_
    ·intro c22
     refine vv (rpk (v := .bool true) rfl rfl) ?_
     refine vnil ?_
     refine V.condT rfl ?_
     refine V.seq (V.reg rfl ?_)
     refine asb rfl ?_
     refine vnil ?_
     refine V.ret ?_
     refine ⟨[.bool true], ⟨rfl, trivial⟩, ?_⟩
     exact ⟨_, rfl, rfl⟩
    ·intro c22
     refine vv (rpk (v := .bool false) rfl rfl) ?_
     refine vnil ?_
     refine V.condF rfl ?_
     refine V.skip ?_
     refine V.reg rfl ?_
     refine mvi rfl ?_
     refine vv (rbin (bAdd (wi (by omega))) rfl rfl) ?_
     refine asi rfl ?_
     refine vnil ?_
     refine ⟨rfl, j + 1, ⟨rfl, rfl, rfl, rfl, rfl, rfl, trivial⟩, ⟨rfl, trivial⟩, ⟨rfl, by omega⟩, ?_⟩
     show (rowat rss ((k : Int)).toNat).length - (j + 1) < (rowat rss ((k : Int)).toNat).length - j
     omega
  ·intro c12
   refine vnil ?_
   refine V.condF rfl ?_
   refine V.exit ?_
   refine V.reg rfl ?_
   refine mvi rfl ?_
   refine vv (rbin (bAdd (wi (by omega))) rfl rfl) ?_
   refine asi rfl ?_
   refine vnil ?_
   refine ⟨rfl, k + 1, ⟨rfl, trivial⟩, ⟨rfl, trivial⟩, ⟨rfl, by omega⟩, ?_⟩
   show n - (k + 1) < n - k
   omega
 ·intro c4
  refine vnil ?_
  refine V.condF rfl ?_
  refine V.exit ?_
  refine V.seq (V.reg rfl ?_)
  refine asb rfl ?_
  refine vnil ?_
  refine V.ret ?_
  refine ⟨[.bool false], ⟨rfl, trivial⟩, ?_⟩
  exact ⟨_, rfl, rfl⟩
set_option maxHeartbeats 400000 in
theorem long5_ok (a1 a2 : Option Addr) (n c m d : Nat) (A B : List (List RawQ)) (S2 : Nat → Prop) (w : World) (hx : MX TT w a1 n c A) (hy : MX S2 w a2 m d B) :
    Calls Tryz.prog 49 #[.slice a1 n c, .slice a2 m d] w (fun e w' => ∃ q, e = .returned (.bool q) ∧ Ext w w' ∧ (q = false → (smallM A ∧ A.length ≤ 6 ∧ colsG A ≤ 6) ∧ ∀ r ∈ B, r.length ≤ 20 ∧ smallV r)) := by
 have z0 := Ext.refl w; have hLX : LX = 17592186044416 := rfl; have hLY : LY = 8796093022208 := rfl
 have l1 := hx.len; have l2 := hx.max; have l3 := hy.len; have l4 := hy.max
 refine enter (args := [.slice a1 n c, .slice a2 m d]) Tryz.func49 rfl rfl (Nat.le_of_ble_eq_true rfl) ?_
 refine V.seq (V.reg rfl ?_)
 refine asb rfl ?_
 refine vnil ?_
 refine V.seq ?_
 refine V.seq (V.reg rfl ?_)
 refine mvs rfl ?_
 refine vo ?_
 refine xbs (ps := [(0, .slice _ _ _)]) (cs := [.slice _ _ _]) sl115 zr22 sz22 rfl rfl rfl rfl rfl rfl ?_
 intro W1 x2 b3 nn4
 have s5 := x2.sz
 have z6 := x2
 refine vo ?_
 have hm7 : MXX TT W1 (some ⟨w.heap.size, 0, none⟩) 1 1 [_] := ⟨[[.slice _ _ _]], RS.lit (s := 1) (S := TT) (n := 1) _ b3 rfl (by simp) trivial rfl (by omega), ⟨_, _, _, rfl, (hx.ext z6)⟩, trivial⟩
 refine xcall e32 (long4_ok _ _ _ _ _ _ hm7) rfl rfl ?_
 rintro _ Wb1 ⟨bb1, rfl, xb1, hb1⟩
 refine ⟨_, rfl, ?_⟩
 cases bb1
 ·skip
  have s8 := xb1.sz
  have z9 := z6.trans xb1
  refine mvb rfl ?_
  refine vg rfl ?_
  refine mvs rfl ?_
  refine vg rfl ?_
  refine vv (rlen sl22 rfl) ?_
  refine vg rfl ?_
  refine vgt rfl rfl ?_ ?_
  ·intro c10
   refine vv (rpk (v := .bool true) rfl rfl) ?_
   refine mvb rfl ?_
   refine vgn (b := true) rfl rfl ?_
   refine vgn (b := true) rfl rfl ?_
   refine vgn (b := true) rfl rfl ?_
   refine vv (rpk (v := .bool true) rfl rfl) ?_
   refine mvb rfl ?_
   refine vgn (b := true) rfl rfl ?_
   refine vgn (b := true) rfl rfl ?_
   refine vv (rpk (v := .bool true) rfl rfl) ?_
   refine vnil ?_
   refine V.condT rfl ?_
   refine V.seq (V.reg rfl ?_)
   refine asb rfl ?_
   refine vnil ?_
   refine V.ret ?_
   refine ⟨[.bool true], ⟨rfl, trivial⟩, ?_⟩
   exact ⟨_, rfl, z9, fun h => (by cases h)⟩
  ·intro c10
   refine vv (rpk (v := .bool false) rfl rfl) ?_
   refine mvb rfl ?_
   refine vg rfl ?_
   refine mvs rfl ?_
   refine vg rfl ?_
   refine vo ?_
   refine xcall e36 (rCols_ok _ _ _ _ _ _ (hx.ext z9)) rfl rfl ?_
   rintro _ _ ⟨rfl, rfl⟩
   refine ⟨_, rfl, ?_⟩
   refine vg rfl ?_
   refine vgt rfl rfl ?_ ?_
   ·intro c12
    refine vv (rpk (v := .bool true) rfl rfl) ?_
    refine mvb rfl ?_
    refine vgn (b := true) rfl rfl ?_
    refine vgn (b := true) rfl rfl ?_
    refine vv (rpk (v := .bool true) rfl rfl) ?_
    refine vnil ?_
    refine V.condT rfl ?_
    refine V.seq (V.reg rfl ?_)
    refine asb rfl ?_
    refine vnil ?_
    refine V.ret ?_
    refine ⟨[.bool true], ⟨rfl, trivial⟩, ?_⟩
    exact ⟨_, rfl, z9, fun h => (by cases h)⟩
   ·intro c12
    refine vv (rpk (v := .bool false) rfl rfl) ?_
    refine mvb rfl ?_
    refine vg rfl ?_
    refine mvs rfl ?_
    refine vg rfl ?_
    refine vo ?_
    refine xcall e14 (long3_ok _ _ _ _ _ _ (hy.ext z9)) rfl rfl ?_
    rintro _ Wb2 ⟨bb2, rfl, xb2, hb2⟩
    refine ⟨_, rfl, ?_⟩
    cases bb2
    ·skip
     have s13 := xb2.sz
     have z14 := z9.trans xb2
     refine vv (rpk (v := .bool false) rfl rfl) ?_
     refine vnil ?_
     refine V.condF rfl ?_
     refine V.skip ?_
     refine V.seq ?_
     refine V.seq (V.reg rfl ?_)
     refine asi rfl ?_
     refine vnil ?_
     refine V.block ?_
     refine V.loopK (ι := Nat) [(0, .slice _ _ _), (1, .slice _ _ _)] (fun k => [(5, .int .i64 (k : Int))]) (fun k W => Ext Wb2 W ∧ k ≤ m) (fun k => m - k) (0) ⟨rfl, rfl, trivial⟩ ⟨rfl, trivial⟩ ⟨Ext.refl _, Nat.zero_le _⟩ ?_
     intro k E16 W15 h17
     obtain ⟨x18, hk⟩ := h17
     have s19 := x18.sz
     have z20 := z14.trans x18
     have z21 := x18
     refine V.seq ?_
     refine V.seq (V.reg rfl ?_)
     refine mvi rfl ?_
     refine mvs rfl ?_
     refine vv (rlen sl22 rfl) ?_
     refine vlt rfl rfl ?_ ?_
     ·intro c22
      refine vnil ?_
      refine V.condT rfl ?_
      refine V.skip ?_
      refine V.seq ?_
      refine V.block ?_
      refine V.seq (V.reg rfl ?_)
      refine mvs rfl ?_
      refine mvi rfl ?_
      refine vv (rix sl22 sz23 rfl rfl (by omega) (by omega) ((hy.ext z20).isS (i := 0) (by omega) (by omega))) ?_
      refine vldRow (hy.ext z20) rfl sc23 (by omega) (by omega) ?_
      intro a23 n24 c25 hg26
      have hg26l := hg26.len; have hg26m := hg26.max
      refine vv (rlen sl23 rfl) ?_
      refine vgt rfl rfl ?_ ?_
      ·intro c27
       refine vnil ?_
       refine V.condT rfl ?_
       refine V.seq (V.reg rfl ?_)
       refine asb rfl ?_
       refine vnil ?_
       refine V.ret ?_
       refine ⟨[.bool true], ⟨rfl, trivial⟩, ?_⟩
       exact ⟨_, rfl, z20, fun h => (by cases h)⟩
      ·intro c27
       refine vnil ?_
       refine V.condF rfl ?_
       refine V.skip ?_
       refine V.reg rfl ?_
       refine mvi rfl ?_
       refine vv (rbin (bAdd (wi (by omega))) rfl rfl) ?_
       refine asi rfl ?_
       refine vnil ?_
       refine ⟨rfl, k + 1, ⟨rfl, rfl, trivial⟩, ⟨rfl, trivial⟩, ⟨z21, by omega⟩, ?_⟩
       show m - (k + 1) < m - k
       omega
     ·intro c22
      refine vnil ?_
      refine V.condF rfl ?_
      refine V.exit ?_
      refine V.seq (V.reg rfl ?_)
      refine mvs rfl ?_
      refine vo ?_
      refine xcall e120 (tall_ok _ _ _ _ _ _ (hx.ext z20)) rfl rfl ?_
      rintro _ _ ⟨bb3, rfl, rfl⟩
      refine ⟨_, rfl, ?_⟩
      cases bb3
      ·skip
       refine mvb rfl ?_
       refine vg rfl ?_
       refine mvs rfl ?_
       refine vg rfl ?_
       refine vo ?_
       refine xcall e120 (tall_ok _ _ _ _ _ _ (hy.ext z20)) rfl rfl ?_
       rintro _ _ ⟨bb4, rfl, rfl⟩
       refine ⟨_, rfl, ?_⟩
       cases bb4
       ·skip
        refine vv (rpk (v := .bool false) rfl rfl) ?_
        refine asb rfl ?_
        refine vnil ?_
        refine V.ret ?_
        refine ⟨[.bool false], ⟨rfl, trivial⟩, ?_⟩
        exact ⟨_, rfl, z20, fun _ => ⟨⟨(hb1 rfl) A (by simp), by omega, by omega⟩, hb2 rfl⟩⟩
       ·skip
        refine vv (rpk (v := .bool true) rfl rfl) ?_
        refine asb rfl ?_
        refine vnil ?_
        refine V.ret ?_
        refine ⟨[.bool true], ⟨rfl, trivial⟩, ?_⟩
        exact ⟨_, rfl, z20, fun h => (by cases h)⟩
      ·skip
       refine mvb rfl ?_
       refine vgn (b := true) rfl rfl ?_
       refine vgn (b := true) rfl rfl ?_
       refine vv (rpk (v := .bool true) rfl rfl) ?_
       refine asb rfl ?_
       refine vnil ?_
       refine V.ret ?_
       refine ⟨[.bool true], ⟨rfl, trivial⟩, ?_⟩
       exact ⟨_, rfl, z20, fun h => (by cases h)⟩
    ·skip
     have s28 := xb2.sz
     have z29 := z9.trans xb2
     refine vv (rpk (v := .bool true) rfl rfl) ?_
     refine vnil ?_
     refine V.condT rfl ?_
     refine V.seq (V.reg rfl ?_)
     refine asb rfl ?_
     refine vnil ?_
     refine V.ret ?_
     refine ⟨[.bool true], ⟨rfl, trivial⟩, ?_⟩
     exact ⟨_, rfl, z29, fun h => (by cases h)⟩
 ·skip
  have s30 := xb1.sz
  have z31 := z6.trans xb1
  refine mvb rfl ?_
  refine vgn (b := true) rfl rfl ?_
  refine vgn (b := true) rfl rfl ?_
  refine vgn (b := true) rfl rfl ?_
  refine vv (rpk (v := .bool true) rfl rfl) ?_
  refine mvb rfl ?_
  refine vgn (b := true) rfl rfl ?_
  refine vgn (b := true) rfl rfl ?_
  refine vgn (b := true) rfl rfl ?_
  refine vv (rpk (v := .bool true) rfl rfl) ?_
  refine mvb rfl ?_
  refine vgn (b := true) rfl rfl ?_
  refine vgn (b := true) rfl rfl ?_
  refine vv (rpk (v := .bool true) rfl rfl) ?_
  refine vnil ?_
  refine V.condT rfl ?_
  refine V.seq (V.reg rfl ?_)
  refine asb rfl ?_
  refine vnil ?_
  refine V.ret ?_
  refine ⟨[.bool true], ⟨rfl, trivial⟩, ?_⟩
  exact ⟨_, rfl, z31, fun h => (by cases h)⟩

section
variable {L : Nat} {S S1 S2 : Nat → Prop} {a1 a2 : Option Addr} {n c m d : Nat} {rss : List (List Rat)} {bs : List Rat}
theorem sReduce_at (w : World) (p : List Int) (r : List (List Rat)) (np nr : Nat) (hx : MA L S1 w a1 n c rss) (hl1 : 1 ≤ L) (hn : n ≤ 1024) (hc : colsN rss ≤ 1024) (hL5 : 15 * (L * 5 ^ colsN rss) + 2 < LY) (hu : Up S w) (e1 : (redS (gridm (matI rss) n (colsN rss)) (colsN rss)).2.1 = p) (e2 : (redS (gridm (matI rss) n (colsN rss)) (colsN rss)).1.take p.length = r) (e3 : p.length = np) :
    Calls Tryz.prog 60 #[.slice a1 n c] w fun e w' => ∃ ar cr ap cp, e = .returned (.tuple #[.slice ar np cr, .slice ap np cp]) ∧ Ext w w' ∧ MC S w' ar np cr r ∧ RN .i64 S w' ap np cp p := by
  have h := sReduce_ok a1 n c L rss S S1 w hx hl1 hn hc hL5 hu
  rw [e1, e2, e3] at h; exact h
theorem sDet_at (w : World) (er : Int) (r : Rat) (hx : MA L S1 w a1 n c rss) (hl1 : 1 ≤ L) (hn : n ≤ 1024) (hc : colsN rss ≤ 1024) (hL5 : 15 * (L * 5 ^ colsN rss) + 2 < LY) (hu : Up S w) (e1 : (if n = colsN rss then (0 : Int) else 13) = er) (e2 : (if n = colsN rss then detS (gridm (matI rss) n (colsN rss)) (colsN rss) else 0) = r) :
    Calls Tryz.prog 55 #[.slice a1 n c] w fun e w' => ∃ q, e = .returned (.tuple #[.agg q.toArray, .int .i64 er]) ∧ Ext w w' ∧ QC S w' q r := by
  have h := sDet_ok a1 n c L rss S S1 w hx hl1 hn hc hL5 hu
  rw [e1, e2] at h; exact h
theorem sInv_at (w : World) (er : Int) (r : List (List Rat)) (nr : Nat) (hx : MA L S1 w a1 n c rss) (hl1 : 1 ≤ L) (hn : n ≤ 512) (hc : colsN rss ≤ 1024) (hL5 : 15 * (L * 5 ^ n) + 2 < LY) (hu : Up S w) (e1 : (invS rss n).2 = er) (e2 : (invS rss n).1 = r) (e3 : r.length = nr) :
    Calls Tryz.prog 54 #[.slice a1 n c] w fun e w' => ∃ ar cr, e = .returned (.tuple #[.slice ar nr cr, .int .i64 er]) ∧ Ext w w' ∧ MC S w' ar nr cr r := by
  refine (sInverse_ok a1 n c L rss S S1 w hx hl1 hn hc hL5 hu).mono ?_
  rintro _ w' ⟨ar, nr, cr, rfl, x, h⟩
  rw [e2] at h; subst e1 e3
  obtain rfl := h.len
  exact ⟨ar, cr, rfl, x, h⟩
theorem sSolve_at (w : World) (er : Int) (x : List Rat) (fr : List (List Rat)) (nx nf : Nat) (hx : MA L S1 w a1 n c rss) (hy : GA L S2 w a2 m d bs) (hl1 : 1 ≤ L) (hn : n ≤ 1000) (hm : m ≤ 1000) (hc : colsN rss ≤ 1000) (hL5 : 15 * (L * 5 ^ (colsN rss + 1)) + 2 < LY) (hu : Up S w) (e1 : solX rss bs (max n m) = x) (e2 : solF rss bs n (max n m) = fr) (e3 : solE rss bs (max n m) = er) (e4 : x.length = nx) (e5 : fr.length = nf) :
    Calls Tryz.prog 51 #[.slice a1 n c, .slice a2 m d] w fun e w' => ∃ ax cx af cf, e = .returned (.tuple #[.slice ax nx cx, .slice af nf cf, .int .i64 er]) ∧ Ext w w' ∧ GC S w' ax nx cx x ∧ MC S w' af nf cf fr := by
  refine (sSolve_ok a1 a2 n c m d L rss bs S S1 S2 w hx hy hl1 hn hm hc hL5 hu).mono ?_
  rintro _ w' ⟨ax, nx, cx, af, nf, cf, er', rfl, x, h1, h2, h3⟩
  subst e4 e5
  rw [e1] at h1; rw [e2] at h2; rw [e3] at h3; subst h3
  obtain rfl := h1.len
  obtain rfl := h2.len
  exact ⟨ax, cx, af, cf, rfl, x, h1, h2⟩
end

set_option maxHeartbeats 400000 in
theorem rInts5_ok (a1 a2 : Option Addr) (n c m d : Nat) (xs ys : List Int) (S1 S2 : Nat → Prop) (w : World) (hx : RN .i64 S1 w a1 n c xs) (hy : RN .i64 S2 w a2 m d ys) :
    Calls Tryz.prog 62 #[.slice a1 n c, .slice a2 m d] w (fun e w' => ∃ q, e = .returned (.bool q) ∧ Ext w w' ∧ (q = true ↔ xs = ys)) := by
 have z0 := Ext.refl w; have hLX : LX = 17592186044416 := rfl; have hLY : LY = 8796093022208 := rfl
 have l1 := hx.len; have l2 := hx.cap; have l3 := hx.max; have l4 := hy.len; have l5 := hy.cap; have l6 := hy.max
 refine enter (args := [.slice a1 n c, .slice a2 m d]) Tryz.func62 rfl rfl (Nat.le_of_ble_eq_true rfl) ?_
 refine V.seq (V.reg rfl ?_)
 refine asb rfl ?_
 refine vnil ?_
 refine V.seq ?_
 refine V.seq (V.reg rfl ?_)
 refine mvs rfl ?_
 refine vv (rlen sl73 rfl) ?_
 refine mvs rfl ?_
 refine vv (rlen sl73 rfl) ?_
 refine vne rfl rfl ?_ ?_
 ·intro c1
  refine vnil ?_
  refine V.condT rfl ?_
  refine V.seq (V.reg rfl ?_)
  refine asb rfl ?_
  refine vnil ?_
  refine V.ret ?_
  refine ⟨[.bool false], ⟨rfl, trivial⟩, ?_⟩
  exact ⟨_, rfl, (Ext.refl w), ⟨fun h => (by cases h), fun h => by subst h; omega⟩⟩
 ·intro c1
  refine vnil ?_
  refine V.condF rfl ?_
  refine V.skip ?_
  refine V.seq ?_
  refine V.seq (V.reg rfl ?_)
  refine asi rfl ?_
  refine vnil ?_
  refine V.block ?_
  refine V.loopK (ι := Nat) [(0, .slice _ _ _), (1, .slice _ _ _)] (fun k => [(5, .int .i64 (k : Int))]) (fun k W => Ext w W ∧ k ≤ n ∧ xs.take k = ys.take k) (fun k => n - k) (0) ⟨rfl, rfl, trivial⟩ ⟨rfl, trivial⟩ ⟨Ext.refl _, Nat.zero_le _, rfl⟩ ?_
  intro k E3 W2 h4
  obtain ⟨x5, hk, ht⟩ := h4
  have s6 := x5.sz
  have z7 := x5
  refine V.seq ?_
  refine V.seq (V.reg rfl ?_)
  refine mvi rfl ?_
  refine mvs rfl ?_
  refine vv (rlen sl73 rfl) ?_
  refine vlt rfl rfl ?_ ?_
  ·intro c8
   refine vnil ?_
   refine V.condT rfl ?_
   refine V.skip ?_
   refine V.seq ?_
   refine V.block ?_
   refine V.seq (V.regD mixed rfl ?_)
   intro W9 x10
   have s11 := x10.sz
   have z12 := z7.trans x10
   have q13 := Ext.refl W9
   refine tk 0 rfl (by kernel_rfl) q13 (pv (fun _ y14 => rmv (v := .slice _ _ _) rfl)) ?_
   refine tk 1 rfl (by kernel_rfl) q13 (pv (fun _ y15 => rmv (v := .int _ _) rfl)) ?_
   refine tk 2 rfl (by kernel_rfl) q13 (pv (fun _ y16 => rixn ((hx.ext z12).ext y16) sl73 sz3 rfl rfl (by omega) (by omega))) ?_
   refine tk 3 rfl (by kernel_rfl) q13 (pv (fun _ y17 => rldN ((hx.ext z12).ext y17) rfl sc3 (by omega) (by omega))) ?_
   refine tk 4 rfl (by kernel_rfl) q13 (pv (fun _ y18 => rmv (v := .slice _ _ _) rfl)) ?_
   refine tk 5 rfl (by kernel_rfl) q13 (pv (fun _ y19 => rmv (v := .int _ _) rfl)) ?_
   refine tk 6 rfl (by kernel_rfl) q13 (pv (fun _ y20 => rixn ((hy.ext z12).ext y20) sl73 sz3 rfl rfl (by omega) (by omega))) ?_
   refine tk 7 rfl (by kernel_rfl) q13 (pv (fun _ y21 => rldN ((hy.ext z12).ext y21) rfl sc3 (by omega) (by omega))) ?_
   refine tkNe 8 rfl (by kernel_rfl) q13 rfl rfl (fun _ h => pv h) ?_ ?_
   ·intro cz
    refine dn (by kernel_rfl) ?_
    refine V.condT rfl ?_
    refine V.seq (V.reg rfl ?_)
    refine asb rfl ?_
    refine vnil ?_
    refine V.ret ?_
    refine ⟨[.bool false], ⟨rfl, trivial⟩, ?_⟩
    exact ⟨_, rfl, z12, ⟨fun h => (by cases h), fun h => absurd (by rw [h]) cz⟩⟩
   ·intro cz
    refine dn (by kernel_rfl) ?_
    refine V.condF rfl ?_
    refine V.skip ?_
    refine V.reg rfl ?_
    refine mvi rfl ?_
    refine vv (rbin (bAdd (wi (by omega))) rfl rfl) ?_
    refine asi rfl ?_
    refine vnil ?_
    refine ⟨rfl, k + 1, ⟨rfl, rfl, trivial⟩, ⟨rfl, trivial⟩, ⟨z12, by omega, by rw [take_getD 0 xs k (by omega), take_getD 0 ys k (by omega), ht]; simp only [wd, Int.toNat_natCast] at cz; rw [cz]⟩, ?_⟩
    show n - (k + 1) < n - k
    omega
  ·intro c8
   refine vnil ?_
   refine V.condF rfl ?_
   refine V.exit ?_
   refine V.seq (V.reg rfl ?_)
   refine asb rfl ?_
   refine vnil ?_
   refine V.ret ?_
   refine ⟨[.bool true], ⟨rfl, trivial⟩, ?_⟩
   refine ⟨_, rfl, z7, ?_⟩
   rw [List.take_of_length_le (by omega), List.take_of_length_le (by omega)] at ht
   exact ⟨fun _ => ht, fun _ => rfl⟩

theorem QC.to {S : Nat → Prop} {W : World} {q : List Value} {r r' : Rat} (h : QC S W q r) (e : r = r') : QC S W q r' := e ▸ h
theorem rInts5_true {S1 S2 : Nat → Prop} {a1 a2 : Option Addr} {n c m d : Nat} {xs ys : List Int} (w : World) (hx : RN .i64 S1 w a1 n c xs) (hy : RN .i64 S2 w a2 m d ys) (e : xs = ys) : Calls Tryz.prog 62 #[.slice a1 n c, .slice a2 m d] w fun e w' => e = .returned (.bool true) ∧ Ext w w' := by
  refine (rInts5_ok _ _ _ _ _ _ _ _ _ _ w hx hy).mono ?_
  rintro _ _ ⟨q, h1, h2, h3⟩
  exact ⟨by rw [h1, h3.2 e], h2⟩


theorem qIs5_true {S1 S2 : Nat → Prop} {q1 q2 : List Value} {r s : Rat} (w : World) (h1 : QC S1 w q1 r) (h2 : QC S2 w q2 s) (e : r = s) : Calls Tryz.prog 37 #[.agg q1.toArray, .agg q2.toArray] w fun e w' => e = .returned (.bool true) ∧ Ext w w' := by
  refine (qIs_ok _ _ _ _ _ _ w h1 h2).mono ?_
  rintro _ _ ⟨q, h1, h2, h3⟩
  exact ⟨by rw [h1, h3.2 (by rw [e])], h2⟩

set_option maxHeartbeats 2000000 in
theorem law5_ok (w : World) :
    Calls Tryz.prog 50 #[] w (fun e w' => e = .returned (.bool true) ∧ Ext w w') := by
 have z0 := Ext.refl w; have hLX : LX = 17592186044416 := rfl; have hLY : LY = 8796093022208 := rfl
 have hLV : LV = 1099511627776 := rfl
 refine enter (args := []) Tryz.func50 rfl rfl (Nat.le_of_ble_eq_true rfl) ?_
 refine V.seq (V.reg rfl ?_)
 refine asb rfl ?_
 refine vnil ?_
 refine V.seq (V.reg rfl ?_)
 refine asf rfl ?_
 refine vnil ?_
 refine V.seq (V.reg rfl ?_)
 refine mvf rfl ?_
 refine vo ?_
 refine xbs (ps := [(0, .int _ _), (1, .int _ _)]) (cs := [.int _ _, .int _ _]) sl118 zr2 sz2 rfl rfl rfl rfl rfl rfl ?_
 intro W1 x2 b3 nn4
 have s5 := x2.sz
 have z6 := x2
 refine vo ?_
 refine xbs (ps := [(0, .int _ _), (1, .int _ _)]) (cs := [.int _ _, .int _ _]) sl118 zr2 sz2 rfl rfl rfl rfl rfl rfl ?_
 intro W7 x8 b9 nn10
 have s11 := x8.sz
 have z12 := z6.trans x8
 replace b3 := b3.ext x8
 refine vo ?_
 refine xbs (ps := [(0, .slice _ _ _), (1, .slice _ _ _)]) (cs := [.slice _ _ _, .slice _ _ _]) sl119 zr118 sz118 rfl rfl rfl rfl rfl rfl ?_
 intro W13 x14 b15 nn16
 have s17 := x14.sz
 have z18 := z12.trans x14
 replace b3 := b3.ext x14
 replace b9 := b9.ext x14
 refine vo ?_
 have hl19 := RN.lit (k := .i64) (xs := [_, _]) 2 b3 (by intro q hq; simp only [List.mem_cons, List.not_mem_nil, or_false] at hq; simp only [kb]; omega) (TT.up w _ (Nat.le_refl _))
 have hl20 := RN.lit (k := .i64) (xs := [_, _]) 2 b9 (by intro q hq; simp only [List.mem_cons, List.not_mem_nil, or_false] at hq; simp only [kb]; omega) (TT.up W1 _ (Nat.le_refl _))
 have hm21 : MI TT W13 (some ⟨W7.heap.size, 0, none⟩) 2 2 [[2, 4], [1, 3]] := ⟨[[.slice _ _ _], [.slice _ _ _]], RS.lit (S := TT) _ b15 rfl (by simp) trivial rfl (by omega), ⟨_, _, _, rfl, hl19⟩, ⟨_, _, _, rfl, hl20⟩, trivial⟩
 refine xcall e103 (rmInts_ok _ _ _ [[2, 4], [1, 3]] TT TT _ hm21 (by omega) (by intro r hr; simp at hr; rcases hr with rfl | rfl <;> simp <;> omega) (TT.up _)) rfl rfl ?_
 rintro _ W24 ⟨_, rn23, _, rfl, x25, hv22⟩
 have s26 := x25.sz
 have z27 := z18.trans x25
 replace b3 := b3.ext x25
 replace b9 := b9.ext x25
 replace b15 := b15.ext x25
 obtain rfl : rn23 = 2 := by have := hv22.len; simpa using this.symm
 replace hv22 := hv22.cast (rss' := ([[2, 4], [1, 3]] : List (List Rat))) (by rfl)
 refine ⟨_, rfl, ?_⟩
 refine mvf rfl ?_
 refine vo ?_
 refine xbs (ps := [(0, .int _ _), (1, .int _ _)]) (cs := [.int _ _, .int _ _]) sl118 zr2 sz2 rfl rfl rfl rfl rfl rfl ?_
 intro W28 x29 b30 nn31
 have s32 := x29.sz
 have z33 := z27.trans x29
 replace b3 := b3.ext x29
 replace b9 := b9.ext x29
 replace b15 := b15.ext x29
 refine vo ?_
 refine xbs (ps := [(0, .int _ _), (1, .int _ _)]) (cs := [.int _ _, .int _ _]) sl118 zr2 sz2 rfl rfl rfl rfl rfl rfl ?_
 intro W34 x35 b36 nn37
 have s38 := x35.sz
 have z39 := z33.trans x35
 replace b3 := b3.ext x35
 replace b9 := b9.ext x35
 replace b15 := b15.ext x35
 replace b30 := b30.ext x35
 refine vo ?_
 refine xbs (ps := [(0, .slice _ _ _), (1, .slice _ _ _)]) (cs := [.slice _ _ _, .slice _ _ _]) sl119 zr118 sz118 rfl rfl rfl rfl rfl rfl ?_
 intro W40 x41 b42 nn43
 have s44 := x41.sz
 have z45 := z39.trans x41
 replace b3 := b3.ext x41
 replace b9 := b9.ext x41
 replace b15 := b15.ext x41
 replace b30 := b30.ext x41
 replace b36 := b36.ext x41
 refine vo ?_
 have hl46 := RN.lit (k := .i64) (xs := [_, _]) 2 b30 (by intro q hq; simp only [List.mem_cons, List.not_mem_nil, or_false] at hq; simp only [kb]; omega) (TT.up W24 _ (Nat.le_refl _))
 have hl47 := RN.lit (k := .i64) (xs := [_, _]) 2 b36 (by intro q hq; simp only [List.mem_cons, List.not_mem_nil, or_false] at hq; simp only [kb]; omega) (TT.up W28 _ (Nat.le_refl _))
 have hm48 : MI TT W40 (some ⟨W34.heap.size, 0, none⟩) 2 2 [[1, 2], [2, 4]] := ⟨[[.slice _ _ _], [.slice _ _ _]], RS.lit (S := TT) _ b42 rfl (by simp) trivial rfl (by omega), ⟨_, _, _, rfl, hl46⟩, ⟨_, _, _, rfl, hl47⟩, trivial⟩
 refine xcall e103 (rmInts_ok _ _ _ [[1, 2], [2, 4]] TT TT _ hm48 (by omega) (by intro r hr; simp at hr; rcases hr with rfl | rfl <;> simp <;> omega) (TT.up _)) rfl rfl ?_
 rintro _ W51 ⟨_, rn50, _, rfl, x52, hv49⟩
 have s53 := x52.sz
 have z54 := z45.trans x52
 replace b3 := b3.ext x52
 replace b9 := b9.ext x52
 replace b15 := b15.ext x52
 replace b30 := b30.ext x52
 replace b36 := b36.ext x52
 replace b42 := b42.ext x52
 obtain rfl : rn50 = 2 := by have := hv49.len; simpa using this.symm
 replace hv49 := hv49.cast (rss' := ([[1, 2], [2, 4]] : List (List Rat))) (by rfl)
 refine ⟨_, rfl, ?_⟩
 refine ass rfl ?_
 refine ass rfl ?_
 refine vnil ?_
 refine V.seq (V.reg rfl ?_)
 refine mvs rfl ?_
 refine vo ?_
 refine xbs (ps := [(0, .int _ _), (1, .int _ _)]) (cs := [.int _ _, .int _ _]) sl118 zr2 sz2 rfl rfl rfl rfl rfl rfl ?_
 intro W55 x56 b57 nn58
 have s59 := x56.sz
 have z60 := z54.trans x56
 replace b3 := b3.ext x56
 replace b9 := b9.ext x56
 replace b15 := b15.ext x56
 replace b30 := b30.ext x56
 replace b36 := b36.ext x56
 replace b42 := b42.ext x56
 refine vo ?_
 have hl61 := RN.lit (k := .i64) (xs := [_, _]) 2 b57 (by intro q hq; simp only [List.mem_cons, List.not_mem_nil, or_false] at hq; simp only [kb]; omega) (TT.up W51 _ (Nat.le_refl _))
 refine xcall e82 (vFrom_ok _ _ _ [6, 4] TT TT _ hl61 (by omega) (TT.up _)) rfl rfl ?_
 rintro _ W64 ⟨_, rn63, _, rfl, x65, hv62⟩
 have s66 := x65.sz
 have z67 := z60.trans x65
 replace b3 := b3.ext x65
 replace b9 := b9.ext x65
 replace b15 := b15.ext x65
 replace b30 := b30.ext x65
 replace b36 := b36.ext x65
 replace b42 := b42.ext x65
 replace b57 := b57.ext x65
 obtain rfl : rn63 = 2 := by have := hv62.len; simpa using this.symm
 replace hv62 := hv62.cast (rs' := ([6, 4] : List Rat)) (by rfl)
 refine ⟨_, rfl, ?_⟩
 refine vo ?_
 refine xcall e51 (sSolve_at _ (0) ([1, 1] : List Rat) ([] : List (List Rat)) 2 0 (((hv22.ext (((((x29.trans x35).trans x41).trans x52).trans x56).trans x65))).ma (L := 1) (szM_B (by decide +kernel))) ((hv62).va (L := 1) (szV_B (by decide +kernel))) (by omega) (by omega) (by omega) (by decide +kernel) (by decide +kernel) (TT.up _) (by decide +kernel) (by decide +kernel) (by decide +kernel) rfl rfl) rfl rfl ?_
 rintro _ W70 ⟨_, _, _, _, rfl, x71, hv68, hv69⟩
 have s72 := x71.sz
 have z73 := z67.trans x71
 replace b3 := b3.ext x71
 replace b9 := b9.ext x71
 replace b15 := b15.ext x71
 replace b30 := b30.ext x71
 replace b36 := b36.ext x71
 replace b42 := b42.ext x71
 replace b57 := b57.ext x71
 refine ⟨_, rfl, ?_⟩
 refine mvt rfl ?_
 refine vv (rext (v := .slice _ _ _) rfl rfl) ?_
 refine vv (rext (v := .slice _ _ _) rfl rfl) ?_
 refine vv (rext (v := .int _ _) rfl rfl) ?_
 refine ass rfl ?_
 refine ass rfl ?_
 refine asi rfl ?_
 refine vnil ?_
 refine V.seq (V.reg rfl ?_)
 refine mvs rfl ?_
 refine vo ?_
 refine xcall e60 (sReduce_at _ [0] ([[1, 2]] : List (List Rat)) 1 1 (((hv49.ext ((x56.trans x65).trans x71))).ma (L := 1) (szM_B (by decide +kernel))) (by omega) (by omega) (by decide +kernel) (by decide +kernel) (TT.up _) (by decide +kernel) (by decide +kernel) (by decide +kernel)) rfl rfl ?_
 rintro _ W76 ⟨_, _, _, _, rfl, x77, hv74, hv75⟩
 have s78 := x77.sz
 have z79 := z73.trans x77
 replace b3 := b3.ext x77
 replace b9 := b9.ext x77
 replace b15 := b15.ext x77
 replace b30 := b30.ext x77
 replace b36 := b36.ext x77
 replace b42 := b42.ext x77
 replace b57 := b57.ext x77
 refine ⟨_, rfl, ?_⟩
 refine mvt rfl ?_
 refine vv (rext (v := .slice _ _ _) rfl rfl) ?_
 refine vv (rext (v := .slice _ _ _) rfl rfl) ?_
 refine ass rfl ?_
 refine ass rfl ?_
 refine vnil ?_
 refine V.seq (V.reg rfl ?_)
 refine mvs rfl ?_
 refine vo ?_
 refine xcall e64 (sNull_ok _ _ _ 1 _ TT TT _ (((hv49.ext (((x56.trans x65).trans x71).trans x77))).ma (L := 1) (szM_B (by decide +kernel))) (by omega) (by omega) (by decide +kernel) (by decide +kernel) (TT.up _)) rfl rfl ?_
 rintro _ W82 ⟨_, rn81, _, rfl, x83, hv80⟩
 have s84 := x83.sz
 have z85 := z79.trans x83
 replace b3 := b3.ext x83
 replace b9 := b9.ext x83
 replace b15 := b15.ext x83
 replace b30 := b30.ext x83
 replace b36 := b36.ext x83
 replace b42 := b42.ext x83
 replace b57 := b57.ext x83
 replace hv80 := hv80.cast (rss' := ([[-2, 1]] : List (List Rat))) (by decide +kernel)
 obtain rfl : rn81 = 1 := by have := hv80.len; exact this.symm.trans rfl
 refine ⟨_, rfl, ?_⟩
 refine ass rfl ?_
 refine vnil ?_
 refine V.seq (V.reg rfl ?_)
 refine mvs rfl ?_
 refine vo ?_
 refine xbs (ps := [(0, .int _ _), (1, .int _ _)]) (cs := [.int _ _, .int _ _]) sl118 zr2 sz2 rfl rfl rfl rfl rfl rfl ?_
 intro W86 x87 b88 nn89
 have s90 := x87.sz
 have z91 := z85.trans x87
 replace b3 := b3.ext x87
 replace b9 := b9.ext x87
 replace b15 := b15.ext x87
 replace b30 := b30.ext x87
 replace b36 := b36.ext x87
 replace b42 := b42.ext x87
 replace b57 := b57.ext x87
 refine vo ?_
 have hl92 := RN.lit (k := .i64) (xs := [_, _]) 2 b88 (by intro q hq; simp only [List.mem_cons, List.not_mem_nil, or_false] at hq; simp only [kb]; omega) (TT.up W82 _ (Nat.le_refl _))
 refine xcall e82 (vFrom_ok _ _ _ [1, 3] TT TT _ hl92 (by omega) (TT.up _)) rfl rfl ?_
 rintro _ W95 ⟨_, rn94, _, rfl, x96, hv93⟩
 have s97 := x96.sz
 have z98 := z91.trans x96
 replace b3 := b3.ext x96
 replace b9 := b9.ext x96
 replace b15 := b15.ext x96
 replace b30 := b30.ext x96
 replace b36 := b36.ext x96
 replace b42 := b42.ext x96
 replace b57 := b57.ext x96
 replace b88 := b88.ext x96
 obtain rfl : rn94 = 2 := by have := hv93.len; simpa using this.symm
 replace hv93 := hv93.cast (rs' := ([1, 3] : List Rat)) (by rfl)
 refine ⟨_, rfl, ?_⟩
 refine vo ?_
 refine xcall e51 (sSolve_at _ (8) ([] : List Rat) ([] : List (List Rat)) 0 0 (((hv49.ext ((((((x56.trans x65).trans x71).trans x77).trans x83).trans x87).trans x96))).ma (L := 1) (szM_B (by decide +kernel))) ((hv93).va (L := 1) (szV_B (by decide +kernel))) (by omega) (by omega) (by omega) (by decide +kernel) (by decide +kernel) (TT.up _) (by decide +kernel) (by decide +kernel) (by decide +kernel) rfl rfl) rfl rfl ?_
 rintro _ W101 ⟨_, _, _, _, rfl, x102, hv99, hv100⟩
 have s103 := x102.sz
 have z104 := z98.trans x102
 replace b3 := b3.ext x102
 replace b9 := b9.ext x102
 replace b15 := b15.ext x102
 replace b30 := b30.ext x102
 replace b36 := b36.ext x102
 replace b42 := b42.ext x102
 replace b57 := b57.ext x102
 replace b88 := b88.ext x102
 refine ⟨_, rfl, ?_⟩
 refine mvt rfl ?_
 refine vv (rext (v := .slice _ _ _) rfl rfl) ?_
 refine vv (rext (v := .slice _ _ _) rfl rfl) ?_
 refine vv (rext (v := .int _ _) rfl rfl) ?_
 refine ass rfl ?_
 refine ass rfl ?_
 refine asi rfl ?_
 refine vnil ?_
 refine V.seq (V.reg rfl ?_)
 refine mvs rfl ?_
 refine vo ?_
 refine xbs (ps := [(0, .int _ _), (1, .int _ _)]) (cs := [.int _ _, .int _ _]) sl118 zr2 sz2 rfl rfl rfl rfl rfl rfl ?_
 intro W105 x106 b107 nn108
 have s109 := x106.sz
 have z110 := z104.trans x106
 replace b3 := b3.ext x106
 replace b9 := b9.ext x106
 replace b15 := b15.ext x106
 replace b30 := b30.ext x106
 replace b36 := b36.ext x106
 replace b42 := b42.ext x106
 replace b57 := b57.ext x106
 replace b88 := b88.ext x106
 refine vo ?_
 have hl111 := RN.lit (k := .i64) (xs := [_, _]) 2 b107 (by intro q hq; simp only [List.mem_cons, List.not_mem_nil, or_false] at hq; simp only [kb]; omega) (TT.up W101 _ (Nat.le_refl _))
 refine xcall e82 (vFrom_ok _ _ _ [1, 2] TT TT _ hl111 (by omega) (TT.up _)) rfl rfl ?_
 rintro _ W114 ⟨_, rn113, _, rfl, x115, hv112⟩
 have s116 := x115.sz
 have z117 := z110.trans x115
 replace b3 := b3.ext x115
 replace b9 := b9.ext x115
 replace b15 := b15.ext x115
 replace b30 := b30.ext x115
 replace b36 := b36.ext x115
 replace b42 := b42.ext x115
 replace b57 := b57.ext x115
 replace b88 := b88.ext x115
 replace b107 := b107.ext x115
 obtain rfl : rn113 = 2 := by have := hv112.len; simpa using this.symm
 replace hv112 := hv112.cast (rs' := ([1, 2] : List Rat)) (by rfl)
 refine ⟨_, rfl, ?_⟩
 refine vo ?_
 refine xcall e51 (sSolve_at _ (0) ([1, 0] : List Rat) ([[-2, 1]] : List (List Rat)) 2 1 (((hv49.ext (((((((((x56.trans x65).trans x71).trans x77).trans x83).trans x87).trans x96).trans x102).trans x106).trans x115))).ma (L := 1) (szM_B (by decide +kernel))) ((hv112).va (L := 1) (szV_B (by decide +kernel))) (by omega) (by omega) (by omega) (by decide +kernel) (by decide +kernel) (TT.up _) (by decide +kernel) (by decide +kernel) (by decide +kernel) rfl rfl) rfl rfl ?_
 rintro _ W120 ⟨_, _, _, _, rfl, x121, hv118, hv119⟩
 have s122 := x121.sz
 have z123 := z117.trans x121
 replace b3 := b3.ext x121
 replace b9 := b9.ext x121
 replace b15 := b15.ext x121
 replace b30 := b30.ext x121
 replace b36 := b36.ext x121
 replace b42 := b42.ext x121
 replace b57 := b57.ext x121
 replace b88 := b88.ext x121
 replace b107 := b107.ext x121
 refine ⟨_, rfl, ?_⟩
 refine mvt rfl ?_
 refine vv (rext (v := .slice _ _ _) rfl rfl) ?_
 refine vv (rext (v := .slice _ _ _) rfl rfl) ?_
 refine vv (rext (v := .int _ _) rfl rfl) ?_
 refine ass rfl ?_
 refine ass rfl ?_
 refine asi rfl ?_
 refine vnil ?_
 refine V.seq (V.reg rfl ?_)
 refine mvs rfl ?_
 refine vo ?_
 refine xcall e55 (sDet_at _ (0) (2 : Rat) (((hv22.ext ((((((((((((((x29.trans x35).trans x41).trans x52).trans x56).trans x65).trans x71).trans x77).trans x83).trans x87).trans x96).trans x102).trans x106).trans x115).trans x121))).ma (L := 1) (szM_B (by decide +kernel))) (by omega) (by omega) (by decide +kernel) (by decide +kernel) (TT.up _) (by decide +kernel) (by decide +kernel)) rfl rfl ?_
 rintro _ W125 ⟨_, rfl, x126, hv124⟩
 have s127 := x126.sz
 have z128 := z123.trans x126
 replace b3 := b3.ext x126
 replace b9 := b9.ext x126
 replace b15 := b15.ext x126
 replace b30 := b30.ext x126
 replace b36 := b36.ext x126
 replace b42 := b42.ext x126
 replace b57 := b57.ext x126
 replace b88 := b88.ext x126
 replace b107 := b107.ext x126
 obtain ⟨_, _, _, _, _, _, _, _, rfl⟩ := hv124.form
 refine ⟨_, rfl, ?_⟩
 refine mvt rfl ?_
 refine vv (rext (v := .agg #[_, _, _, _]) rfl rfl) ?_
 refine vv (rext (v := .int _ _) rfl rfl) ?_
 refine vo ?_
 refine xal zc48 ?_
 intro W130 x131 b132 nn133
 have s134 := x131.sz
 have z135 := z128.trans x131
 have z136 := x131
 replace b3 := b3.ext x131
 replace b9 := b9.ext x131
 replace b15 := b15.ext x131
 replace b30 := b30.ext x131
 replace b36 := b36.ext x131
 replace b42 := b42.ext x131
 replace b57 := b57.ext x131
 replace b88 := b88.ext x131
 replace b107 := b107.ext x131
 refine vo ?_
 refine sta (cs' := [_, _, _, _]) b132 rfl rfl sz48 rfl rfl rfl ?_
 intro W137 y138 b132
 have z139 := z135.below (y138.below (by omega))
 have z140 := z136.below (y138.below (by omega))
 replace b3 := b3.wr y138 (by omega)
 replace b9 := b9.wr y138 (by omega)
 replace b15 := b15.wr y138 (by omega)
 replace b30 := b30.wr y138 (by omega)
 replace b36 := b36.wr y138 (by omega)
 replace b42 := b42.wr y138 (by omega)
 replace b57 := b57.wr y138 (by omega)
 replace b88 := b88.wr y138 (by omega)
 replace b107 := b107.wr y138 (by omega)
 have s141 := y138.size
 refine asi rfl ?_
 refine vnil ?_
 refine V.seq (V.reg rfl ?_)
 refine mvs rfl ?_
 refine vo ?_
 refine xcall e54 (sInv_at _ (0) ([[3/2, -2], [-1/2, 1]] : List (List Rat)) 2 ((((hv22.ext (((((((((((((((x29.trans x35).trans x41).trans x52).trans x56).trans x65).trans x71).trans x77).trans x83).trans x87).trans x96).trans x102).trans x106).trans x115).trans x121).trans x126)).ext z140)).ma (L := 1) (szM_B (by decide +kernel))) (by omega) (by omega) (by decide +kernel) (by decide +kernel) (TT.up _) (by decide +kernel) (by decide +kernel) rfl) rfl rfl ?_
 rintro _ W143 ⟨_, _, rfl, x144, hv142⟩
 have s145 := x144.sz
 have z146 := z139.trans x144
 have z147 := z140.trans x144
 replace b3 := b3.ext x144
 replace b9 := b9.ext x144
 replace b15 := b15.ext x144
 replace b30 := b30.ext x144
 replace b36 := b36.ext x144
 replace b42 := b42.ext x144
 replace b57 := b57.ext x144
 replace b88 := b88.ext x144
 replace b107 := b107.ext x144
 replace b132 := b132.ext x144
 refine ⟨_, rfl, ?_⟩
 refine mvt rfl ?_
 refine vv (rext (v := .slice _ _ _) rfl rfl) ?_
 refine vv (rext (v := .int _ _) rfl rfl) ?_
 refine ass rfl ?_
 refine asi rfl ?_
 refine vnil ?_
 refine V.seq ?_
 refine V.seq (V.reg rfl ?_)
 refine mvs rfl ?_
 refine vo ?_
 refine xbs (ps := [(0, .int _ _), (1, .int _ _)]) (cs := [.int _ _, .int _ _]) sl118 zr2 sz2 rfl rfl rfl rfl rfl rfl ?_
 intro W148 x149 b150 nn151
 have s152 := x149.sz
 have z153 := z146.trans x149
 have z154 := z147.trans x149
 replace b3 := b3.ext x149
 replace b9 := b9.ext x149
 replace b15 := b15.ext x149
 replace b30 := b30.ext x149
 replace b36 := b36.ext x149
 replace b42 := b42.ext x149
 replace b57 := b57.ext x149
 replace b88 := b88.ext x149
 replace b107 := b107.ext x149
 replace b132 := b132.ext x149
 refine vo ?_
 have hl155 := RN.lit (k := .i64) (xs := [_, _]) 2 b150 (by intro q hq; simp only [List.mem_cons, List.not_mem_nil, or_false] at hq; simp only [kb]; omega) (TT.up W143 _ (Nat.le_refl _))
 refine xcall e82 (vFrom_ok _ _ _ [1, 1] TT TT _ hl155 (by omega) (TT.up _)) rfl rfl ?_
 rintro _ W158 ⟨_, rn157, _, rfl, x159, hv156⟩
 have s160 := x159.sz
 have z161 := z153.trans x159
 have z162 := z154.trans x159
 replace b3 := b3.ext x159
 replace b9 := b9.ext x159
 replace b15 := b15.ext x159
 replace b30 := b30.ext x159
 replace b36 := b36.ext x159
 replace b42 := b42.ext x159
 replace b57 := b57.ext x159
 replace b88 := b88.ext x159
 replace b107 := b107.ext x159
 replace b132 := b132.ext x159
 replace b150 := b150.ext x159
 obtain rfl : rn157 = 2 := by have := hv156.len; simpa using this.symm
 replace hv156 := hv156.cast (rs' := ([1, 1] : List Rat)) (by rfl)
 refine ⟨_, rfl, ?_⟩
 refine vo ?_
 refine xcall e56 (vIs_true _ ((hv68.ext ((((((((x77.trans x83).trans x87).trans x96).trans x102).trans x106).trans x115).trans x121).trans x126)).ext z162) hv156 rfl) rfl rfl ?_
 rintro _ W163 ⟨rfl, x164⟩
 have s165 := x164.sz
 have z166 := z161.trans x164
 have z167 := z162.trans x164
 replace b3 := b3.ext x164
 replace b9 := b9.ext x164
 replace b15 := b15.ext x164
 replace b30 := b30.ext x164
 replace b36 := b36.ext x164
 replace b42 := b42.ext x164
 replace b57 := b57.ext x164
 replace b88 := b88.ext x164
 replace b107 := b107.ext x164
 replace b132 := b132.ext x164
 replace b150 := b150.ext x164
 refine ⟨_, rfl, ?_⟩
 refine vv (rnot (q := false) rfl rfl) ?_
 refine mvb rfl ?_
 refine vg rfl ?_
 refine mvs rfl ?_
 refine vg rfl ?_
 refine vv (rlen sl22 rfl) ?_
 refine vg rfl ?_
 refine vne rfl rfl ?_ ?_
 ·intro c168
  omega
 ·intro c168
  refine vv (rpk (v := .bool false) rfl rfl) ?_
  refine mvb rfl ?_
  refine vg rfl ?_
  refine mvi rfl ?_
  refine vg rfl ?_
  refine vne rfl rfl ?_ ?_
  ·intro c169
   omega
  ·intro c169
   refine vv (rpk (v := .bool false) rfl rfl) ?_
   refine mvb rfl ?_
   refine vg rfl ?_
   refine mvs rfl ?_
   refine vg rfl ?_
   refine mvf rfl ?_
   refine vg rfl ?_
   refine vo ?_
   refine xbs (ps := [(0, .int _ _), (1, .int _ _)]) (cs := [.int _ _, .int _ _]) sl118 zr2 sz2 rfl rfl rfl rfl rfl rfl ?_
   intro W170 x171 b172 nn173
   have s174 := x171.sz
   have z175 := z166.trans x171
   have z176 := z167.trans x171
   replace b3 := b3.ext x171
   replace b9 := b9.ext x171
   replace b15 := b15.ext x171
   replace b30 := b30.ext x171
   replace b36 := b36.ext x171
   replace b42 := b42.ext x171
   replace b57 := b57.ext x171
   replace b88 := b88.ext x171
   replace b107 := b107.ext x171
   replace b132 := b132.ext x171
   replace b150 := b150.ext x171
   refine vg rfl ?_
   refine vo ?_
   refine xbs (ps := [(0, .slice _ _ _)]) (cs := [.slice _ _ _]) sl119 zr118 sz118 rfl rfl rfl rfl rfl rfl ?_
   intro W177 x178 b179 nn180
   have s181 := x178.sz
   have z182 := z175.trans x178
   have z183 := z176.trans x178
   replace b3 := b3.ext x178
   replace b9 := b9.ext x178
   replace b15 := b15.ext x178
   replace b30 := b30.ext x178
   replace b36 := b36.ext x178
   replace b42 := b42.ext x178
   replace b57 := b57.ext x178
   replace b88 := b88.ext x178
   replace b107 := b107.ext x178
   replace b132 := b132.ext x178
   replace b150 := b150.ext x178
   replace b172 := b172.ext x178
   refine vg rfl ?_
   refine vo ?_
   have hl184 := RN.lit (k := .i64) (xs := [_, _]) 2 b172 (by intro q hq; simp only [List.mem_cons, List.not_mem_nil, or_false] at hq; simp only [kb]; omega) (TT.up W163 _ (Nat.le_refl _))
   have hm185 : MI TT W177 (some ⟨W170.heap.size, 0, none⟩) 1 1 [[1, 2]] := ⟨[[.slice _ _ _]], RS.lit (S := TT) _ b179 rfl (by simp) trivial rfl (by omega), ⟨_, _, _, rfl, hl184⟩, trivial⟩
   refine xcall e103 (rmInts_ok _ _ _ [[1, 2]] TT TT _ hm185 (by omega) (by intro r hr; simp at hr; rcases hr with rfl <;> simp <;> omega) (TT.up _)) rfl rfl ?_
   rintro _ W188 ⟨_, rn187, _, rfl, x189, hv186⟩
   have s190 := x189.sz
   have z191 := z182.trans x189
   have z192 := z183.trans x189
   replace b3 := b3.ext x189
   replace b9 := b9.ext x189
   replace b15 := b15.ext x189
   replace b30 := b30.ext x189
   replace b36 := b36.ext x189
   replace b42 := b42.ext x189
   replace b57 := b57.ext x189
   replace b88 := b88.ext x189
   replace b107 := b107.ext x189
   replace b132 := b132.ext x189
   replace b150 := b150.ext x189
   replace b172 := b172.ext x189
   replace b179 := b179.ext x189
   obtain rfl : rn187 = 1 := by have := hv186.len; simpa using this.symm
   replace hv186 := hv186.cast (rss' := ([[1, 2]] : List (List Rat))) (by rfl)
   refine ⟨_, rfl, ?_⟩
   refine vg rfl ?_
   refine vo ?_
   refine xcall e42 (mIs_true _ ((hv74.ext (((((((x83.trans x87).trans x96).trans x102).trans x106).trans x115).trans x121).trans x126)).ext z192) hv186 rfl) rfl rfl ?_
   rintro _ W193 ⟨rfl, x194⟩
   have s195 := x194.sz
   have z196 := z191.trans x194
   have z197 := z192.trans x194
   replace b3 := b3.ext x194
   replace b9 := b9.ext x194
   replace b15 := b15.ext x194
   replace b30 := b30.ext x194
   replace b36 := b36.ext x194
   replace b42 := b42.ext x194
   replace b57 := b57.ext x194
   replace b88 := b88.ext x194
   replace b107 := b107.ext x194
   replace b132 := b132.ext x194
   replace b150 := b150.ext x194
   replace b172 := b172.ext x194
   replace b179 := b179.ext x194
   refine ⟨_, rfl, ?_⟩
   refine vg rfl ?_
   refine vv (rnot (q := false) rfl rfl) ?_
   refine vv (rpk (v := .bool false) rfl rfl) ?_
   refine mvb rfl ?_
   refine vg rfl ?_
   refine mvs rfl ?_
   refine vg rfl ?_
   refine vo ?_
   refine xbs (ps := [(0, .int _ _)]) (cs := [.int _ _]) sl73 zr3 sz3 rfl rfl rfl rfl rfl rfl ?_
   intro W198 x199 b200 nn201
   have s202 := x199.sz
   have z203 := z196.trans x199
   have z204 := z197.trans x199
   replace b3 := b3.ext x199
   replace b9 := b9.ext x199
   replace b15 := b15.ext x199
   replace b30 := b30.ext x199
   replace b36 := b36.ext x199
   replace b42 := b42.ext x199
   replace b57 := b57.ext x199
   replace b88 := b88.ext x199
   replace b107 := b107.ext x199
   replace b132 := b132.ext x199
   replace b150 := b150.ext x199
   replace b172 := b172.ext x199
   replace b179 := b179.ext x199
   refine vg rfl ?_
   refine vo ?_
   have hl205 := RN.lit (k := .i64) (xs := [_]) 1 b200 (by intro q hq; simp only [List.mem_cons, List.not_mem_nil, or_false] at hq; simp only [kb]; omega) (TT.up W193 _ (Nat.le_refl _))
   refine xcall e62 (rInts5_true _ ((hv75.ext (((((((x83.trans x87).trans x96).trans x102).trans x106).trans x115).trans x121).trans x126)).ext z204) hl205 rfl) rfl rfl ?_
   rintro _ W206 ⟨rfl, x207⟩
   have s208 := x207.sz
   have z209 := z203.trans x207
   have z210 := z204.trans x207
   replace b3 := b3.ext x207
   replace b9 := b9.ext x207
   replace b15 := b15.ext x207
   replace b30 := b30.ext x207
   replace b36 := b36.ext x207
   replace b42 := b42.ext x207
   replace b57 := b57.ext x207
   replace b88 := b88.ext x207
   replace b107 := b107.ext x207
   replace b132 := b132.ext x207
   replace b150 := b150.ext x207
   replace b172 := b172.ext x207
   replace b179 := b179.ext x207
   replace b200 := b200.ext x207
   refine ⟨_, rfl, ?_⟩
   refine vg rfl ?_
   refine vv (rnot (q := false) rfl rfl) ?_
   refine vv (rpk (v := .bool false) rfl rfl) ?_
   refine mvb rfl ?_
   refine vg rfl ?_
   refine mvs rfl ?_
   refine vg rfl ?_
   refine mvf rfl ?_
   refine vg rfl ?_
   refine vo ?_
   refine xbs (ps := [(0, .int _ _), (1, .int _ _)]) (cs := [.int _ _, .int _ _]) sl118 zr2 sz2 rfl rfl rfl rfl rfl rfl ?_
   intro W211 x212 b213 nn214
   have s215 := x212.sz
   have z216 := z209.trans x212
   have z217 := z210.trans x212
   replace b3 := b3.ext x212
   replace b9 := b9.ext x212
   replace b15 := b15.ext x212
   replace b30 := b30.ext x212
   replace b36 := b36.ext x212
   replace b42 := b42.ext x212
   replace b57 := b57.ext x212
   replace b88 := b88.ext x212
   replace b107 := b107.ext x212
   replace b132 := b132.ext x212
   replace b150 := b150.ext x212
   replace b172 := b172.ext x212
   replace b179 := b179.ext x212
   replace b200 := b200.ext x212
   refine vg rfl ?_
   refine vo ?_
   refine xbs (ps := [(0, .slice _ _ _)]) (cs := [.slice _ _ _]) sl119 zr118 sz118 rfl rfl rfl rfl rfl rfl ?_
   intro W218 x219 b220 nn221
   have s222 := x219.sz
   have z223 := z216.trans x219
   have z224 := z217.trans x219
   replace b3 := b3.ext x219
   replace b9 := b9.ext x219
   replace b15 := b15.ext x219
   replace b30 := b30.ext x219
   replace b36 := b36.ext x219
   replace b42 := b42.ext x219
   replace b57 := b57.ext x219
   replace b88 := b88.ext x219
   replace b107 := b107.ext x219
   replace b132 := b132.ext x219
   replace b150 := b150.ext x219
   replace b172 := b172.ext x219
   replace b179 := b179.ext x219
   replace b200 := b200.ext x219
   replace b213 := b213.ext x219
   refine vg rfl ?_
   refine vo ?_
   have hl225 := RN.lit (k := .i64) (xs := [_, _]) 2 b213 (by intro q hq; simp only [List.mem_cons, List.not_mem_nil, or_false] at hq; simp only [kb]; omega) (TT.up W206 _ (Nat.le_refl _))
   have hm226 : MI TT W218 (some ⟨W211.heap.size, 0, none⟩) 1 1 [[-2, 1]] := ⟨[[.slice _ _ _]], RS.lit (S := TT) _ b220 rfl (by simp) trivial rfl (by omega), ⟨_, _, _, rfl, hl225⟩, trivial⟩
   refine xcall e103 (rmInts_ok _ _ _ [[-2, 1]] TT TT _ hm226 (by omega) (by intro r hr; simp at hr; rcases hr with rfl <;> simp <;> omega) (TT.up _)) rfl rfl ?_
   rintro _ W229 ⟨_, rn228, _, rfl, x230, hv227⟩
   have s231 := x230.sz
   have z232 := z223.trans x230
   have z233 := z224.trans x230
   replace b3 := b3.ext x230
   replace b9 := b9.ext x230
   replace b15 := b15.ext x230
   replace b30 := b30.ext x230
   replace b36 := b36.ext x230
   replace b42 := b42.ext x230
   replace b57 := b57.ext x230
   replace b88 := b88.ext x230
   replace b107 := b107.ext x230
   replace b132 := b132.ext x230
   replace b150 := b150.ext x230
   replace b172 := b172.ext x230
   replace b179 := b179.ext x230
   replace b200 := b200.ext x230
   replace b213 := b213.ext x230
   replace b220 := b220.ext x230
   obtain rfl : rn228 = 1 := by have := hv227.len; simpa using this.symm
   replace hv227 := hv227.cast (rss' := ([[-2, 1]] : List (List Rat))) (by rfl)
   refine ⟨_, rfl, ?_⟩
   refine vg rfl ?_
   refine vo ?_
   refine xcall e42 (mIs_true _ ((hv80.ext ((((((x87.trans x96).trans x102).trans x106).trans x115).trans x121).trans x126)).ext z233) hv227 rfl) rfl rfl ?_
   rintro _ W234 ⟨rfl, x235⟩
   have s236 := x235.sz
   have z237 := z232.trans x235
   have z238 := z233.trans x235
   replace b3 := b3.ext x235
   replace b9 := b9.ext x235
   replace b15 := b15.ext x235
   replace b30 := b30.ext x235
   replace b36 := b36.ext x235
   replace b42 := b42.ext x235
   replace b57 := b57.ext x235
   replace b88 := b88.ext x235
   replace b107 := b107.ext x235
   replace b132 := b132.ext x235
   replace b150 := b150.ext x235
   replace b172 := b172.ext x235
   replace b179 := b179.ext x235
   replace b200 := b200.ext x235
   replace b213 := b213.ext x235
   replace b220 := b220.ext x235
   refine ⟨_, rfl, ?_⟩
   refine vg rfl ?_
   refine vv (rnot (q := false) rfl rfl) ?_
   refine vv (rpk (v := .bool false) rfl rfl) ?_
   refine mvb rfl ?_
   refine vg rfl ?_
   refine mvi rfl ?_
   refine vg rfl ?_
   refine vne rfl rfl ?_ ?_
   ·intro c239
    omega
   ·intro c239
    refine vv (rpk (v := .bool false) rfl rfl) ?_
    refine vnil ?_
    refine V.condF rfl ?_
    refine V.skip ?_
    refine V.seq (V.reg rfl ?_)
    refine vo ?_
    refine xcall e121 (rOf_ok (1) (2) TT _ (by omega) (by omega) (TT.up _)) rfl rfl ?_
    rintro _ W241 ⟨_, rfl, x242, hv240⟩
    have s243 := x242.sz
    have z244 := z237.trans x242
    have z245 := z238.trans x242
    replace b3 := b3.ext x242
    replace b9 := b9.ext x242
    replace b15 := b15.ext x242
    replace b30 := b30.ext x242
    replace b36 := b36.ext x242
    replace b42 := b42.ext x242
    replace b57 := b57.ext x242
    replace b88 := b88.ext x242
    replace b107 := b107.ext x242
    replace b132 := b132.ext x242
    replace b150 := b150.ext x242
    replace b172 := b172.ext x242
    replace b179 := b179.ext x242
    replace b200 := b200.ext x242
    replace b213 := b213.ext x242
    replace b220 := b220.ext x242
    replace hv240 := QC.to hv240 (r' := (1/2 : Rat)) (by decide +kernel)
    obtain ⟨_, _, _, _, _, _, _, _, rfl⟩ := hv240.form
    refine ⟨_, rfl, ?_⟩
    refine vo ?_
    refine xal zc48 ?_
    intro W247 x248 b249 nn250
    have s251 := x248.sz
    have z252 := z244.trans x248
    have z253 := z245.trans x248
    have z254 := x248
    replace b3 := b3.ext x248
    replace b9 := b9.ext x248
    replace b15 := b15.ext x248
    replace b30 := b30.ext x248
    replace b36 := b36.ext x248
    replace b42 := b42.ext x248
    replace b57 := b57.ext x248
    replace b88 := b88.ext x248
    replace b107 := b107.ext x248
    replace b132 := b132.ext x248
    replace b150 := b150.ext x248
    replace b172 := b172.ext x248
    replace b179 := b179.ext x248
    replace b200 := b200.ext x248
    replace b213 := b213.ext x248
    replace b220 := b220.ext x248
    refine vo ?_
    refine sta (cs' := [_, _, _, _]) b249 rfl rfl sz48 rfl rfl rfl ?_
    intro W255 y256 b249
    have z257 := z252.below (y256.below (by omega))
    have z258 := z253.below (y256.below (by omega))
    have z259 := z254.below (y256.below (by omega))
    replace b3 := b3.wr y256 (by omega)
    replace b9 := b9.wr y256 (by omega)
    replace b15 := b15.wr y256 (by omega)
    replace b30 := b30.wr y256 (by omega)
    replace b36 := b36.wr y256 (by omega)
    replace b42 := b42.wr y256 (by omega)
    replace b57 := b57.wr y256 (by omega)
    replace b88 := b88.wr y256 (by omega)
    replace b107 := b107.wr y256 (by omega)
    replace b132 := b132.wr y256 (by omega)
    replace b150 := b150.wr y256 (by omega)
    replace b172 := b172.wr y256 (by omega)
    replace b179 := b179.wr y256 (by omega)
    replace b200 := b200.wr y256 (by omega)
    replace b213 := b213.wr y256 (by omega)
    replace b220 := b220.wr y256 (by omega)
    have s260 := y256.size
    refine vnil ?_
    refine V.seq (V.regJ (ι := Nat × Nat) [(0, .bool false), (13, .slice _ _ _), (15, .int _ _), (16, .pointer (some ⟨_, _, none⟩)), (17, .int _ _), (18, .slice _ _ _), (19, .int _ _), (20, .pointer (some ⟨_, _, none⟩))] (fun ⟨nb, nb2⟩ => [(21, .slice (some ⟨nb, 0, none⟩) 2 2)]) (fun ⟨nb, nb2⟩ W => Ext W255 W ∧ MC TT W (some ⟨nb, 0, none⟩) 2 2 [[(3/2 : Rat), -2], [-1/2, 1]]) mixed rfl ⟨rfl, rfl, rfl, rfl, rfl, rfl, rfl, rfl, trivial⟩ ?_ ?_)
    ·skip
     intro W262 x263
     have s264 := x263.sz
     have z267 := z259.trans x263
     have z268 := x263
     replace b3 := b3.ext x263
     replace b9 := b9.ext x263
     replace b15 := b15.ext x263
     replace b30 := b30.ext x263
     replace b36 := b36.ext x263
     replace b42 := b42.ext x263
     replace b57 := b57.ext x263
     replace b88 := b88.ext x263
     replace b107 := b107.ext x263
     replace b132 := b132.ext x263
     replace b150 := b150.ext x263
     replace b172 := b172.ext x263
     replace b179 := b179.ext x263
     replace b200 := b200.ext x263
     replace b213 := b213.ext x263
     replace b220 := b220.ext x263
     replace b249 := b249.ext x263
     have q269 := Ext.refl W262
     have r270 := b3
     have r271 := b9
     have r272 := b15
     have r273 := b30
     have r274 := b36
     have r275 := b42
     have r276 := b57
     have r277 := b88
     have r278 := b107
     have r279 := b132
     have r280 := b150
     have r281 := b172
     have r282 := b179
     have r283 := b200
     have r284 := b213
     have r285 := b220
     have r286 := b249
     refine tk 3 rfl (by kernel_rfl) q269 (pv (fun _ y287 => rldb4 rfl ag48 (r286.ext y287) rfl rfl rfl rfl )) ?_
     refine ef 0 (by kernel_rfl) rfl ?_
     refine xcall e121 (rOf_ok (3) (2) TT _ (by omega) (by omega) (TT.up _)) rfl rfl ?_
     rintro _ W289 ⟨_, rfl, x290, hv288⟩
     have s291 := x290.sz
     have z294 := z267.trans x290
     have z295 := z268.trans x290
     have q296 := q269.trans x290
     replace hv288 := QC.to hv288 (r' := (3/2 : Rat)) (by decide +kernel)
     obtain ⟨_, _, _, _, _, _, _, _, rfl⟩ := hv288.form
     refine ⟨_, rfl, ?_⟩
     refine ⟨fun _ => q296, ?_⟩
     refine ef 1 (by kernel_rfl) rfl ?_
     refine xcall e116 (rInt_ok (-2) TT _ (by omega) (TT.up _)) rfl rfl ?_
     rintro _ W298 ⟨_, rfl, x299, hv297⟩
     have s300 := x299.sz
     have z303 := z294.trans x299
     have z304 := z295.trans x299
     have q305 := q296.trans x299
     replace hv297 := QC.to hv297 (r' := (-2 : Rat)) (by decide +kernel)
     obtain ⟨_, _, _, _, _, _, _, _, rfl⟩ := hv297.form
     refine ⟨_, rfl, ?_⟩
     refine ⟨fun _ => q305, ?_⟩
     refine efs 2 [4] (by kernel_rfl) ⟨?_, ?_, trivial⟩
     ·skip
      refine efI rfl ?_
      refine xbs (zs := [.bool false, .slice _ _ _, .bool false, .slice _ _ _]) (ps := [(0, .agg #[_, _, _, _]), (1, .agg #[_, _, _, _])]) (cs := [.bool _, .slice _ _ _, .bool _, .slice _ _ _, .bool _, .slice _ _ _, .bool _, .slice _ _ _]) sl23 zr48 sz48 rfl rfl rfl rfl rfl (fillS2 _ _ _ _ _ _ _ _ _ _ _ _) ?_
      intro W306 x307 b308 nn309
      have s310 := x307.sz
      have z313 := z303.trans x307
      have z314 := z304.trans x307
      have q315 := q305.trans x307
      refine ⟨fun _ => q315, ?_⟩
      refine ef 4 (by kernel_rfl) rfl ?_
      refine xcall e122 (rNegQ_ok [_, _, _, _] _ 1 TT _ _ (((hv240.ext z313)).qa (szB_sz (by decide +kernel))) (by omega) (by omega) (TT.up _)) rfl rfl ?_
      rintro _ W317 ⟨_, rfl, x318, hv316⟩
      have s319 := x318.sz
      have z323 := z314.trans x318
      replace b308 := b308.ext x318
      have q324 := q315.trans x318
      replace hv316 := QC.to hv316 (r' := (-1/2 : Rat)) (by decide +kernel)
      obtain ⟨_, _, _, _, _, _, _, _, rfl⟩ := hv316.form
      refine ⟨_, rfl, ?_⟩
      refine ⟨fun _ => q324, ?_⟩
      refine ef 5 (by kernel_rfl) rfl ?_
      refine xcall e116 (rInt_ok (1) TT _ (by omega) (TT.up _)) rfl rfl ?_
      rintro _ W326 ⟨_, rfl, x327, hv325⟩
      have s328 := x327.sz
      have z332 := z323.trans x327
      replace b308 := b308.ext x327
      have q333 := q324.trans x327
      replace hv325 := QC.to hv325 (r' := (1 : Rat)) (by decide +kernel)
      obtain ⟨_, _, _, _, _, _, _, _, rfl⟩ := hv325.form
      refine ⟨_, rfl, ?_⟩
      refine ⟨fun _ => q333, ?_⟩
      refine ef 6 (by kernel_rfl) rfl ?_
      refine xbs (zs := [.bool false, .slice _ _ _, .bool false, .slice _ _ _]) (ps := [(0, .agg #[_, _, _, _]), (1, .agg #[_, _, _, _])]) (cs := [.bool _, .slice _ _ _, .bool _, .slice _ _ _, .bool _, .slice _ _ _, .bool _, .slice _ _ _]) sl23 zr48 sz48 rfl rfl rfl rfl rfl (fillS2 _ _ _ _ _ _ _ _ _ _ _ _) ?_
      intro W334 x335 b336 nn337
      have s338 := x335.sz
      have z342 := z332.trans x335
      replace b308 := b308.ext x335
      have q343 := q333.trans x335
      refine ⟨fun _ => q343, ?_⟩
      refine ef 7 (by kernel_rfl) rfl ?_
      refine xbs (ps := [(0, .slice _ _ _), (1, .slice _ _ _)]) (cs := [.slice _ _ _, .slice _ _ _]) sl22 zr23 sz23 rfl rfl rfl rfl rfl rfl ?_
      intro W344 x345 b346 nn347
      have s348 := x345.sz
      have z352 := z342.trans x345
      replace b308 := b308.ext x345
      replace b336 := b336.ext x345
      have q353 := q343.trans x345
      refine ⟨fun _ => q353, ?_⟩
      refine tk 8 rfl (by kernel_rfl) q353 (pv (fun _ y354 => ras (v := .slice _ _ _) rfl)) ?_
      refine dn (by kernel_rfl) ?_
      have hv355 : GC TT W344 (some ⟨W298.heap.size, 0, none⟩) 2 2 [_, _] := ⟨[[.bool _, .slice _ _ _, .bool _, .slice _ _ _], [.bool _, .slice _ _ _, .bool _, .slice _ _ _]], RS.lit (s := 4) (S := TT) (n := 2) _ b308 rfl (by simp) trivial rfl (by omega), (hv288.ext (((((x299.trans x307).trans x318).trans x327).trans x335).trans x345)), (hv297.ext ((((x307.trans x318).trans x327).trans x335).trans x345)), trivial⟩
      have hv356 : GC TT W344 (some ⟨W326.heap.size, 0, none⟩) 2 2 [_, _] := ⟨[[.bool _, .slice _ _ _, .bool _, .slice _ _ _], [.bool _, .slice _ _ _, .bool _, .slice _ _ _]], RS.lit (s := 4) (S := TT) (n := 2) _ b336 rfl (by simp) trivial rfl (by omega), (hv316.ext ((x327.trans x335).trans x345)), (hv325.ext (x335.trans x345)), trivial⟩
      have hwant : MC TT W344 (some ⟨W334.heap.size, 0, none⟩) 2 2 [_, _] := ⟨[[.slice _ _ _], [.slice _ _ _]], RS.lit (s := 1) (S := TT) (n := 2) _ b346 rfl (by simp) trivial rfl (by omega), ⟨_, _, _, rfl, hv355⟩, ⟨_, _, _, rfl, hv356⟩, trivial⟩
      exact ⟨(W334.heap.size, 0), ⟨rfl, rfl, rfl, rfl, rfl, rfl, rfl, rfl, trivial⟩, ⟨rfl, trivial⟩, z352, hwant⟩
     ·skip
      refine efI rfl ?_
      refine xcall e122 (rNegQ_ok [_, _, _, _] _ 1 TT _ _ (((hv240.ext z303)).qa (szB_sz (by decide +kernel))) (by omega) (by omega) (TT.up _)) rfl rfl ?_
      rintro _ W358 ⟨_, rfl, x359, hv357⟩
      have s360 := x359.sz
      have z364 := z304.trans x359
      have q365 := q305.trans x359
      replace hv357 := QC.to hv357 (r' := (-1/2 : Rat)) (by decide +kernel)
      obtain ⟨_, _, _, _, _, _, _, _, rfl⟩ := hv357.form
      refine ⟨_, rfl, ?_⟩
      refine ⟨fun _ => q365, ?_⟩
      refine efs 2 [5] (by kernel_rfl) ⟨?_, ?_, trivial⟩
      ·skip
       refine efI rfl ?_
       refine xbs (zs := [.bool false, .slice _ _ _, .bool false, .slice _ _ _]) (ps := [(0, .agg #[_, _, _, _]), (1, .agg #[_, _, _, _])]) (cs := [.bool _, .slice _ _ _, .bool _, .slice _ _ _, .bool _, .slice _ _ _, .bool _, .slice _ _ _]) sl23 zr48 sz48 rfl rfl rfl rfl rfl (fillS2 _ _ _ _ _ _ _ _ _ _ _ _) ?_
       intro W366 x367 b368 nn369
       have s370 := x367.sz
       have z374 := z364.trans x367
       have q375 := q365.trans x367
       refine ⟨fun _ => q375, ?_⟩
       refine ef 5 (by kernel_rfl) rfl ?_
       refine xcall e116 (rInt_ok (1) TT _ (by omega) (TT.up _)) rfl rfl ?_
       rintro _ W377 ⟨_, rfl, x378, hv376⟩
       have s379 := x378.sz
       have z383 := z374.trans x378
       replace b368 := b368.ext x378
       have q384 := q375.trans x378
       replace hv376 := QC.to hv376 (r' := (1 : Rat)) (by decide +kernel)
       obtain ⟨_, _, _, _, _, _, _, _, rfl⟩ := hv376.form
       refine ⟨_, rfl, ?_⟩
       refine ⟨fun _ => q384, ?_⟩
       refine ef 6 (by kernel_rfl) rfl ?_
       refine xbs (zs := [.bool false, .slice _ _ _, .bool false, .slice _ _ _]) (ps := [(0, .agg #[_, _, _, _]), (1, .agg #[_, _, _, _])]) (cs := [.bool _, .slice _ _ _, .bool _, .slice _ _ _, .bool _, .slice _ _ _, .bool _, .slice _ _ _]) sl23 zr48 sz48 rfl rfl rfl rfl rfl (fillS2 _ _ _ _ _ _ _ _ _ _ _ _) ?_
       intro W385 x386 b387 nn388
       have s389 := x386.sz
       have z393 := z383.trans x386
       replace b368 := b368.ext x386
       have q394 := q384.trans x386
       refine ⟨fun _ => q394, ?_⟩
       refine ef 7 (by kernel_rfl) rfl ?_
       refine xbs (ps := [(0, .slice _ _ _), (1, .slice _ _ _)]) (cs := [.slice _ _ _, .slice _ _ _]) sl22 zr23 sz23 rfl rfl rfl rfl rfl rfl ?_
       intro W395 x396 b397 nn398
       have s399 := x396.sz
       have z403 := z393.trans x396
       replace b368 := b368.ext x396
       replace b387 := b387.ext x396
       have q404 := q394.trans x396
       refine ⟨fun _ => q404, ?_⟩
       refine tk 8 rfl (by kernel_rfl) q404 (pv (fun _ y405 => ras (v := .slice _ _ _) rfl)) ?_
       refine dn (by kernel_rfl) ?_
       have hv406 : GC TT W395 (some ⟨W358.heap.size, 0, none⟩) 2 2 [_, _] := ⟨[[.bool _, .slice _ _ _, .bool _, .slice _ _ _], [.bool _, .slice _ _ _, .bool _, .slice _ _ _]], RS.lit (s := 4) (S := TT) (n := 2) _ b368 rfl (by simp) trivial rfl (by omega), (hv288.ext (((((x299.trans x359).trans x367).trans x378).trans x386).trans x396)), (hv297.ext ((((x359.trans x367).trans x378).trans x386).trans x396)), trivial⟩
       have hv407 : GC TT W395 (some ⟨W377.heap.size, 0, none⟩) 2 2 [_, _] := ⟨[[.bool _, .slice _ _ _, .bool _, .slice _ _ _], [.bool _, .slice _ _ _, .bool _, .slice _ _ _]], RS.lit (s := 4) (S := TT) (n := 2) _ b387 rfl (by simp) trivial rfl (by omega), (hv357.ext (((x367.trans x378).trans x386).trans x396)), (hv376.ext (x386.trans x396)), trivial⟩
       have hwant : MC TT W395 (some ⟨W385.heap.size, 0, none⟩) 2 2 [_, _] := ⟨[[.slice _ _ _], [.slice _ _ _]], RS.lit (s := 1) (S := TT) (n := 2) _ b397 rfl (by simp) trivial rfl (by omega), ⟨_, _, _, rfl, hv406⟩, ⟨_, _, _, rfl, hv407⟩, trivial⟩
       exact ⟨(W385.heap.size, 0), ⟨rfl, rfl, rfl, rfl, rfl, rfl, rfl, rfl, trivial⟩, ⟨rfl, trivial⟩, z403, hwant⟩
      ·skip
       refine efI rfl ?_
       refine xcall e116 (rInt_ok (1) TT _ (by omega) (TT.up _)) rfl rfl ?_
       rintro _ W409 ⟨_, rfl, x410, hv408⟩
       have s411 := x410.sz
       have z415 := z364.trans x410
       have q416 := q365.trans x410
       replace hv408 := QC.to hv408 (r' := (1 : Rat)) (by decide +kernel)
       obtain ⟨_, _, _, _, _, _, _, _, rfl⟩ := hv408.form
       refine ⟨_, rfl, ?_⟩
       refine ⟨fun _ => q416, ?_⟩
       refine efs 2 [6] (by kernel_rfl) ⟨?_, ?_, trivial⟩
       ·skip
        refine efI rfl ?_
        refine xbs (zs := [.bool false, .slice _ _ _, .bool false, .slice _ _ _]) (ps := [(0, .agg #[_, _, _, _]), (1, .agg #[_, _, _, _])]) (cs := [.bool _, .slice _ _ _, .bool _, .slice _ _ _, .bool _, .slice _ _ _, .bool _, .slice _ _ _]) sl23 zr48 sz48 rfl rfl rfl rfl rfl (fillS2 _ _ _ _ _ _ _ _ _ _ _ _) ?_
        intro W417 x418 b419 nn420
        have s421 := x418.sz
        have z425 := z415.trans x418
        have q426 := q416.trans x418
        refine ⟨fun _ => q426, ?_⟩
        refine ef 6 (by kernel_rfl) rfl ?_
        refine xbs (zs := [.bool false, .slice _ _ _, .bool false, .slice _ _ _]) (ps := [(0, .agg #[_, _, _, _]), (1, .agg #[_, _, _, _])]) (cs := [.bool _, .slice _ _ _, .bool _, .slice _ _ _, .bool _, .slice _ _ _, .bool _, .slice _ _ _]) sl23 zr48 sz48 rfl rfl rfl rfl rfl (fillS2 _ _ _ _ _ _ _ _ _ _ _ _) ?_
        intro W427 x428 b429 nn430
        have s431 := x428.sz
        have z435 := z425.trans x428
        replace b419 := b419.ext x428
        have q436 := q426.trans x428
        refine ⟨fun _ => q436, ?_⟩
        refine ef 7 (by kernel_rfl) rfl ?_
        refine xbs (ps := [(0, .slice _ _ _), (1, .slice _ _ _)]) (cs := [.slice _ _ _, .slice _ _ _]) sl22 zr23 sz23 rfl rfl rfl rfl rfl rfl ?_
        intro W437 x438 b439 nn440
        have s441 := x438.sz
        have z445 := z435.trans x438
        replace b419 := b419.ext x438
        replace b429 := b429.ext x438
        have q446 := q436.trans x438
        refine ⟨fun _ => q446, ?_⟩
        refine tk 8 rfl (by kernel_rfl) q446 (pv (fun _ y447 => ras (v := .slice _ _ _) rfl)) ?_
        refine dn (by kernel_rfl) ?_
        have hv448 : GC TT W437 (some ⟨W409.heap.size, 0, none⟩) 2 2 [_, _] := ⟨[[.bool _, .slice _ _ _, .bool _, .slice _ _ _], [.bool _, .slice _ _ _, .bool _, .slice _ _ _]], RS.lit (s := 4) (S := TT) (n := 2) _ b419 rfl (by simp) trivial rfl (by omega), (hv288.ext (((((x299.trans x359).trans x410).trans x418).trans x428).trans x438)), (hv297.ext ((((x359.trans x410).trans x418).trans x428).trans x438)), trivial⟩
        have hv449 : GC TT W437 (some ⟨W417.heap.size, 0, none⟩) 2 2 [_, _] := ⟨[[.bool _, .slice _ _ _, .bool _, .slice _ _ _], [.bool _, .slice _ _ _, .bool _, .slice _ _ _]], RS.lit (s := 4) (S := TT) (n := 2) _ b429 rfl (by simp) trivial rfl (by omega), (hv357.ext (((x410.trans x418).trans x428).trans x438)), (hv408.ext ((x418.trans x428).trans x438)), trivial⟩
        have hwant : MC TT W437 (some ⟨W427.heap.size, 0, none⟩) 2 2 [_, _] := ⟨[[.slice _ _ _], [.slice _ _ _]], RS.lit (s := 1) (S := TT) (n := 2) _ b439 rfl (by simp) trivial rfl (by omega), ⟨_, _, _, rfl, hv448⟩, ⟨_, _, _, rfl, hv449⟩, trivial⟩
        exact ⟨(W427.heap.size, 0), ⟨rfl, rfl, rfl, rfl, rfl, rfl, rfl, rfl, trivial⟩, ⟨rfl, trivial⟩, z445, hwant⟩
       ·skip
        refine efI rfl ?_
        refine xbs (zs := [.bool false, .slice _ _ _, .bool false, .slice _ _ _]) (ps := [(0, .agg #[_, _, _, _]), (1, .agg #[_, _, _, _])]) (cs := [.bool _, .slice _ _ _, .bool _, .slice _ _ _, .bool _, .slice _ _ _, .bool _, .slice _ _ _]) sl23 zr48 sz48 rfl rfl rfl rfl rfl (fillS2 _ _ _ _ _ _ _ _ _ _ _ _) ?_
        intro W450 x451 b452 nn453
        have s454 := x451.sz
        have z458 := z415.trans x451
        have q459 := q416.trans x451
        refine ⟨fun _ => q459, ?_⟩
        refine ef 2 (by kernel_rfl) rfl ?_
        refine xbs (zs := [.bool false, .slice _ _ _, .bool false, .slice _ _ _]) (ps := [(0, .agg #[_, _, _, _]), (1, .agg #[_, _, _, _])]) (cs := [.bool _, .slice _ _ _, .bool _, .slice _ _ _, .bool _, .slice _ _ _, .bool _, .slice _ _ _]) sl23 zr48 sz48 rfl rfl rfl rfl rfl (fillS2 _ _ _ _ _ _ _ _ _ _ _ _) ?_
        intro W460 x461 b462 nn463
        have s464 := x461.sz
        have z468 := z458.trans x461
        replace b452 := b452.ext x461
        have q469 := q459.trans x461
        refine ⟨fun _ => q469, ?_⟩
        refine ef 7 (by kernel_rfl) rfl ?_
        refine xbs (ps := [(0, .slice _ _ _), (1, .slice _ _ _)]) (cs := [.slice _ _ _, .slice _ _ _]) sl22 zr23 sz23 rfl rfl rfl rfl rfl rfl ?_
        intro W470 x471 b472 nn473
        have s474 := x471.sz
        have z478 := z468.trans x471
        replace b452 := b452.ext x471
        replace b462 := b462.ext x471
        have q479 := q469.trans x471
        refine ⟨fun _ => q479, ?_⟩
        refine tk 8 rfl (by kernel_rfl) q479 (pv (fun _ y480 => ras (v := .slice _ _ _) rfl)) ?_
        refine dn (by kernel_rfl) ?_
        have hv481 : GC TT W470 (some ⟨W450.heap.size, 0, none⟩) 2 2 [_, _] := ⟨[[.bool _, .slice _ _ _, .bool _, .slice _ _ _], [.bool _, .slice _ _ _, .bool _, .slice _ _ _]], RS.lit (s := 4) (S := TT) (n := 2) _ b462 rfl (by simp) trivial rfl (by omega), (hv288.ext (((((x299.trans x359).trans x410).trans x451).trans x461).trans x471)), (hv297.ext ((((x359.trans x410).trans x451).trans x461).trans x471)), trivial⟩
        have hv482 : GC TT W470 (some ⟨W409.heap.size, 0, none⟩) 2 2 [_, _] := ⟨[[.bool _, .slice _ _ _, .bool _, .slice _ _ _], [.bool _, .slice _ _ _, .bool _, .slice _ _ _]], RS.lit (s := 4) (S := TT) (n := 2) _ b452 rfl (by simp) trivial rfl (by omega), (hv357.ext (((x410.trans x451).trans x461).trans x471)), (hv408.ext ((x451.trans x461).trans x471)), trivial⟩
        have hwant : MC TT W470 (some ⟨W460.heap.size, 0, none⟩) 2 2 [_, _] := ⟨[[.slice _ _ _], [.slice _ _ _]], RS.lit (s := 1) (S := TT) (n := 2) _ b472 rfl (by simp) trivial rfl (by omega), ⟨_, _, _, rfl, hv481⟩, ⟨_, _, _, rfl, hv482⟩, trivial⟩
        exact ⟨(W460.heap.size, 0), ⟨rfl, rfl, rfl, rfl, rfl, rfl, rfl, rfl, trivial⟩, ⟨rfl, trivial⟩, z478, hwant⟩
    ·skip
     intro i485 E486 W484 h487
     obtain ⟨nb, nb2⟩ := i485
     simp only at h487
     show thenV _ _ .normal (ups (ups _ _) [(21, .slice (some ⟨nb, 0, none⟩) 2 2)]) _ _
     obtain ⟨x488, hwant⟩ := h487
     have s489 := x488.sz
     have z490 := z257.trans x488
     have z491 := z258.trans x488
     have z492 := z259.trans x488
     replace b3 := b3.ext x488
     replace b9 := b9.ext x488
     replace b15 := b15.ext x488
     replace b30 := b30.ext x488
     replace b36 := b36.ext x488
     replace b42 := b42.ext x488
     replace b57 := b57.ext x488
     replace b88 := b88.ext x488
     replace b107 := b107.ext x488
     replace b132 := b132.ext x488
     replace b150 := b150.ext x488
     replace b172 := b172.ext x488
     replace b179 := b179.ext x488
     replace b200 := b200.ext x488
     replace b213 := b213.ext x488
     replace b220 := b220.ext x488
     replace b249 := b249.ext x488
     refine V.seq (V.regD mixed rfl ?_)
     intro W494 x495
     have s496 := x495.sz
     have z497 := z490.trans x495
     have z498 := z491.trans x495
     have z499 := z492.trans x495
     replace b3 := b3.ext x495
     replace b9 := b9.ext x495
     replace b15 := b15.ext x495
     replace b30 := b30.ext x495
     replace b36 := b36.ext x495
     replace b42 := b42.ext x495
     replace b57 := b57.ext x495
     replace b88 := b88.ext x495
     replace b107 := b107.ext x495
     replace b132 := b132.ext x495
     replace b150 := b150.ext x495
     replace b172 := b172.ext x495
     replace b179 := b179.ext x495
     replace b200 := b200.ext x495
     replace b213 := b213.ext x495
     replace b220 := b220.ext x495
     replace b249 := b249.ext x495
     have q501 := Ext.refl W494
     have r502 := b3
     have r503 := b9
     have r504 := b15
     have r505 := b30
     have r506 := b36
     have r507 := b42
     have r508 := b57
     have r509 := b88
     have r510 := b107
     have r511 := b132
     have r512 := b150
     have r513 := b172
     have r514 := b179
     have r515 := b200
     have r516 := b213
     have r517 := b220
     have r518 := b249
     refine tk 0 rfl (by kernel_rfl) q501 (pv (fun _ y519 => rmv (v := .slice _ _ _) rfl)) ?_
     refine ef 1 (by kernel_rfl) rfl ?_
     refine xbs (ps := [(0, .int _ _), (1, .int _ _)]) (cs := [.int _ _, .int _ _]) sl118 zr2 sz2 rfl rfl rfl rfl rfl rfl ?_
     intro W520 x521 b522 nn523
     have s524 := x521.sz
     have z525 := z497.trans x521
     have z526 := z498.trans x521
     have z527 := z499.trans x521
     have q529 := q501.trans x521
     refine ⟨fun _ => q529, ?_⟩
     refine ef 2 (by kernel_rfl) rfl ?_
     have hl530 := RN.lit (k := .i64) (xs := [_, _]) 2 b522 (by intro q hq; simp only [List.mem_cons, List.not_mem_nil, or_false] at hq; simp only [kb]; omega) (TT.up W494 _ (Nat.le_refl _))
     refine xcall e82 (vFrom_ok _ _ _ [1, 0] TT TT _ hl530 (by omega) (TT.up _)) rfl rfl ?_
     rintro _ W533 ⟨_, rn532, _, rfl, x534, hv531⟩
     have s535 := x534.sz
     have z536 := z525.trans x534
     have z537 := z526.trans x534
     have z538 := z527.trans x534
     have q540 := q529.trans x534
     obtain rfl : rn532 = 2 := by have := hv531.len; simpa using this.symm
     replace hv531 := hv531.cast (rs' := ([1, 0] : List Rat)) (by rfl)
     refine ⟨_, rfl, ?_⟩
     refine ⟨fun _ => q540, ?_⟩
     refine ef 3 (by kernel_rfl) rfl ?_
     refine xcall e56 (vIs_true _ ((hv118.ext x126).ext z537) hv531 rfl) rfl rfl ?_
     rintro _ W541 ⟨rfl, x542⟩
     have s543 := x542.sz
     have z544 := z536.trans x542
     have z545 := z537.trans x542
     have z546 := z538.trans x542
     have q548 := q540.trans x542
     refine ⟨_, rfl, ?_⟩
     refine ⟨fun _ => q548, ?_⟩
     refine tk 4 rfl (by kernel_rfl) q548 (pv (fun _ y549 => rmv (v := .bool true) rfl)) ?_
     refine tk 5 rfl (by kernel_rfl) q548 (pg rfl (fun _ y550 => rmv (v := .int _ _) rfl)) ?_
     refine tk 6 rfl (by kernel_rfl) q548 (pg rfl (fun _ y551 => rcmp (cEq (t := true) rfl) rfl rfl rfl)) ?_
     refine tk 7 rfl (by kernel_rfl) q548 (pv (fun _ y552 => rpk (v := .bool true) rfl rfl)) ?_
     refine tk 8 rfl (by kernel_rfl) q548 (pv (fun _ y553 => rmv (v := .bool true) rfl)) ?_
     refine tk 9 rfl (by kernel_rfl) q548 (pg rfl (fun _ y554 => rldb4 rfl ag48 (r511.ext y554) rfl rfl rfl rfl )) ?_
     refine efg 10 (by kernel_rfl) rfl rfl ?_
     refine xcall e116 (rInt_ok (2) TT _ (by omega) (TT.up _)) rfl rfl ?_
     rintro _ W556 ⟨_, rfl, x557, hv555⟩
     have s558 := x557.sz
     have z559 := z544.trans x557
     have z560 := z545.trans x557
     have z561 := z546.trans x557
     have q563 := q548.trans x557
     replace hv555 := QC.to hv555 (r' := (2 : Rat)) (by decide +kernel)
     obtain ⟨_, _, _, _, _, _, _, _, rfl⟩ := hv555.form
     refine ⟨_, rfl, ?_⟩
     refine ⟨fun _ => q563, ?_⟩
     refine efg 11 (by kernel_rfl) rfl rfl ?_
     refine xcall e37 (qIs5_true _ (q1 := [_, _, _, _]) (q2 := [_, _, _, _]) (hv124.ext z560) hv555 rfl) rfl rfl ?_
     rintro _ W564 ⟨rfl, x565⟩
     have s566 := x565.sz
     have z567 := z559.trans x565
     have z569 := z561.trans x565
     have q571 := q563.trans x565
     refine ⟨_, rfl, ?_⟩
     refine ⟨fun _ => q571, ?_⟩
     refine tk 12 rfl (by kernel_rfl) q571 (pv (fun _ y572 => rpk (v := .bool true) rfl rfl)) ?_
     refine tk 13 rfl (by kernel_rfl) q571 (pv (fun _ y573 => rmv (v := .bool true) rfl)) ?_
     refine tk 14 rfl (by kernel_rfl) q571 (pg rfl (fun _ y574 => rmv (v := .int _ _) rfl)) ?_
     refine tk 15 rfl (by kernel_rfl) q571 (pg rfl (fun _ y575 => rcmp (cEq (t := true) rfl) rfl rfl rfl)) ?_
     refine tk 16 rfl (by kernel_rfl) q571 (pv (fun _ y576 => rpk (v := .bool true) rfl rfl)) ?_
     refine tk 17 rfl (by kernel_rfl) q571 (pv (fun _ y577 => rmv (v := .bool true) rfl)) ?_
     refine tk 18 rfl (by kernel_rfl) q571 (pg rfl (fun _ y578 => rmv (v := .slice _ _ _) rfl)) ?_
     refine tk 19 rfl (by kernel_rfl) q571 (pg rfl (fun _ y579 => rmv (v := .slice _ _ _) rfl)) ?_
     refine efg 20 (by kernel_rfl) rfl rfl ?_
     refine xcall e42 (mIs_true _ ((hv142.ext (((((((((((((x149.trans x159).trans x164).trans x171).trans x178).trans x189).trans x194).trans x199).trans x207).trans x212).trans x219).trans x230).trans x235).trans x242)).ext z569) (hwant.ext (((((x495.trans x521).trans x534).trans x542).trans x557).trans x565)) rfl) rfl rfl ?_
     rintro _ W580 ⟨rfl, x581⟩
     have s582 := x581.sz
     have z583 := z567.trans x581
     have q587 := q571.trans x581
     refine ⟨_, rfl, ?_⟩
     refine ⟨fun _ => q587, ?_⟩
     refine tk 21 rfl (by kernel_rfl) q587 (pv (fun _ y588 => rpk (v := .bool true) rfl rfl)) ?_
     refine tk 22 rfl (by kernel_rfl) q587 (pv (fun _ y589 => rmv (v := .bool true) rfl)) ?_
     refine tk 23 rfl (by kernel_rfl) q587 (pg rfl (fun _ y590 => rmv (v := .int _ _) rfl)) ?_
     refine tk 24 rfl (by kernel_rfl) q587 (pg rfl (fun _ y591 => rcmp (cEq (t := true) rfl) rfl rfl rfl)) ?_
     refine tk 25 rfl (by kernel_rfl) q587 (pv (fun _ y592 => rpk (v := .bool true) rfl rfl)) ?_
     refine tk 26 rfl (by kernel_rfl) q587 (pv (fun _ y593 => ras (v := .bool true) rfl)) ?_
     refine dn (by kernel_rfl) ?_
     refine V.ret ?_
     refine ⟨[.bool true], ⟨rfl, trivial⟩, ?_⟩
     exact ⟨rfl, z583⟩
end Go.Proofs.YtknbjfefeeojlaaGreat
/- What the laws of layer 5 ask of package solve's functions: the reduced form of a matrix, sizes. -/
namespace Go.Proofs.YtknbjfefeeojlaaGreat
open Go.RowKit
attribute [local irreducible] RV VH V OpF Calls
def pivs (rss : List (List Rat)) : List Int := (redS (padm rss) (colsN rss)).2.1
theorem pow5_le {k m : Nat} (h : k ≤ m) : 5 ^ k ≤ 5 ^ m := Nat.pow_le_pow_right (by omega) h
theorem szV.set {L : Nat} {xs : List Rat} (h : szV L xs) {i : Nat} {r : Rat} (hr : sz L r) : szV L (xs.set i r) := fun x hx => by
  rcases List.mem_or_eq_of_mem_set hx with h' | rfl
  · exact h x h'
  · exact hr
theorem pow_room {L k : Nat} (h : k ≤ 9) (hL : L ≤ 100000) : 15 * (L * 5 ^ k) + 2 < LY := by
  have h1 := Nat.mul_le_mul hL (pow5_le h)
  have h2 : LY = 8796093022208 := rfl
  have h3 : (5 : Nat) ^ 9 = 1953125 := by decide
  omega
section
variable {L : Nat} {S S1 S2 : Nat → Prop} {a1 a2 : Option Addr} {n c m d : Nat} {rss : List (List Rat)} {bs : List Rat}
theorem MA.mono {L' : Nat} {S : Nat → Prop} {W : World} (h : MA L S W a1 n c rss) (hL : L ≤ L') : MA L' S W a1 n c rss := by
  obtain ⟨qs, h1, h2⟩ := h
  exact ⟨qs, h1, h2.imp fun _ _ ⟨a, n, c, e, hr⟩ => ⟨a, n, c, e, hr.mono hL⟩⟩
theorem pReduce (w : World) (hx : MA L S1 w a1 n c rss) (hl1 : 1 ≤ L) (hn : n ≤ 1024) (hc : colsN rss ≤ 1024) (hL5 : 15 * (L * 5 ^ colsN rss) + 2 < LY) (hu : Up S w) :
    Calls Tryz.prog 60 #[.slice a1 n c] w fun e w' => ∃ ar cr ap cp np, e = .returned (.tuple #[.slice ar np cr, .slice ap np cp]) ∧ Ext w w' ∧ MC S w' ar np cr (redR rss) ∧ RN .i64 S w' ap np cp (pivs rss) := by
  have hl := hx.len
  refine (sReduce_ok a1 n c L rss S S1 w hx hl1 hn hc hL5 hu).mono ?_
  subst hl
  rintro _ w' ⟨ar, cr, ap, cp, e, x, h1, h2⟩
  exact ⟨ar, cr, ap, cp, _, e, x, h1, h2⟩
theorem pRank (w : World) (hx : MA L S1 w a1 n c rss) (hl1 : 1 ≤ L) (hn : n ≤ 1024) (hc : colsN rss ≤ 1024) (hL5 : 15 * (L * 5 ^ colsN rss) + 2 < LY) :
    Calls Tryz.prog 63 #[.slice a1 n c] w fun e w' => e = .returned (.int .i64 ((rank (padm rss) (colsN rss) : Nat) : Int)) ∧ Ext w w' := by
  have hl := hx.len
  refine (sRank_ok a1 n c L rss S1 w hx hl1 hn hc hL5).mono ?_
  subst hl
  exact fun _ _ h => h
end
end Go.Proofs.YtknbjfefeeojlaaGreat
/- append(v, l...) of elements of any size. -/
namespace Go.Proofs.YtknbjfefeeojlaaGreat
open Go.RowKit
theorem All2.app {α β : Type} {p : α → β → Prop} : ∀ {xs : List α} {ys : List β} {xs2 : List α} {ys2 : List β}, All2 p xs ys → All2 p xs2 ys2 → All2 p (xs ++ xs2) (ys ++ ys2)
  | [], [], _, _, _, h => h
  | _ :: _, _ :: _, _, _, ⟨h1, h2⟩, h => ⟨h1, All2.app h2 h⟩
section
variable {r : Option Nat} {P : Program} {ρ : Operand → Value} {W : World} {d : Option Tmp} {ty e : TypeId} {pos : String} {af : Array Edge} {g : Option (Nat × Bool)} {x y : Operand} {v : Value} {K : Value → World → Prop} {s B : Nat} {ρt : Type} {El : (Nat → Prop) → World → List Value → ρt → Prop} {S S' : Nat → Prop} {rs rs2 : List ρt}
end
end Go.Proofs.YtknbjfefeeojlaaGreat
/- The reduced form, row by row, as the law of the echelon form asks. -/
namespace Go.Proofs.YtknbjfefeeojlaaGreat
open Go.RowKit
attribute [local irreducible] RV VH V OpF Calls
theorem MA.two {L : Nat} {W : World} {a : Option Addr} {n c : Nat} {rss : List (List Rat)} (h : MA L TT W a n c rss) : ∃ qs, RS 1 (fun b => b < W.heap.size) W a n c qs ∧ All2 (RowOf (GA L) (fun b => b < W.heap.size) W) qs rss ∧ ∀ q ∈ qs, ∀ u ∈ q, Value.oneCell' u = true := by
  obtain ⟨qs, h1, h2⟩ := MG.sub (okRowA L) h (S' := fun b => b < W.heap.size) fun b hb _ => hb
  refine ⟨qs, h1, h2, fun q hq u hu => ?_⟩
  obtain ⟨i, hi⟩ := List.getElem?_of_mem hq
  obtain ⟨r, _, a', n', c', rfl, _⟩ := h2.get hi
  rw [List.mem_singleton.1 hu]; rfl
end Go.Proofs.YtknbjfefeeojlaaGreat
/- A matrix of the call's own: its rows, and what keeps it. The laws of determinants under operations on rows. -/
namespace Go.Proofs.YtknbjfefeeojlaaGreat
open Go.RowKit
attribute [local irreducible] RV VH V OpF Calls
theorem V.cut {r : Option Nat} {P : Program} {N : Nat} {ds : List Deferred} {c : Code} {Q : EQ} {E : Env} {W : World} (L : List (Nat × Value)) (hL : agree E L) (h : ∀ E0, V r P N ds c Q (ups E0 L) W) : V r P N ds c Q E W := by
  have := h E
  rwa [ups_agree hL] at this
theorem OS.rsO {s B n c : Nat} {W : World} {e : TypeId} {qs : List (List Value)} {S : Nat → Prop} {a : Option Addr} (h : OS s B W e (.slice a n c) qs) (hS : ∀ b, (Value.slice a n c).ownBlock = some b → S b) : RS s S W a n c qs := by
  rcases h.row.2 with ⟨h1, h0⟩ | ⟨b, cap, cur, h1, hb, hh, hn, hm, hs, ht⟩
  · injection h1 with h1 h2 h3
    subst h1 h2 h3
    have : qs = [] := List.eq_nil_of_length_eq_zero h0
    subst this
    exact RS.nil _ _ _ _ _ (by omega)
  · injection h1 with h1 h2 h3
    subst h1 h2 h3
    refine ⟨rfl, hn, by simp only [maxLen] at hm; omega, h.wd, fun h0 => ⟨b, 0, cur, e, (0,0), rfl, hS b rfl, hh, fun k q hk j u hj => ?_⟩⟩
    have hq := h.wd q (List.mem_of_getElem? hk)
    have hj2 : j < s := by rw [← hq]; exact (List.getElem?_eq_some_iff.1 hj).1
    have h5 := flat_get h.wd hk hj2
    rw [← ht, hj, List.getElem?_take] at h5
    split at h5
    · simpa using h5
    · cases h5
section
variable {ρt : Type} {El : (Nat → Prop) → World → List Value → ρt → Prop} {S S' : Nat → Prop} {s B : Nat} {W W' : World} {e : TypeId} {v : Value} {rs : List ρt}
theorem GO.low (h : GO s El S B W e v rs) : ∀ b, v.ownBlock = some b → B ≤ b ∧ b < W.heap.size := by
  obtain ⟨qs, h1, _⟩ := h; exact h1.low
theorem GO.keep (ok : ElOK El) (h : GO s El S B W e v rs) (k : CK S' W W') (hS : ∀ b, S b → S' b) (hB : ∀ b, B ≤ b → b < W.heap.size → S' b) : GO s El S B W' e v rs := by
  obtain ⟨qs, h1, h2⟩ := h
  exact ⟨qs, h1.ck k fun b e => hB b (h1.low b e).1 (h1.low b e).2, h2.imp fun _ _ hq => ok.ck hq (k.sub fun b hs => hS b hs.1)⟩
theorem GO.finO {n c : Nat} {a : Option Addr} (ok : ElOK El) (h : GO s El S B W e (.slice a n c) rs) (hS : ∀ b, b < W.heap.size → S b → S' b) (hb : ∀ b, (Value.slice a n c).ownBlock = some b → S' b) : ∃ qs, RS s S' W a n c qs ∧ All2 (El S' W) qs rs := by
  obtain ⟨qs, h1, h2⟩ := h
  exact ⟨qs, h1.rsO hb, h2.imp fun _ _ hq => ok.sub hq fun b hb hs => hS b hb hs.1⟩
end
theorem GO.row {S : Nat → Prop} {B n c : Nat} {W : World} {e : TypeId} {v : Value} {rows : List (List Rat)} {a : Option Addr} (h : GO 1 (RowOf GC) S B W e v rows) (hv : v = .slice a n c) {i : Int} (h0 : 0 ≤ i) (h1 : i < n) : ∃ a' n' c', W.cell? (adr a i 1) = some (.slice a' n' c') ∧ GC (SO S v) W a' n' c' (rowat rows i.toNat) := by
  obtain ⟨qs, h2, h3⟩ := h
  have h2' := h2
  rw [hv] at h2'
  have hr : RS 1 TT W a n c qs := h2'.rs fun _ _ _ => trivial
  obtain ⟨q, h4, h5, h6⟩ := hr.el h0 h1
  obtain ⟨r, h7, a', n', c', rfl, h8⟩ := h3.get h4
  have e : rowat rows i.toNat = r := by unfold rowat; rw [List.getD_eq_getElem?_getD, h7]; rfl
  refine ⟨a', n', c', ?_, e ▸ h8⟩
  have := h6 0 _ rfl
  rwa [add0] at this
section
variable {rss : List (List Rat)} {n : Nat}
end
end Go.Proofs.YtknbjfefeeojlaaGreat
/- Rows of the call's own and the pivots found, as the reference keeps them; the inverse in the reference's arithmetic. -/
namespace Go.Proofs.YtknbjfefeeojlaaGreat
open Go.RowKit
attribute [local irreducible] RV VH V OpF Calls
def PR (B : Nat) (pv : Value) : Nat → Prop := fun b => B ≤ b ∧ pv.ownBlock ≠ some b
structure RW (B : Nat) (v pv : Value) (rows : List (List Rat)) (piv : List Int) (W : World) : Prop where
  g : GO 1 (RowOf GC) (PR B pv) B W 23 v rows
  p : OI .i64 B W 3 pv piv
section
variable {B n c n' c' : Nat} {v pv pv' : Value} {rows : List (List Rat)} {piv : List Int} {W W' : World} {a a' : Option Addr}
theorem RW.ext (h : RW B v pv rows piv W) (x : Ext W W') : RW B v pv rows piv W' := ⟨h.g.ext okRowC x, h.p.ext x⟩
theorem RW.vp (h : RW B v pv rows piv W) {b : Nat} (e : v.ownBlock = some b) : pv.ownBlock ≠ some b := by
  obtain ⟨qs, h1, _⟩ := h.g
  obtain ⟨cur, hb⟩ := h1.obox e
  exact h.p.neBox hb (by decide)
theorem RW.up (h : RW B v pv rows piv W) (hB : B ≤ W.heap.size) : Up (SO (PR B pv) v) W := fun b hb => by
  exact ⟨⟨by omega, fun e => by have := (h.p.low b e).2; omega⟩, fun e => by have := (h.g.low b e).2; omega⟩
theorem RW.mc (h : RW B v pv rows piv W) (hv : v = .slice a n c) : MC TT W a n c rows := by
  subst hv; exact GO.rd okRowC h.g
theorem RW.pn (h : RW B v pv rows piv W) (hv : pv = .slice a n c) : RN .i64 TT W a n c piv := by
  subst hv; exact h.p.rn fun _ _ _ => trivial
theorem RW.fin {S : Nat → Prop} (h : RW B (.slice a n c) (.slice a' n' c') rows piv W) (hS : ∀ b, B ≤ b → b < W.heap.size → S b) : MC S W a n c rows ∧ RN .i64 S W a' n' c' piv := by
  refine ⟨?_, h.p.rn hS⟩
  obtain ⟨qs, h1, h2⟩ := h.g
  exact ⟨qs, h1.rs hS, h2.imp fun _ _ hq => okRowC.sub hq fun b hb hs => hS b hs.1.1 hb⟩
/-- One pivot more. -/
theorem RW.push {W1 : World} {z : Int} (h : RW B v pv rows piv W) (hO : OI .i64 B W1 3 pv' (piv ++ [z])) (hg : W.grownBy W1 pv.ownBlock) (ho : pv'.ownBlock = pv.ownBlock ∨ pv'.ownBlock = some W.heap.size) : RW B v pv' rows (piv ++ [z]) W1 := by
  have nb : ∀ b, b < W.heap.size → pv.ownBlock ≠ some b → pv'.ownBlock ≠ some b := fun b hb hp e => by
    rcases ho with h' | h'
    · exact hp (h' ▸ e)
    · rw [h'] at e; injection e with e; omega
  have kg : CK (fun b => pv.ownBlock ≠ some b) W W1 := grown_ck hg fun b e h => h e
  obtain ⟨qs, h1, h2⟩ := h.g
  refine ⟨⟨qs, h1.ck kg fun b e => h.vp e, h2.imp fun _ _ hq => ?_⟩, hO⟩
  have h3 := okRowC.sub (S' := fun b => SO (PR B pv) v b ∧ pv'.ownBlock ≠ some b) hq fun b hb hs => ⟨hs, nb b hb hs.1.2⟩
  exact okRowC.sub (okRowC.ck h3 (kg.sub fun b hs => hs.1.1.2)) fun b _ hs => ⟨⟨hs.1.1.1, hs.2⟩, hs.1.2⟩
end
section
variable {B n c : Nat} {v pv : Value} {rows : List (List Rat)} {piv : List Int} {W : World} {a a' : Option Addr} {n' c' : Nat} {ρ : Operand → Value} {d : Option Tmp} {ty T : TypeId} {pos : String} {af : Array Edge} {gd : Option (Nat × Bool)} {x y : Operand} {K : Value → World → Prop} {rr : List Rat}
/-- rows[i] = u -/
theorem xstR {r : Option Nat} {i : Int} (h : RW B v pv rows piv W) (hv : v = .slice a n c) (hx : ρ x = .pointer (some (adr a i 1))) (hy : ρ y = .slice a' n' c') (hT : Sz Tryz.prog T 1) (h0 : 0 ≤ i) (h1 : i < n) (hel : GC (SO (PR B pv) v) W a' n' c' rr)
    (hk2 : ∀ W', RW B v pv (rows.set i.toNat rr) piv W' → Below B W W' → (∀ b, (v.ownBlock ≠ some b → W'.heap[b]? = W.heap[b]?)) → K undef W') : OpF r Tryz.prog ρ ⟨d, .store T x y, ty, pos, af, gd⟩ W K := by
  refine xstG (q := [.slice a' n' c']) okRowC h.g hv hx hy rfl hT rfl rfl h0 h1 ⟨_, _, _, rfl, hel⟩ ?_
  intro b W' hb y' hG
  exact hk2 W' ⟨hG, h.p.ck (y'.ck (S := fun q => q ≠ b) fun hh => hh rfl) (fun q e hh => h.vp hb (hh ▸ e))⟩ (y'.below (h.g.low b hb).1) fun b' hb' => y'.block b' (fun e => hb' (e ▸ hb))
end
theorem GC.own {S : Nat → Prop} {W W' : World} {v : Value} {a : Option Addr} {n c : Nat} {rs : List Rat} (h : GC (SO S v) W a n c rs) (hs : W.heap.size ≤ W'.heap.size) (hb : ∀ b, (v.ownBlock ≠ some b → W'.heap[b]? = W.heap[b]?)) : GC (SO S v) W' a n c rs :=
  h.ck ⟨hs, fun b cs T fz hS hx => (hb b hS.2).trans hx⟩
theorem swapR_comm (rows : List (List Rat)) (p d : Nat) : (rows.set d (rowat rows p)).set p (rowat rows d) = swapR rows p d := by
  unfold swapR
  by_cases h : p = d
  · subst h; rfl
  · rw [List.set_comm _ _ (Ne.symm h)]
theorem axR_zero {xs ys : List Rat} (h : xs.length ≤ ys.length) : axR (-0) xs ys = ys := by
  refine List.ext_getElem (by rw [axR_len]; omega) fun i h1 h2 => ?_
  have h3 := vat_axR (-0) xs ys i
  rw [vat_lt h1, vat_lt h2] at h3
  rw [h3]; grind
theorem elimT_ax {N : Nat} {rows : List (List Rat)} (hr : rect N rows) {d k j : Nat} (hd : d < rows.length) (hj : j < rows.length) (h : j ≠ d) : elimT rows d k j = axR (-(mat rows j k)) (rowat rows d) (rowat rows j) := by
  unfold elimT
  by_cases h2 : mat rows j k = 0
  · rw [if_pos (.inr h2), h2, axR_zero (by rw [hr.row hd, hr.row hj]; exact Nat.le_refl _)]
  · rw [if_neg (by rintro (h' | h'); exact h h'; exact h2 h')]
theorem qv_inv {px py : Int} {r : Rat} (er : qv px py = r) (h : r ≠ 0) : qv (dnq py) (nmq px py) = 1 / r := by
  subst er
  have h1 := qv_nd px py
  have hn : nmq px py ≠ 0 := fun h0 => h (by rw [← h1, h0]; exact Rat.zero_divInt _)
  rw [show qv (dnq py) (nmq px py) = Rat.divInt (dnq py) (nmq px py) from if_neg hn, ← h1, Rat.div_def, Rat.one_mul, Rat.inv_divInt]
theorem mul_inv1 (r s : Rat) : r * (1 / s) = r / s := by rw [Rat.div_def 1, Rat.one_mul, ← Rat.div_def]
end Go.Proofs.YtknbjfefeeojlaaGreat

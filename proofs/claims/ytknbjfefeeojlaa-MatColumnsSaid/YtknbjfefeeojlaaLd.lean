/- Package pylonlaw04: MatColumns. -/
import Derived.Test.YtknbjfefeeojlaaLz
namespace Go.Proofs.Ytknbjfefeeojlaa
open Go.RowKit
attribute [local irreducible] RV VH V OpF Calls
theorem colsN_col (x : List Rat) : colsN (x.map fun r => [r]) ≤ 1 := colsN_le fun r hr => by
  obtain ⟨q, _, rfl⟩ := List.mem_map.1 hr; simp
theorem map_take_succ (x : List Rat) (k : Nat) (h : k < x.length) : (x.take (k + 1)).map (fun r => [r]) = (x.take k).map (fun r => [r]) ++ [[vat x k]] := by
  rw [List.take_succ_eq_append_getElem h, List.map_append, vat_lt h]; rfl
theorem dist_min (n m R : Nat) : (n + m) * min R 1 = n * min R 1 + m * min R 1 := Nat.add_mul _ _ _
theorem mul_min_le (n R : Nat) : n * min R 1 ≤ n := by
  have := Nat.mul_le_mul_left n (Nat.min_le_right R 1); omega

set_option maxHeartbeats 400000 in
theorem matColumns_ok (a1 a2 a3 : Option Addr) (n c m d l e : Nat) (A B : List (List RawQ)) (X : List RawQ) (w : World) (hx : MX TT w a1 n c A) (hy : MX TT w a2 m d B) (hz : GX TT w a3 l e X) :
    Calls Try.prog 5 #[.slice a1 n c, .slice a2 m d, .slice a3 l e] w (fun e w' => e = .returned (.bool true) ∧ Ext w w') := by
  have z0 := Ext.refl w; have hLX : LX = 17592186044416 := rfl; have hLY : LY = 8796093022208 := rfl
  have hLV : LV = 1099511627776 := rfl
  have hz0 := hz.sub (S' := fun q => q < w.heap.size) (fun b hb _ => hb)
  refine enter (args := [.slice a1 n c, .slice a2 m d, .slice a3 l e]) Try.func5 rfl rfl (Nat.le_of_ble_eq_true rfl) ?_
  refine V.seq (V.reg rfl ?_)
  refine asb rfl ?_
  refine vnil ?_
  refine V.seq ?_
  refine V.seq (V.reg rfl ?_)
  refine mvs rfl ?_
  refine mvs rfl ?_
  refine vo ?_
  refine xbs (ps := [(0, .slice _ _ _), (1, .slice _ _ _)]) (cs := [.slice _ _ _, .slice _ _ _]) sl56 zr25 sz25 rfl rfl rfl rfl rfl rfl ?_
  intro W1 x2 b3 nn4
  have s5 := x2.sz
  have z6 := x2
  refine vo ?_
  have hm7 : MXX TT W1 (some ⟨w.heap.size, 0, none⟩) 2 2 [_, _] := ⟨[[.slice _ _ _], [.slice _ _ _]], RS.lit (s := 1) (S := TT) (n := 2) _ b3 rfl (by simp) trivial rfl (by omega), ⟨_, _, _, rfl, (hx.ext z6)⟩, ⟨_, _, _, rfl, (hy.ext z6)⟩, trivial⟩
  refine xcall e13 (long4_ok _ _ _ _ _ _ hm7) rfl rfl ?_
  rintro _ Wb1 ⟨bb1, rfl, xb1, hb1⟩
  refine ⟨_, rfl, ?_⟩
  cases bb1
  · skip
    have s8 := xb1.sz
    have z9 := z6.trans xb1
    replace b3 := b3.ext xb1
    refine mvb rfl ?_
    refine vg rfl ?_
    refine mvs rfl ?_
    refine vg rfl ?_
    refine vo ?_
    refine xbs (ps := [(0, .slice _ _ _)]) (cs := [.slice _ _ _]) sl25 zr30 sz30 rfl rfl rfl rfl rfl rfl ?_
    intro W10 x11 b12 nn13
    have s14 := x11.sz
    have z15 := z9.trans x11
    replace b3 := b3.ext x11
    refine vg rfl ?_
    refine vo ?_
    have hm16 : MX TT W10 (some ⟨Wb1.heap.size, 0, none⟩) 1 1 [_] := ⟨[[.slice _ _ _]], RS.lit (s := 1) (S := TT) (n := 1) _ b12 rfl (by simp) trivial rfl (by omega), ⟨_, _, _, rfl, (hz.ext z15)⟩, trivial⟩
    refine xcall e14 (long3_ok _ _ _ _ _ _ hm16) rfl rfl ?_
    rintro _ Wb2 ⟨bb2, rfl, xb2, hb2⟩
    refine ⟨_, rfl, ?_⟩
    cases bb2
    · skip
      have s17 := xb2.sz
      have z18 := z15.trans xb2
      replace b3 := b3.ext xb2
      replace b12 := b12.ext xb2
      refine vv (rpk (v := .bool false) rfl rfl) ?_
      refine vnil ?_
      refine V.condF rfl ?_
      refine V.skip ?_
      refine V.seq (V.reg rfl ?_)
      have hA := (hb1 rfl) A (by simp); have hB := (hb1 rfl) B (by simp); have hX := (hb2 rfl) X (by simp)
      obtain ⟨rss, hrss⟩ : ∃ rss, rss = A.map (·.map qval) := ⟨_, rfl⟩
      obtain ⟨mss, hmss⟩ : ∃ mss, mss = B.map (·.map qval) := ⟨_, rfl⟩
      obtain ⟨xs, hxs⟩ : ∃ xs, xs = X.map qval := ⟨_, rfl⟩
      have hma : MA 6 TT _ a1 n c rss := hrss ▸ ((hx.ext z18)).ma (fun r hr => (hA.2.2 r hr).2)
      have hmb : MA 6 TT _ a2 m d mss := hmss ▸ ((hy.ext z18)).ma (fun r hr => (hB.2.2 r hr).2)
      have hvx : GA 6 (fun q => q < w.heap.size) _ a3 l e xs := hxs ▸ ((hz0.ext z18)).va hX.2
      have hcA : colsN rss ≤ 8 := by rw [hrss, colsN_raw]; exact hA.2.1
      have hcB : colsN mss ≤ 8 := by rw [hmss, colsN_raw]; exact hB.2.1
      have hlA := hma.len; have hlB := hmb.len; have hlx := hvx.len; have hcX := hvx.max
      have hn8 : n ≤ 8 := by have := hA.1; rw [hrss, List.length_map] at hlA; omega
      have hm8 : m ≤ 8 := by have := hB.1; rw [hmss, List.length_map] at hlB; omega
      have hl20 : l ≤ 20 := by have := hX.1; rw [hxs, List.length_map] at hlx; omega
      have hszA := hma.rowsz (by omega)
      have hrA : ∀ r ∈ rss, r.length ≤ 20 := fun r hr => by have := cols_ge r hr; omega
      have hrA2 : ∀ r ∈ rss, r.length ≤ LV := fun r hr => by have := cols_ge r hr; omega
      have z19 := Ext.refl Wb2
      refine ass rfl ?_
      refine vnil ?_
      refine V.seq ?_
      refine V.seq (V.reg rfl ?_)
      refine asi rfl ?_
      refine vnil ?_
      refine V.block ?_
      refine V.loopK (ι := Nat × Value) [(0, .slice _ _ _), (1, .slice _ _ _), (2, .slice _ _ _), (6, .bool false)] (fun ⟨k, v⟩ => [(8, .int .i64 (k : Int)), (7, v)]) (fun ⟨k, v⟩ W => Ext Wb2 W ∧ k ≤ l ∧ GO 1 (RowOf (GA 6)) TT Wb2.heap.size W 30 v ((xs.take k).map fun r => [r])) (fun ⟨k, v⟩ => l - k) ((0, _)) ⟨rfl, rfl, rfl, rfl, trivial⟩ ⟨rfl, rfl, trivial⟩ ⟨Ext.refl _, Nat.zero_le _, GO.nil _ _⟩ ?_
      intro i21 E22 W20 h23
      obtain ⟨k, v⟩ := i21
      simp only at h23
      show V _ _ _ _ _ _ (ups (ups _ _) [(8, .int .i64 (k : Int)), (7, v)]) _
      obtain ⟨x24, hk, hO⟩ := h23
      have s25 := x24.sz
      have z26 := z18.trans x24
      have z27 := x24
      replace b3 := b3.ext x24
      replace b12 := b12.ext x24
      refine V.seq ?_
      refine V.seq (V.reg rfl ?_)
      refine mvi rfl ?_
      refine mvs rfl ?_
      refine vv (rlen sl30 rfl) ?_
      refine vlt rfl rfl ?_ ?_
      · intro c28
        refine vnil ?_
        refine V.condT rfl ?_
        refine V.skip ?_
        refine V.seq ?_
        refine V.block ?_
        refine V.reg rfl ?_
        refine vv (rmv (v := v) rfl) ?_
        refine mvs rfl ?_
        refine mvi rfl ?_
        refine mvi rfl ?_
        refine vv (rbin (bAdd (wi (by omega))) rfl rfl) ?_
        have hsl := ((hvx.ext z27)).cut (l := k) (m := k + 1) (by omega) (by omega)
        rw [drop_take_one xs (by omega)] at hsl
        have z29 := Ext.refl W20
        refine vv (rsl2 (l := k) (m := k + 1) sl30 sz43 rfl rfl rfl rfl (by omega) (by omega) (by omega)) ?_
        refine vo ?_
        refine xbs (ps := [(0, .slice _ _ _)]) (cs := [.slice _ _ _]) sl25 zr30 sz30 rfl rfl rfl rfl rfl rfl ?_
        intro W30 x31 b32 nn33
        have s34 := x31.sz
        have z35 := z26.trans x31
        have z36 := z27.trans x31
        have z37 := x31
        replace b3 := b3.ext x31
        replace b12 := b12.ext x31
        replace hO := hO.ext (okRowA 6) x31
        refine vo ?_
        refine xappG (okRowA 6) sl25 in30 rfl rfl hO rfl rfl b32 rfl rfl ((⟨_, _, _, rfl, ((hsl.ext z37)).sub (S' := SO TT v) (fun b hb hs => ⟨trivial, hO.old b (by have : b < w.heap.size := hs; omega)⟩)⟩ : RowOf (GA 6) _ _ _ _)) (by simp; omega) (by decide) (by omega) ?_
        intro v38 W39 hO40 hg41
        have y42 := hg41.below; have s43 := y42.size
        have z44 := z35.below (y42.mono (by omega))
        have z45 := z36.below (y42.mono (by omega))
        replace b3 := b3.bl y42 (by omega)
        replace b12 := b12.bl y42 (by omega)
        refine vv (ras (v := v38) rfl) ?_
        refine vnil ?_
        refine V.reg rfl ?_
        refine mvi rfl ?_
        refine vv (rbin (bAdd (wi (by omega))) rfl rfl) ?_
        refine asi rfl ?_
        refine vnil ?_
        refine ⟨rfl, (k + 1, _), ⟨rfl, rfl, rfl, rfl, trivial⟩, ⟨rfl, rfl, trivial⟩, ⟨z45, by omega, by rw [map_take_succ xs k (by omega)]; exact hO40⟩, ?_⟩
        show l - (k + 1) < l - k
        omega
      · intro c28
        obtain ⟨a', c', rfl⟩ := hO.form
        have hcol : MA 6 TT _ _ _ _ _ := hO.fin (okRowA 6) (fun b hb _ => trivial)
        rw [List.take_of_length_le (show xs.length ≤ k by omega)] at hcol ⊢
        have hcoll := hcol.len
        have z46 := Ext.refl W20
        refine vnil ?_
        refine V.condF rfl ?_
        refine V.exit ?_
        refine V.seq (V.reg rfl ?_)
        refine mvs rfl ?_
        refine mvs rfl ?_
        refine vo ?_
        refine xcall e15 (mMul_ok _ _ _ _ _ _ 6 6 1000 _ _ TT TT TT _ (hma.ext z27) hcol (Nat.le_trans (colsN_col xs) (by omega)) (by rw [List.length_map]; omega) (by omega) (by omega) (by omega) (by omega) (TT.up _)) rfl rfl ?_
        rintro _ W47 ⟨_, np, _, rfl, x48, hp⟩
        have s49 := x48.sz
        have z50 := z26.trans x48
        have z51 := z27.trans x48
        have z52 := x48
        replace b3 := b3.ext x48
        replace b12 := b12.ext x48
        have hpl := hp.len; rw [len_mulm, hlA] at hpl
        refine ⟨_, rfl, ?_⟩
        refine mvs rfl ?_
        refine mvs rfl ?_
        refine vo ?_
        refine xcall e16 (mMulVec_ok _ _ _ _ _ _ 6 6 20 1000 _ _ TT _ _ _ (hma.ext z51) (hvx.ext z51) hrA (by omega) (by omega) (by omega) (by omega) (by omega) (by omega) (by omega) (TT.up _)) rfl rfl ?_
        rintro _ W53 ⟨_, nq, cq', rfl, x54, hq⟩
        have s55 := x54.sz
        have z56 := z50.trans x54
        have z57 := z51.trans x54
        have z58 := z52.trans x54
        replace b3 := b3.ext x54
        replace b12 := b12.ext x54
        have hql := hq.len; rw [len_mulv, hlA] at hql; have hqc := hq.max
        refine ⟨_, rfl, ?_⟩
        refine ass rfl ?_
        refine ass rfl ?_
        refine vnil ?_
        refine V.seq ?_
        refine V.seq (V.reg rfl ?_)
        refine mvs rfl ?_
        refine vv (rlen sl25 rfl) ?_
        refine mvs rfl ?_
        refine vv (rlen sl30 rfl) ?_
        refine vne rfl rfl ?_ ?_
        · intro c59
          omega
        · intro c59
          refine mvb rfl ?_
          refine vg rfl ?_
          refine mvs rfl ?_
          refine vg rfl ?_
          refine vv (rlen sl30 rfl) ?_
          refine vg rfl ?_
          refine mvs rfl ?_
          refine vg rfl ?_
          refine vv (rlen sl25 rfl) ?_
          refine vg rfl ?_
          refine vne rfl rfl ?_ ?_
          · intro c60
            omega
          · intro c60
            refine vv (rpk (v := .bool false) rfl rfl) ?_
            refine vnil ?_
            refine V.condF rfl ?_
            refine V.skip ?_
            refine V.seq ?_
            refine V.seq (V.reg rfl ?_)
            refine asi rfl ?_
            refine vnil ?_
            refine V.block ?_
            have hpa := ((hp.ext x54)).ma (L := 1000) (mulm_sz hszA (fun i => GA.rows (hcol.ext z58) (by omega) i) (by omega) (by omega) (by rw [List.length_map]; omega))
            have hqa := (hq).va (L := 1000) (mulv_sz (R := 20) hszA ((hvx.ext z57).szv (by omega)) (by omega) (by omega) hrA (by omega) (by omega))
            have z61 := Ext.refl W53
            refine V.loopK (ι := Nat) [(0, .slice _ _ _), (1, .slice _ _ _), (9, .slice _ _ _), (10, .slice _ _ _)] (fun k => [(11, .int .i64 (k : Int))]) (fun k W => Ext W53 W ∧ k ≤ np) (fun k => np - k) (0) ⟨rfl, rfl, rfl, rfl, trivial⟩ ⟨rfl, trivial⟩ ⟨Ext.refl _, Nat.zero_le _⟩ ?_
            intro k E63 W62 h64
            obtain ⟨x65, hk⟩ := h64
            have s66 := x65.sz
            have z67 := z56.trans x65
            have z68 := z57.trans x65
            have z69 := z58.trans x65
            have z70 := x65
            replace b3 := b3.ext x65
            replace b12 := b12.ext x65
            refine V.seq ?_
            refine V.seq (V.reg rfl ?_)
            refine mvi rfl ?_
            refine mvs rfl ?_
            refine vv (rlen sl25 rfl) ?_
            refine vlt rfl rfl ?_ ?_
            · intro c71
              obtain ⟨ra0, rk0, rc0, hc0, hg0⟩ := (hpa.ext z70).el (i := (k : Int)) (by omega) (by omega)
              have ce0 : C1 W62 _ _ := hc0
              have hsq := ((hqa.ext z70)).cut (l := k) (m := k + 1) (by omega) (by omega)
              rw [drop_take_one _ (by rw [len_mulv]; omega)] at hsq
              have hlr := row_le cols_ge (rss := mulm rss (xs.map fun r => [r])) ((k : Int)).toNat
              have hg0l := hg0.len
              have hcm : colsN (mulm rss (xs.map fun r => [r])) ≤ 1 := colsN_le (fun r hr => by obtain ⟨y, _, rfl⟩ := List.mem_map.1 hr; rw [vmk_len cols_ge]; exact colsN_col xs)
              refine vnil ?_
              refine V.condT rfl ?_
              refine V.skip ?_
              refine V.seq ?_
              refine V.block ?_
              refine V.seq (V.regD mixed rfl ?_)
              intro W72 x73
              have s74 := x73.sz
              have z75 := z67.trans x73
              have z76 := z68.trans x73
              have z77 := z69.trans x73
              have z78 := z70.trans x73
              replace b3 := b3.ext x73
              replace b12 := b12.ext x73
              have q79 := Ext.refl W72
              have r80 := b3
              have r81 := b12
              refine tk 0 rfl (by kernel_rfl) q79 (pv (fun _ y82 => rmv (v := .slice _ _ _) rfl)) ?_
              refine tk 1 rfl (by kernel_rfl) q79 (pv (fun _ y83 => rmv (v := .int _ _) rfl)) ?_
              refine tk 2 rfl (by kernel_rfl) q79 (pv (fun _ y84 => rix sl25 sz30 rfl rfl (by omega) (by omega) (((hpa.ext z78).ext y84).isS (i := 0) (by omega) (by omega)))) ?_
              refine tk 3 rfl (by kernel_rfl) q79 (pv (fun _ y85 => rld1 (v := .slice _ _ _) rfl sc30 ((ce0.ext x73).ext y85))) ?_
              refine tk 4 rfl (by kernel_rfl) q79 (pv (fun _ y86 => rmv (v := .slice _ _ _) rfl)) ?_
              refine tk 5 rfl (by kernel_rfl) q79 (pv (fun _ y87 => rmv (v := .int _ _) rfl)) ?_
              refine tk 6 rfl (by kernel_rfl) q79 (pv (fun _ y88 => rmv (v := .int _ _) rfl)) ?_
              refine tk 7 rfl (by kernel_rfl) q79 (pv (fun _ y89 => rbin (bAdd (wi (by omega))) rfl rfl)) ?_
              refine tk 8 rfl (by kernel_rfl) q79 (pv (fun _ y90 => rsl2 (l := k) (m := k + 1) sl30 sz43 rfl rfl rfl rfl (by omega) (by omega) (by omega))) ?_
              refine ef 9 (by kernel_rfl) rfl ?_
              refine xcall e17 (vEq_true _ (hg0.ext x73) (hsq.ext x73) (by omega) (by omega) (by omega) (by omega) (by omega) (fun j => by rw [show ((k : Int)).toNat = k by omega]; exact col_prod rss xs k j)) rfl rfl ?_
              rintro _ W91 ⟨rfl, x92⟩
              have s93 := x92.sz
              have z94 := z75.trans x92
              have z95 := z76.trans x92
              have z96 := z77.trans x92
              have z97 := z78.trans x92
              replace b3 := b3.ext x92
              replace b12 := b12.ext x92
              have q98 := q79.trans x92
              refine ⟨_, rfl, ?_⟩
              refine ⟨fun _ => q98, ?_⟩
              refine tk 10 rfl (by kernel_rfl) q98 (pv (fun _ y99 => rnot (q := false) rfl rfl)) ?_
              refine dn (by kernel_rfl) ?_
              refine V.condF rfl ?_
              refine V.skip ?_
              refine V.reg rfl ?_
              refine mvi rfl ?_
              refine vv (rbin (bAdd (wi (by omega))) rfl rfl) ?_
              refine asi rfl ?_
              refine vnil ?_
              refine ⟨rfl, k + 1, ⟨rfl, rfl, rfl, rfl, trivial⟩, ⟨rfl, trivial⟩, ⟨z97, by omega⟩, ?_⟩
              show np - (k + 1) < np - k
              omega
            · intro c71
              refine vnil ?_
              refine V.condF rfl ?_
              refine V.exit ?_
              refine V.seq (V.reg rfl ?_)
              refine mvs rfl ?_
              refine vo ?_
              refine xcall e18 (mCols_ok _ _ _ _ _ _ _ (hma.ext z68)) rfl rfl ?_
              rintro _ W100 ⟨rfl, x101⟩
              have s102 := x101.sz
              have z103 := z67.trans x101
              have z104 := z68.trans x101
              have z105 := z69.trans x101
              have z106 := z70.trans x101
              replace b3 := b3.ext x101
              replace b12 := b12.ext x101
              refine ⟨_, rfl, ?_⟩
              refine asi rfl ?_
              refine vnil ?_
              refine V.seq ?_
              refine V.seq (V.reg rfl ?_)
              refine asi rfl ?_
              refine vnil ?_
              refine V.block ?_
              refine V.loopK (ι := Nat) [(0, .slice _ _ _), (1, .slice _ _ _), (12, .int _ _)] (fun k => [(13, .int .i64 (k : Int))]) (fun k W => Ext W100 W ∧ k ≤ colsN rss) (fun k => colsN rss - k) (0) ⟨rfl, rfl, rfl, trivial⟩ ⟨rfl, trivial⟩ ⟨Ext.refl _, Nat.zero_le _⟩ ?_
              intro k E108 W107 h109
              obtain ⟨x110, hk⟩ := h109
              have s111 := x110.sz
              have z112 := z103.trans x110
              have z113 := z104.trans x110
              have z114 := z105.trans x110
              have z115 := z106.trans x110
              have z116 := x110
              replace b3 := b3.ext x110
              replace b12 := b12.ext x110
              refine V.seq ?_
              refine V.seq (V.reg rfl ?_)
              refine mvi rfl ?_
              refine mvi rfl ?_
              refine vlt rfl rfl ?_ ?_
              · intro c117
                refine vnil ?_
                refine V.condT rfl ?_
                refine V.skip ?_
                refine V.seq ?_
                refine V.block ?_
                refine V.seq (V.reg rfl ?_)
                refine mvs rfl ?_
                refine mvi rfl ?_
                refine mvi rfl ?_
                refine vo ?_
                refine xcall e19 (vUnit_ok _ _ (colsN rss) TT _ (by omega) (TT.up _)) rfl rfl ?_
                rintro _ W118 ⟨_, _, _, rfl, x119, hvu⟩
                have s120 := x119.sz
                have z121 := z112.trans x119
                have z122 := z113.trans x119
                have z123 := z114.trans x119
                have z124 := z115.trans x119
                have z125 := z116.trans x119
                replace b3 := b3.ext x119
                replace b12 := b12.ext x119
                have hvul := hvu.len; rw [unitv_len] at hvul
                refine ⟨_, rfl, ?_⟩
                refine vo ?_
                refine xcall e16 (mMulVec_ok _ _ _ _ _ _ 6 1 20 1000 _ _ TT TT TT _ (hma.ext z122) ((hvu).va (unitv_sz _ _)) hrA (by omega) (by omega) (by omega) (by omega) (by omega) (by omega) (by omega) (TT.up _)) rfl rfl ?_
                rintro _ W127 ⟨_, _, _, rfl, x128, hv126⟩
                have s129 := x128.sz
                have z130 := z121.trans x128
                have z131 := z122.trans x128
                have z132 := z123.trans x128
                have z133 := z124.trans x128
                have z134 := z125.trans x128
                replace b3 := b3.ext x128
                replace b12 := b12.ext x128
                have hv126l := hv126.len
                refine ⟨_, rfl, ?_⟩
                refine ass rfl ?_
                refine vnil ?_
                refine V.seq (V.reg rfl ?_)
                refine asi rfl ?_
                refine vnil ?_
                refine V.block ?_
                have hca := (hv126).va (L := 1000) (mulv_sz (R := 20) hszA (unitv_sz _ _) (by omega) (by omega) hrA (by rw [unitv_len]; omega) (by omega))
                have hcal := hca.len; rw [len_mulv] at hcal
                have z135 := Ext.refl W127
                refine V.loopK (ι := Nat) [(0, .slice _ _ _), (1, .slice _ _ _), (12, .int _ _), (13, .int _ _), (14, .slice _ _ _), (78, .int _ _), (79, .int _ _), (80, .bool true), (83, .slice _ _ _), (84, .int _ _), (85, .int _ _), (86, .slice _ _ _), (87, .slice _ _ _)] (fun i => [(15, .int .i64 (i : Int))]) (fun i W => Ext W127 W ∧ i ≤ n) (fun i => n - i) (0) ⟨rfl, rfl, rfl, rfl, rfl, rfl, rfl, rfl, rfl, rfl, rfl, rfl, rfl, trivial⟩ ⟨rfl, trivial⟩ ⟨Ext.refl _, Nat.zero_le _⟩ ?_
                intro i E137 W136 h138
                obtain ⟨x139, hi⟩ := h138
                have s140 := x139.sz
                have z141 := z130.trans x139
                have z142 := z131.trans x139
                have z143 := z132.trans x139
                have z144 := z133.trans x139
                have z145 := z134.trans x139
                have z146 := x139
                replace b3 := b3.ext x139
                replace b12 := b12.ext x139
                refine V.seq ?_
                refine V.seq (V.reg rfl ?_)
                refine mvi rfl ?_
                refine mvs rfl ?_
                refine vv (rlen sl25 rfl) ?_
                refine vlt rfl rfl ?_ ?_
                · intro c147
                  refine mvb rfl ?_
                  refine vg rfl ?_
                  refine mvi rfl ?_
                  refine vg rfl ?_
                  refine mvs rfl ?_
                  refine vg rfl ?_
                  refine vv (rlen sl30 rfl) ?_
                  refine vg rfl ?_
                  refine vlt rfl rfl ?_ ?_
                  · intro c148
                    obtain ⟨en0, ea0, el0, ec0, em0, eb0, ek0, ed0, hq0, hc0⟩ := (hca.ext z146).el (i := (i : Int)) (by omega) (by omega)
                    have ce0 : CE W136 _ _ := hc0
                    refine vv (rpk (v := .bool true) rfl rfl) ?_
                    refine vnil ?_
                    refine V.condT rfl ?_
                    refine V.skip ?_
                    refine V.seq ?_
                    refine V.block ?_
                    refine V.seq (V.regD mixed rfl ?_)
                    intro W149 x150
                    have s151 := x150.sz
                    have z152 := z141.trans x150
                    have z153 := z142.trans x150
                    have z154 := z143.trans x150
                    have z155 := z144.trans x150
                    have z156 := z145.trans x150
                    have z157 := z146.trans x150
                    replace b3 := b3.ext x150
                    replace b12 := b12.ext x150
                    have q158 := Ext.refl W149
                    have r159 := b3
                    have r160 := b12
                    refine tk 0 rfl (by kernel_rfl) q158 (pv (fun _ y161 => rmv (v := .slice _ _ _) rfl)) ?_
                    refine tk 1 rfl (by kernel_rfl) q158 (pv (fun _ y162 => rmv (v := .int _ _) rfl)) ?_
                    refine tk 2 rfl (by kernel_rfl) q158 (pv (fun _ y163 => rix sl30 sz43 rfl rfl (by omega) (by omega) (((hca.ext z157).ext y163).isS (i := 0) (by omega) (by omega)))) ?_
                    refine tk 3 rfl (by kernel_rfl) q158 (pv (fun _ y164 => rldn (l := [.bool _, .slice _ _ _, .bool _, .slice _ _ _]) rfl ag43 rfl ((ce0.ext x150).ext y164))) ?_
                    refine tk 4 rfl (by kernel_rfl) q158 (pv (fun _ y165 => rmv (v := .slice _ _ _) rfl)) ?_
                    refine tk 5 rfl (by kernel_rfl) q158 (pv (fun _ y166 => rmv (v := .int _ _) rfl)) ?_
                    refine tk 6 rfl (by kernel_rfl) q158 (pv (fun _ y167 => rmv (v := .int _ _) rfl)) ?_
                    refine ef 7 (by kernel_rfl) rfl ?_
                    refine xcall e21 (mAt_ok _ _ _ _ _ _ _ TT _ _ (hma.ext z153) (by omega) (by omega) (TT.up _)) rfl rfl ?_
                    rintro _ W169 ⟨_, rfl, x170, hq168⟩
                    have s171 := x170.sz
                    have z172 := z152.trans x170
                    have z173 := z153.trans x170
                    have z174 := z154.trans x170
                    have z175 := z155.trans x170
                    have z176 := z156.trans x170
                    have z177 := z157.trans x170
                    replace b3 := b3.ext x170
                    replace b12 := b12.ext x170
                    have q178 := q158.trans x170
                    obtain ⟨_, _, _, _, _, _, _, _, rfl⟩ := hq168.form
                    refine ⟨_, rfl, ?_⟩
                    refine ⟨fun _ => q178, ?_⟩
                    refine ef 8 (by kernel_rfl) rfl ?_
                    refine xcall e20 (fEq_true _ (q1 := [_, _, _, _]) (q2 := [_, _, _, _]) (hq0.ext (x150.trans x170)) ((hq168).qa (szMI (hma.ext z173) (by omega) _ _)) (by omega) (by omega) (by omega) (by rw [show ((i : Int)).toNat = i by omega]; exact col_unit rss i (by omega))) rfl rfl ?_
                    rintro _ W179 ⟨rfl, x180⟩
                    have s181 := x180.sz
                    have z182 := z172.trans x180
                    have z183 := z173.trans x180
                    have z184 := z174.trans x180
                    have z185 := z175.trans x180
                    have z186 := z176.trans x180
                    have z187 := z177.trans x180
                    replace b3 := b3.ext x180
                    replace b12 := b12.ext x180
                    have q188 := q178.trans x180
                    refine ⟨_, rfl, ?_⟩
                    refine ⟨fun _ => q188, ?_⟩
                    refine tk 9 rfl (by kernel_rfl) q188 (pv (fun _ y189 => rnot (q := false) rfl rfl)) ?_
                    refine dn (by kernel_rfl) ?_
                    refine V.condF rfl ?_
                    refine V.skip ?_
                    refine V.reg rfl ?_
                    refine mvi rfl ?_
                    refine vv (rbin (bAdd (wi (by omega))) rfl rfl) ?_
                    refine asi rfl ?_
                    refine vnil ?_
                    refine ⟨rfl, i + 1, ⟨rfl, rfl, rfl, rfl, rfl, rfl, rfl, rfl, rfl, rfl, rfl, rfl, rfl, trivial⟩, ⟨rfl, trivial⟩, ⟨z187, by omega⟩, ?_⟩
                    show n - (i + 1) < n - i
                    omega
                  · intro c148
                    refine vv (rpk (v := .bool false) rfl rfl) ?_
                    refine vnil ?_
                    refine V.condF rfl ?_
                    refine V.exit ?_
                    refine V.reg rfl ?_
                    refine mvi rfl ?_
                    refine vv (rbin (bAdd (wi (by omega))) rfl rfl) ?_
                    refine asi rfl ?_
                    refine vnil ?_
                    refine ⟨rfl, k + 1, ⟨rfl, rfl, rfl, trivial⟩, ⟨rfl, trivial⟩, ⟨z145, by omega⟩, ?_⟩
                    show colsN rss - (k + 1) < colsN rss - k
                    omega
                · intro c147
                  refine mvb rfl ?_
                  refine vgn (b := false) rfl rfl ?_
                  refine vgn (b := false) rfl rfl ?_
                  refine vgn (b := false) rfl rfl ?_
                  refine vgn (b := false) rfl rfl ?_
                  refine vv (rpk (v := .bool false) rfl rfl) ?_
                  refine vnil ?_
                  refine V.condF rfl ?_
                  refine V.exit ?_
                  refine V.reg rfl ?_
                  refine mvi rfl ?_
                  refine vv (rbin (bAdd (wi (by omega))) rfl rfl) ?_
                  refine asi rfl ?_
                  refine vnil ?_
                  refine ⟨rfl, k + 1, ⟨rfl, rfl, rfl, trivial⟩, ⟨rfl, trivial⟩, ⟨z145, by omega⟩, ?_⟩
                  show colsN rss - (k + 1) < colsN rss - k
                  omega
              · intro c117
                refine vnil ?_
                refine V.condF rfl ?_
                refine V.exit ?_
                refine V.seq (V.reg rfl ?_)
                refine mvs rfl ?_
                refine mvs rfl ?_
                refine vo ?_
                refine xcall e22 (mConcat_ok _ _ _ _ _ _ 6 6 _ _ TT TT TT _ (hma.ext z113) (hmb.ext z113) (by omega) (by omega) (by omega) (by omega) (by omega) (by omega) (by omega) (TT.up _)) rfl rfl ?_
                rintro _ W190 ⟨_, ns, _, rfl, x191, hs⟩
                have s192 := x191.sz
                have z193 := z112.trans x191
                have z194 := z113.trans x191
                have z195 := z114.trans x191
                have z196 := z115.trans x191
                have z197 := z116.trans x191
                replace b3 := b3.ext x191
                replace b12 := b12.ext x191
                have hsl' := hs.len; rw [len_gridm] at hsl'; subst hsl'
                refine ⟨_, rfl, ?_⟩
                have hsa := (hs).ma (L := 6) (gridm_sz fun i k => szCat (hma.ext z194) (hmb.ext z194) (by omega) (by omega) (by omega) _ i k)
                refine ass rfl ?_
                refine vnil ?_
                refine V.seq (V.reg rfl ?_)
                refine mvs rfl ?_
                refine mvs rfl ?_
                refine vv (rlen sl25 rfl) ?_
                refine mvi rfl ?_
                refine vo ?_
                refine xcall e11 (mResize_ok _ _ _ _ _ (max n m) (colsN rss) 6 _ TT TT _ hsa (by omega) (by omega) (by omega) (by omega) (fun i k => szMI hsa (by omega) i k) (TT.up _)) rfl rfl ?_
                rintro _ W198 ⟨_, nz, _, rfl, x199, hzz⟩
                have s200 := x199.sz
                have z201 := z193.trans x199
                have z202 := z194.trans x199
                have z203 := z195.trans x199
                have z204 := z196.trans x199
                have z205 := z197.trans x199
                replace b3 := b3.ext x199
                replace b12 := b12.ext x199
                refine ⟨_, rfl, ?_⟩
                refine mvs rfl ?_
                refine vo ?_
                refine xcall e23 (mEq_true _ ((hzz).ma (L := 6) (gridm_sz fun i k => szMI (hsa.ext x199) (by omega) i k)) (hma.ext z202) (by omega) (by omega) (by omega) (fun r hr => by have := gridm_row _ _ _ r hr; omega) hrA2 (cat_left rss mss _ (by rw [hlA, hlB]))) rfl rfl ?_
                rintro _ W206 ⟨rfl, x207⟩
                have s208 := x207.sz
                have z209 := z201.trans x207
                have z210 := z202.trans x207
                have z211 := z203.trans x207
                have z212 := z204.trans x207
                have z213 := z205.trans x207
                replace b3 := b3.ext x207
                replace b12 := b12.ext x207
                refine ⟨_, rfl, ?_⟩
                refine mvb rfl ?_
                refine vg rfl ?_
                refine mvs rfl ?_
                refine vg rfl ?_
                refine vo ?_
                refine xcall e18 (mCols_at _ ((colsN rss + colsN mss) * min (max n m) 1) (hsa.ext (x199.trans x207)) (colsN_gridm _ _ _)) rfl rfl ?_
                rintro _ W214 ⟨rfl, x215⟩
                have s216 := x215.sz
                have z217 := z209.trans x215
                have z218 := z210.trans x215
                have z219 := z211.trans x215
                have z220 := z212.trans x215
                have z221 := z213.trans x215
                replace b3 := b3.ext x215
                replace b12 := b12.ext x215
                refine ⟨_, rfl, ?_⟩
                refine vg rfl ?_
                refine mvi rfl ?_
                refine vg rfl ?_
                refine mvs rfl ?_
                refine vg rfl ?_
                refine vv (rlen sl25 rfl) ?_
                refine vg rfl ?_
                refine vv (rmin rfl rfl rfl) ?_
                refine vg rfl ?_
                refine vv (rbin (bMul (wmin (by omega))) rfl rfl) ?_
                refine vg rfl ?_
                refine mvs rfl ?_
                refine vg rfl ?_
                refine vo ?_
                refine xcall e18 (mCols_ok _ _ _ _ _ _ _ (hmb.ext z218)) rfl rfl ?_
                rintro _ W222 ⟨rfl, x223⟩
                have s224 := x223.sz
                have z225 := z217.trans x223
                have z226 := z218.trans x223
                have z227 := z219.trans x223
                have z228 := z220.trans x223
                have z229 := z221.trans x223
                replace b3 := b3.ext x223
                replace b12 := b12.ext x223
                refine ⟨_, rfl, ?_⟩
                refine vg rfl ?_
                refine mvs rfl ?_
                refine vg rfl ?_
                refine vv (rlen sl25 rfl) ?_
                refine vg rfl ?_
                refine vv (rmin rfl rfl rfl) ?_
                refine vg rfl ?_
                refine vv (rbin (bMul (wmin (by omega))) rfl rfl) ?_
                refine vg rfl ?_
                have hd1 := dist_min (colsN rss) (colsN mss) (max n m); have hd2 := mul_min_le (colsN rss) (max n m); have hd3 := mul_min_le (colsN mss) (max n m)
                generalize hg1 : colsN rss * min (max n m) 1 = u1 at *
                generalize hg2 : colsN mss * min (max n m) 1 = u2 at *
                generalize hg3 : (colsN rss + colsN mss) * min (max n m) 1 = u3 at *
                refine vv (rbin (bAdd (wi (by omega))) rfl rfl) ?_
                refine vg rfl ?_
                refine veq rfl rfl ?_ ?_
                · intro c230
                  refine vv (rpk (v := .bool true) rfl rfl) ?_
                  refine mvb rfl ?_
                  refine vg rfl ?_
                  refine vo ?_
                  refine xcall e7 (law4_ok _) rfl rfl ?_
                  rintro _ W231 ⟨rfl, x232⟩
                  have s233 := x232.sz
                  have z234 := z225.trans x232
                  have z235 := z226.trans x232
                  have z236 := z227.trans x232
                  have z237 := z228.trans x232
                  have z238 := z229.trans x232
                  replace b3 := b3.ext x232
                  replace b12 := b12.ext x232
                  refine ⟨_, rfl, ?_⟩
                  refine vv (rpk (v := .bool true) rfl rfl) ?_
                  refine asb rfl ?_
                  refine vnil ?_
                  refine V.ret ?_
                  refine ⟨[.bool true], ⟨rfl, trivial⟩, ?_⟩
                  exact ⟨rfl, z234⟩
                · intro c230
                  omega
    · skip
      have s239 := xb2.sz
      have z240 := z15.trans xb2
      replace b3 := b3.ext xb2
      replace b12 := b12.ext xb2
      refine vv (rpk (v := .bool true) rfl rfl) ?_
      refine vnil ?_
      refine V.condT rfl ?_
      refine V.seq (V.reg rfl ?_)
      refine vo ?_
      refine xcall e7 (law4_ok _) rfl rfl ?_
      rintro _ W241 ⟨rfl, x242⟩
      have s243 := x242.sz
      have z244 := z240.trans x242
      replace b3 := b3.ext x242
      replace b12 := b12.ext x242
      refine ⟨_, rfl, ?_⟩
      refine asb rfl ?_
      refine vnil ?_
      refine V.ret ?_
      refine ⟨[.bool true], ⟨rfl, trivial⟩, ?_⟩
      exact ⟨rfl, z244⟩
  · skip
    have s245 := xb1.sz
    have z246 := z6.trans xb1
    replace b3 := b3.ext xb1
    refine mvb rfl ?_
    refine vgn (b := true) rfl rfl ?_
    refine vgn (b := true) rfl rfl ?_
    refine vgn (b := true) rfl rfl ?_
    refine vv (rpk (v := .bool true) rfl rfl) ?_
    refine vnil ?_
    refine V.condT rfl ?_
    refine V.seq (V.reg rfl ?_)
    refine vo ?_
    refine xcall e7 (law4_ok _) rfl rfl ?_
    rintro _ W247 ⟨rfl, x248⟩
    have s249 := x248.sz
    have z250 := z246.trans x248
    replace b3 := b3.ext x248
    refine ⟨_, rfl, ?_⟩
    refine asb rfl ?_
    refine vnil ?_
    refine V.ret ?_
    refine ⟨[.bool true], ⟨rfl, trivial⟩, ?_⟩
    exact ⟨rfl, z250⟩
end Go.Proofs.Ytknbjfefeeojlaa

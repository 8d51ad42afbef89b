/- Package pylonlaw04: the examples. -/
import Derived.Test.YtknbjfefeeojlaaPq
namespace Go.Proofs.Ytknbjfefeeojlaa
open Go.RowKit
attribute [local irreducible] RV VH V OpF Calls

set_option maxHeartbeats 400000 in
theorem law4small_ok (w : World) :
    Calls Try.prog 25 #[] w (fun e w' => ∃ ra rc, e = .returned (.slice ra 2 rc) ∧ Ext w w' ∧ MC TT w' ra 2 rc [[1, 2], [3]]) := by
  have z0 := Ext.refl w; have hLX : LX = 17592186044416 := rfl; have hLY : LY = 8796093022208 := rfl
  have hLV : LV = 1099511627776 := rfl
  refine enter (args := []) Try.func25 rfl rfl (Nat.le_of_ble_eq_true rfl) ?_
  refine V.seq (V.reg rfl ?_)
  refine ass rfl ?_
  refine vnil ?_
  refine V.seq (V.reg rfl ?_)
  refine vo ?_
  refine xbs (ps := [(0, .int _ _), (1, .int _ _)]) (cs := [.int _ _, .int _ _]) sl49 zr2 sz2 rfl rfl rfl rfl rfl rfl ?_
  intro W1 x2 b3 nn4
  have s5 := x2.sz
  have z6 := x2
  refine vo ?_
  refine xbs (ps := [(0, .int _ _)]) (cs := [.int _ _]) sl49 zr2 sz2 rfl rfl rfl rfl rfl rfl ?_
  intro W7 x8 b9 nn10
  have s11 := x8.sz
  have z12 := z6.trans x8
  replace b3 := b3.ext x8
  refine vo ?_
  refine xbs (ps := [(0, .slice _ _ _), (1, .slice _ _ _)]) (cs := [.slice _ _ _, .slice _ _ _]) sl23 zr49 sz49 rfl rfl rfl rfl rfl rfl ?_
  intro W13 x14 b15 nn16
  have s17 := x14.sz
  have z18 := z12.trans x14
  replace b3 := b3.ext x14
  replace b9 := b9.ext x14
  refine vo ?_
  have hl19 := RN.lit (k := .i64) (xs := [_, _]) 2 b3 (by intro q hq; simp only [List.mem_cons, List.not_mem_nil, or_false] at hq; simp only [kb]; omega) (TT.up w _ (Nat.le_refl _))
  have hl20 := RN.lit (k := .i64) (xs := [_]) 1 b9 (by intro q hq; simp only [List.mem_cons, List.not_mem_nil, or_false] at hq; simp only [kb]; omega) (TT.up W1 _ (Nat.le_refl _))
  have hm21 : MI TT W13 (some ⟨W7.heap.size, 0, none⟩) 2 2 [[1, 2], [3]] := ⟨[[.slice _ _ _], [.slice _ _ _]], RS.lit (S := TT) _ b15 rfl (by simp) trivial rfl (by omega), ⟨_, _, _, rfl, hl19⟩, ⟨_, _, _, rfl, hl20⟩, trivial⟩
  refine xcall e9 (rmInts_ok _ _ _ [[1, 2], [3]] TT TT _ hm21 (by omega) (by intro r hr; simp at hr; rcases hr with rfl | rfl <;> simp <;> omega) (TT.up _)) rfl rfl ?_
  rintro _ W24 ⟨_, rn23, _, rfl, x25, hv22⟩
  have s26 := x25.sz
  have z27 := z18.trans x25
  replace b3 := b3.ext x25
  replace b9 := b9.ext x25
  replace b15 := b15.ext x25
  obtain rfl : rn23 = 2 := by have := hv22.len; simpa using this.symm
  replace hv22 := hv22.cast (rss' := ([[1, 2], [3]] : List (List Rat))) (by rfl)
  refine ⟨_, rfl, ?_⟩
  refine ass rfl ?_
  refine vnil ?_
  refine V.ret ?_
  refine ⟨[.slice _ _ _], ⟨rfl, trivial⟩, ?_⟩
  exact ⟨_, _, rfl, z27, hv22⟩
set_option maxHeartbeats 400000 in
theorem law4_ok (w : World) :
    Calls Try.prog 7 #[] w (fun e w' => e = .returned (.bool true) ∧ Ext w w') := by
  have z0 := Ext.refl w; have hLX : LX = 17592186044416 := rfl; have hLY : LY = 8796093022208 := rfl
  have hLV : LV = 1099511627776 := rfl
  refine enter (args := []) Try.func7 rfl rfl (Nat.le_of_ble_eq_true rfl) ?_
  refine V.seq (V.reg rfl ?_)
  refine asb rfl ?_
  refine vnil ?_
  refine V.seq (V.reg rfl ?_)
  refine vo ?_
  refine xcall e25 (law4small_ok _) rfl rfl ?_
  rintro _ W1 ⟨_, _, rfl, x2, hm0⟩
  have s3 := x2.sz
  have z4 := x2
  refine ⟨_, rfl, ?_⟩
  refine ass rfl ?_
  refine vnil ?_
  refine V.seq (V.reg rfl ?_)
  refine asf rfl ?_
  refine vnil ?_
  refine V.seq ?_
  refine V.seq (V.reg rfl ?_)
  refine mvs rfl ?_
  refine vo ?_
  refine xcall e18 (mCols_at _ 2 ((hm0).ma (L := 1) (szM_B (by decide +kernel))) (by decide +kernel)) rfl rfl ?_
  rintro _ W5 ⟨rfl, x6⟩
  have s7 := x6.sz
  have z8 := z4.trans x6
  refine ⟨_, rfl, ?_⟩
  refine vne rfl rfl ?_ ?_
  · intro c9
    omega
  · intro c9
    refine mvb rfl ?_
    refine vg rfl ?_
    refine mvs rfl ?_
    refine vg rfl ?_
    refine vo ?_
    refine xbs (ps := [(0, .int _ _), (1, .int _ _)]) (cs := [.int _ _, .int _ _]) sl49 zr2 sz2 rfl rfl rfl rfl rfl rfl ?_
    intro W10 x11 b12 nn13
    have s14 := x11.sz
    have z15 := z8.trans x11
    refine vg rfl ?_
    refine vo ?_
    have hl16 := RN.lit (k := .i64) (xs := [_, _]) 2 b12 (by intro q hq; simp only [List.mem_cons, List.not_mem_nil, or_false] at hq; simp only [kb]; omega) (TT.up W5 _ (Nat.le_refl _))
    refine xcall e27 (vFrom_ok _ _ _ [5, 7] TT TT _ hl16 (by omega) (TT.up _)) rfl rfl ?_
    rintro _ W19 ⟨_, rn18, _, rfl, x20, hv17⟩
    have s21 := x20.sz
    have z22 := z15.trans x20
    replace b12 := b12.ext x20
    obtain rfl : rn18 = 2 := by have := hv17.len; simpa using this.symm
    replace hv17 := hv17.cast (rs' := ([5, 7] : List Rat)) (by rfl)
    refine ⟨_, rfl, ?_⟩
    refine vg rfl ?_
    refine vo ?_
    refine xcall e16 (mMulVec_ok _ _ _ _ _ _ 1 1 2 7 _ _ TT TT TT _ (((hm0.ext ((x6.trans x11).trans x20))).ma (L := 1) (szM_B (by decide +kernel))) ((hv17).va (L := 1) (szV_B (by decide +kernel))) (lenM_B (by decide +kernel)) (by omega) (by omega) (by omega) (by omega) (by omega) (by omega) (by omega) (TT.up _)) rfl rfl ?_
    rintro _ W25 ⟨_, rn24, _, rfl, x26, hv23⟩
    have s27 := x26.sz
    have z28 := z22.trans x26
    replace b12 := b12.ext x26
    obtain rfl : rn24 = 2 := by have := hv23.len; exact this.symm.trans rfl
    replace hv23 := hv23.cast (rs' := ([19, 15] : List Rat)) (by decide +kernel)
    refine ⟨_, rfl, ?_⟩
    refine vg rfl ?_
    refine vo ?_
    refine xbs (ps := [(0, .int _ _), (1, .int _ _)]) (cs := [.int _ _, .int _ _]) sl49 zr2 sz2 rfl rfl rfl rfl rfl rfl ?_
    intro W29 x30 b31 nn32
    have s33 := x30.sz
    have z34 := z28.trans x30
    replace b12 := b12.ext x30
    refine vg rfl ?_
    refine vo ?_
    have hl35 := RN.lit (k := .i64) (xs := [_, _]) 2 b31 (by intro q hq; simp only [List.mem_cons, List.not_mem_nil, or_false] at hq; simp only [kb]; omega) (TT.up W25 _ (Nat.le_refl _))
    refine xcall e28 (rvInts_ok _ _ _ [19, 15] TT TT _ hl35 (by omega) (TT.up _)) rfl rfl ?_
    rintro _ W38 ⟨_, rn37, _, rfl, x39, hv36⟩
    have s40 := x39.sz
    have z41 := z34.trans x39
    replace b12 := b12.ext x39
    replace b31 := b31.ext x39
    obtain rfl : rn37 = 2 := by have := hv36.len; simpa using this.symm
    replace hv36 := hv36.cast (rs' := ([19, 15] : List Rat)) (by rfl)
    refine ⟨_, rfl, ?_⟩
    refine vg rfl ?_
    refine vo ?_
    refine xcall e26 (vIs_true _ (hv23.ext (x30.trans x39)) hv36 rfl) rfl rfl ?_
    rintro _ W42 ⟨rfl, x43⟩
    have s44 := x43.sz
    have z45 := z41.trans x43
    replace b12 := b12.ext x43
    replace b31 := b31.ext x43
    refine ⟨_, rfl, ?_⟩
    refine vg rfl ?_
    refine vv (rnot (q := false) rfl rfl) ?_
    refine vv (rpk (v := .bool false) rfl rfl) ?_
    refine mvb rfl ?_
    refine vg rfl ?_
    refine vo ?_
    refine xbs (ps := [(0, .int _ _), (1, .int _ _)]) (cs := [.int _ _, .int _ _]) sl49 zr2 sz2 rfl rfl rfl rfl rfl rfl ?_
    intro W46 x47 b48 nn49
    have s50 := x47.sz
    have z51 := z45.trans x47
    replace b12 := b12.ext x47
    replace b31 := b31.ext x47
    refine vg rfl ?_
    refine vo ?_
    have hl52 := RN.lit (k := .i64) (xs := [_, _]) 2 b48 (by intro q hq; simp only [List.mem_cons, List.not_mem_nil, or_false] at hq; simp only [kb]; omega) (TT.up W42 _ (Nat.le_refl _))
    refine xcall e27 (vFrom_ok _ _ _ [1, 1] TT TT _ hl52 (by omega) (TT.up _)) rfl rfl ?_
    rintro _ W55 ⟨_, rn54, _, rfl, x56, hv53⟩
    have s57 := x56.sz
    have z58 := z51.trans x56
    replace b12 := b12.ext x56
    replace b31 := b31.ext x56
    replace b48 := b48.ext x56
    obtain rfl : rn54 = 2 := by have := hv53.len; simpa using this.symm
    replace hv53 := hv53.cast (rs' := ([1, 1] : List Rat)) (by rfl)
    refine ⟨_, rfl, ?_⟩
    refine vg rfl ?_
    refine mvs rfl ?_
    refine vg rfl ?_
    refine vo ?_
    refine xcall e29 (mVecMul_ok _ _ _ _ _ _ 1 1 7 _ _ TT TT TT _ ((hv53).va (L := 1) (szV_B (by decide +kernel))) (((hm0.ext ((((((((x6.trans x11).trans x20).trans x26).trans x30).trans x39).trans x43).trans x47).trans x56))).ma (L := 1) (szM_B (by decide +kernel))) (by decide) (by omega) (by omega) (by omega) (by omega) (TT.up _)) rfl rfl ?_
    rintro _ W61 ⟨_, rn60, _, rfl, x62, hv59⟩
    have s63 := x62.sz
    have z64 := z58.trans x62
    replace b12 := b12.ext x62
    replace b31 := b31.ext x62
    replace b48 := b48.ext x62
    obtain rfl : rn60 = 2 := by have := hv59.len; exact this.symm.trans rfl
    replace hv59 := hv59.cast (rs' := ([4, 2] : List Rat)) (by decide +kernel)
    refine ⟨_, rfl, ?_⟩
    refine vg rfl ?_
    refine vo ?_
    refine xbs (ps := [(0, .int _ _), (1, .int _ _)]) (cs := [.int _ _, .int _ _]) sl49 zr2 sz2 rfl rfl rfl rfl rfl rfl ?_
    intro W65 x66 b67 nn68
    have s69 := x66.sz
    have z70 := z64.trans x66
    replace b12 := b12.ext x66
    replace b31 := b31.ext x66
    replace b48 := b48.ext x66
    refine vg rfl ?_
    refine vo ?_
    have hl71 := RN.lit (k := .i64) (xs := [_, _]) 2 b67 (by intro q hq; simp only [List.mem_cons, List.not_mem_nil, or_false] at hq; simp only [kb]; omega) (TT.up W61 _ (Nat.le_refl _))
    refine xcall e28 (rvInts_ok _ _ _ [4, 2] TT TT _ hl71 (by omega) (TT.up _)) rfl rfl ?_
    rintro _ W74 ⟨_, rn73, _, rfl, x75, hv72⟩
    have s76 := x75.sz
    have z77 := z70.trans x75
    replace b12 := b12.ext x75
    replace b31 := b31.ext x75
    replace b48 := b48.ext x75
    replace b67 := b67.ext x75
    obtain rfl : rn73 = 2 := by have := hv72.len; simpa using this.symm
    replace hv72 := hv72.cast (rs' := ([4, 2] : List Rat)) (by rfl)
    refine ⟨_, rfl, ?_⟩
    refine vg rfl ?_
    refine vo ?_
    refine xcall e26 (vIs_true _ (hv59.ext (x66.trans x75)) hv72 rfl) rfl rfl ?_
    rintro _ W78 ⟨rfl, x79⟩
    have s80 := x79.sz
    have z81 := z77.trans x79
    replace b12 := b12.ext x79
    replace b31 := b31.ext x79
    replace b48 := b48.ext x79
    replace b67 := b67.ext x79
    refine ⟨_, rfl, ?_⟩
    refine vg rfl ?_
    refine vv (rnot (q := false) rfl rfl) ?_
    refine vv (rpk (v := .bool false) rfl rfl) ?_
    refine vnil ?_
    refine V.condF rfl ?_
    refine V.skip ?_
    refine V.seq (V.reg rfl ?_)
    refine mvs rfl ?_
    refine vo ?_
    refine xcall e30 (mTr_ok _ _ _ 1 _ TT TT _ (((hm0.ext ((((((((((((x6.trans x11).trans x20).trans x26).trans x30).trans x39).trans x43).trans x47).trans x56).trans x62).trans x66).trans x75).trans x79))).ma (L := 1) (szM_B (by decide +kernel))) (by omega) (by omega) (by omega) (by decide) (TT.up _)) rfl rfl ?_
    rintro _ W84 ⟨_, rn83, _, rfl, x85, hv82⟩
    have s86 := x85.sz
    have z87 := z81.trans x85
    replace b12 := b12.ext x85
    replace b31 := b31.ext x85
    replace b48 := b48.ext x85
    replace b67 := b67.ext x85
    obtain rfl : rn83 = 2 := by have := hv82.len; exact this.symm.trans rfl
    replace hv82 := hv82.cast (rss' := ([[1, 3], [2, 0]] : List (List Rat))) (by decide +kernel)
    refine ⟨_, rfl, ?_⟩
    refine mvf rfl ?_
    refine vo ?_
    refine xbs (ps := [(0, .int _ _), (1, .int _ _)]) (cs := [.int _ _, .int _ _]) sl49 zr2 sz2 rfl rfl rfl rfl rfl rfl ?_
    intro W88 x89 b90 nn91
    have s92 := x89.sz
    have z93 := z87.trans x89
    replace b12 := b12.ext x89
    replace b31 := b31.ext x89
    replace b48 := b48.ext x89
    replace b67 := b67.ext x89
    refine vo ?_
    refine xbs (ps := [(0, .int _ _), (1, .int _ _)]) (cs := [.int _ _, .int _ _]) sl49 zr2 sz2 rfl rfl rfl rfl rfl rfl ?_
    intro W94 x95 b96 nn97
    have s98 := x95.sz
    have z99 := z93.trans x95
    replace b12 := b12.ext x95
    replace b31 := b31.ext x95
    replace b48 := b48.ext x95
    replace b67 := b67.ext x95
    replace b90 := b90.ext x95
    refine vo ?_
    refine xbs (ps := [(0, .slice _ _ _), (1, .slice _ _ _)]) (cs := [.slice _ _ _, .slice _ _ _]) sl23 zr49 sz49 rfl rfl rfl rfl rfl rfl ?_
    intro W100 x101 b102 nn103
    have s104 := x101.sz
    have z105 := z99.trans x101
    replace b12 := b12.ext x101
    replace b31 := b31.ext x101
    replace b48 := b48.ext x101
    replace b67 := b67.ext x101
    replace b90 := b90.ext x101
    replace b96 := b96.ext x101
    refine vo ?_
    have hl106 := RN.lit (k := .i64) (xs := [_, _]) 2 b90 (by intro q hq; simp only [List.mem_cons, List.not_mem_nil, or_false] at hq; simp only [kb]; omega) (TT.up W84 _ (Nat.le_refl _))
    have hl107 := RN.lit (k := .i64) (xs := [_, _]) 2 b96 (by intro q hq; simp only [List.mem_cons, List.not_mem_nil, or_false] at hq; simp only [kb]; omega) (TT.up W88 _ (Nat.le_refl _))
    have hm108 : MI TT W100 (some ⟨W94.heap.size, 0, none⟩) 2 2 [[1, 3], [2, 0]] := ⟨[[.slice _ _ _], [.slice _ _ _]], RS.lit (S := TT) _ b102 rfl (by simp) trivial rfl (by omega), ⟨_, _, _, rfl, hl106⟩, ⟨_, _, _, rfl, hl107⟩, trivial⟩
    refine xcall e9 (rmInts_ok _ _ _ [[1, 3], [2, 0]] TT TT _ hm108 (by omega) (by intro r hr; simp at hr; rcases hr with rfl | rfl <;> simp <;> omega) (TT.up _)) rfl rfl ?_
    rintro _ W111 ⟨_, rn110, _, rfl, x112, hv109⟩
    have s113 := x112.sz
    have z114 := z105.trans x112
    replace b12 := b12.ext x112
    replace b31 := b31.ext x112
    replace b48 := b48.ext x112
    replace b67 := b67.ext x112
    replace b90 := b90.ext x112
    replace b96 := b96.ext x112
    replace b102 := b102.ext x112
    obtain rfl : rn110 = 2 := by have := hv109.len; simpa using this.symm
    replace hv109 := hv109.cast (rss' := ([[1, 3], [2, 0]] : List (List Rat))) (by rfl)
    refine ⟨_, rfl, ?_⟩
    refine vo ?_
    refine xcall e12 (mIs_true _ (hv82.ext (((x89.trans x95).trans x101).trans x112)) hv109 rfl) rfl rfl ?_
    rintro _ W115 ⟨rfl, x116⟩
    have s117 := x116.sz
    have z118 := z114.trans x116
    replace b12 := b12.ext x116
    replace b31 := b31.ext x116
    replace b48 := b48.ext x116
    replace b67 := b67.ext x116
    replace b90 := b90.ext x116
    replace b96 := b96.ext x116
    replace b102 := b102.ext x116
    refine ⟨_, rfl, ?_⟩
    refine mvb rfl ?_
    refine vg rfl ?_
    refine mvs rfl ?_
    refine vg rfl ?_
    refine mvs rfl ?_
    refine vg rfl ?_
    refine vo ?_
    refine xcall e15 (mMul_ok _ _ _ _ _ _ 1 1 7 _ _ TT TT TT _ (((hm0.ext ((((((((((((((((((x6.trans x11).trans x20).trans x26).trans x30).trans x39).trans x43).trans x47).trans x56).trans x62).trans x66).trans x75).trans x79).trans x85).trans x89).trans x95).trans x101).trans x112).trans x116))).ma (L := 1) (szM_B (by decide +kernel))) (((hm0.ext ((((((((((((((((((x6.trans x11).trans x20).trans x26).trans x30).trans x39).trans x43).trans x47).trans x56).trans x62).trans x66).trans x75).trans x79).trans x85).trans x89).trans x95).trans x101).trans x112).trans x116))).ma (L := 1) (szM_B (by decide +kernel))) (by decide) (by omega) (by omega) (by omega) (by omega) (by omega) (TT.up _)) rfl rfl ?_
    rintro _ W121 ⟨_, rn120, _, rfl, x122, hv119⟩
    have s123 := x122.sz
    have z124 := z118.trans x122
    replace b12 := b12.ext x122
    replace b31 := b31.ext x122
    replace b48 := b48.ext x122
    replace b67 := b67.ext x122
    replace b90 := b90.ext x122
    replace b96 := b96.ext x122
    replace b102 := b102.ext x122
    obtain rfl : rn120 = 2 := by have := hv119.len; exact this.symm.trans rfl
    replace hv119 := hv119.cast (rss' := ([[7, 2], [3, 6]] : List (List Rat))) (by decide +kernel)
    refine ⟨_, rfl, ?_⟩
    refine vg rfl ?_
    refine mvf rfl ?_
    refine vg rfl ?_
    refine vo ?_
    refine xbs (ps := [(0, .int _ _), (1, .int _ _)]) (cs := [.int _ _, .int _ _]) sl49 zr2 sz2 rfl rfl rfl rfl rfl rfl ?_
    intro W125 x126 b127 nn128
    have s129 := x126.sz
    have z130 := z124.trans x126
    replace b12 := b12.ext x126
    replace b31 := b31.ext x126
    replace b48 := b48.ext x126
    replace b67 := b67.ext x126
    replace b90 := b90.ext x126
    replace b96 := b96.ext x126
    replace b102 := b102.ext x126
    refine vg rfl ?_
    refine vo ?_
    refine xbs (ps := [(0, .int _ _), (1, .int _ _)]) (cs := [.int _ _, .int _ _]) sl49 zr2 sz2 rfl rfl rfl rfl rfl rfl ?_
    intro W131 x132 b133 nn134
    have s135 := x132.sz
    have z136 := z130.trans x132
    replace b12 := b12.ext x132
    replace b31 := b31.ext x132
    replace b48 := b48.ext x132
    replace b67 := b67.ext x132
    replace b90 := b90.ext x132
    replace b96 := b96.ext x132
    replace b102 := b102.ext x132
    replace b127 := b127.ext x132
    refine vg rfl ?_
    refine vo ?_
    refine xbs (ps := [(0, .slice _ _ _), (1, .slice _ _ _)]) (cs := [.slice _ _ _, .slice _ _ _]) sl23 zr49 sz49 rfl rfl rfl rfl rfl rfl ?_
    intro W137 x138 b139 nn140
    have s141 := x138.sz
    have z142 := z136.trans x138
    replace b12 := b12.ext x138
    replace b31 := b31.ext x138
    replace b48 := b48.ext x138
    replace b67 := b67.ext x138
    replace b90 := b90.ext x138
    replace b96 := b96.ext x138
    replace b102 := b102.ext x138
    replace b127 := b127.ext x138
    replace b133 := b133.ext x138
    refine vg rfl ?_
    refine vo ?_
    have hl143 := RN.lit (k := .i64) (xs := [_, _]) 2 b127 (by intro q hq; simp only [List.mem_cons, List.not_mem_nil, or_false] at hq; simp only [kb]; omega) (TT.up W121 _ (Nat.le_refl _))
    have hl144 := RN.lit (k := .i64) (xs := [_, _]) 2 b133 (by intro q hq; simp only [List.mem_cons, List.not_mem_nil, or_false] at hq; simp only [kb]; omega) (TT.up W125 _ (Nat.le_refl _))
    have hm145 : MI TT W137 (some ⟨W131.heap.size, 0, none⟩) 2 2 [[7, 2], [3, 6]] := ⟨[[.slice _ _ _], [.slice _ _ _]], RS.lit (S := TT) _ b139 rfl (by simp) trivial rfl (by omega), ⟨_, _, _, rfl, hl143⟩, ⟨_, _, _, rfl, hl144⟩, trivial⟩
    refine xcall e9 (rmInts_ok _ _ _ [[7, 2], [3, 6]] TT TT _ hm145 (by omega) (by intro r hr; simp at hr; rcases hr with rfl | rfl <;> simp <;> omega) (TT.up _)) rfl rfl ?_
    rintro _ W148 ⟨_, rn147, _, rfl, x149, hv146⟩
    have s150 := x149.sz
    have z151 := z142.trans x149
    replace b12 := b12.ext x149
    replace b31 := b31.ext x149
    replace b48 := b48.ext x149
    replace b67 := b67.ext x149
    replace b90 := b90.ext x149
    replace b96 := b96.ext x149
    replace b102 := b102.ext x149
    replace b127 := b127.ext x149
    replace b133 := b133.ext x149
    replace b139 := b139.ext x149
    obtain rfl : rn147 = 2 := by have := hv146.len; simpa using this.symm
    replace hv146 := hv146.cast (rss' := ([[7, 2], [3, 6]] : List (List Rat))) (by rfl)
    refine ⟨_, rfl, ?_⟩
    refine vg rfl ?_
    refine vo ?_
    refine xcall e12 (mIs_true _ (hv119.ext (((x126.trans x132).trans x138).trans x149)) hv146 rfl) rfl rfl ?_
    rintro _ W152 ⟨rfl, x153⟩
    have s154 := x153.sz
    have z155 := z151.trans x153
    replace b12 := b12.ext x153
    replace b31 := b31.ext x153
    replace b48 := b48.ext x153
    replace b67 := b67.ext x153
    replace b90 := b90.ext x153
    replace b96 := b96.ext x153
    replace b102 := b102.ext x153
    replace b127 := b127.ext x153
    replace b133 := b133.ext x153
    replace b139 := b139.ext x153
    refine ⟨_, rfl, ?_⟩
    refine vv (rpk (v := .bool true) rfl rfl) ?_
    refine mvb rfl ?_
    refine vg rfl ?_
    refine mvs rfl ?_
    refine vg rfl ?_
    refine mvf rfl ?_
    refine vg rfl ?_
    refine vo ?_
    refine xbs (ps := [(0, .int _ _)]) (cs := [.int _ _]) sl49 zr2 sz2 rfl rfl rfl rfl rfl rfl ?_
    intro W156 x157 b158 nn159
    have s160 := x157.sz
    have z161 := z155.trans x157
    replace b12 := b12.ext x157
    replace b31 := b31.ext x157
    replace b48 := b48.ext x157
    replace b67 := b67.ext x157
    replace b90 := b90.ext x157
    replace b96 := b96.ext x157
    replace b102 := b102.ext x157
    replace b127 := b127.ext x157
    replace b133 := b133.ext x157
    replace b139 := b139.ext x157
    refine vg rfl ?_
    refine vo ?_
    refine xbs (ps := [(0, .slice _ _ _)]) (cs := [.slice _ _ _]) sl23 zr49 sz49 rfl rfl rfl rfl rfl rfl ?_
    intro W162 x163 b164 nn165
    have s166 := x163.sz
    have z167 := z161.trans x163
    replace b12 := b12.ext x163
    replace b31 := b31.ext x163
    replace b48 := b48.ext x163
    replace b67 := b67.ext x163
    replace b90 := b90.ext x163
    replace b96 := b96.ext x163
    replace b102 := b102.ext x163
    replace b127 := b127.ext x163
    replace b133 := b133.ext x163
    replace b139 := b139.ext x163
    replace b158 := b158.ext x163
    refine vg rfl ?_
    refine vo ?_
    have hl168 := RN.lit (k := .i64) (xs := [_]) 1 b158 (by intro q hq; simp only [List.mem_cons, List.not_mem_nil, or_false] at hq; simp only [kb]; omega) (TT.up W152 _ (Nat.le_refl _))
    have hm169 : MI TT W162 (some ⟨W156.heap.size, 0, none⟩) 1 1 [[9]] := ⟨[[.slice _ _ _]], RS.lit (S := TT) _ b164 rfl (by simp) trivial rfl (by omega), ⟨_, _, _, rfl, hl168⟩, trivial⟩
    refine xcall e9 (rmInts_ok _ _ _ [[9]] TT TT _ hm169 (by omega) (by intro r hr; simp at hr; rcases hr with rfl <;> simp <;> omega) (TT.up _)) rfl rfl ?_
    rintro _ W172 ⟨_, rn171, _, rfl, x173, hv170⟩
    have s174 := x173.sz
    have z175 := z167.trans x173
    replace b12 := b12.ext x173
    replace b31 := b31.ext x173
    replace b48 := b48.ext x173
    replace b67 := b67.ext x173
    replace b90 := b90.ext x173
    replace b96 := b96.ext x173
    replace b102 := b102.ext x173
    replace b127 := b127.ext x173
    replace b133 := b133.ext x173
    replace b139 := b139.ext x173
    replace b158 := b158.ext x173
    replace b164 := b164.ext x173
    obtain rfl : rn171 = 1 := by have := hv170.len; simpa using this.symm
    replace hv170 := hv170.cast (rss' := ([[9]] : List (List Rat))) (by rfl)
    refine ⟨_, rfl, ?_⟩
    refine vg rfl ?_
    refine vo ?_
    refine xcall e22 (mConcat_ok _ _ _ _ _ _ 1 1 _ _ TT TT TT _ (((hm0.ext (((((((((((((((((((((((((((x6.trans x11).trans x20).trans x26).trans x30).trans x39).trans x43).trans x47).trans x56).trans x62).trans x66).trans x75).trans x79).trans x85).trans x89).trans x95).trans x101).trans x112).trans x116).trans x122).trans x126).trans x132).trans x138).trans x149).trans x153).trans x157).trans x163).trans x173))).ma (L := 1) (szM_B (by decide +kernel))) ((hv170).ma (L := 1) (szM_B (by decide +kernel))) (by omega) (by omega) (by omega) (by omega) (by omega) (by omega) (by decide) (TT.up _)) rfl rfl ?_
    rintro _ W178 ⟨_, rn177, _, rfl, x179, hv176⟩
    have s180 := x179.sz
    have z181 := z175.trans x179
    replace b12 := b12.ext x179
    replace b31 := b31.ext x179
    replace b48 := b48.ext x179
    replace b67 := b67.ext x179
    replace b90 := b90.ext x179
    replace b96 := b96.ext x179
    replace b102 := b102.ext x179
    replace b127 := b127.ext x179
    replace b133 := b133.ext x179
    replace b139 := b139.ext x179
    replace b158 := b158.ext x179
    replace b164 := b164.ext x179
    obtain rfl : rn177 = 2 := by have := hv176.len; exact this.symm.trans rfl
    replace hv176 := hv176.cast (rss' := ([[1, 2, 9], [3, 0, 0]] : List (List Rat))) (by decide +kernel)
    refine ⟨_, rfl, ?_⟩
    refine vg rfl ?_
    refine mvf rfl ?_
    refine vg rfl ?_
    refine vo ?_
    refine xbs (ps := [(0, .int _ _), (1, .int _ _), (2, .int _ _)]) (cs := [.int _ _, .int _ _, .int _ _]) sl49 zr2 sz2 rfl rfl rfl rfl rfl rfl ?_
    intro W182 x183 b184 nn185
    have s186 := x183.sz
    have z187 := z181.trans x183
    replace b12 := b12.ext x183
    replace b31 := b31.ext x183
    replace b48 := b48.ext x183
    replace b67 := b67.ext x183
    replace b90 := b90.ext x183
    replace b96 := b96.ext x183
    replace b102 := b102.ext x183
    replace b127 := b127.ext x183
    replace b133 := b133.ext x183
    replace b139 := b139.ext x183
    replace b158 := b158.ext x183
    replace b164 := b164.ext x183
    refine vg rfl ?_
    refine vo ?_
    refine xbs (ps := [(0, .int _ _), (1, .int _ _), (2, .int _ _)]) (cs := [.int _ _, .int _ _, .int _ _]) sl49 zr2 sz2 rfl rfl rfl rfl rfl rfl ?_
    intro W188 x189 b190 nn191
    have s192 := x189.sz
    have z193 := z187.trans x189
    replace b12 := b12.ext x189
    replace b31 := b31.ext x189
    replace b48 := b48.ext x189
    replace b67 := b67.ext x189
    replace b90 := b90.ext x189
    replace b96 := b96.ext x189
    replace b102 := b102.ext x189
    replace b127 := b127.ext x189
    replace b133 := b133.ext x189
    replace b139 := b139.ext x189
    replace b158 := b158.ext x189
    replace b164 := b164.ext x189
    replace b184 := b184.ext x189
    refine vg rfl ?_
    refine vo ?_
    refine xbs (ps := [(0, .slice _ _ _), (1, .slice _ _ _)]) (cs := [.slice _ _ _, .slice _ _ _]) sl23 zr49 sz49 rfl rfl rfl rfl rfl rfl ?_
    intro W194 x195 b196 nn197
    have s198 := x195.sz
    have z199 := z193.trans x195
    replace b12 := b12.ext x195
    replace b31 := b31.ext x195
    replace b48 := b48.ext x195
    replace b67 := b67.ext x195
    replace b90 := b90.ext x195
    replace b96 := b96.ext x195
    replace b102 := b102.ext x195
    replace b127 := b127.ext x195
    replace b133 := b133.ext x195
    replace b139 := b139.ext x195
    replace b158 := b158.ext x195
    replace b164 := b164.ext x195
    replace b184 := b184.ext x195
    replace b190 := b190.ext x195
    refine vg rfl ?_
    refine vo ?_
    have hl200 := RN.lit (k := .i64) (xs := [_, _, _]) 3 b184 (by intro q hq; simp only [List.mem_cons, List.not_mem_nil, or_false] at hq; simp only [kb]; omega) (TT.up W178 _ (Nat.le_refl _))
    have hl201 := RN.lit (k := .i64) (xs := [_, _, _]) 3 b190 (by intro q hq; simp only [List.mem_cons, List.not_mem_nil, or_false] at hq; simp only [kb]; omega) (TT.up W182 _ (Nat.le_refl _))
    have hm202 : MI TT W194 (some ⟨W188.heap.size, 0, none⟩) 2 2 [[1, 2, 9], [3, 0, 0]] := ⟨[[.slice _ _ _], [.slice _ _ _]], RS.lit (S := TT) _ b196 rfl (by simp) trivial rfl (by omega), ⟨_, _, _, rfl, hl200⟩, ⟨_, _, _, rfl, hl201⟩, trivial⟩
    refine xcall e9 (rmInts_ok _ _ _ [[1, 2, 9], [3, 0, 0]] TT TT _ hm202 (by omega) (by intro r hr; simp at hr; rcases hr with rfl | rfl <;> simp <;> omega) (TT.up _)) rfl rfl ?_
    rintro _ W205 ⟨_, rn204, _, rfl, x206, hv203⟩
    have s207 := x206.sz
    have z208 := z199.trans x206
    replace b12 := b12.ext x206
    replace b31 := b31.ext x206
    replace b48 := b48.ext x206
    replace b67 := b67.ext x206
    replace b90 := b90.ext x206
    replace b96 := b96.ext x206
    replace b102 := b102.ext x206
    replace b127 := b127.ext x206
    replace b133 := b133.ext x206
    replace b139 := b139.ext x206
    replace b158 := b158.ext x206
    replace b164 := b164.ext x206
    replace b184 := b184.ext x206
    replace b190 := b190.ext x206
    replace b196 := b196.ext x206
    obtain rfl : rn204 = 2 := by have := hv203.len; simpa using this.symm
    replace hv203 := hv203.cast (rss' := ([[1, 2, 9], [3, 0, 0]] : List (List Rat))) (by rfl)
    refine ⟨_, rfl, ?_⟩
    refine vg rfl ?_
    refine vo ?_
    refine xcall e12 (mIs_true _ (hv176.ext (((x183.trans x189).trans x195).trans x206)) hv203 rfl) rfl rfl ?_
    rintro _ W209 ⟨rfl, x210⟩
    have s211 := x210.sz
    have z212 := z208.trans x210
    replace b12 := b12.ext x210
    replace b31 := b31.ext x210
    replace b48 := b48.ext x210
    replace b67 := b67.ext x210
    replace b90 := b90.ext x210
    replace b96 := b96.ext x210
    replace b102 := b102.ext x210
    replace b127 := b127.ext x210
    replace b133 := b133.ext x210
    replace b139 := b139.ext x210
    replace b158 := b158.ext x210
    replace b164 := b164.ext x210
    replace b184 := b184.ext x210
    replace b190 := b190.ext x210
    replace b196 := b196.ext x210
    refine ⟨_, rfl, ?_⟩
    refine vv (rpk (v := .bool true) rfl rfl) ?_
    refine asb rfl ?_
    refine vnil ?_
    refine V.ret ?_
    refine ⟨[.bool true], ⟨rfl, trivial⟩, ?_⟩
    exact ⟨rfl, z212⟩
set_option maxHeartbeats 400000 in
theorem matEx_ok (w : World) :
    Calls Try.prog 3 #[] w (fun e w' => e = .returned (.bool true) ∧ Ext w w') := by
  have z0 := Ext.refl w; have hLX : LX = 17592186044416 := rfl; have hLY : LY = 8796093022208 := rfl
  refine enter (args := []) Try.func3 rfl rfl (Nat.le_of_ble_eq_true rfl) ?_
  refine V.seq (V.reg rfl ?_)
  refine asb rfl ?_
  refine vnil ?_
  refine V.seq (V.reg rfl ?_)
  refine vo ?_
  refine xcall e7 (law4_ok _) rfl rfl ?_
  rintro _ W1 ⟨rfl, x2⟩
  have s3 := x2.sz
  have z4 := x2
  refine ⟨_, rfl, ?_⟩
  refine asb rfl ?_
  refine vnil ?_
  refine V.ret ?_
  refine ⟨[.bool true], ⟨rfl, trivial⟩, ?_⟩
  exact ⟨rfl, z4⟩
end Go.Proofs.Ytknbjfefeeojlaa

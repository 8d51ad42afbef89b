/- Package pylonlaw04: the examples. -/
import Derived.Test.YtknbjfefeeojlaaGreatRows
import Derived.ProofKit
import Derived.JoinedCond
import Derived.Test.YtknbjfefeeojlaaGreatMga5
namespace Go.Proofs.YtknbjfefeeojlaaGreat
open Go.RowKit
attribute [local irreducible] RV VH V OpF Calls

set_option maxHeartbeats 400000 in
theorem law4small_ok (w : World) :
    Calls Tryz.prog 102 #[] w (fun e w' => ∃ ra rc, e = .returned (.slice ra 2 rc) ∧ Ext w w' ∧ MC TT w' ra 2 rc [[1, 2], [3]]) := by
  have z0 := Ext.refl w; have hLX : LX = 17592186044416 := rfl; have hLY : LY = 8796093022208 := rfl
  have hLV : LV = 1099511627776 := rfl
  refine enter (args := []) Tryz.func102 rfl rfl (Nat.le_of_ble_eq_true rfl) ?_
  refine V.seq (V.reg rfl ?_)
  refine ass rfl ?_
  refine vnil ?_
  refine V.seq (V.reg rfl ?_)
  refine vo ?_
  refine xbs (ps := [(0, .int _ _), (1, .int _ _)]) (cs := [.int _ _, .int _ _]) sl118 zr2 sz2 rfl rfl rfl rfl rfl rfl ?_
  intro W1 x2 b3 nn4
  have s5 := x2.sz
  have z6 := x2
  refine vo ?_
  refine xbs (ps := [(0, .int _ _)]) (cs := [.int _ _]) sl118 zr2 sz2 rfl rfl rfl rfl rfl rfl ?_
  intro W7 x8 b9 nn10
  have s11 := x8.sz
  have z12 := z6.trans x8
  replace b3 := b3.ext x8
  refine vo ?_
  refine xbs (ps := [(0, .slice _ _ _), (1, .slice _ _ _)]) (cs := [.slice _ _ _, .slice _ _ _]) sl119 zr118 sz118 rfl rfl rfl rfl rfl rfl ?_
  intro W13 x14 b15 nn16
  have s17 := x14.sz
  have z18 := z12.trans x14
  replace b3 := b3.ext x14
  replace b9 := b9.ext x14
  refine vo ?_
  have hl19 := RN.lit (k := .i64) (xs := [_, _]) 2 b3 (by intro q hq; simp only [List.mem_cons, List.not_mem_nil, or_false] at hq; simp only [kb]; omega) (TT.up w _ (Nat.le_refl _))
  have hl20 := RN.lit (k := .i64) (xs := [_]) 1 b9 (by intro q hq; simp only [List.mem_cons, List.not_mem_nil, or_false] at hq; simp only [kb]; omega) (TT.up W1 _ (Nat.le_refl _))
  have hm21 : MI TT W13 (some ⟨W7.heap.size, 0, none⟩) 2 2 [[1, 2], [3]] := ⟨[[.slice _ _ _], [.slice _ _ _]], RS.lit (S := TT) _ b15 rfl (by simp) trivial rfl (by omega), ⟨_, _, _, rfl, hl19⟩, ⟨_, _, _, rfl, hl20⟩, trivial⟩
  refine xcall e103 (rmInts_ok _ _ _ [[1, 2], [3]] TT TT _ hm21 (by omega) (by intro r hr; simp at hr; rcases hr with rfl | rfl <;> simp <;> omega) (TT.up _)) rfl rfl ?_
  rintro _ W24 ⟨_, rn23, _, rfl, x25, hv22⟩
  have s26 := x25.sz
  have z27 := z18.trans x25
  replace b3 := b3.ext x25
  replace b9 := b9.ext x25
  replace b15 := b15.ext x25
  obtain rfl : rn23 = 2 := by have := hv22.len; simpa using this.symm
  replace hv22 := hv22.cast (rss' := ([[1, 2], [3]] : List (List Rat))) (by rfl)
  refine ⟨_, rfl, ?_⟩
  refine ass rfl ?_
  refine vnil ?_
  refine V.ret ?_
  refine ⟨[.slice _ _ _], ⟨rfl, trivial⟩, ?_⟩
  exact ⟨_, _, rfl, z27, hv22⟩
set_option maxHeartbeats 400000 in
theorem law4_ok (w : World) :
    Calls Tryz.prog 33 #[] w (fun e w' => e = .returned (.bool true) ∧ Ext w w') := by
  have z0 := Ext.refl w; have hLX : LX = 17592186044416 := rfl; have hLY : LY = 8796093022208 := rfl
  have hLV : LV = 1099511627776 := rfl
  refine enter (args := []) Tryz.func33 rfl rfl (Nat.le_of_ble_eq_true rfl) ?_
  refine V.seq (V.reg rfl ?_)
  refine asb rfl ?_
  refine vnil ?_
  refine V.seq (V.reg rfl ?_)
  refine vo ?_
  refine xcall e102 (law4small_ok _) rfl rfl ?_
  rintro _ W1 ⟨_, _, rfl, x2, hm0⟩
  have s3 := x2.sz
  have z4 := x2
  refine ⟨_, rfl, ?_⟩
  refine ass rfl ?_
  refine vnil ?_
  refine V.seq (V.reg rfl ?_)
  refine asf rfl ?_
  refine vnil ?_
  refine V.seq ?_
  refine V.seq (V.reg rfl ?_)
  refine mvs rfl ?_
  refine vo ?_
  refine xcall e35 (mCols_at _ 2 ((hm0).ma (L := 1) (szM_B (by decide +kernel))) (by decide +kernel)) rfl rfl ?_
  rintro _ W5 ⟨rfl, x6⟩
  have s7 := x6.sz
  have z8 := z4.trans x6
  refine ⟨_, rfl, ?_⟩
  refine vne rfl rfl ?_ ?_
  · intro c9
    omega
  · intro c9
    refine mvb rfl ?_
    refine vg rfl ?_
    refine mvs rfl ?_
    refine vg rfl ?_
    refine vo ?_
    refine xbs (ps := [(0, .int _ _), (1, .int _ _)]) (cs := [.int _ _, .int _ _]) sl118 zr2 sz2 rfl rfl rfl rfl rfl rfl ?_
    intro W10 x11 b12 nn13
    have s14 := x11.sz
    have z15 := z8.trans x11
    refine vg rfl ?_
    refine vo ?_
    have hl16 := RN.lit (k := .i64) (xs := [_, _]) 2 b12 (by intro q hq; simp only [List.mem_cons, List.not_mem_nil, or_false] at hq; simp only [kb]; omega) (TT.up W5 _ (Nat.le_refl _))
    refine xcall e82 (vFrom_ok _ _ _ [5, 7] TT TT _ hl16 (by omega) (TT.up _)) rfl rfl ?_
    rintro _ W19 ⟨_, rn18, _, rfl, x20, hv17⟩
    have s21 := x20.sz
    have z22 := z15.trans x20
    replace b12 := b12.ext x20
    obtain rfl : rn18 = 2 := by have := hv17.len; simpa using this.symm
    replace hv17 := hv17.cast (rs' := ([5, 7] : List Rat)) (by rfl)
    refine ⟨_, rfl, ?_⟩
    refine vg rfl ?_
    refine vo ?_
    refine xcall e22 (mMulVec_ok _ _ _ _ _ _ 1 1 2 7 _ _ TT TT TT _ (((hm0.ext ((x6.trans x11).trans x20))).ma (L := 1) (szM_B (by decide +kernel))) ((hv17).va (L := 1) (szV_B (by decide +kernel))) (lenM_B (by decide +kernel)) (by omega) (by omega) (by omega) (by omega) (by omega) (by omega) (by omega) (TT.up _)) rfl rfl ?_
    rintro _ W25 ⟨_, rn24, _, rfl, x26, hv23⟩
    have s27 := x26.sz
    have z28 := z22.trans x26
    replace b12 := b12.ext x26
    obtain rfl : rn24 = 2 := by have := hv23.len; exact this.symm.trans rfl
    replace hv23 := hv23.cast (rs' := ([19, 15] : List Rat)) (by decide +kernel)
    refine ⟨_, rfl, ?_⟩
    refine vg rfl ?_
    refine vo ?_
    refine xbs (ps := [(0, .int _ _), (1, .int _ _)]) (cs := [.int _ _, .int _ _]) sl118 zr2 sz2 rfl rfl rfl rfl rfl rfl ?_
    intro W29 x30 b31 nn32
    have s33 := x30.sz
    have z34 := z28.trans x30
    replace b12 := b12.ext x30
    refine vg rfl ?_
    refine vo ?_
    have hl35 := RN.lit (k := .i64) (xs := [_, _]) 2 b31 (by intro q hq; simp only [List.mem_cons, List.not_mem_nil, or_false] at hq; simp only [kb]; omega) (TT.up W25 _ (Nat.le_refl _))
    refine xcall e104 (rvInts_ok _ _ _ [19, 15] TT TT _ hl35 (by omega) (TT.up _)) rfl rfl ?_
    rintro _ W38 ⟨_, rn37, _, rfl, x39, hv36⟩
    have s40 := x39.sz
    have z41 := z34.trans x39
    replace b12 := b12.ext x39
    replace b31 := b31.ext x39
    obtain rfl : rn37 = 2 := by have := hv36.len; simpa using this.symm
    replace hv36 := hv36.cast (rs' := ([19, 15] : List Rat)) (by rfl)
    refine ⟨_, rfl, ?_⟩
    refine vg rfl ?_
    refine vo ?_
    refine xcall e56 (vIs_true _ (hv23.ext (x30.trans x39)) hv36 rfl) rfl rfl ?_
    rintro _ W42 ⟨rfl, x43⟩
    have s44 := x43.sz
    have z45 := z41.trans x43
    replace b12 := b12.ext x43
    replace b31 := b31.ext x43
    refine ⟨_, rfl, ?_⟩
    refine vg rfl ?_
    refine vv (rnot (q := false) rfl rfl) ?_
    refine vv (rpk (v := .bool false) rfl rfl) ?_
    refine mvb rfl ?_
    refine vg rfl ?_
    refine vo ?_
    refine xbs (ps := [(0, .int _ _), (1, .int _ _)]) (cs := [.int _ _, .int _ _]) sl118 zr2 sz2 rfl rfl rfl rfl rfl rfl ?_
    intro W46 x47 b48 nn49
    have s50 := x47.sz
    have z51 := z45.trans x47
    replace b12 := b12.ext x47
    replace b31 := b31.ext x47
    refine vg rfl ?_
    refine vo ?_
    have hl52 := RN.lit (k := .i64) (xs := [_, _]) 2 b48 (by intro q hq; simp only [List.mem_cons, List.not_mem_nil, or_false] at hq; simp only [kb]; omega) (TT.up W42 _ (Nat.le_refl _))
    refine xcall e82 (vFrom_ok _ _ _ [1, 1] TT TT _ hl52 (by omega) (TT.up _)) rfl rfl ?_
    rintro _ W55 ⟨_, rn54, _, rfl, x56, hv53⟩
    have s57 := x56.sz
    have z58 := z51.trans x56
    replace b12 := b12.ext x56
    replace b31 := b31.ext x56
    replace b48 := b48.ext x56
    obtain rfl : rn54 = 2 := by have := hv53.len; simpa using this.symm
    replace hv53 := hv53.cast (rs' := ([1, 1] : List Rat)) (by rfl)
    refine ⟨_, rfl, ?_⟩
    refine vg rfl ?_
    refine mvs rfl ?_
    refine vg rfl ?_
    refine vo ?_
    refine xcall e30 (mVecMul_ok _ _ _ _ _ _ 1 1 7 _ _ TT TT TT _ ((hv53).va (L := 1) (szV_B (by decide +kernel))) (((hm0.ext ((((((((x6.trans x11).trans x20).trans x26).trans x30).trans x39).trans x43).trans x47).trans x56))).ma (L := 1) (szM_B (by decide +kernel))) (by decide) (by omega) (by omega) (by omega) (by omega) (TT.up _)) rfl rfl ?_
    rintro _ W61 ⟨_, rn60, _, rfl, x62, hv59⟩
    have s63 := x62.sz
    have z64 := z58.trans x62
    replace b12 := b12.ext x62
    replace b31 := b31.ext x62
    replace b48 := b48.ext x62
    obtain rfl : rn60 = 2 := by have := hv59.len; exact this.symm.trans rfl
    replace hv59 := hv59.cast (rs' := ([4, 2] : List Rat)) (by decide +kernel)
    refine ⟨_, rfl, ?_⟩
    refine vg rfl ?_
    refine vo ?_
    refine xbs (ps := [(0, .int _ _), (1, .int _ _)]) (cs := [.int _ _, .int _ _]) sl118 zr2 sz2 rfl rfl rfl rfl rfl rfl ?_
    intro W65 x66 b67 nn68
    have s69 := x66.sz
    have z70 := z64.trans x66
    replace b12 := b12.ext x66
    replace b31 := b31.ext x66
    replace b48 := b48.ext x66
    refine vg rfl ?_
    refine vo ?_
    have hl71 := RN.lit (k := .i64) (xs := [_, _]) 2 b67 (by intro q hq; simp only [List.mem_cons, List.not_mem_nil, or_false] at hq; simp only [kb]; omega) (TT.up W61 _ (Nat.le_refl _))
    refine xcall e104 (rvInts_ok _ _ _ [4, 2] TT TT _ hl71 (by omega) (TT.up _)) rfl rfl ?_
    rintro _ W74 ⟨_, rn73, _, rfl, x75, hv72⟩
    have s76 := x75.sz
    have z77 := z70.trans x75
    replace b12 := b12.ext x75
    replace b31 := b31.ext x75
    replace b48 := b48.ext x75
    replace b67 := b67.ext x75
    obtain rfl : rn73 = 2 := by have := hv72.len; simpa using this.symm
    replace hv72 := hv72.cast (rs' := ([4, 2] : List Rat)) (by rfl)
    refine ⟨_, rfl, ?_⟩
    refine vg rfl ?_
    refine vo ?_
    refine xcall e56 (vIs_true _ (hv59.ext (x66.trans x75)) hv72 rfl) rfl rfl ?_
    rintro _ W78 ⟨rfl, x79⟩
    have s80 := x79.sz
    have z81 := z77.trans x79
    replace b12 := b12.ext x79
    replace b31 := b31.ext x79
    replace b48 := b48.ext x79
    replace b67 := b67.ext x79
    refine ⟨_, rfl, ?_⟩
    refine vg rfl ?_
    refine vv (rnot (q := false) rfl rfl) ?_
    refine vv (rpk (v := .bool false) rfl rfl) ?_
    refine vnil ?_
    refine V.condF rfl ?_
    refine V.skip ?_
    refine V.seq (V.reg rfl ?_)
    refine mvs rfl ?_
    refine vo ?_
    refine xcall e45 (mTr_ok _ _ _ 1 _ TT TT _ (((hm0.ext ((((((((((((x6.trans x11).trans x20).trans x26).trans x30).trans x39).trans x43).trans x47).trans x56).trans x62).trans x66).trans x75).trans x79))).ma (L := 1) (szM_B (by decide +kernel))) (by omega) (by omega) (by omega) (by decide) (TT.up _)) rfl rfl ?_
    rintro _ W84 ⟨_, rn83, _, rfl, x85, hv82⟩
    have s86 := x85.sz
    have z87 := z81.trans x85
    replace b12 := b12.ext x85
    replace b31 := b31.ext x85
    replace b48 := b48.ext x85
    replace b67 := b67.ext x85
    obtain rfl : rn83 = 2 := by have := hv82.len; exact this.symm.trans rfl
    replace hv82 := hv82.cast (rss' := ([[1, 3], [2, 0]] : List (List Rat))) (by decide +kernel)
    refine ⟨_, rfl, ?_⟩
    refine mvf rfl ?_
    refine vo ?_
    refine xbs (ps := [(0, .int _ _), (1, .int _ _)]) (cs := [.int _ _, .int _ _]) sl118 zr2 sz2 rfl rfl rfl rfl rfl rfl ?_
    intro W88 x89 b90 nn91
    have s92 := x89.sz
    have z93 := z87.trans x89
    replace b12 := b12.ext x89
    replace b31 := b31.ext x89
    replace b48 := b48.ext x89
    replace b67 := b67.ext x89
    refine vo ?_
    refine xbs (ps := [(0, .int _ _), (1, .int _ _)]) (cs := [.int _ _, .int _ _]) sl118 zr2 sz2 rfl rfl rfl rfl rfl rfl ?_
    intro W94 x95 b96 nn97
    have s98 := x95.sz
    have z99 := z93.trans x95
    replace b12 := b12.ext x95
    replace b31 := b31.ext x95
    replace b48 := b48.ext x95
    replace b67 := b67.ext x95
    replace b90 := b90.ext x95
    refine vo ?_
    refine xbs (ps := [(0, .slice _ _ _), (1, .slice _ _ _)]) (cs := [.slice _ _ _, .slice _ _ _]) sl119 zr118 sz118 rfl rfl rfl rfl rfl rfl ?_
    intro W100 x101 b102 nn103
    have s104 := x101.sz
    have z105 := z99.trans x101
    replace b12 := b12.ext x101
    replace b31 := b31.ext x101
    replace b48 := b48.ext x101
    replace b67 := b67.ext x101
    replace b90 := b90.ext x101
    replace b96 := b96.ext x101
    refine vo ?_
    have hl106 := RN.lit (k := .i64) (xs := [_, _]) 2 b90 (by intro q hq; simp only [List.mem_cons, List.not_mem_nil, or_false] at hq; simp only [kb]; omega) (TT.up W84 _ (Nat.le_refl _))
    have hl107 := RN.lit (k := .i64) (xs := [_, _]) 2 b96 (by intro q hq; simp only [List.mem_cons, List.not_mem_nil, or_false] at hq; simp only [kb]; omega) (TT.up W88 _ (Nat.le_refl _))
    have hm108 : MI TT W100 (some ⟨W94.heap.size, 0, none⟩) 2 2 [[1, 3], [2, 0]] := ⟨[[.slice _ _ _], [.slice _ _ _]], RS.lit (S := TT) _ b102 rfl (by simp) trivial rfl (by omega), ⟨_, _, _, rfl, hl106⟩, ⟨_, _, _, rfl, hl107⟩, trivial⟩
    refine xcall e103 (rmInts_ok _ _ _ [[1, 3], [2, 0]] TT TT _ hm108 (by omega) (by intro r hr; simp at hr; rcases hr with rfl | rfl <;> simp <;> omega) (TT.up _)) rfl rfl ?_
    rintro _ W111 ⟨_, rn110, _, rfl, x112, hv109⟩
    have s113 := x112.sz
    have z114 := z105.trans x112
    replace b12 := b12.ext x112
    replace b31 := b31.ext x112
    replace b48 := b48.ext x112
    replace b67 := b67.ext x112
    replace b90 := b90.ext x112
    replace b96 := b96.ext x112
    replace b102 := b102.ext x112
    obtain rfl : rn110 = 2 := by have := hv109.len; simpa using this.symm
    replace hv109 := hv109.cast (rss' := ([[1, 3], [2, 0]] : List (List Rat))) (by rfl)
    refine ⟨_, rfl, ?_⟩
    refine vo ?_
    refine xcall e42 (mIs_true _ (hv82.ext (((x89.trans x95).trans x101).trans x112)) hv109 rfl) rfl rfl ?_
    rintro _ W115 ⟨rfl, x116⟩
    have s117 := x116.sz
    have z118 := z114.trans x116
    replace b12 := b12.ext x116
    replace b31 := b31.ext x116
    replace b48 := b48.ext x116
    replace b67 := b67.ext x116
    replace b90 := b90.ext x116
    replace b96 := b96.ext x116
    replace b102 := b102.ext x116
    refine ⟨_, rfl, ?_⟩
    refine mvb rfl ?_
    refine vg rfl ?_
    refine mvs rfl ?_
    refine vg rfl ?_
    refine mvs rfl ?_
    refine vg rfl ?_
    refine vo ?_
    refine xcall e70 (mMul_ok _ _ _ _ _ _ 1 1 7 _ _ TT TT TT _ (((hm0.ext ((((((((((((((((((x6.trans x11).trans x20).trans x26).trans x30).trans x39).trans x43).trans x47).trans x56).trans x62).trans x66).trans x75).trans x79).trans x85).trans x89).trans x95).trans x101).trans x112).trans x116))).ma (L := 1) (szM_B (by decide +kernel))) (((hm0.ext ((((((((((((((((((x6.trans x11).trans x20).trans x26).trans x30).trans x39).trans x43).trans x47).trans x56).trans x62).trans x66).trans x75).trans x79).trans x85).trans x89).trans x95).trans x101).trans x112).trans x116))).ma (L := 1) (szM_B (by decide +kernel))) (by decide) (by omega) (by omega) (by omega) (by omega) (by omega) (TT.up _)) rfl rfl ?_
    rintro _ W121 ⟨_, rn120, _, rfl, x122, hv119⟩
    have s123 := x122.sz
    have z124 := z118.trans x122
    replace b12 := b12.ext x122
    replace b31 := b31.ext x122
    replace b48 := b48.ext x122
    replace b67 := b67.ext x122
    replace b90 := b90.ext x122
    replace b96 := b96.ext x122
    replace b102 := b102.ext x122
    obtain rfl : rn120 = 2 := by have := hv119.len; exact this.symm.trans rfl
    replace hv119 := hv119.cast (rss' := ([[7, 2], [3, 6]] : List (List Rat))) (by decide +kernel)
    refine ⟨_, rfl, ?_⟩
    refine vg rfl ?_
    refine mvf rfl ?_
    refine vg rfl ?_
    refine vo ?_
    refine xbs (ps := [(0, .int _ _), (1, .int _ _)]) (cs := [.int _ _, .int _ _]) sl118 zr2 sz2 rfl rfl rfl rfl rfl rfl ?_
    intro W125 x126 b127 nn128
    have s129 := x126.sz
    have z130 := z124.trans x126
    replace b12 := b12.ext x126
    replace b31 := b31.ext x126
    replace b48 := b48.ext x126
    replace b67 := b67.ext x126
    replace b90 := b90.ext x126
    replace b96 := b96.ext x126
    replace b102 := b102.ext x126
    refine vg rfl ?_
    refine vo ?_
    refine xbs (ps := [(0, .int _ _), (1, .int _ _)]) (cs := [.int _ _, .int _ _]) sl118 zr2 sz2 rfl rfl rfl rfl rfl rfl ?_
    intro W131 x132 b133 nn134
    have s135 := x132.sz
    have z136 := z130.trans x132
    replace b12 := b12.ext x132
    replace b31 := b31.ext x132
    replace b48 := b48.ext x132
    replace b67 := b67.ext x132
    replace b90 := b90.ext x132
    replace b96 := b96.ext x132
    replace b102 := b102.ext x132
    replace b127 := b127.ext x132
    refine vg rfl ?_
    refine vo ?_
    refine xbs (ps := [(0, .slice _ _ _), (1, .slice _ _ _)]) (cs := [.slice _ _ _, .slice _ _ _]) sl119 zr118 sz118 rfl rfl rfl rfl rfl rfl ?_
    intro W137 x138 b139 nn140
    have s141 := x138.sz
    have z142 := z136.trans x138
    replace b12 := b12.ext x138
    replace b31 := b31.ext x138
    replace b48 := b48.ext x138
    replace b67 := b67.ext x138
    replace b90 := b90.ext x138
    replace b96 := b96.ext x138
    replace b102 := b102.ext x138
    replace b127 := b127.ext x138
    replace b133 := b133.ext x138
    refine vg rfl ?_
    refine vo ?_
    have hl143 := RN.lit (k := .i64) (xs := [_, _]) 2 b127 (by intro q hq; simp only [List.mem_cons, List.not_mem_nil, or_false] at hq; simp only [kb]; omega) (TT.up W121 _ (Nat.le_refl _))
    have hl144 := RN.lit (k := .i64) (xs := [_, _]) 2 b133 (by intro q hq; simp only [List.mem_cons, List.not_mem_nil, or_false] at hq; simp only [kb]; omega) (TT.up W125 _ (Nat.le_refl _))
    have hm145 : MI TT W137 (some ⟨W131.heap.size, 0, none⟩) 2 2 [[7, 2], [3, 6]] := ⟨[[.slice _ _ _], [.slice _ _ _]], RS.lit (S := TT) _ b139 rfl (by simp) trivial rfl (by omega), ⟨_, _, _, rfl, hl143⟩, ⟨_, _, _, rfl, hl144⟩, trivial⟩
    refine xcall e103 (rmInts_ok _ _ _ [[7, 2], [3, 6]] TT TT _ hm145 (by omega) (by intro r hr; simp at hr; rcases hr with rfl | rfl <;> simp <;> omega) (TT.up _)) rfl rfl ?_
    rintro _ W148 ⟨_, rn147, _, rfl, x149, hv146⟩
    have s150 := x149.sz
    have z151 := z142.trans x149
    replace b12 := b12.ext x149
    replace b31 := b31.ext x149
    replace b48 := b48.ext x149
    replace b67 := b67.ext x149
    replace b90 := b90.ext x149
    replace b96 := b96.ext x149
    replace b102 := b102.ext x149
    replace b127 := b127.ext x149
    replace b133 := b133.ext x149
    replace b139 := b139.ext x149
    obtain rfl : rn147 = 2 := by have := hv146.len; simpa using this.symm
    replace hv146 := hv146.cast (rss' := ([[7, 2], [3, 6]] : List (List Rat))) (by rfl)
    refine ⟨_, rfl, ?_⟩
    refine vg rfl ?_
    refine vo ?_
    refine xcall e42 (mIs_true _ (hv119.ext (((x126.trans x132).trans x138).trans x149)) hv146 rfl) rfl rfl ?_
    rintro _ W152 ⟨rfl, x153⟩
    have s154 := x153.sz
    have z155 := z151.trans x153
    replace b12 := b12.ext x153
    replace b31 := b31.ext x153
    replace b48 := b48.ext x153
    replace b67 := b67.ext x153
    replace b90 := b90.ext x153
    replace b96 := b96.ext x153
    replace b102 := b102.ext x153
    replace b127 := b127.ext x153
    replace b133 := b133.ext x153
    replace b139 := b139.ext x153
    refine ⟨_, rfl, ?_⟩
    refine vv (rpk (v := .bool true) rfl rfl) ?_
    refine mvb rfl ?_
    refine vg rfl ?_
    refine mvs rfl ?_
    refine vg rfl ?_
    refine mvf rfl ?_
    refine vg rfl ?_
    refine vo ?_
    refine xbs (ps := [(0, .int _ _)]) (cs := [.int _ _]) sl118 zr2 sz2 rfl rfl rfl rfl rfl rfl ?_
    intro W156 x157 b158 nn159
    have s160 := x157.sz
    have z161 := z155.trans x157
    replace b12 := b12.ext x157
    replace b31 := b31.ext x157
    replace b48 := b48.ext x157
    replace b67 := b67.ext x157
    replace b90 := b90.ext x157
    replace b96 := b96.ext x157
    replace b102 := b102.ext x157
    replace b127 := b127.ext x157
    replace b133 := b133.ext x157
    replace b139 := b139.ext x157
    refine vg rfl ?_
    refine vo ?_
    refine xbs (ps := [(0, .slice _ _ _)]) (cs := [.slice _ _ _]) sl119 zr118 sz118 rfl rfl rfl rfl rfl rfl ?_
    intro W162 x163 b164 nn165
    have s166 := x163.sz
    have z167 := z161.trans x163
    replace b12 := b12.ext x163
    replace b31 := b31.ext x163
    replace b48 := b48.ext x163
    replace b67 := b67.ext x163
    replace b90 := b90.ext x163
    replace b96 := b96.ext x163
    replace b102 := b102.ext x163
    replace b127 := b127.ext x163
    replace b133 := b133.ext x163
    replace b139 := b139.ext x163
    replace b158 := b158.ext x163
    refine vg rfl ?_
    refine vo ?_
    have hl168 := RN.lit (k := .i64) (xs := [_]) 1 b158 (by intro q hq; simp only [List.mem_cons, List.not_mem_nil, or_false] at hq; simp only [kb]; omega) (TT.up W152 _ (Nat.le_refl _))
    have hm169 : MI TT W162 (some ⟨W156.heap.size, 0, none⟩) 1 1 [[9]] := ⟨[[.slice _ _ _]], RS.lit (S := TT) _ b164 rfl (by simp) trivial rfl (by omega), ⟨_, _, _, rfl, hl168⟩, trivial⟩
    refine xcall e103 (rmInts_ok _ _ _ [[9]] TT TT _ hm169 (by omega) (by intro r hr; simp at hr; rcases hr with rfl <;> simp <;> omega) (TT.up _)) rfl rfl ?_
    rintro _ W172 ⟨_, rn171, _, rfl, x173, hv170⟩
    have s174 := x173.sz
    have z175 := z167.trans x173
    replace b12 := b12.ext x173
    replace b31 := b31.ext x173
    replace b48 := b48.ext x173
    replace b67 := b67.ext x173
    replace b90 := b90.ext x173
    replace b96 := b96.ext x173
    replace b102 := b102.ext x173
    replace b127 := b127.ext x173
    replace b133 := b133.ext x173
    replace b139 := b139.ext x173
    replace b158 := b158.ext x173
    replace b164 := b164.ext x173
    obtain rfl : rn171 = 1 := by have := hv170.len; simpa using this.symm
    replace hv170 := hv170.cast (rss' := ([[9]] : List (List Rat))) (by rfl)
    refine ⟨_, rfl, ?_⟩
    refine vg rfl ?_
    refine vo ?_
    refine xcall e84 (mConcat_ok _ _ _ _ _ _ 1 1 _ _ TT TT TT _ (((hm0.ext (((((((((((((((((((((((((((x6.trans x11).trans x20).trans x26).trans x30).trans x39).trans x43).trans x47).trans x56).trans x62).trans x66).trans x75).trans x79).trans x85).trans x89).trans x95).trans x101).trans x112).trans x116).trans x122).trans x126).trans x132).trans x138).trans x149).trans x153).trans x157).trans x163).trans x173))).ma (L := 1) (szM_B (by decide +kernel))) ((hv170).ma (L := 1) (szM_B (by decide +kernel))) (by omega) (by omega) (by omega) (by omega) (by omega) (by omega) (by decide) (TT.up _)) rfl rfl ?_
    rintro _ W178 ⟨_, rn177, _, rfl, x179, hv176⟩
    have s180 := x179.sz
    have z181 := z175.trans x179
    replace b12 := b12.ext x179
    replace b31 := b31.ext x179
    replace b48 := b48.ext x179
    replace b67 := b67.ext x179
    replace b90 := b90.ext x179
    replace b96 := b96.ext x179
    replace b102 := b102.ext x179
    replace b127 := b127.ext x179
    replace b133 := b133.ext x179
    replace b139 := b139.ext x179
    replace b158 := b158.ext x179
    replace b164 := b164.ext x179
    obtain rfl : rn177 = 2 := by have := hv176.len; exact this.symm.trans rfl
    replace hv176 := hv176.cast (rss' := ([[1, 2, 9], [3, 0, 0]] : List (List Rat))) (by decide +kernel)
    refine ⟨_, rfl, ?_⟩
    refine vg rfl ?_
    refine mvf rfl ?_
    refine vg rfl ?_
    refine vo ?_
    refine xbs (ps := [(0, .int _ _), (1, .int _ _), (2, .int _ _)]) (cs := [.int _ _, .int _ _, .int _ _]) sl118 zr2 sz2 rfl rfl rfl rfl rfl rfl ?_
    intro W182 x183 b184 nn185
    have s186 := x183.sz
    have z187 := z181.trans x183
    replace b12 := b12.ext x183
    replace b31 := b31.ext x183
    replace b48 := b48.ext x183
    replace b67 := b67.ext x183
    replace b90 := b90.ext x183
    replace b96 := b96.ext x183
    replace b102 := b102.ext x183
    replace b127 := b127.ext x183
    replace b133 := b133.ext x183
    replace b139 := b139.ext x183
    replace b158 := b158.ext x183
    replace b164 := b164.ext x183
    refine vg rfl ?_
    refine vo ?_
    refine xbs (ps := [(0, .int _ _), (1, .int _ _), (2, .int _ _)]) (cs := [.int _ _, .int _ _, .int _ _]) sl118 zr2 sz2 rfl rfl rfl rfl rfl rfl ?_
    intro W188 x189 b190 nn191
    have s192 := x189.sz
    have z193 := z187.trans x189
    replace b12 := b12.ext x189
    replace b31 := b31.ext x189
    replace b48 := b48.ext x189
    replace b67 := b67.ext x189
    replace b90 := b90.ext x189
    replace b96 := b96.ext x189
    replace b102 := b102.ext x189
    replace b127 := b127.ext x189
    replace b133 := b133.ext x189
    replace b139 := b139.ext x189
    replace b158 := b158.ext x189
    replace b164 := b164.ext x189
    replace b184 := b184.ext x189
    refine vg rfl ?_
    refine vo ?_
    refine xbs (ps := [(0, .slice _ _ _), (1, .slice _ _ _)]) (cs := [.slice _ _ _, .slice _ _ _]) sl119 zr118 sz118 rfl rfl rfl rfl rfl rfl ?_
    intro W194 x195 b196 nn197
    have s198 := x195.sz
    have z199 := z193.trans x195
    replace b12 := b12.ext x195
    replace b31 := b31.ext x195
    replace b48 := b48.ext x195
    replace b67 := b67.ext x195
    replace b90 := b90.ext x195
    replace b96 := b96.ext x195
    replace b102 := b102.ext x195
    replace b127 := b127.ext x195
    replace b133 := b133.ext x195
    replace b139 := b139.ext x195
    replace b158 := b158.ext x195
    replace b164 := b164.ext x195
    replace b184 := b184.ext x195
    replace b190 := b190.ext x195
    refine vg rfl ?_
    refine vo ?_
    have hl200 := RN.lit (k := .i64) (xs := [_, _, _]) 3 b184 (by intro q hq; simp only [List.mem_cons, List.not_mem_nil, or_false] at hq; simp only [kb]; omega) (TT.up W178 _ (Nat.le_refl _))
    have hl201 := RN.lit (k := .i64) (xs := [_, _, _]) 3 b190 (by intro q hq; simp only [List.mem_cons, List.not_mem_nil, or_false] at hq; simp only [kb]; omega) (TT.up W182 _ (Nat.le_refl _))
    have hm202 : MI TT W194 (some ⟨W188.heap.size, 0, none⟩) 2 2 [[1, 2, 9], [3, 0, 0]] := ⟨[[.slice _ _ _], [.slice _ _ _]], RS.lit (S := TT) _ b196 rfl (by simp) trivial rfl (by omega), ⟨_, _, _, rfl, hl200⟩, ⟨_, _, _, rfl, hl201⟩, trivial⟩
    refine xcall e103 (rmInts_ok _ _ _ [[1, 2, 9], [3, 0, 0]] TT TT _ hm202 (by omega) (by intro r hr; simp at hr; rcases hr with rfl | rfl <;> simp <;> omega) (TT.up _)) rfl rfl ?_
    rintro _ W205 ⟨_, rn204, _, rfl, x206, hv203⟩
    have s207 := x206.sz
    have z208 := z199.trans x206
    replace b12 := b12.ext x206
    replace b31 := b31.ext x206
    replace b48 := b48.ext x206
    replace b67 := b67.ext x206
    replace b90 := b90.ext x206
    replace b96 := b96.ext x206
    replace b102 := b102.ext x206
    replace b127 := b127.ext x206
    replace b133 := b133.ext x206
    replace b139 := b139.ext x206
    replace b158 := b158.ext x206
    replace b164 := b164.ext x206
    replace b184 := b184.ext x206
    replace b190 := b190.ext x206
    replace b196 := b196.ext x206
    obtain rfl : rn204 = 2 := by have := hv203.len; simpa using this.symm
    replace hv203 := hv203.cast (rss' := ([[1, 2, 9], [3, 0, 0]] : List (List Rat))) (by rfl)
    refine ⟨_, rfl, ?_⟩
    refine vg rfl ?_
    refine vo ?_
    refine xcall e42 (mIs_true _ (hv176.ext (((x183.trans x189).trans x195).trans x206)) hv203 rfl) rfl rfl ?_
    rintro _ W209 ⟨rfl, x210⟩
    have s211 := x210.sz
    have z212 := z208.trans x210
    replace b12 := b12.ext x210
    replace b31 := b31.ext x210
    replace b48 := b48.ext x210
    replace b67 := b67.ext x210
    replace b90 := b90.ext x210
    replace b96 := b96.ext x210
    replace b102 := b102.ext x210
    replace b127 := b127.ext x210
    replace b133 := b133.ext x210
    replace b139 := b139.ext x210
    replace b158 := b158.ext x210
    replace b164 := b164.ext x210
    replace b184 := b184.ext x210
    replace b190 := b190.ext x210
    replace b196 := b196.ext x210
    refine ⟨_, rfl, ?_⟩
    refine vv (rpk (v := .bool true) rfl rfl) ?_
    refine asb rfl ?_
    refine vnil ?_
    refine V.ret ?_
    refine ⟨[.bool true], ⟨rfl, trivial⟩, ?_⟩
    exact ⟨rfl, z212⟩
end Go.Proofs.YtknbjfefeeojlaaGreat
/- From a walk to a row: an argument reads behind the call as it read before, where below the old size nothing has turned. -/
namespace Go.Proofs.YtknbjfefeeojlaaGreat
open Go.ChangeShapes Go.WideShapes Go.ChangeAt Go.RowKit
attribute [local irreducible] RV VH V OpF Calls
theorem Tryz.own : ownKnob Tryz.prog.godebug = none := by kernel_rfl
theorem Tryz.laidOut : laidOutB Tryz.prog = true := by kernel_rfl
theorem trodAll_stays {H : Type} {enc : TypeId × Value → H} {P : Program} (hl : laidOutB P = true) {W W' : World} {sp' : Nat → Bool} : ∀ {ts : List TypeId} {vs : List Value} {ds : List (DataW H)} {ps : List MemPlace}, (ts.all fun t => P.readableRec t && decide (t < P.types.size)) = true →
    DataW.TrodAll enc P W 0 (fun _ => true) true ts vs ds ps → (∀ p ∈ ps, W.sameAt W' p) → (∀ p ∈ ps, sp' p.block = true) → DataW.TrodAll enc P W' 0 sp' true ts vs ds ps
  | [], [], [], _, _, h, _, _ => h
  | t :: ts, v :: vs, d :: ds, ps, hr, ⟨p, q, h1, h2, e⟩, hs, hsp => by
    rw [List.all_cons, Bool.and_eq_true] at hr
    obtain ⟨hr1, hr2⟩ := hr
    rw [Bool.and_eq_true, decide_eq_true_eq] at hr1
    subst e
    exact ⟨p, q, WideElems.Trod_stays hl hr1.1 hr1.2 h1 (fun x hx => hs x (List.mem_append_left _ hx)) (fun x hx => hsp x (List.mem_append_left _ hx)),
      trodAll_stays hl hr2 h2 (fun x hx => hs x (List.mem_append_right _ hx)) (fun x hx => hsp x (List.mem_append_right _ hx)), rfl⟩
/-- A law's row, behind the walk: it returned true, and of what was there nothing has turned. -/
theorem post_law {H : Type} {enc : TypeId × Value → H} {P : Program} {f : Func} {s : ChangeSpec} {apart fresh handsOn again : Bool} {W W' : World} {args : Array Value} {ds : List (DataW H)} {before : List MemPlace} {tb : TypeId}
    (hW : DataW.Whole enc P f.params.toList s.vars apart W args.toList ds [] before) (hv : s.vars = []) (hl : laidOutB P = true) (hr : (f.params.toList.all fun t => P.readableRec t && decide (t < P.types.size)) = true)
    (hx : Below W.heap.size W W') (hf : s.fn H (ds ++ []) = { results := [.lit (.bool true)], args := ds }) (ht : f.resultTypes = #[tb]) (hb : P.underlying tb = some .bool) :
    s.post enc P f apart fresh handsOn again W args (.bool true) W' := by
  have hlt := hW.lt
  have hW' := hW
  obtain ⟨p, q, hA, hV, rfl, hz, hn⟩ := hW
  rw [hv] at hV
  have hq : q = [] := hV
  subst hq
  rw [List.append_nil] at hlt hz hn hW'
  have hsame : ∀ x ∈ p, W.sameAt W' x := fun x hx' => hx.same (hlt x hx')
  have harg : ∀ sp : Nat → Bool, (∀ x ∈ p, sp x.block = true) → DataW.TrodAll enc P W' 0 sp true f.params.toList args.toList ds p := fun sp hsp => trodAll_stays hl hr hA hsame hsp
  have hlist : (Value.bool true).resultList f.resultTypes.size = [.bool true] := by rw [ht]; rfl
  have hres : ∀ (b : Nat) (sp : Nat → Bool) (hd : Bool), DataW.TrodAll enc P W' b sp hd f.resultTypes.toList ((Value.bool true).resultList f.resultTypes.size) (s.fn H (ds ++ [])).results [] := fun b sp hd => by
    rw [hlist, ht, hf]; exact trodAll_mk1 (shut_bool hb true)
  have harg' : ∀ sp : Nat → Bool, (∀ x ∈ p, sp x.block = true) → DataW.TrodAll enc P W' 0 sp true f.params.toList args.toList (s.fn H (ds ++ [])).args p := fun sp hsp => by rw [hf]; exact harg sp hsp
  have hvar : ∀ sp : Nat → Bool, DataW.TrodVars enc P W' sp s.vars (s.fn H (ds ++ [])).vars [] := fun sp => by rw [hv, hf]; rfl
  refine ⟨ds, [], p, [], p, [], hW', hres _ _ _, harg' _ (fun x hx' => by simpa using hlt x hx'), hvar _, World.keptBut_mono (fun x hx' => ⟨hx', .inr (by simpa using hx')⟩) (hx.frame _), fun _ => ?_⟩
  refine ⟨?_, _, _, ([] ++ p) ++ [], ⟨[] ++ p, [], trodAll_append (harg' _ (fun _ _ => rfl)) (hres _ _ _), hvar _, rfl, ?_, ?_⟩, ?_⟩
  · intro j t r h1 h2
    rw [hlist] at h2
    rw [ht] at h1
    cases j with
    | zero => simp at h1 h2; subst h1 h2; exact okWide_bool_mk hb true
    | succ j => simp at h1
  · intro b off hp
    have hp' : MemPlace.cell b off ∈ p := by simpa using hp
    rw [hx.frozen (hlt _ hp')]
    exact hz b off hp'
  · intro ha; simpa using hn ha
  · intro x hx' _; simpa using hx'
end Go.Proofs.YtknbjfefeeojlaaGreat
/- Parts of elements; sizes of raw vectors and matrices. -/
namespace Go.Proofs.YtknbjfefeeojlaaGreat
open Go.RowKit
attribute [local irreducible] RV VH V OpF Calls
theorem add_add (ad : Addr) (m j : Nat) : (ad.add m).add j = ad.add (m + j) := by
  unfold Addr.add
  by_cases hm : m = 0
  · subst hm; simp
  · by_cases hj : j = 0
    · subst hj; simp
    · simp [hm, hj]; omega
theorem CE.part {W : World} {ad : Addr} {l l' : List Value} (h : CE W ad l) (m : Nat) (e : (l.drop m).take l'.length = l') : CE W (ad.add m) l' := fun j u hj => by
  rw [add_add]
  refine h _ _ ?_
  rw [← e, List.getElem?_take] at hj
  split at hj
  · rwa [List.getElem?_drop] at hj
  · cases hj
section
variable {P : Program} {ρ : Operand → Value} {W : World} {d : Option Tmp} {ty T : TypeId} {pos : String} {af : Array Edge} {g : Option (Nat × Bool)} {x : Operand} {ad : Addr}
theorem rfaG {f off : Nat} (hx : ρ x = .pointer (some ad)) (hF : Fd P T f off) : (execOp ρ ⟨d, .fieldAddr T x f, ty, pos, af, g⟩).run P W = .ok (.value (.pointer (some (ad.add off)))) W := by
  obtain ⟨fs, fd, i, h1, h2, rfl, h4, h5⟩ := hF
  unfold execOp
  simp only [Instr.fieldAt, hx, Sem.run_bind, run_underlying h1, Result.andThen_ok, h2, Instr.sureAddr, Sem.run_pure, fieldPlace]
  have hs : (sizeOf fd.type).run P W = .ok i.size W := sizeOf_sz ⟨i, h4, rfl⟩
  simp [hs, h5]
end
theorem QX.two {S : Nat → Prop} {W : World} {n1 n2 : Bool} {a1 a2 : Option Addr} {l1 c1 l2 c2 : Nat} {ρ : RawQ} (h : QX S W [.bool n1, .slice a1 l1 c1, .bool n2, .slice a2 l2 c2] ρ) : n1 = ρ.n1 ∧ RN .u32 S W a1 l1 c1 ρ.xs ∧ n2 = ρ.n2 ∧ RN .u32 S W a2 l2 c2 ρ.ys := by
  obtain ⟨_, _, _, _, _, _, e, h1, h2⟩ := h
  simp only [List.cons.injEq, Value.bool.injEq, Value.slice.injEq, and_true] at e
  obtain ⟨rfl, ⟨rfl, rfl, rfl⟩, rfl, rfl, rfl, rfl⟩ := e
  exact ⟨rfl, h1, rfl, h2⟩
def form2 (q : List Value) : Prop := ∃ x a n c, q = [.bool x, .slice a n c]
def colsG {α : Type} (rss : List (List α)) : Nat := rss.foldl (fun m r => max m r.length) 0
theorem colsG_succ {α : Type} (rss : List (List α)) (k : Nat) (h : k < rss.length) : colsG (rss.take (k + 1)) = max (colsG (rss.take k)) (rowat rss k).length := by
  unfold colsG rowat
  rw [List.take_succ_eq_append_getElem h, List.foldl_append]
  simp [h]
theorem colsG_map {α β : Type} (f : α → β) (rss : List (List α)) : colsG (rss.map (·.map f)) = colsG rss := by
  unfold colsG; rw [List.foldl_map]; simp
theorem colsG_ge {α : Type} {rss : List (List α)} : ∀ r ∈ rss, r.length ≤ colsG rss := by
  have key : ∀ (l : List (List α)) (m : Nat), m ≤ l.foldl (fun m r => max m r.length) m ∧ ∀ r ∈ l, r.length ≤ l.foldl (fun m r => max m r.length) m := by
    intro l
    induction l with
    | nil => intro m; simp
    | cons x l ih =>
      intro m
      have := ih (max m x.length)
      simp only [List.foldl_cons, List.mem_cons]
      refine ⟨by omega, ?_⟩
      rintro r (rfl | hr)
      · omega
      · exact this.2 r hr
  exact (key rss 0).2
/-- Matrices among which no element is long. -/
abbrev MXX (S : Nat → Prop) (W : World) (a : Option Addr) (n c : Nat) (ms : List (List (List RawQ))) : Prop := MG MX S W a n c ms
theorem okRowMX : ElOK (RowOf MX) := ⟨fun ⟨a, n, c, e, h⟩ k => ⟨a, n, c, e, MG.ck okRowX h k⟩, fun ⟨a, n, c, e, h⟩ k => ⟨a, n, c, e, MG.sub okRowX h k⟩⟩
theorem MXX.ext {S : Nat → Prop} {W W' : World} {a : Option Addr} {n c : Nat} {ms : List (List (List RawQ))} (h : MXX S W a n c ms) (x : Ext W W') : MXX S W' a n c ms := MG.ck okRowMX h (x.ck _)
def smallV (r : List RawQ) : Prop := ∀ ρ ∈ r, szQ 6 ρ
def smallM (m : List (List RawQ)) : Prop := m.length ≤ 8 ∧ colsG m ≤ 8 ∧ ∀ r ∈ m, r.length ≤ 20 ∧ smallV r
theorem forall_lt {α : Type} (d : α) {p : α → Prop} {l : List α} {n : Nat} (hn : l.length ≤ n) (h : ∀ i, i < n → p (l.getD i d)) : ∀ x ∈ l, p x := fun x hx => by
  obtain ⟨i, hi⟩ := List.getElem?_of_mem hx
  have := h i (by have := (List.getElem?_eq_some_iff.1 hi).1; omega)
  rwa [List.getD_eq_getElem?_getD, hi] at this
section
variable {r : Option Nat} {P : Program} {ops : Array Oper} {R : Env → World → Prop} {E : Env} {W : World} {t : Tmp} {t1 t2 ty : TypeId} {pos : String} {af : Array Edge} {S : World → Prop} {fuel : Nat} {listed : Array Bool} {x y : Operand} {k : IntKind} {m n : Int}
theorem tkGt {g : Option (Nat × Bool)} (i : Nat) (hi : ops[i]? = some ⟨some t, .binOp .gtr t1 x y t2, ty, pos, af, g⟩) (hf : (Region.noSelect ops && Region.free .any ops listed i && (Region.ready .any ops listed).contains i) = true) (hS : S W) (hx : ev E x = .int k m) (hy : ev E y = .int k n)
    (hp : ∀ q, (∀ W, S W → (execOp (ev E) ⟨some t, .binOp .gtr t1 x y t2, ty, pos, af, g⟩).run P W = .ok (.value (.bool q)) W) → PureIf P ops S ⟨some t, .binOp .gtr t1 x y t2, ty, pos, af, g⟩ (.bool q) E)
    (kt : n < m → VH r P ops S R fuel (listed.setIfInBounds i true) (up E t (.bool true)) W) (kf : m ≤ n → VH r P ops S R fuel (listed.setIfInBounds i true) (up E t (.bool false)) W) : VH r P ops S R (fuel + 1) listed E W := by
  by_cases h : n < m
  · exact tk i hi hf hS (hp true fun W _ => rcmp (cGt (decide_eq_true h)) rfl hx hy) (kt h)
  · exact tk i hi hf hS (hp false fun W _ => rcmp (cGt (decide_eq_false h)) rfl hx hy) (kf (by omega))
theorem tkLt {g : Option (Nat × Bool)} (i : Nat) (hi : ops[i]? = some ⟨some t, .binOp .lss t1 x y t2, ty, pos, af, g⟩) (hf : (Region.noSelect ops && Region.free .any ops listed i && (Region.ready .any ops listed).contains i) = true) (hS : S W) (hx : ev E x = .int k m) (hy : ev E y = .int k n)
    (hp : ∀ q, (∀ W, S W → (execOp (ev E) ⟨some t, .binOp .lss t1 x y t2, ty, pos, af, g⟩).run P W = .ok (.value (.bool q)) W) → PureIf P ops S ⟨some t, .binOp .lss t1 x y t2, ty, pos, af, g⟩ (.bool q) E)
    (kt : m < n → VH r P ops S R fuel (listed.setIfInBounds i true) (up E t (.bool true)) W) (kf : n ≤ m → VH r P ops S R fuel (listed.setIfInBounds i true) (up E t (.bool false)) W) : VH r P ops S R (fuel + 1) listed E W := by
  by_cases h : m < n
  · exact tk i hi hf hS (hp true fun W _ => rcmp (cLt (decide_eq_true h)) rfl hx hy) (kt h)
  · exact tk i hi hf hS (hp false fun W _ => rcmp (cLt (decide_eq_false h)) rfl hx hy) (kf (by omega))
theorem tkGe {g : Option (Nat × Bool)} (i : Nat) (hi : ops[i]? = some ⟨some t, .binOp .geq t1 x y t2, ty, pos, af, g⟩) (hf : (Region.noSelect ops && Region.free .any ops listed i && (Region.ready .any ops listed).contains i) = true) (hS : S W) (hx : ev E x = .int k m) (hy : ev E y = .int k n)
    (hp : ∀ q, (∀ W, S W → (execOp (ev E) ⟨some t, .binOp .geq t1 x y t2, ty, pos, af, g⟩).run P W = .ok (.value (.bool q)) W) → PureIf P ops S ⟨some t, .binOp .geq t1 x y t2, ty, pos, af, g⟩ (.bool q) E)
    (kt : n ≤ m → VH r P ops S R fuel (listed.setIfInBounds i true) (up E t (.bool true)) W) (kf : m < n → VH r P ops S R fuel (listed.setIfInBounds i true) (up E t (.bool false)) W) : VH r P ops S R (fuel + 1) listed E W := by
  by_cases h : n ≤ m
  · exact tk i hi hf hS (hp true fun W _ => rcmp (cGe (decide_eq_true h)) rfl hx hy) (kt h)
  · exact tk i hi hf hS (hp false fun W _ => rcmp (cGe (decide_eq_false h)) rfl hx hy) (kf (by omega))
theorem tkLe {g : Option (Nat × Bool)} (i : Nat) (hi : ops[i]? = some ⟨some t, .binOp .leq t1 x y t2, ty, pos, af, g⟩) (hf : (Region.noSelect ops && Region.free .any ops listed i && (Region.ready .any ops listed).contains i) = true) (hS : S W) (hx : ev E x = .int k m) (hy : ev E y = .int k n)
    (hp : ∀ q, (∀ W, S W → (execOp (ev E) ⟨some t, .binOp .leq t1 x y t2, ty, pos, af, g⟩).run P W = .ok (.value (.bool q)) W) → PureIf P ops S ⟨some t, .binOp .leq t1 x y t2, ty, pos, af, g⟩ (.bool q) E)
    (kt : m ≤ n → VH r P ops S R fuel (listed.setIfInBounds i true) (up E t (.bool true)) W) (kf : n < m → VH r P ops S R fuel (listed.setIfInBounds i true) (up E t (.bool false)) W) : VH r P ops S R (fuel + 1) listed E W := by
  by_cases h : m ≤ n
  · exact tk i hi hf hS (hp true fun W _ => rcmp (cLe (decide_eq_true h)) rfl hx hy) (kt h)
  · exact tk i hi hf hS (hp false fun W _ => rcmp (cLe (decide_eq_false h)) rfl hx hy) (kf (by omega))
theorem tkEq {g : Option (Nat × Bool)} (i : Nat) (hi : ops[i]? = some ⟨some t, .binOp .eql t1 x y t2, ty, pos, af, g⟩) (hf : (Region.noSelect ops && Region.free .any ops listed i && (Region.ready .any ops listed).contains i) = true) (hS : S W) (hx : ev E x = .int k m) (hy : ev E y = .int k n)
    (hp : ∀ q, (∀ W, S W → (execOp (ev E) ⟨some t, .binOp .eql t1 x y t2, ty, pos, af, g⟩).run P W = .ok (.value (.bool q)) W) → PureIf P ops S ⟨some t, .binOp .eql t1 x y t2, ty, pos, af, g⟩ (.bool q) E)
    (kt : m = n → VH r P ops S R fuel (listed.setIfInBounds i true) (up E t (.bool true)) W) (kf : m ≠ n → VH r P ops S R fuel (listed.setIfInBounds i true) (up E t (.bool false)) W) : VH r P ops S R (fuel + 1) listed E W := by
  by_cases h : m = n
  · exact tk i hi hf hS (hp true fun W _ => rcmp (cEq (decide_eq_true h)) rfl hx hy) (kt h)
  · exact tk i hi hf hS (hp false fun W _ => rcmp (cEq (decide_eq_false h)) rfl hx hy) (kf (by omega))
theorem tkNe {g : Option (Nat × Bool)} (i : Nat) (hi : ops[i]? = some ⟨some t, .binOp .neq t1 x y t2, ty, pos, af, g⟩) (hf : (Region.noSelect ops && Region.free .any ops listed i && (Region.ready .any ops listed).contains i) = true) (hS : S W) (hx : ev E x = .int k m) (hy : ev E y = .int k n)
    (hp : ∀ q, (∀ W, S W → (execOp (ev E) ⟨some t, .binOp .neq t1 x y t2, ty, pos, af, g⟩).run P W = .ok (.value (.bool q)) W) → PureIf P ops S ⟨some t, .binOp .neq t1 x y t2, ty, pos, af, g⟩ (.bool q) E)
    (kt : m ≠ n → VH r P ops S R fuel (listed.setIfInBounds i true) (up E t (.bool true)) W) (kf : m = n → VH r P ops S R fuel (listed.setIfInBounds i true) (up E t (.bool false)) W) : VH r P ops S R (fuel + 1) listed E W := by
  by_cases h : m ≠ n
  · exact tk i hi hf hS (hp true fun W _ => rcmp (cNe (decide_eq_true h)) rfl hx hy) (kt h)
  · exact tk i hi hf hS (hp false fun W _ => rcmp (cNe (decide_eq_false h)) rfl hx hy) (kf (by omega))
end
end Go.Proofs.YtknbjfefeeojlaaGreat
/- What an argument that reads as data is: slices, integers, structs. -/
namespace Go.Proofs.YtknbjfefeeojlaaGreat
open Go.ChangeShapes Go.WideShapes Go.ChangeAt Go.RowKit
attribute [local irreducible] RV VH V OpF Calls
theorem mapM_some {α β : Type} {f : α → Option β} : ∀ {xs : List α} {ys : List β}, xs.mapM f = some ys → All2 (fun x y => f x = some y) xs ys
  | [], ys, h => by simp at h; subst h; trivial
  | x :: xs, ys, h => by
    rw [List.mapM_cons] at h
    cases hx : f x with
    | none => rw [hx] at h; simp at h
    | some y =>
      cases hr : xs.mapM f with
      | none => rw [hx, hr] at h; simp at h
      | some zs =>
        rw [hx, hr] at h
        simp at h
        subst h
        exact ⟨hx, mapM_some hr⟩
theorem range_some {β : Type} {f : Nat → Option β} {n : Nat} {ys : List β} (h : (List.range n).mapM f = some ys) : ys.length = n ∧ ∀ i, i < n → f i = ys[i]? := by
  have h1 := mapM_some h
  have hl := h1.len
  simp at hl
  refine ⟨hl.symm, fun i hi => ?_⟩
  obtain ⟨y, hy, hf⟩ := h1.get (k := i) (x := i) (by simp [hi])
  rw [hf, hy]
section
variable {H : Type} {enc : TypeId × Value → H} {P : Program} {W : World} {t e : TypeId} {s fuel : Nat} {cs : List Value} {x : DataW H × List MemPlace}
theorem open_sl (ht : P.underlying t = some (.slice e)) (hc : P.cellsOf e = s) (hs : 0 < s) (h : DataW.trod enc P W 0 (fun _ => true) true fuel t cs = some x) :
    ∃ a n c fuel' ys qs, cs = [.slice a n c] ∧ RS s TT W a n c qs ∧ All2 (fun q (y : DataW H × List MemPlace) => DataW.trod enc P W 0 (fun _ => true) true fuel' e q = some y) qs ys ∧ ((x.1 = .nil ∧ ys = []) ∨ ∃ rest, x.1 = .slice (ys.map (·.1)) rest) := by
  cases fuel with
  | zero => simp [DataW.trod] at h
  | succ fuel =>
    unfold DataW.trod at h
    rw [ht] at h
    match cs, h with
    | [.slice none 0 0], h =>
      simp at h; subst h
      exact ⟨none, 0, 0, fuel, [], [], rfl, RS.nil _ _ _ _ _ (by omega), trivial, .inl ⟨rfl, rfl⟩⟩
    | [.slice (some ad) len cap], h =>
      simp only at h
      split at h
      · rename_i hb
        obtain ⟨_, hlc, hcm⟩ := hb
        cases he : (List.range len).mapM (fun i => (W.cells? 0 (ad.add (i * P.cellsOf e)) (P.cellsOf e)).bind (DataW.trod enc P W 0 (fun _ => true) true fuel e)) with
        | none => rw [he] at h; simp at h
        | some ys =>
          rw [he] at h
          simp only [Option.bind_some, if_true, Option.map_eq_some_iff] at h
          obtain ⟨rest, _, rfl⟩ := h
          obtain ⟨hl, hg⟩ := range_some he
          have hq : ∀ i, i < len → ∃ q, W.cells? 0 (ad.add (i * s)) s = some q ∧ ∃ y, ys[i]? = some y ∧ DataW.trod enc P W 0 (fun _ => true) true fuel e q = some y := fun i hi => by
            have := hg i hi
            rw [hc] at this
            have hlt : i < ys.length := by omega
            rw [List.getElem?_eq_getElem hlt, Option.bind_eq_some_iff] at this
            obtain ⟨q, h1, h2⟩ := this
            exact ⟨q, h1, _, List.getElem?_eq_getElem hlt, h2⟩
          have hcell : ∀ i q, W.cells? 0 (ad.add (i * s)) s = some q → q.length = s ∧ ∀ j u, q[j]? = some u → W.cell? ((ad.add (i * s)).add j) = some u := fun i q h1 => by
            unfold World.cells? at h1
            rw [if_pos (Nat.zero_le _)] at h1
            obtain ⟨h2, h3⟩ := range_some h1
            refine ⟨h2, fun j u hj => ?_⟩
            rw [h3 j (by have := (List.getElem?_eq_some_iff.1 hj).1; omega), hj]
          refine ⟨some ad, len, cap, fuel, ys, (List.range len).map (fun i => (W.cells? 0 (ad.add (i * s)) s).getD []), rfl, ?_, ?_, .inr ⟨_, rfl⟩⟩
          · refine ⟨by simp, hlc, by unfold maxLen at hcm; omega, ?_, fun hn => ?_⟩
            · intro q hq'
              obtain ⟨i, hi, rfl⟩ := List.mem_map.1 hq'
              obtain ⟨q, h1, _⟩ := hq i (by simpa using hi)
              rw [h1]; exact (hcell i q h1).1
            · obtain ⟨q0, h1, _⟩ := hq 0 hn
              obtain ⟨h2, h3⟩ := hcell 0 q0 h1
              have h4 : 0 < q0.length := by omega
              have h5 := h3 0 _ (List.getElem?_eq_getElem h4)
              rw [add_add] at h5
              have e0 : ad.add (0 * s + 0) = ad := by unfold Addr.add; simp
              rw [e0] at h5
              unfold World.cell? at h5
              cases hh : W.heap[ad.block]? with
              | none => rw [hh] at h5; simp at h5
              | some o =>
                rw [hh] at h5
                cases o with
                | cells c T fz =>
                  obtain ⟨bk, of, sp⟩ := ad
                  cases sp with
                  | some z => simp at h5
                  | none =>
                    refine ⟨bk, of, c, T, fz, rfl, trivial, hh, fun k q hk j u hj => ?_⟩
                    rw [List.getElem?_map] at hk
                    obtain ⟨i, hi, rfl⟩ := Option.map_eq_some_iff.1 hk
                    have hlt : k < len := by have := (List.getElem?_eq_some_iff.1 hi).1; simpa using this
                    rw [List.getElem?_range hlt] at hi
                    obtain rfl : k = i := by injection hi
                    obtain ⟨q, h6, _⟩ := hq k hlt
                    rw [h6] at hj
                    have h7 := (hcell k q h6).2 j u hj
                    rw [add_add, addO] at h7
                    unfold World.cell? at h7
                    rw [hh] at h7
                    simp only [Option.isSome_none, Bool.false_eq_true, if_false] at h7
                    rw [Nat.add_assoc]; exact h7
                | _ => simp at h5
          · have key : ∀ (l : List Nat) (zs : List (DataW H × List MemPlace)), l.length = zs.length → (∀ (k i : Nat), l[k]? = some i → ∃ q, W.cells? 0 (ad.add (i * s)) s = some q ∧ ∃ y, zs[k]? = some y ∧ DataW.trod enc P W 0 (fun _ => true) true fuel e q = some y) →
                All2 (fun q (y : DataW H × List MemPlace) => DataW.trod enc P W 0 (fun _ => true) true fuel e q = some y) (l.map (fun i => (W.cells? 0 (ad.add (i * s)) s).getD [])) zs := by
              intro l
              induction l with
              | nil => intro zs hz _; cases zs with
                | nil => trivial
                | cons _ _ => simp at hz
              | cons i l ih => intro zs hz hk; cases zs with
                | nil => simp at hz
                | cons z zs =>
                  obtain ⟨q, h1, y, h2, h3⟩ := hk 0 i rfl
                  simp at h2; subst h2
                  refine ⟨?_, ih zs (by simpa using hz) fun k i hi => hk (k + 1) i hi⟩
                  show DataW.trod _ _ _ _ _ _ _ _ ((W.cells? 0 (ad.add (i * s)) s).getD []) = _
                  rw [h1]; exact h3
            refine key _ _ (by simp [hl]) fun k i hk => ?_
            have h1 : k < len := by have := (List.getElem?_eq_some_iff.1 hk).1; simpa using this
            rw [List.getElem?_range h1] at hk
            obtain rfl : k = i := by injection hk
            exact hq k h1
      · cases h
theorem All2.ex {α β γ : Type} {p : α → β → Prop} {q : α → γ → Prop} (h : ∀ x y, p x y → ∃ z, q x z) : ∀ {xs : List α} {ys : List β}, All2 p xs ys → ∃ zs, All2 q xs zs
  | [], [], _ => ⟨[], trivial⟩
  | x :: xs, y :: ys, ⟨h1, h2⟩ => by
    obtain ⟨z, hz⟩ := h x y h1
    obtain ⟨zs, hzs⟩ := All2.ex h h2
    exact ⟨z :: zs, hz, hzs⟩
/-- A slice of whole numbers. -/
theorem RN.of_rs {k : IntKind} {a : Option Addr} {n c : Nat} {qs : List (List Value)} {xs : List Int} (h : RS 1 TT W a n c qs) (hq : All2 (fun q z => q = [.int k z] ∧ kb k z) qs xs) : RN k TT W a n c xs := by
  have hl := hq.len
  refine ⟨by rw [← hl]; exact h.len, h.cap, h.max, fun z hz => ?_, fun hn => ?_⟩
  · obtain ⟨i, hi⟩ := List.getElem?_of_mem hz
    have hlt : i < qs.length := by rw [hl]; exact (List.getElem?_eq_some_iff.1 hi).1
    obtain ⟨y, e, _, hk⟩ := hq.get (List.getElem?_eq_getElem hlt)
    rw [hi] at e; cases e; exact hk
  · obtain ⟨b, off, cs, T, fz, e, hs, hb, hc⟩ := h.at_ hn
    refine ⟨b, off, cs, T, fz, e, hs, hb, fun j hj => ?_⟩
    have hlt : j < qs.length := by rw [h.len]; exact hj
    obtain ⟨y, e2, e3, _⟩ := hq.get (List.getElem?_eq_getElem hlt)
    have := hc j _ (List.getElem?_eq_getElem hlt) 0 (.int k y) (by rw [e3]; rfl)
    rw [Nat.mul_one, Nat.add_zero] at this
    rw [this]
    unfold wd
    rw [List.getD_eq_getElem?_getD, Int.toNat_natCast, e2]; rfl
theorem open_num {k : IntKind} (ht : P.underlying t = some (.int k)) (h : DataW.trod enc P W 0 (fun _ => true) true fuel t cs = some x) (hw : ∀ z, (Lit.int k z).wf = true → kb k z) : ∃ z, cs = [.int k z] ∧ kb k z := by
  cases fuel with
  | zero => simp [DataW.trod] at h
  | succ fuel =>
    unfold DataW.trod at h
    rw [ht] at h
    match cs, h with
    | [.int k' z], h =>
      simp only at h
      split at h
      · rename_i hb; obtain ⟨rfl, hz⟩ := hb; exact ⟨z, rfl, hw z hz⟩
      · cases h
theorem open_boo (ht : P.underlying t = some .bool) (h : DataW.trod enc P W 0 (fun _ => true) true fuel t cs = some x) : ∃ b, cs = [.bool b] := by
  cases fuel with
  | zero => simp [DataW.trod] at h
  | succ fuel =>
    unfold DataW.trod at h
    rw [ht] at h
    match cs, h with
    | [.bool b], h => exact ⟨b, rfl⟩
theorem open_st {fs : Array Field} (ht : P.underlying t = some (.struct fs)) (h : DataW.trod enc P W 0 (fun _ => true) true fuel t cs = some x) :
    ∃ fuel' ys, cs.length = P.cellsOf t ∧ All2 (fun (f : Field) (y : DataW H × List MemPlace) => DataW.trod enc P W 0 (fun _ => true) true fuel' f.type ((cs.drop f.offset).take (P.cellsOf f.type)) = some y) fs.toList ys := by
  cases fuel with
  | zero => simp [DataW.trod] at h
  | succ fuel =>
    unfold DataW.trod at h
    rw [ht] at h
    simp only at h
    split at h
    · rename_i hl
      rw [Option.map_eq_some_iff] at h
      obtain ⟨ys, h1, _⟩ := h
      exact ⟨fuel, ys, hl, mapM_some h1⟩
    · cases h
theorem wf_u32 (z : Int) (h : (Lit.int .u32 z).wf = true) : kb .u32 z := by
  have h1 : IntKind.u32.min = 0 := rfl
  have h2 : IntKind.u32.max = 4294967295 := rfl
  simp only [Lit.wf, Bool.and_eq_true, decide_eq_true_eq] at h
  unfold kb; simp only; omega
theorem wf_i64 (z : Int) (h : (Lit.int .i64 z).wf = true) : kb .i64 z := by
  have h1 : IntKind.i64.min = -9223372036854775808 := rfl
  have h2 : IntKind.i64.max = 9223372036854775807 := rfl
  simp only [Lit.wf, Bool.and_eq_true, decide_eq_true_eq] at h
  unfold kb; simp only; omega
/-- A slice of whole numbers that came in. -/
theorem open_RN {k : IntKind} (ht : P.underlying t = some (.slice e)) (hc : P.cellsOf e = 1) (he : P.underlying e = some (.int k)) (hw : ∀ z, (Lit.int k z).wf = true → kb k z) (h : DataW.trod enc P W 0 (fun _ => true) true fuel t cs = some x) :
    ∃ a n c xs, cs = [.slice a n c] ∧ RN k TT W a n c xs ∧ ((x.1 = .nil ∧ xs = []) ∨ ∃ ds rest, x.1 = .slice ds rest ∧ ds.length = xs.length) := by
  obtain ⟨a, n, c, fuel', ys, qs, rfl, h1, h2, h3⟩ := open_sl ht hc (by omega) h
  obtain ⟨xs, h4⟩ := All2.ex (q := fun q z => q = [.int k z] ∧ kb k z) (fun q y hy => open_num he hy hw) h2
  refine ⟨a, n, c, xs, rfl, RN.of_rs h1 h4, ?_⟩
  have e1 := h2.len
  have e2 := h4.len
  rcases h3 with ⟨h5, rfl⟩ | ⟨rest, h5⟩
  · exact .inl ⟨h5, List.eq_nil_of_length_eq_zero (by rw [← e2, e1]; rfl)⟩
  · exact .inr ⟨_, rest, h5, by rw [List.length_map]; omega⟩
/-- A matrix of whole numbers that came in. -/
theorem open_MI {e2 : TypeId} (ht : P.underlying t = some (.slice e)) (hc : P.cellsOf e = 1) (he : P.underlying e = some (.slice e2)) (hc2 : P.cellsOf e2 = 1) (he2 : P.underlying e2 = some (.int .i64)) (h : DataW.trod enc P W 0 (fun _ => true) true fuel t cs = some x) :
    ∃ a n c zss, cs = [.slice a n c] ∧ MI TT W a n c zss ∧ ((x.1 = .nil ∧ zss = []) ∨ ∃ ds rest, x.1 = .slice ds rest ∧ All2 (fun (zs : List Int) (d : DataW H) => (d = .nil ∧ zs = []) ∨ ∃ ds rest, d = .slice ds rest ∧ ds.length = zs.length) zss ds) := by
  obtain ⟨a, n, c, fuel', ys, qs, rfl, h1, h2, h3⟩ := open_sl ht hc (by omega) h
  have key : ∀ {qs : List (List Value)} {ys : List (DataW H × List MemPlace)}, All2 (fun q y => DataW.trod enc P W 0 (fun _ => true) true fuel' e q = some y) qs ys →
      ∃ zss : List (List Int), All2 (RowOf (RN .i64) TT W) qs zss ∧ All2 (fun (zs : List Int) (d : DataW H) => (d = .nil ∧ zs = []) ∨ ∃ ds rest, d = .slice ds rest ∧ ds.length = zs.length) zss (ys.map (·.1)) := by
    intro qs
    induction qs with
    | nil => intro ys hy; cases ys with
      | nil => exact ⟨[], trivial, trivial⟩
      | cons _ _ => exact hy.elim
    | cons q qs ih => intro ys hy; cases ys with
      | nil => exact hy.elim
      | cons y ys =>
        obtain ⟨zss, i1, i2⟩ := ih hy.2
        obtain ⟨a', n', c', zs, rfl, j1, j2⟩ := open_RN he hc2 he2 wf_i64 hy.1
        exact ⟨zs :: zss, ⟨⟨_, _, _, rfl, j1⟩, i1⟩, ⟨j2, i2⟩⟩
  obtain ⟨zss, i1, i2⟩ := key h2
  refine ⟨a, n, c, zss, rfl, ⟨qs, h1, i1⟩, ?_⟩
  rcases h3 with ⟨h5, rfl⟩ | ⟨rest, h5⟩
  · refine .inl ⟨h5, ?_⟩
    cases zss with
    | nil => rfl
    | cons _ _ => exact i2.elim
  · exact .inr ⟨_, rest, h5, i2⟩
theorem two_fields {fs : Array Field} {f0 f1 : Field} (he : fs.toList = [f0, f1]) {R : Field → (DataW H × List MemPlace) → Prop} {ys : List (DataW H × List MemPlace)} (h : All2 R fs.toList ys) : ∃ y0 y1, R f0 y0 ∧ R f1 y1 := by
  rw [he] at h
  match ys, h with
  | [y0, y1], h => exact ⟨y0, y1, h.1, h.2.1⟩
/-- A rational that came in. -/
theorem open_QX {tz ts tu tb : TypeId} {fs fz : Array Field} {f0 f1 g0 g1 : Field} (ht : P.underlying t = some (.struct fs)) (hf : fs.toList = [f0, f1]) (hz : P.underlying tz = some (.struct fz)) (hg : fz.toList = [g0, g1])
    (h0 : f0.type = tz ∧ f0.offset = 0 ∧ f1.type = tz ∧ f1.offset = 2 ∧ g0.type = tb ∧ g0.offset = 0 ∧ g1.type = ts ∧ g1.offset = 1) (hcz : P.cellsOf tz = 2) (hct : P.cellsOf t = 4) (hcb : P.cellsOf tb = 1) (hcs : P.cellsOf ts = 1) (hcu : P.cellsOf tu = 1)
    (hb : P.underlying tb = some .bool) (hs : P.underlying ts = some (.slice tu)) (hu : P.underlying tu = some (.int .u32)) (h : DataW.trod enc P W 0 (fun _ => true) true fuel t cs = some x) : ∃ ρ, QX TT W cs ρ := by
  obtain ⟨a1, a2, a3, a4, a5, a6, a7, a8⟩ := h0
  have hZ : ∀ {fuel : Nat} {cs : List Value} {x : DataW H × List MemPlace}, DataW.trod enc P W 0 (fun _ => true) true fuel tz cs = some x → ∃ n a l c xs, cs = [.bool n, .slice a l c] ∧ RN .u32 TT W a l c xs := by
    intro fuel cs x h
    obtain ⟨fuel', ys, hl, hy⟩ := open_st hz h
    obtain ⟨y0, y1, h1, h2⟩ := two_fields hg hy
    rw [a5, a6, hcb] at h1
    rw [a7, a8, hcs] at h2
    rw [hcz] at hl
    match cs, hl with
    | [u, v], _ =>
      obtain ⟨n, e1⟩ := open_boo hb h1
      obtain ⟨a, l, c, xs, e2, h3, _⟩ := open_RN hs hcu hu wf_u32 h2
      simp at e1 e2
      subst e1 e2
      exact ⟨n, a, l, c, xs, rfl, h3⟩
  obtain ⟨fuel', ys, hl, hy⟩ := open_st ht h
  obtain ⟨y0, y1, h1, h2⟩ := two_fields hf hy
  rw [a1, a2, hcz] at h1
  rw [a3, a4, hcz] at h2
  rw [hct] at hl
  match cs, hl with
  | [u0, u1, u2, u3], _ =>
    obtain ⟨n1, b1, l1, c1, xs, e1, k1⟩ := hZ h1
    obtain ⟨n2, b2, l2, c2, ys', e2, k2⟩ := hZ h2
    simp at e1 e2
    obtain ⟨rfl, rfl⟩ := e1
    obtain ⟨rfl, rfl⟩ := e2
    exact ⟨⟨n1, xs, n2, ys'⟩, _, _, _, _, _, _, rfl, k1, k2⟩
theorem open_GX (ht : P.underlying t = some (.slice e)) (hc : P.cellsOf e = 4) (he : ∀ {fuel : Nat} {cs : List Value} {x : DataW H × List MemPlace}, DataW.trod enc P W 0 (fun _ => true) true fuel e cs = some x → ∃ ρ, QX TT W cs ρ) (h : DataW.trod enc P W 0 (fun _ => true) true fuel t cs = some x) :
    ∃ a n c ρs, cs = [.slice a n c] ∧ GX TT W a n c ρs := by
  obtain ⟨a, n, c, fuel', ys, qs, rfl, h1, h2, h3⟩ := open_sl ht hc (by omega) h
  obtain ⟨ρs, h4⟩ := All2.ex (q := QX TT W) (fun q y hy => he hy) h2
  exact ⟨a, n, c, ρs, rfl, qs, h1, h4⟩
theorem open_MX (ht : P.underlying t = some (.slice e)) (hc : P.cellsOf e = 1) (he : ∀ {fuel : Nat} {cs : List Value} {x : DataW H × List MemPlace}, DataW.trod enc P W 0 (fun _ => true) true fuel e cs = some x → ∃ a n c ρs, cs = [.slice a n c] ∧ GX TT W a n c ρs) (h : DataW.trod enc P W 0 (fun _ => true) true fuel t cs = some x) :
    ∃ a n c ρss, cs = [.slice a n c] ∧ MX TT W a n c ρss := by
  obtain ⟨a, n, c, fuel', ys, qs, rfl, h1, h2, h3⟩ := open_sl ht hc (by omega) h
  obtain ⟨ρs, h4⟩ := All2.ex (q := RowOf GX TT W) (fun q y hy => by obtain ⟨a, n, c, ρs, e1, h5⟩ := he hy; exact ⟨ρs, a, n, c, e1, h5⟩) h2
  exact ⟨a, n, c, ρs, rfl, qs, h1, h4⟩
end
/-! ### In this program -/
section
variable {H : Type} {enc : TypeId × Value → H} {W : World} {fuel : Nat} {cs : List Value} {x : DataW H × List MemPlace}
theorem in_Q (h : DataW.trod enc Tryz.prog W 0 (fun _ => true) true fuel 48 cs = some x) : ∃ ρ, QX TT W cs ρ :=
  open_QX (tz := 46) (tb := 4) (tu := 164) Tryz.underlying48 rfl Tryz.underlying46 rfl ⟨rfl, rfl, rfl, rfl, rfl, rfl, rfl, rfl⟩ (by kernel_rfl) (by kernel_rfl) (by kernel_rfl) (by kernel_rfl) (by kernel_rfl) (by kernel_rfl) (by kernel_rfl) (by kernel_rfl) h
theorem in_GX (h : DataW.trod enc Tryz.prog W 0 (fun _ => true) true fuel 23 cs = some x) : ∃ a n c ρs, cs = [.slice a n c] ∧ GX TT W a n c ρs :=
  open_GX (e := 48) (by kernel_rfl) (by kernel_rfl) in_Q h
theorem in_MX (h : DataW.trod enc Tryz.prog W 0 (fun _ => true) true fuel 22 cs = some x) : ∃ a n c ρss, cs = [.slice a n c] ∧ MX TT W a n c ρss :=
  open_MX (e := 23) (by kernel_rfl) (by kernel_rfl) in_GX h
end
end Go.Proofs.YtknbjfefeeojlaaGreat
/- Packages pylonref04: Cols; pylonlaw01 to pylonlaw04: Long. -/
namespace Go.Proofs.YtknbjfefeeojlaaGreat
open Go.RowKit
attribute [local irreducible] RV VH V OpF Calls

set_option maxHeartbeats 400000 in
theorem rCols_ok (a1 : Option Addr) (n c : Nat) (rss : List (List RawQ)) (S1 : Nat → Prop) (w : World) (hx : MX S1 w a1 n c rss) :
    Calls Tryz.prog 36 #[.slice a1 n c] w (fun e w' => e = .returned (.int .i64 (colsG rss : Int)) ∧ w = w') := by
  have z0 := Ext.refl w; have hLX : LX = 17592186044416 := rfl; have hLY : LY = 8796093022208 := rfl
  have l1 := hx.len; have l2 := hx.max
  refine enter (args := [.slice a1 n c]) Tryz.func36 rfl rfl (Nat.le_of_ble_eq_true rfl) ?_
  refine V.seq (V.reg rfl ?_)
  refine asi rfl ?_
  refine vnil ?_
  refine V.seq (V.reg rfl ?_)
  refine asi rfl ?_
  refine vnil ?_
  refine V.seq ?_
  refine V.seq (V.reg rfl ?_)
  refine asi rfl ?_
  refine vnil ?_
  refine V.block ?_
  refine V.loopK (ι := Nat) [(0, .slice _ _ _), (2, .int _ _)] (fun k => [(4, .int .i64 (k : Int)), (3, .int .i64 (colsG (rss.take k) : Int))]) (fun k W => w = W ∧ k ≤ n) (fun k => n - k) (0) ⟨rfl, rfl, trivial⟩ ⟨rfl, rfl, trivial⟩ ⟨rfl, Nat.zero_le _⟩ ?_
  intro k E2 W1 h3
  obtain ⟨rfl, hk⟩ := h3
  refine V.seq ?_
  refine V.seq (V.reg rfl ?_)
  refine mvi rfl ?_
  refine mvs rfl ?_
  refine vv (rlen sl22 rfl) ?_
  refine vlt rfl rfl ?_ ?_
  · intro c4
    refine vnil ?_
    refine V.condT rfl ?_
    refine V.skip ?_
    refine V.seq ?_
    refine V.block ?_
    refine V.reg rfl ?_
    refine mvi rfl ?_
    refine mvs rfl ?_
    refine mvi rfl ?_
    refine vv (rix sl22 sz23 rfl rfl (by omega) (by omega) (hx.isS (i := 0) (by omega) (by omega))) ?_
    refine vldRow hx rfl sc23 (by omega) (by omega) ?_
    intro a5 n6 c7 hg8
    have hg8l := hg8.len; have hg8m := hg8.max
    refine vv (rlen sl23 rfl) ?_
    have ecs : max ((colsG (rss.take k) : Nat) : Int) ((rowat rss ((k : Int)).toNat).length : Nat) = (colsG (rss.take (k + 1)) : Int) := by rw [colsG_succ rss k (by omega)]; simp; omega
    rw [hg8l] at ecs
    refine vv (rmax rfl rfl ecs) ?_
    refine asi rfl ?_
    refine vnil ?_
    refine V.reg rfl ?_
    refine mvi rfl ?_
    refine vv (rbin (bAdd (wi (by omega))) rfl rfl) ?_
    refine asi rfl ?_
    refine vnil ?_
    refine ⟨rfl, k + 1, ⟨rfl, rfl, trivial⟩, ⟨rfl, rfl, trivial⟩, ⟨rfl, by omega⟩, ?_⟩
    show n - (k + 1) < n - k
    omega
  · intro c4
    refine vnil ?_
    refine V.condF rfl ?_
    refine V.exit ?_
    refine V.seq (V.reg rfl ?_)
    refine mvi rfl ?_
    refine asi rfl ?_
    refine vnil ?_
    refine V.ret ?_
    refine ⟨[.int _ _], ⟨rfl, trivial⟩, ?_⟩
    exact ⟨by rw [List.take_of_length_le (by omega)]; rfl, rfl⟩
set_option maxHeartbeats 400000 in
theorem long1_ok (a : Option Addr) (n c : Nat) (qs : List (List Value)) (S1 : Nat → Prop) (w : World) (h : RS 2 S1 w a n c qs) (hf : ∀ q ∈ qs, form2 q) :
    Calls Tryz.prog 143 #[.slice a n c] w (fun e w' => ∃ q, e = .returned (.bool q) ∧ w = w') := by
  have z0 := Ext.refl w; have hLX : LX = 17592186044416 := rfl; have hLY : LY = 8796093022208 := rfl
  have l1 := h.len; have l2 := h.cap; have l3 := h.max
  refine enter (args := [.slice a n c]) Tryz.func143 rfl rfl (Nat.le_of_ble_eq_true rfl) ?_
  refine V.seq (V.reg rfl ?_)
  refine asb rfl ?_
  refine vnil ?_
  refine V.seq ?_
  refine V.seq (V.reg rfl ?_)
  refine asi rfl ?_
  refine vnil ?_
  refine V.block ?_
  refine V.loopK (ι := Nat) [(0, .slice _ _ _)] (fun k => [(3, .int .i64 (k : Int))]) (fun k W => w = W ∧ k ≤ n) (fun k => n - k) (0) ⟨rfl, trivial⟩ ⟨rfl, trivial⟩ ⟨rfl, Nat.zero_le _⟩ ?_
  intro k E2 W1 h3
  obtain ⟨rfl, hk⟩ := h3
  refine V.seq ?_
  refine V.seq (V.reg rfl ?_)
  refine mvi rfl ?_
  refine mvs rfl ?_
  refine vv (rlen sl176 rfl) ?_
  refine vlt rfl rfl ?_ ?_
  · intro c4
    obtain ⟨eq0, hq1, hq2, hce⟩ := h.el (i := (k : Int)) (by omega) (by omega); obtain ⟨ex0, ea0, el0, ec0, rfl⟩ := hf _ (List.mem_of_getElem? hq1)
    have ce0 : CE w _ _ := hce
    refine vnil ?_
    refine V.condT rfl ?_
    refine V.skip ?_
    refine V.seq ?_
    refine V.block ?_
    refine V.seq (V.reg rfl ?_)
    refine mvs rfl ?_
    refine mvi rfl ?_
    refine vv (rix sl176 sz46 rfl rfl (by omega) (by omega) (h.isS (i := 0) (by omega) (by omega))) ?_
    refine vv (rfaG rfl fd46_1) ?_
    refine vv (rld1 (v := .slice _ _ _) rfl sc44 (ce0 1 _ rfl)) ?_
    refine vv (rlen sl44 rfl) ?_
    refine vgt rfl rfl ?_ ?_
    · intro c5
      refine vnil ?_
      refine V.condT rfl ?_
      refine V.seq (V.reg rfl ?_)
      refine asb rfl ?_
      refine vnil ?_
      refine V.ret ?_
      refine ⟨[.bool true], ⟨rfl, trivial⟩, ?_⟩
      exact ⟨_, rfl, rfl⟩
    · intro c5
      refine vnil ?_
      refine V.condF rfl ?_
      refine V.skip ?_
      refine V.reg rfl ?_
      refine mvi rfl ?_
      refine vv (rbin (bAdd (wi (by omega))) rfl rfl) ?_
      refine asi rfl ?_
      refine vnil ?_
      refine ⟨rfl, k + 1, ⟨rfl, trivial⟩, ⟨rfl, trivial⟩, ⟨rfl, by omega⟩, ?_⟩
      show n - (k + 1) < n - k
      omega
  · intro c4
    refine vnil ?_
    refine V.condF rfl ?_
    refine V.exit ?_
    refine V.seq (V.reg rfl ?_)
    refine asb rfl ?_
    refine vnil ?_
    refine V.ret ?_
    refine ⟨[.bool false], ⟨rfl, trivial⟩, ?_⟩
    exact ⟨_, rfl, rfl⟩
set_option maxHeartbeats 400000 in
theorem long2_ok (a1 : Option Addr) (n c : Nat) (ρs : List RawQ) (S1 : Nat → Prop) (w : World) (hx : GX S1 w a1 n c ρs) :
    Calls Tryz.prog 69 #[.slice a1 n c] w (fun e w' => ∃ q, e = .returned (.bool q) ∧ Ext w w' ∧ (q = false → smallV ρs)) := by
  have z0 := Ext.refl w; have hLX : LX = 17592186044416 := rfl; have hLY : LY = 8796093022208 := rfl
  have l1 := hx.len; have l2 := hx.max
  refine enter (args := [.slice a1 n c]) Tryz.func69 rfl rfl (Nat.le_of_ble_eq_true rfl) ?_
  refine V.seq (V.reg rfl ?_)
  refine asb rfl ?_
  refine vnil ?_
  refine V.seq ?_
  refine V.seq (V.reg rfl ?_)
  refine asi rfl ?_
  refine vnil ?_
  refine V.block ?_
  refine V.loopK (ι := Nat) [(0, .slice _ _ _)] (fun k => [(3, .int .i64 (k : Int))]) (fun k W => Ext w W ∧ k ≤ n ∧ ∀ i, i < k → szQ 6 (xat ρs i)) (fun k => n - k) (0) ⟨rfl, trivial⟩ ⟨rfl, trivial⟩ ⟨Ext.refl _, Nat.zero_le _, fun i hi => absurd hi (Nat.not_lt_zero _)⟩ ?_
  intro k E2 W1 h3
  obtain ⟨x4, hk, hs⟩ := h3
  have s5 := x4.sz
  have z6 := x4
  refine V.seq ?_
  refine V.seq (V.reg rfl ?_)
  refine mvi rfl ?_
  refine mvs rfl ?_
  refine vv (rlen sl23 rfl) ?_
  refine vlt rfl rfl ?_ ?_
  · intro c7
    obtain ⟨en0, ea0, el0, ec0, em0, eb0, ek0, ed0, hq0, hc0⟩ := (hx.ext z6).el (i := (k : Int)) (by omega) (by omega)
    have ce0 : CE W1 _ _ := hc0
    obtain ⟨hz1, hz2, hz3, hz4⟩ := hq0.two; have hzl := hz2.len; have hzm := hz4.len
    refine vnil ?_
    refine V.condT rfl ?_
    refine V.skip ?_
    refine V.seq ?_
    refine V.block ?_
    refine V.seq (V.regD mixed rfl ?_)
    intro W8 x9
    have s10 := x9.sz
    have z11 := z6.trans x9
    have q12 := Ext.refl W8
    refine tk 0 rfl (by kernel_rfl) q12 (pv (fun _ y13 => rmv (v := .slice _ _ _) rfl)) ?_
    refine tk 1 rfl (by kernel_rfl) q12 (pv (fun _ y14 => rmv (v := .int _ _) rfl)) ?_
    refine tk 2 rfl (by kernel_rfl) q12 (pv (fun _ y15 => rix sl23 sz48 rfl rfl (by omega) (by omega) (((hx.ext z11).ext y15).isS (i := 0) (by omega) (by omega)))) ?_
    refine tk 3 rfl (by kernel_rfl) q12 (pv (fun _ y16 => rfaG rfl fd48_0)) ?_
    refine tk 4 rfl (by kernel_rfl) q12 (pv (fun _ y17 => rldn (l := [.bool _, .slice _ _ _]) rfl ag46 rfl (((ce0.ext x9).ext y17).part (l' := [.bool _, .slice _ _ _]) 0 rfl))) ?_
    refine tk 5 rfl (by kernel_rfl) q12 (pv (fun _ y18 => rmv (v := .slice _ _ _) rfl)) ?_
    refine tk 6 rfl (by kernel_rfl) q12 (pv (fun _ y19 => rmv (v := .int _ _) rfl)) ?_
    refine tk 7 rfl (by kernel_rfl) q12 (pv (fun _ y20 => rix sl23 sz48 rfl rfl (by omega) (by omega) (((hx.ext z11).ext y20).isS (i := 0) (by omega) (by omega)))) ?_
    refine tk 8 rfl (by kernel_rfl) q12 (pv (fun _ y21 => rfaG rfl fd48_1)) ?_
    refine tk 9 rfl (by kernel_rfl) q12 (pv (fun _ y22 => rldn (l := [.bool _, .slice _ _ _]) rfl ag46 rfl (((ce0.ext x9).ext y22).part (l' := [.bool _, .slice _ _ _]) 2 rfl))) ?_
    refine ef 10 (by kernel_rfl) rfl ?_
    refine xbs (ps := [(0, .agg #[_, _]), (1, .agg #[_, _])]) (cs := [.bool _, .slice _ _ _, .bool _, .slice _ _ _]) sl176 zr46 sz46 rfl rfl rfl rfl rfl rfl ?_
    intro W23 x24 b25 nn26
    have s27 := x24.sz
    have z28 := z11.trans x24
    have q29 := q12.trans x24
    refine ⟨fun _ => q29, ?_⟩
    refine ef 11 (by kernel_rfl) rfl ?_
    have hls := RS.lit (s := 2) (S := TT) (n := 2) [[.bool _, .slice _ _ _], [.bool _, .slice _ _ _]] b25 rfl (by simp) trivial rfl (by omega)
    refine xcall e143 (long1_ok _ _ _ _ _ _ hls (by intro q hq; simp at hq; rcases hq with rfl | rfl <;> exact ⟨_, _, _, _, rfl⟩)) rfl rfl ?_
    rintro _ _ ⟨bb1, rfl, rfl⟩
    refine ⟨_, rfl, ?_⟩
    cases bb1
    · skip
      refine ⟨fun _ => q29, ?_⟩
      refine tk 12 rfl (by kernel_rfl) q29 (pv (fun _ y30 => rmv (v := .bool false) rfl)) ?_
      refine tk 13 rfl (by kernel_rfl) q29 (pg rfl (fun _ y31 => rmv (v := .slice _ _ _) rfl)) ?_
      refine tk 14 rfl (by kernel_rfl) q29 (pg rfl (fun _ y32 => rmv (v := .int _ _) rfl)) ?_
      refine tk 15 rfl (by kernel_rfl) q29 (pg rfl (fun _ y33 => rix sl23 sz48 rfl rfl (by omega) (by omega) (((hx.ext z11).ext y33).isS (i := 0) (by omega) (by omega)))) ?_
      refine tk 16 rfl (by kernel_rfl) q29 (pg rfl (fun _ y34 => rfaG rfl fd48_0)) ?_
      refine tk 17 rfl (by kernel_rfl) q29 (pg rfl (fun _ y35 => rfaG rfl fd46_1)) ?_
      refine tk 18 rfl (by kernel_rfl) q29 (pg rfl (fun _ y36 => rld1 (v := .slice _ _ _) rfl sc44 ((((ce0.ext x9).ext y36).part (l' := [.bool _, .slice _ _ _]) 0 rfl) 1 _ rfl))) ?_
      refine tk 19 rfl (by kernel_rfl) q29 (pg rfl (fun _ y37 => rlen sl44 rfl)) ?_
      refine tkGt 20 rfl (by kernel_rfl) q29 rfl rfl (fun _ h => pg rfl h) ?_ ?_
      · intro c39
        refine tk 21 rfl (by kernel_rfl) q29 (pv (fun _ y40 => rpk (v := .bool true) rfl rfl)) ?_
        refine tk 22 rfl (by kernel_rfl) q29 (pv (fun _ y41 => rmv (v := .bool true) rfl)) ?_
        refine tk 23 rfl (by kernel_rfl) q29 (pgn (b := true) rfl rfl) ?_
        refine tk 24 rfl (by kernel_rfl) q29 (pgn (b := true) rfl rfl) ?_
        refine tk 25 rfl (by kernel_rfl) q29 (pgn (b := true) rfl rfl) ?_
        refine tk 26 rfl (by kernel_rfl) q29 (pgn (b := true) rfl rfl) ?_
        refine tk 27 rfl (by kernel_rfl) q29 (pgn (b := true) rfl rfl) ?_
        refine tk 28 rfl (by kernel_rfl) q29 (pgn (b := true) rfl rfl) ?_
        refine tk 29 rfl (by kernel_rfl) q29 (pgn (b := true) rfl rfl) ?_
        refine tk 30 rfl (by kernel_rfl) q29 (pgn (b := true) rfl rfl) ?_
        refine tk 31 rfl (by kernel_rfl) q29 (pv (fun _ y42 => rpk (v := .bool true) rfl rfl)) ?_
        refine dn (by kernel_rfl) ?_
        refine V.condT rfl ?_
        refine V.seq (V.reg rfl ?_)
        refine asb rfl ?_
        refine vnil ?_
        refine V.ret ?_
        refine ⟨[.bool true], ⟨rfl, trivial⟩, ?_⟩
        exact ⟨_, rfl, z28, fun h => (by cases h)⟩
      · intro c39
        refine tk 21 rfl (by kernel_rfl) q29 (pv (fun _ y43 => rpk (v := .bool false) rfl rfl)) ?_
        refine tk 22 rfl (by kernel_rfl) q29 (pv (fun _ y44 => rmv (v := .bool false) rfl)) ?_
        refine tk 23 rfl (by kernel_rfl) q29 (pg rfl (fun _ y45 => rmv (v := .slice _ _ _) rfl)) ?_
        refine tk 24 rfl (by kernel_rfl) q29 (pg rfl (fun _ y46 => rmv (v := .int _ _) rfl)) ?_
        refine tk 25 rfl (by kernel_rfl) q29 (pg rfl (fun _ y47 => rix sl23 sz48 rfl rfl (by omega) (by omega) (((hx.ext z11).ext y47).isS (i := 0) (by omega) (by omega)))) ?_
        refine tk 26 rfl (by kernel_rfl) q29 (pg rfl (fun _ y48 => rfaG rfl fd48_1)) ?_
        refine tk 27 rfl (by kernel_rfl) q29 (pg rfl (fun _ y49 => rfaG rfl fd46_1)) ?_
        refine tk 28 rfl (by kernel_rfl) q29 (pg rfl (fun _ y50 => rld1 (v := .slice _ _ _) rfl sc44 ((((ce0.ext x9).ext y50).part (l' := [.bool _, .slice _ _ _]) 2 rfl) 1 _ rfl))) ?_
        refine tk 29 rfl (by kernel_rfl) q29 (pg rfl (fun _ y51 => rlen sl44 rfl)) ?_
        refine tkGt 30 rfl (by kernel_rfl) q29 rfl rfl (fun _ h => pg rfl h) ?_ ?_
        · intro c53
          refine tk 31 rfl (by kernel_rfl) q29 (pv (fun _ y54 => rpk (v := .bool true) rfl rfl)) ?_
          refine dn (by kernel_rfl) ?_
          refine V.condT rfl ?_
          refine V.seq (V.reg rfl ?_)
          refine asb rfl ?_
          refine vnil ?_
          refine V.ret ?_
          refine ⟨[.bool true], ⟨rfl, trivial⟩, ?_⟩
          exact ⟨_, rfl, z28, fun h => (by cases h)⟩
        · intro c53
          refine tk 31 rfl (by kernel_rfl) q29 (pv (fun _ y55 => rpk (v := .bool false) rfl rfl)) ?_
          refine dn (by kernel_rfl) ?_
          refine V.condF rfl ?_
          refine V.skip ?_
          refine V.reg rfl ?_
          refine mvi rfl ?_
          refine vv (rbin (bAdd (wi (by omega))) rfl rfl) ?_
          refine asi rfl ?_
          refine vnil ?_
          refine ⟨rfl, k + 1, ⟨rfl, trivial⟩, ⟨rfl, trivial⟩, ⟨z28, by omega, fun i hi => by rcases Nat.lt_succ_iff_lt_or_eq.1 hi with h | rfl; exact hs i h; exact ⟨by rw [show i = ((i : Int)).toNat by omega]; omega, by rw [show i = ((i : Int)).toNat by omega]; omega⟩⟩, ?_⟩
          show n - (k + 1) < n - k
          omega
    · skip
      refine ⟨fun _ => q29, ?_⟩
      refine tk 12 rfl (by kernel_rfl) q29 (pv (fun _ y56 => rmv (v := .bool true) rfl)) ?_
      refine tk 13 rfl (by kernel_rfl) q29 (pgn (b := true) rfl rfl) ?_
      refine tk 14 rfl (by kernel_rfl) q29 (pgn (b := true) rfl rfl) ?_
      refine tk 15 rfl (by kernel_rfl) q29 (pgn (b := true) rfl rfl) ?_
      refine tk 16 rfl (by kernel_rfl) q29 (pgn (b := true) rfl rfl) ?_
      refine tk 17 rfl (by kernel_rfl) q29 (pgn (b := true) rfl rfl) ?_
      refine tk 18 rfl (by kernel_rfl) q29 (pgn (b := true) rfl rfl) ?_
      refine tk 19 rfl (by kernel_rfl) q29 (pgn (b := true) rfl rfl) ?_
      refine tk 20 rfl (by kernel_rfl) q29 (pgn (b := true) rfl rfl) ?_
      refine tk 21 rfl (by kernel_rfl) q29 (pv (fun _ y57 => rpk (v := .bool true) rfl rfl)) ?_
      refine tk 22 rfl (by kernel_rfl) q29 (pv (fun _ y58 => rmv (v := .bool true) rfl)) ?_
      refine tk 23 rfl (by kernel_rfl) q29 (pgn (b := true) rfl rfl) ?_
      refine tk 24 rfl (by kernel_rfl) q29 (pgn (b := true) rfl rfl) ?_
      refine tk 25 rfl (by kernel_rfl) q29 (pgn (b := true) rfl rfl) ?_
      refine tk 26 rfl (by kernel_rfl) q29 (pgn (b := true) rfl rfl) ?_
      refine tk 27 rfl (by kernel_rfl) q29 (pgn (b := true) rfl rfl) ?_
      refine tk 28 rfl (by kernel_rfl) q29 (pgn (b := true) rfl rfl) ?_
      refine tk 29 rfl (by kernel_rfl) q29 (pgn (b := true) rfl rfl) ?_
      refine tk 30 rfl (by kernel_rfl) q29 (pgn (b := true) rfl rfl) ?_
      refine tk 31 rfl (by kernel_rfl) q29 (pv (fun _ y59 => rpk (v := .bool true) rfl rfl)) ?_
      refine dn (by kernel_rfl) ?_
      refine V.condT rfl ?_
      refine V.seq (V.reg rfl ?_)
      refine asb rfl ?_
      refine vnil ?_
      refine V.ret ?_
      refine ⟨[.bool true], ⟨rfl, trivial⟩, ?_⟩
      exact ⟨_, rfl, z28, fun h => (by cases h)⟩
  · intro c7
    refine vnil ?_
    refine V.condF rfl ?_
    refine V.exit ?_
    refine V.seq (V.reg rfl ?_)
    refine asb rfl ?_
    refine vnil ?_
    refine V.ret ?_
    refine ⟨[.bool false], ⟨rfl, trivial⟩, ?_⟩
    exact ⟨_, rfl, z6, fun _ => forall_lt rz (n := k) (by omega) hs⟩
set_option maxHeartbeats 400000 in
theorem long3_ok (a1 : Option Addr) (n c : Nat) (rss : List (List RawQ)) (S1 : Nat → Prop) (w : World) (hx : MX S1 w a1 n c rss) :
    Calls Tryz.prog 14 #[.slice a1 n c] w (fun e w' => ∃ q, e = .returned (.bool q) ∧ Ext w w' ∧ (q = false → ∀ r ∈ rss, r.length ≤ 20 ∧ smallV r)) := by
  have z0 := Ext.refl w; have hLX : LX = 17592186044416 := rfl; have hLY : LY = 8796093022208 := rfl
  have l1 := hx.len; have l2 := hx.max
  refine enter (args := [.slice a1 n c]) Tryz.func14 rfl rfl (Nat.le_of_ble_eq_true rfl) ?_
  refine V.seq (V.reg rfl ?_)
  refine asb rfl ?_
  refine vnil ?_
  refine V.seq ?_
  refine V.seq (V.reg rfl ?_)
  refine asi rfl ?_
  refine vnil ?_
  refine V.block ?_
  refine V.loopK (ι := Nat) [(0, .slice _ _ _)] (fun k => [(3, .int .i64 (k : Int))]) (fun k W => Ext w W ∧ k ≤ n ∧ ∀ i, i < k → (rowat rss i).length ≤ 20 ∧ smallV (rowat rss i)) (fun k => n - k) (0) ⟨rfl, trivial⟩ ⟨rfl, trivial⟩ ⟨Ext.refl _, Nat.zero_le _, fun i hi => absurd hi (Nat.not_lt_zero _)⟩ ?_
  intro k E2 W1 h3
  obtain ⟨x4, hk, hs⟩ := h3
  have s5 := x4.sz
  have z6 := x4
  refine V.seq ?_
  refine V.seq (V.reg rfl ?_)
  refine mvi rfl ?_
  refine mvs rfl ?_
  refine vv (rlen sl22 rfl) ?_
  refine vlt rfl rfl ?_ ?_
  · intro c7
    refine vnil ?_
    refine V.condT rfl ?_
    refine V.skip ?_
    refine V.seq ?_
    refine V.block ?_
    refine V.seq (V.reg rfl ?_)
    refine mvs rfl ?_
    refine mvi rfl ?_
    refine vv (rix sl22 sz23 rfl rfl (by omega) (by omega) ((hx.ext z6).isS (i := 0) (by omega) (by omega))) ?_
    refine vldRow (hx.ext z6) rfl sc23 (by omega) (by omega) ?_
    intro a8 n9 c10 hg11
    have hg11l := hg11.len; have hg11m := hg11.max
    refine vv (rlen sl23 rfl) ?_
    refine vgt rfl rfl ?_ ?_
    · intro c12
      refine mvb rfl ?_
      refine vgn (b := true) rfl rfl ?_
      refine vgn (b := true) rfl rfl ?_
      refine vgn (b := true) rfl rfl ?_
      refine vgn (b := true) rfl rfl ?_
      refine vgn (b := true) rfl rfl ?_
      refine vv (rpk (v := .bool true) rfl rfl) ?_
      refine vnil ?_
      refine V.condT rfl ?_
      refine V.seq (V.reg rfl ?_)
      refine asb rfl ?_
      refine vnil ?_
      refine V.ret ?_
      refine ⟨[.bool true], ⟨rfl, trivial⟩, ?_⟩
      exact ⟨_, rfl, z6, fun h => (by cases h)⟩
    · intro c12
      refine mvb rfl ?_
      refine vg rfl ?_
      refine mvs rfl ?_
      refine vg rfl ?_
      refine mvi rfl ?_
      refine vg rfl ?_
      refine vv (rix sl22 sz23 rfl rfl (by omega) (by omega) ((hx.ext z6).isS (i := 0) (by omega) (by omega))) ?_
      refine vg rfl ?_
      refine vldRow (hx.ext z6) rfl sc23 (by omega) (by omega) ?_
      intro a13 n14 c15 hg16
      have hg16l := hg16.len; have hg16m := hg16.max
      refine vg rfl ?_
      refine vo ?_
      refine xcall e69 (long2_ok _ _ _ _ _ _ hg16) rfl rfl ?_
      rintro _ Wb1 ⟨bb1, rfl, xb1, hb1⟩
      refine ⟨_, rfl, ?_⟩
      cases bb1
      · skip
        have s17 := xb1.sz
        have z18 := z6.trans xb1
        refine vv (rpk (v := .bool false) rfl rfl) ?_
        refine vnil ?_
        refine V.condF rfl ?_
        refine V.skip ?_
        refine V.reg rfl ?_
        refine mvi rfl ?_
        refine vv (rbin (bAdd (wi (by omega))) rfl rfl) ?_
        refine asi rfl ?_
        refine vnil ?_
        refine ⟨rfl, k + 1, ⟨rfl, trivial⟩, ⟨rfl, trivial⟩, ⟨z18, by omega, fun i hi => by rcases Nat.lt_succ_iff_lt_or_eq.1 hi with h | rfl; exact hs i h; exact ⟨by rw [show i = ((i : Int)).toNat by omega]; omega, hb1 rfl⟩⟩, ?_⟩
        show n - (k + 1) < n - k
        omega
      · skip
        have s19 := xb1.sz
        have z20 := z6.trans xb1
        refine vv (rpk (v := .bool true) rfl rfl) ?_
        refine vnil ?_
        refine V.condT rfl ?_
        refine V.seq (V.reg rfl ?_)
        refine asb rfl ?_
        refine vnil ?_
        refine V.ret ?_
        refine ⟨[.bool true], ⟨rfl, trivial⟩, ?_⟩
        exact ⟨_, rfl, z20, fun h => (by cases h)⟩
  · intro c7
    refine vnil ?_
    refine V.condF rfl ?_
    refine V.exit ?_
    refine V.seq (V.reg rfl ?_)
    refine asb rfl ?_
    refine vnil ?_
    refine V.ret ?_
    refine ⟨[.bool false], ⟨rfl, trivial⟩, ?_⟩
    exact ⟨_, rfl, z6, fun _ => forall_lt [] (n := k) (by omega) hs⟩
set_option maxHeartbeats 400000 in
theorem long4_ok (a1 : Option Addr) (n c : Nat) (ms : List (List (List RawQ))) (S1 : Nat → Prop) (w : World) (hx : MXX S1 w a1 n c ms) :
    Calls Tryz.prog 32 #[.slice a1 n c] w (fun e w' => ∃ q, e = .returned (.bool q) ∧ Ext w w' ∧ (q = false → ∀ m ∈ ms, smallM m)) := by
  have z0 := Ext.refl w; have hLX : LX = 17592186044416 := rfl; have hLY : LY = 8796093022208 := rfl
  have l1 := hx.len; have l2 := hx.max
  refine enter (args := [.slice a1 n c]) Tryz.func32 rfl rfl (Nat.le_of_ble_eq_true rfl) ?_
  refine V.seq (V.reg rfl ?_)
  refine asb rfl ?_
  refine vnil ?_
  refine V.seq ?_
  refine V.seq (V.reg rfl ?_)
  refine asi rfl ?_
  refine vnil ?_
  refine V.block ?_
  refine V.loopK (ι := Nat) [(0, .slice _ _ _)] (fun k => [(3, .int .i64 (k : Int))]) (fun k W => Ext w W ∧ k ≤ n ∧ ∀ i, i < k → smallM (rowat ms i)) (fun k => n - k) (0) ⟨rfl, trivial⟩ ⟨rfl, trivial⟩ ⟨Ext.refl _, Nat.zero_le _, fun i hi => absurd hi (Nat.not_lt_zero _)⟩ ?_
  intro k E2 W1 h3
  obtain ⟨x4, hk, hs⟩ := h3
  have s5 := x4.sz
  have z6 := x4
  refine V.seq ?_
  refine V.seq (V.reg rfl ?_)
  refine mvi rfl ?_
  refine mvs rfl ?_
  refine vv (rlen sl115 rfl) ?_
  refine vlt rfl rfl ?_ ?_
  · intro c7
    refine vnil ?_
    refine V.condT rfl ?_
    refine V.skip ?_
    refine V.seq ?_
    refine V.block ?_
    refine V.seq (V.reg rfl ?_)
    refine mvs rfl ?_
    refine mvi rfl ?_
    refine vv (rix sl115 sz22 rfl rfl (by omega) (by omega) ((hx.ext z6).isS (i := 0) (by omega) (by omega))) ?_
    refine vldRow (hx.ext z6) rfl sc22 (by omega) (by omega) ?_
    intro a8 n9 c10 hg11
    have hg11l := hg11.len; have hg11m := hg11.max
    refine vv (rlen sl22 rfl) ?_
    refine vgt rfl rfl ?_ ?_
    · intro c12
      refine mvb rfl ?_
      refine vgn (b := true) rfl rfl ?_
      refine vgn (b := true) rfl rfl ?_
      refine vgn (b := true) rfl rfl ?_
      refine vgn (b := true) rfl rfl ?_
      refine vgn (b := true) rfl rfl ?_
      refine vgn (b := true) rfl rfl ?_
      refine vv (rpk (v := .bool true) rfl rfl) ?_
      refine mvb rfl ?_
      refine vgn (b := true) rfl rfl ?_
      refine vgn (b := true) rfl rfl ?_
      refine vgn (b := true) rfl rfl ?_
      refine vgn (b := true) rfl rfl ?_
      refine vgn (b := true) rfl rfl ?_
      refine vv (rpk (v := .bool true) rfl rfl) ?_
      refine vnil ?_
      refine V.condT rfl ?_
      refine V.seq (V.reg rfl ?_)
      refine asb rfl ?_
      refine vnil ?_
      refine V.ret ?_
      refine ⟨[.bool true], ⟨rfl, trivial⟩, ?_⟩
      exact ⟨_, rfl, z6, fun h => (by cases h)⟩
    · intro c12
      refine mvb rfl ?_
      refine vg rfl ?_
      refine mvs rfl ?_
      refine vg rfl ?_
      refine mvi rfl ?_
      refine vg rfl ?_
      refine vv (rix sl115 sz22 rfl rfl (by omega) (by omega) ((hx.ext z6).isS (i := 0) (by omega) (by omega))) ?_
      refine vg rfl ?_
      refine vldRow (hx.ext z6) rfl sc22 (by omega) (by omega) ?_
      intro a13 n14 c15 hg16
      have hg16l := hg16.len; have hg16m := hg16.max
      refine vg rfl ?_
      refine vo ?_
      refine xcall e36 (rCols_ok _ _ _ _ _ _ hg16) rfl rfl ?_
      rintro _ _ ⟨rfl, rfl⟩
      refine ⟨_, rfl, ?_⟩
      refine vg rfl ?_
      refine vgt rfl rfl ?_ ?_
      · intro c18
        refine vv (rpk (v := .bool true) rfl rfl) ?_
        refine mvb rfl ?_
        refine vgn (b := true) rfl rfl ?_
        refine vgn (b := true) rfl rfl ?_
        refine vgn (b := true) rfl rfl ?_
        refine vgn (b := true) rfl rfl ?_
        refine vgn (b := true) rfl rfl ?_
        refine vv (rpk (v := .bool true) rfl rfl) ?_
        refine vnil ?_
        refine V.condT rfl ?_
        refine V.seq (V.reg rfl ?_)
        refine asb rfl ?_
        refine vnil ?_
        refine V.ret ?_
        refine ⟨[.bool true], ⟨rfl, trivial⟩, ?_⟩
        exact ⟨_, rfl, z6, fun h => (by cases h)⟩
      · intro c18
        refine vv (rpk (v := .bool false) rfl rfl) ?_
        refine mvb rfl ?_
        refine vg rfl ?_
        refine mvs rfl ?_
        refine vg rfl ?_
        refine mvi rfl ?_
        refine vg rfl ?_
        refine vv (rix sl115 sz22 rfl rfl (by omega) (by omega) ((hx.ext z6).isS (i := 0) (by omega) (by omega))) ?_
        refine vg rfl ?_
        refine vldRow (hx.ext z6) rfl sc22 (by omega) (by omega) ?_
        intro a19 n20 c21 hg22
        have hg22l := hg22.len; have hg22m := hg22.max
        refine vg rfl ?_
        refine vo ?_
        refine xcall e14 (long3_ok _ _ _ _ _ _ hg22) rfl rfl ?_
        rintro _ Wb1 ⟨bb1, rfl, xb1, hb1⟩
        refine ⟨_, rfl, ?_⟩
        cases bb1
        · skip
          have s23 := xb1.sz
          have z24 := z6.trans xb1
          refine vv (rpk (v := .bool false) rfl rfl) ?_
          refine vnil ?_
          refine V.condF rfl ?_
          refine V.skip ?_
          refine V.reg rfl ?_
          refine mvi rfl ?_
          refine vv (rbin (bAdd (wi (by omega))) rfl rfl) ?_
          refine asi rfl ?_
          refine vnil ?_
          refine ⟨rfl, k + 1, ⟨rfl, trivial⟩, ⟨rfl, trivial⟩, ⟨z24, by omega, fun i hi => by rcases Nat.lt_succ_iff_lt_or_eq.1 hi with h | rfl; exact hs i h; exact ⟨by rw [show i = ((i : Int)).toNat by omega]; omega, by rw [show i = ((i : Int)).toNat by omega]; omega, hb1 rfl⟩⟩, ?_⟩
          show n - (k + 1) < n - k
          omega
        · skip
          have s25 := xb1.sz
          have z26 := z6.trans xb1
          refine vv (rpk (v := .bool true) rfl rfl) ?_
          refine vnil ?_
          refine V.condT rfl ?_
          refine V.seq (V.reg rfl ?_)
          refine asb rfl ?_
          refine vnil ?_
          refine V.ret ?_
          refine ⟨[.bool true], ⟨rfl, trivial⟩, ?_⟩
          exact ⟨_, rfl, z26, fun h => (by cases h)⟩
  · intro c7
    refine vnil ?_
    refine V.condF rfl ?_
    refine V.exit ?_
    refine V.seq (V.reg rfl ?_)
    refine asb rfl ?_
    refine vnil ?_
    refine V.ret ?_
    refine ⟨[.bool false], ⟨rfl, trivial⟩, ?_⟩
    exact ⟨_, rfl, z6, fun _ => forall_lt [] (n := k) (by omega) hs⟩
end Go.Proofs.YtknbjfefeeojlaaGreat
/- The reference's arithmetic on digits in base 65536: plain mathematics. -/
namespace Go.Proofs.YtknbjfefeeojlaaGreat
def cmpI (u v : Int) : Int := if u < v then -1 else if v < u then 1 else 0
theorem cmpI_lt {u v : Int} (h : u < v) : cmpI u v = -1 := by unfold cmpI; rw [if_pos h]
theorem cmpI_gt {u v : Int} (h : v < u) : cmpI u v = 1 := by unfold cmpI; rw [if_neg (by omega), if_pos h]
theorem cmpI_eq {u v : Int} (h : u = v) : cmpI u v = 0 := by unfold cmpI; rw [if_neg (by omega), if_neg (by omega)]
theorem vl_drop (B : Int) : ∀ (xs : List Int) (k : Nat), k < xs.length → vl B (xs.drop k) = wd xs k + B * vl B (xs.drop (k + 1))
  | [], k, h => by simp at h
  | x :: xs, 0, _ => by simp [vl, wd]
  | x :: xs, k + 1, h => by
    have ih := vl_drop B xs k (by simpa using h)
    simp only [List.drop_succ_cons]
    rw [ih]; simp [wd]
theorem pow16_le {k n : Nat} (h : k ≤ n) : b16 ^ k ≤ b16 ^ n := by
  obtain ⟨m, rfl⟩ : ∃ m, n = k + m := ⟨n - k, by omega⟩
  rw [Int.pow_add]
  have h1 := pow_pos' (B := b16) (by decide) k
  have h2 := pow_pos' (B := b16) (by decide) m
  have := Int.mul_le_mul_of_nonneg_left (show 1 ≤ b16 ^ m by omega) (Int.le_of_lt h1)
  omega
theorem vl_short {xs : List Int} (h : Dg b16 xs) {n : Nat} (hn : xs.length ≤ n) : 0 ≤ vl b16 xs ∧ vl b16 xs < b16 ^ n :=
  ⟨vl_nonneg (by decide) h, Int.lt_of_lt_of_le (vl_lt (by decide) h) (pow16_le hn)⟩
theorem small_bd {xs : List Int} {k : Nat} (h : Dg b16 xs) (hn : xs.length ≤ 3) (hk : 1 ≤ k) : 0 ≤ vl b16 (xs.drop k) ∧ vl b16 (xs.drop k) ≤ 4294967295 := by
  have := vl_short (n := 2) (h.drop k) (by simp; omega)
  have e : b16 ^ 2 = 4294967296 := by decide
  omega
theorem small_step16 {xs : List Int} {v q : Int} {k : Nat} (h1 : 1 ≤ k) (hk : k ≤ xs.length) (hv : v = vl b16 (xs.drop k)) (hq : q = wd xs ((k : Int) - 1)) : v * 65536 + q = vl b16 (xs.drop (k - 1)) := by
  have h := vl_drop b16 xs (k - 1) (by omega)
  rw [show k - 1 + 1 = k by omega, ← hv, show ((k - 1 : Nat) : Int) = (k : Int) - 1 by omega, ← hq] at h
  rw [h]; unfold b16; omega
theorem back_eq {v : Int} (h0 : 0 ≤ v) (h1 : v < 281474976710656) : tr [v % 65536, v / 65536 % 65536, v / 65536 / 65536] = dg b16 v := by
  have hd : Dg b16 [v % 65536, v / 65536 % 65536, v / 65536 / 65536] := by
    intro x hx
    simp only [List.mem_cons, List.not_mem_nil, or_false] at hx
    unfold b16
    omega
  rw [← dg_vl (by decide) hd]
  congr 1
  simp only [vl]
  unfold b16
  omega
theorem times_step {B v c lo hi n : Int} {i : Nat} {out xs : List Int} (hl : out.length = i) (h : vl B out + B ^ i * c = n * vl B (xs.take i)) (hv : v = wd xs i * n + c) (e : B * hi + lo = v) :
    vl B (out ++ [lo]) + B ^ (i + 1) * hi = n * vl B (xs.take (i + 1)) := by
  rw [vl_snoc, vl_take_succ, hl, Int.pow_succ]
  have : vl B out = n * vl B (xs.take i) - B ^ i * c := by omega
  rw [this]
  have e2 : B ^ i * lo + B ^ i * B * hi = B ^ i * (wd xs i * n + c) := by rw [← hv, ← e, Int.mul_add, Int.mul_assoc, Int.add_comm]
  rw [Int.mul_add] at e2
  have e3 : n * (vl B (xs.take i) + B ^ i * wd xs i) = n * vl B (xs.take i) + B ^ i * (wd xs i * n) := by rw [Int.mul_add]; congr 1; rw [Int.mul_left_comm, Int.mul_comm n]
  omega
theorem sub_step16 {B v v' l l' : Int} {i : Nat} {out xs ys : List Int} (hl : out.length = i) (h : vl B out = vl B (xs.take i) - vl B (ys.take i) + B ^ i * l) (hv : v = wd xs i - wd ys i - l) (e : v' = v + B * l') :
    vl B (out ++ [v']) = vl B (xs.take (i + 1)) - vl B (ys.take (i + 1)) + B ^ (i + 1) * l' := by
  rw [vl_snoc, vl_take_succ, vl_take_succ, hl, Int.pow_succ, h, e, hv]
  have : B ^ i * (wd xs i - wd ys i - l + B * l') = B ^ i * wd xs i - B ^ i * wd ys i - B ^ i * l + B ^ i * B * l' := by
    rw [Int.mul_add, Int.mul_sub, Int.mul_sub, Int.mul_assoc]
  omega
theorem dg16_len {v : Int} {n : Nat} (h : v < b16 ^ n) : (dg b16 v).length ≤ n := dg_length_le (by decide) h
theorem sub_end16 {out xs : List Int} {v l : Int} {n : Nat} (hn : xs.length = n) (hx : Dg b16 xs) (ho : Dg b16 out) (hol : out.length = n) (hl : 0 ≤ l) (hle : v ≤ vl b16 xs) (hv : 0 ≤ v) (h : vl b16 out = vl b16 (xs.take n) - vl b16 ((dg b16 v).take n) + b16 ^ n * l) : vl b16 out = vl b16 xs - v := by
  have h1 := vl_lt (B := b16) (by decide) hx
  rw [hn] at h1
  have h2 := dg16_len (n := n) (v := v) (by omega)
  rw [List.take_of_length_le (by omega), List.take_of_length_le h2, vl_dg (by decide) hv] at h
  have h3 := vl_lt (B := b16) (by decide) ho
  rw [hol] at h3
  rcases Int.lt_or_le 0 l with h4 | h4
  · have := Int.mul_le_mul_of_nonneg_left (show 1 ≤ l by omega) (Int.le_of_lt (pow_pos' (B := b16) (by decide) n))
    omega
  · obtain rfl : l = 0 := by omega
    omega
theorem up_lt {xs ys : List Int} {k : Nat} (hx : Dg b16 xs) (hy : Dg b16 ys) (hk : wd xs k < wd ys k) : ∀ m, (∀ j : Nat, k < j → wd xs j = wd ys j) → vl b16 (xs.take (k + 1 + m)) < vl b16 (ys.take (k + 1 + m))
  | 0, _ => by
    rw [Nat.add_zero, vl_take_succ, vl_take_succ]
    have h1 := vl_short (n := k) (hx.take k) (by simp; omega)
    have h2 := vl_short (n := k) (hy.take k) (by simp; omega)
    have := Int.mul_le_mul_of_nonneg_left (show wd xs k + 1 ≤ wd ys k by omega) (Int.le_of_lt (pow_pos' (B := b16) (by decide) k))
    rw [Int.mul_add] at this
    omega
  | m + 1, h => by
    have ih := up_lt hx hy hk m h
    rw [← Nat.add_assoc, vl_take_succ, vl_take_succ, h (k + 1 + m) (by omega)]
    omega
theorem dig_lt {xs ys : List Int} {k : Nat} (hx : Dg b16 xs) (hy : Dg b16 ys) (hk : wd xs k < wd ys k) (h : ∀ j : Nat, k < j → wd xs j = wd ys j) : vl b16 xs < vl b16 ys := by
  have := up_lt hx hy hk (max xs.length ys.length) h
  rw [List.take_of_length_le (by omega), List.take_of_length_le (by omega)] at this
  exact this
theorem dig_eq {xs ys : List Int} (h : ∀ j : Nat, wd xs j = wd ys j) : vl b16 xs = vl b16 ys := by
  have key : ∀ m, vl b16 (xs.take m) = vl b16 (ys.take m) := by
    intro m
    induction m with
    | zero => simp
    | succ m ih => rw [vl_take_succ, vl_take_succ, ih, h m]
  have := key (max xs.length ys.length)
  rw [List.take_of_length_le (by omega), List.take_of_length_le (by omega)] at this
  exact this
theorem dg16_len_lt {u v : Int} (hv : 0 ≤ v) (hu : 0 ≤ u) (h : (dg b16 u).length < (dg b16 v).length) : u < v := by
  rcases Int.lt_or_le u v with h1 | h1
  · exact h1
  · have e := vl_lt (B := b16) (by decide) (Dg.dg (B := b16) (by decide) u)
    rw [vl_dg (by decide) hu] at e
    have := dg16_len (n := (dg b16 u).length) (v := v) (by omega)
    omega
theorem hlen16 {v : Int} {n : Nat} (hv : 0 ≤ v) (h : (dg b16 v).length = n) : v < b16 ^ n := by
  have e := vl_lt (B := b16) (by decide) (Dg.dg (B := b16) (by decide) v)
  rwa [vl_dg (by decide) hv, h] at e
theorem dg16_mono {u v : Int} (hu : 0 ≤ u) (h : u ≤ v) : (dg b16 u).length ≤ (dg b16 v).length := by
  have e := vl_lt (B := b16) (by decide) (Dg.dg (B := b16) (by decide) v)
  rw [vl_dg (by decide) (by omega)] at e
  exact dg16_len (by omega)
theorem dg16_pos {v : Int} {n : Nat} (hv : 0 ≤ v) (h : (dg b16 v).length = n) : v = 0 ↔ n = 0 := by
  rw [← h, List.length_eq_zero_iff]; exact (dg_eq_nil (by decide) hv).symm
theorem dg16_one {v : Int} (hv : 0 ≤ v) (h : (dg b16 v).length = 1) : wd (dg b16 v) 0 = v := by
  have e := vl_dg (B := b16) (by decide) hv
  match hd : dg b16 v with
  | [] => rw [hd] at h; simp at h
  | [x] => rw [hd] at e; simp [vl] at e; simp [wd, e]
  | _ :: _ :: _ => rw [hd] at h; simp at h
/-- One digit of a quotient. -/
theorem quo_step {qs xs : List Int} {k : Nat} {V R u q : Int} (hk : k < qs.length) (hz : ∀ j : Nat, j ≤ k → wd qs j = 0)
    (h : u = vl b16 qs * V + b16 ^ (k + 1) * R + vl b16 (xs.take (k + 1))) {r' : Int} (hr : r' = R * b16 + wd xs k - q * V) :
    u = vl b16 (qs.set k q) * V + b16 ^ k * r' + vl b16 (xs.take k) := by
  have e1 := vl_set (B := b16) qs k q hk
  rw [hz k (Nat.le_refl _)] at e1
  rw [e1]
  rw [vl_take_succ] at h
  exact div_step h (by omega)
theorem R_bd {V R x : Int} (h0 : 0 ≤ R) (h1 : R < V) (h2 : 0 ≤ x) (h3 : x < 65536) : 0 ≤ R * 65536 + x ∧ R * 65536 + x < 65536 * V := by omega
theorem pow16_prod {u v : Int} {a b : Nat} (hu : 0 ≤ u) (hv : 0 ≤ v) (h1 : u < b16 ^ a) (h2 : v < b16 ^ b) : 0 ≤ u * v ∧ u * v < b16 ^ (a + b) := by
  refine ⟨Int.mul_nonneg hu hv, ?_⟩
  rw [Int.pow_add]
  have p := pow_pos' (B := b16) (by decide) b
  have m1 : u * v ≤ u * b16 ^ b := Int.mul_le_mul_of_nonneg_left (Int.le_of_lt h2) hu
  have m2 : u * b16 ^ b < b16 ^ a * b16 ^ b := Int.mul_lt_mul_of_pos_right h1 p
  omega
theorem small_prod {xs ys : List Int} (hx : Dg b16 xs) (hy : Dg b16 ys) (hl : xs.length + ys.length ≤ 3) : 0 ≤ vl b16 xs * vl b16 ys ∧ vl b16 xs * vl b16 ys < 281474976710656 := by
  have h := pow16_prod (vl_nonneg (by decide) hx) (vl_nonneg (by decide) hy) (vl_lt (by decide) hx) (vl_lt (by decide) hy)
  have h2 := pow16_le hl
  have e : b16 ^ 3 = 281474976710656 := by decide
  omega
/-- One round of the long product. -/
theorem mul_in16 {a j Y V P z : Int} (h : V = 65536 * P + min j a * Y) (hj : j < a) (hz : z = min 1024 (a - j)) : V + Y * z = 65536 * P + min (j + 1024) a * Y := by
  have e1 : min (j + 1024) a = j + z := by omega
  have e2 : min j a = j := by omega
  rw [e1, h, e2, Int.add_mul, Int.mul_comm Y z]; omega
theorem mul_len16 {xs ys : List Int} {k : Nat} {t : Int} (hx : Dg b16 xs) (hy : Dg b16 ys) (h1 : 1 ≤ k) (hk : k ≤ xs.length) (h0 : 0 ≤ t) (ht : t ≤ wd xs ((k : Int) - 1)) :
    0 ≤ 65536 * (vl b16 (xs.drop k) * vl b16 ys) + t * vl b16 ys ∧ (dg b16 (65536 * (vl b16 (xs.drop k) * vl b16 ys) + t * vl b16 ys)).length + k ≤ xs.length + ys.length + 1 := by
  have hY := vl_nonneg (B := b16) (by decide) hy
  have hP := Int.mul_nonneg (vl_nonneg (B := b16) (by decide) (hx.drop k)) hY
  have hT := Int.mul_nonneg h0 hY
  refine ⟨by omega, ?_⟩
  have e := small_step16 h1 hk rfl (rfl : wd xs ((k : Int) - 1) = _)
  have h2 := pow16_prod (vl_nonneg (by decide) (hx.drop (k - 1))) hY (vl_lt (by decide) (hx.drop (k - 1))) (vl_lt (by decide) hy)
  rw [← e] at h2
  have h3 := Int.mul_le_mul_of_nonneg_right ht hY
  have h4 : (vl b16 (xs.drop k) * 65536 + wd xs ((k : Int) - 1)) * vl b16 ys = 65536 * (vl b16 (xs.drop k) * vl b16 ys) + wd xs ((k : Int) - 1) * vl b16 ys := by
    rw [Int.add_mul, Int.mul_comm (vl b16 (xs.drop k)) 65536, Int.mul_assoc]
  rw [h4] at h2
  have := dg16_len (n := (xs.drop (k - 1)).length + ys.length) (v := 65536 * (vl b16 (xs.drop k) * vl b16 ys) + t * vl b16 ys) (by omega)
  rw [List.length_drop] at this
  omega
theorem mul_out16 {xs ys : List Int} {k : Nat} {V j : Int} (h1 : 1 ≤ k) (hk : k ≤ xs.length) (h : V = 65536 * (vl b16 (xs.drop k) * vl b16 ys) + min j (wd xs ((k : Int) - 1)) * vl b16 ys) (hj : wd xs ((k : Int) - 1) ≤ j) : V = vl b16 (xs.drop (k - 1)) * vl b16 ys := by
  have e := small_step16 h1 hk rfl (rfl : wd xs ((k : Int) - 1) = _)
  rw [h, show min j (wd xs ((k : Int) - 1)) = wd xs ((k : Int) - 1) by omega, ← e, Int.add_mul, Int.mul_comm (vl b16 (xs.drop k)) 65536, Int.mul_assoc]
theorem div_facts16 {v r x : Int} (hv : 1 ≤ v) (r0 : 0 ≤ r) (r1 : r < v) (x0 : 0 ≤ x) (x1 : x < 65536) : 0 ≤ (r * 65536 + x) / v ∧ (r * 65536 + x) / v < 65536 ∧ 0 ≤ (r * 65536 + x) % v ∧ (r * 65536 + x) % v < v ∧ (r * 65536 + x) % v = r * 65536 + x - (r * 65536 + x) / v * v := by
  refine ⟨Int.ediv_nonneg (by omega) (by omega), Int.ediv_lt_of_lt_mul (by omega) (by omega), Int.emod_nonneg _ (by omega), Int.emod_lt_of_pos _ (by omega), ?_⟩
  have := Int.mul_ediv_add_emod (r * 65536 + x) v
  rw [Int.mul_comm v] at this
  omega
theorem dg16_small {r : Int} (h0 : 0 ≤ r) (h1 : r < 65536) : tr [r] = dg b16 r := by
  have hd : Dg b16 [r] := by intro x hx; simp only [List.mem_cons, List.not_mem_nil, or_false] at hx; unfold b16; omega
  rw [← dg_vl (by decide) hd]; simp [vl]
theorem dg16_cons {a R : Int} (h0 : 0 ≤ a) (h1 : a < 65536) (hR : 0 ≤ R) : tr (a :: dg b16 R) = dg b16 (R * 65536 + a) := by
  have hd : Dg b16 (a :: dg b16 R) := Dg.cons.2 ⟨⟨h0, h1⟩, Dg.dg (by decide) R⟩
  rw [← dg_vl (by decide) hd]; simp only [vl]; rw [vl_dg (by decide) hR]; congr 1; unfold b16; omega
theorem wd_zero_set {qs : List Int} {k : Nat} {z : Int} (h : ∀ j : Nat, j ≤ k → wd qs j = 0) : ∀ j : Nat, j < k → wd (qs.set k z) j = 0 := fun j hj => by
  rw [wd_set_ne (by simp; omega)]; exact h j (by omega)
theorem Dg.set16 {qs : List Int} {k : Nat} {z : Int} (h : Dg b16 qs) (h0 : 0 ≤ z) (h1 : z < 65536) : Dg b16 (qs.set k z) := fun x hx => by
  rcases List.mem_or_eq_of_mem_set hx with h2 | h2
  · exact h x h2
  · rw [h2]; exact ⟨h0, h1⟩
theorem Dg.zeros (n : Nat) : Dg b16 (List.replicate n 0) := fun x hx => by rw [(List.mem_replicate.1 hx).2]; decide
end Go.Proofs.YtknbjfefeeojlaaGreat
/- Package pylonref01: small, back, times, add, sub, cmp. -/
namespace Go.Proofs.YtknbjfefeeojlaaGreat
open Go.RowKit
attribute [local irreducible] RV VH V OpF Calls

set_option maxHeartbeats 400000 in
theorem rsmall_ok (a : Option Addr) (n c : Nat) (xs : List Int) (S : Nat → Prop) (w : World) (h : RN .i64 S w a n c xs) (hd : Dg b16 xs) (hn : n ≤ 3) :
    Calls Tryz.prog 214 #[.slice a n c] w (fun e w' => e = .returned (.int .i64 (vl b16 xs)) ∧ w = w') := by
  have z0 := Ext.refl w; have hLX : LX = 17592186044416 := rfl; have hLY : LY = 8796093022208 := rfl
  have hl := h.len
  refine enter (args := [.slice a n c]) Tryz.func214 rfl rfl (Nat.le_of_ble_eq_true rfl) ?_
  refine V.seq (V.reg rfl ?_)
  refine asi rfl ?_
  refine vnil ?_
  refine V.seq (V.reg rfl ?_)
  refine asi rfl ?_
  refine vnil ?_
  refine V.seq ?_
  refine V.seq (V.reg rfl ?_)
  refine mvs rfl ?_
  refine vv (rlen sl73 rfl) ?_
  refine vv (rbin (bSub (wi (by omega))) rfl rfl) ?_
  refine asi rfl ?_
  refine vnil ?_
  refine V.block ?_
  refine V.loopK (ι := Nat × Int) [(0, .slice _ _ _), (2, .int _ _)] (fun ⟨k, v⟩ => [(4, .int .i64 ((k : Int) - 1)), (3, .int .i64 v)]) (fun ⟨k, v⟩ W => w = W ∧ k ≤ n ∧ v = vl b16 (xs.drop k)) (fun ⟨k, v⟩ => k) ((n, 0)) ⟨rfl, rfl, trivial⟩ ⟨rfl, rfl, trivial⟩ ⟨rfl, Nat.le_refl _, by rw [List.drop_eq_nil_of_le (by omega)]; rfl⟩ ?_
  intro i2 E3 W1 h4
  obtain ⟨k, v⟩ := i2
  simp only at h4
  show V _ _ _ _ _ _ (ups (ups _ _) [(4, .int .i64 ((k : Int) - 1)), (3, .int .i64 v)]) _
  obtain ⟨rfl, hk, hv⟩ := h4
  refine V.seq ?_
  refine V.seq (V.reg rfl ?_)
  refine mvi rfl ?_
  refine vge rfl rfl ?_ ?_
  · intro c5
    have hvb : 0 ≤ v ∧ v ≤ 4294967295 := by rw [hv]; exact small_bd hd (by omega) (by omega)
    have hwb := wd_dg (B := b16) (by decide) hd ((k : Int) - 1)
    unfold b16 at hwb
    refine vnil ?_
    refine V.condT rfl ?_
    refine V.skip ?_
    refine V.seq ?_
    refine V.block ?_
    refine V.reg rfl ?_
    refine mvi rfl ?_
    refine vv (rbin (bMul (wi (by omega))) rfl rfl) ?_
    refine mvs rfl ?_
    refine mvi rfl ?_
    refine vv (rixn h sl73 sz3 rfl rfl (by omega) (by omega)) ?_
    refine vldN h rfl sc3 (by omega) (by omega) ?_
    intro q6 hq6 hk7
    simp only [kb] at hk7
    refine vv (rbin (bAdd (wi (by omega))) rfl rfl) ?_
    refine asi rfl ?_
    refine vnil ?_
    refine V.reg rfl ?_
    refine mvi rfl ?_
    refine vv (rbin (bSub (show IntKind.i64.wrap ((k : Int) - 1 - 1) = ((k - 1 : Nat) : Int) - 1 by rw [wi (by omega)]; omega)) rfl rfl) ?_
    refine asi rfl ?_
    refine vnil ?_
    refine ⟨rfl, (k - 1, _), ⟨rfl, rfl, trivial⟩, ⟨rfl, rfl, trivial⟩, ⟨rfl, by omega, small_step16 (by omega) (by omega) hv hq6⟩, ?_⟩
    show k - 1 < k
    omega
  · intro c5
    refine vnil ?_
    refine V.condF rfl ?_
    refine V.exit ?_
    refine V.seq (V.reg rfl ?_)
    refine mvi rfl ?_
    refine asi rfl ?_
    refine vnil ?_
    refine V.ret ?_
    refine ⟨[.int _ _], ⟨rfl, trivial⟩, ?_⟩
    have e0 : k = 0 := (by omega)
    subst e0
    exact ⟨by rw [hv]; rfl, rfl⟩
set_option maxHeartbeats 400000 in
theorem rback_ok (v : Int) (S : Nat → Prop) (w : World) (h0 : 0 ≤ v) (h1 : v < 281474976710656) (hu : Up S w) :
    Calls Tryz.prog 213 #[.int .i64 v] w (fun e w' => ∃ a n' c, e = .returned (.slice a n' c) ∧ Ext w w' ∧ RN .i64 S w' a n' c (dg b16 (v))) := by
  have z0 := Ext.refl w; have hLX : LX = 17592186044416 := rfl; have hLY : LY = 8796093022208 := rfl
  refine enter (args := [.int .i64 v]) Tryz.func213 rfl rfl (Nat.le_of_ble_eq_true rfl) ?_
  refine V.seq (V.reg rfl ?_)
  refine ass rfl ?_
  refine vnil ?_
  refine V.seq (V.reg rfl ?_)
  refine mvi rfl ?_
  refine vv (rbin (bRem (by omega) (Int.tmod_eq_emod_of_nonneg (by omega))) rfl rfl) ?_
  refine mvi rfl ?_
  refine vv (rbin (bQuo (by omega) (wiq (by rw [Int.tdiv_eq_ediv_of_nonneg (by omega)]; omega) (Int.tdiv_eq_ediv_of_nonneg (by omega)))) rfl rfl) ?_
  refine vv (rbin (bRem (by omega) (Int.tmod_eq_emod_of_nonneg (by omega))) rfl rfl) ?_
  refine mvi rfl ?_
  refine vv (rbin (bQuo (by omega) (wiq (by rw [Int.tdiv_eq_ediv_of_nonneg (by omega)]; omega) (Int.tdiv_eq_ediv_of_nonneg (by omega)))) rfl rfl) ?_
  refine vv (rbin (bQuo (by omega) (wiq (by rw [Int.tdiv_eq_ediv_of_nonneg (by omega)]; omega) (Int.tdiv_eq_ediv_of_nonneg (by omega)))) rfl rfl) ?_
  refine vo ?_
  refine xbs (ps := [(0, .int _ _), (1, .int _ _), (2, .int _ _)]) (cs := [.int _ _, .int _ _, .int _ _]) sl73 zr3 sz3 rfl rfl rfl rfl rfl rfl ?_
  intro W1 x2 b3 nn4
  have s5 := x2.sz
  have z6 := x2
  have hl7 := RN.lit (k := .i64) (xs := [_, _, _]) 3 b3 (by intro q hq; simp only [List.mem_cons, List.not_mem_nil, or_false] at hq; simp only [kb]; omega) ((hu.mono (show w.heap.size ≤ w.heap.size by omega)) _ (Nat.le_refl _))
  refine vo ?_
  refine xcall e211 (rtrim_ok _ _ _ _ _ _ hl7) rfl rfl ?_
  rintro _ _ ⟨m9, rfl, hr8, hm10, rfl⟩
  refine ⟨_, rfl, ?_⟩
  refine ass rfl ?_
  refine vnil ?_
  refine V.ret ?_
  refine ⟨[.slice _ _ _], ⟨rfl, trivial⟩, ?_⟩
  exact ⟨_, _, _, rfl, z6, (hr8).cast (back_eq h0 h1)⟩
set_option maxHeartbeats 400000 in
theorem rtimes_ok (a : Option Addr) (n c : Nat) (xs : List Int) (z : Int) (S S1 : Nat → Prop) (w : World) (h : RN .i64 S1 w a n c xs) (hd : Dg b16 xs) (hn : n ≤ LX / 2) (hz : 0 ≤ z ∧ z ≤ 65536) (hu : Up S w) :
    Calls Tryz.prog 215 #[.slice a n c, .int .i64 z] w (fun e w' => ∃ a n' c, e = .returned (.slice a n' c) ∧ Ext w w' ∧ RN .i64 S w' a n' c (dg b16 (vl b16 xs * z)) ∧ n' ≤ n + 2) := by
  have z0 := Ext.refl w; have hLX : LX = 17592186044416 := rfl; have hLY : LY = 8796093022208 := rfl
  have hl := h.len
  refine enter (args := [.slice a n c, .int .i64 z]) Tryz.func215 rfl rfl (Nat.le_of_ble_eq_true rfl) ?_
  refine V.seq (V.reg rfl ?_)
  refine ass rfl ?_
  refine vnil ?_
  refine V.seq (V.reg rfl ?_)
  refine ass rfl ?_
  refine vnil ?_
  refine V.seq (V.reg rfl ?_)
  refine asi rfl ?_
  refine vnil ?_
  refine V.seq ?_
  refine V.seq (V.reg rfl ?_)
  refine asi rfl ?_
  refine vnil ?_
  refine V.block ?_
  refine V.loopK (ι := Nat × Int × Value) [(0, .slice _ _ _), (1, .int _ _), (4, .slice _ _ _)] (fun ⟨k, cy, v⟩ => [(7, .int .i64 (k : Int)), (6, .int .i64 cy), (5, v)]) (fun ⟨k, cy, v⟩ W => Ext w W ∧ 0 ≤ cy ∧ cy ≤ 65536 ∧ (k ≤ n ∨ (k = n + 1 ∧ cy ≤ 1) ∨ (k = n + 2 ∧ cy = 0)) ∧ ∃ os, OI .i64 w.heap.size W 3 v os ∧ os.length = k ∧ Dg b16 os ∧ vl b16 os + b16 ^ k * cy = z * vl b16 (xs.take k)) (fun ⟨k, cy, v⟩ => (n - k) * 65538 + cy.toNat) ((0, 0, _)) ⟨rfl, rfl, rfl, trivial⟩ ⟨rfl, rfl, rfl, trivial⟩ ⟨Ext.refl _, by omega, by omega, by omega, [], OI.nil .i64 _ _ _, rfl, Dg.nil _, by simp [vl]⟩ ?_
  intro i2 E3 W1 h4
  obtain ⟨k, cy, v⟩ := i2
  simp only at h4
  show V _ _ _ _ _ _ (ups (ups _ _) [(7, .int .i64 (k : Int)), (6, .int .i64 cy), (5, v)]) _
  obtain ⟨x5, hc0, hc1, hk, os, hO, hol, hod, hov⟩ := h4
  have s6 := x5.sz
  have z7 := x5
  refine V.seq ?_
  refine V.seq (V.reg rfl ?_)
  refine mvi rfl ?_
  refine mvs rfl ?_
  refine vv (rlen sl73 rfl) ?_
  refine vlt rfl rfl ?_ ?_
  · intro c8
    have hwb := wd_dg (B := b16) (by decide) hd (k : Int)
    unfold b16 at hwb
    have hm := mul_bd hwb.1 (show wd xs (k : Int) ≤ 65535 by omega) hz.1 hz.2
    refine mvb rfl ?_
    refine vgn (b := true) rfl rfl ?_
    refine vgn (b := true) rfl rfl ?_
    refine vv (rpk (v := .bool true) rfl rfl) ?_
    refine vnil ?_
    refine V.condT rfl ?_
    refine V.skip ?_
    refine V.seq ?_
    refine V.block ?_
    refine V.seq (V.reg rfl ?_)
    refine mvs rfl ?_
    refine mvi rfl ?_
    refine vo ?_
    refine xcall e212 (rat_ok _ _ _ _ _ _ _ (h.ext z7) (by omega)) rfl rfl ?_
    rintro _ _ ⟨rfl, rfl⟩
    refine ⟨_, rfl, ?_⟩
    refine mvi rfl ?_
    refine vv (rbin (bMul (wi (by omega))) rfl rfl) ?_
    refine mvi rfl ?_
    refine vv (rbin (bAdd (wi (by omega))) rfl rfl) ?_
    refine asi rfl ?_
    refine vnil ?_
    refine V.seq (V.reg rfl ?_)
    refine vv (rmv (v := v) rfl) ?_
    refine mvi rfl ?_
    refine vv (rbin (bRem (by omega) (Int.tmod_eq_emod_of_nonneg (by omega))) rfl rfl) ?_
    refine vo ?_
    refine xbs (ps := [(0, .int _ _)]) (cs := [.int _ _]) sl73 zr3 sz3 rfl rfl rfl rfl rfl rfl ?_
    intro W10 x11 b12 nn13
    have s14 := x11.sz
    have z15 := z7.trans x11
    replace hO := hO.ext x11
    refine vo ?_
    refine xapp sl73 in3 hO rfl rfl b12 (by simp only [kb]; omega) (by omega) (by decide) (by omega) ?_
    intro v16 W17 hO18 hg19 ho20
    have y21 := grown_below hg19 (by omega) (fun b e => (hO.low b e).1)
    have s22 := y21.size
    have z23 := z15.below (y21.mono (by omega))
    refine vv (ras (v := v16) rfl) ?_
    refine vnil ?_
    refine V.reg rfl ?_
    refine mvi rfl ?_
    refine vv (rbin (bQuo (by omega) (wiq (by rw [Int.tdiv_eq_ediv_of_nonneg (by omega)]; omega) (Int.tdiv_eq_ediv_of_nonneg (by omega)))) rfl rfl) ?_
    refine asi rfl ?_
    refine vnil ?_
    refine V.reg rfl ?_
    refine mvi rfl ?_
    refine vv (rbin (bAdd (wi (by omega))) rfl rfl) ?_
    refine asi rfl ?_
    refine vnil ?_
    refine ⟨rfl, (k + 1, _, _), ⟨rfl, rfl, rfl, trivial⟩, ⟨rfl, rfl, rfl, trivial⟩, ⟨z23, by omega, by omega, by omega, _, hO18, by rw [List.length_append, hol]; rfl, Dg.append.2 ⟨hod, by intro x hx; simp only [List.mem_cons, List.not_mem_nil, or_false] at hx; unfold b16; omega⟩, times_step hol hov rfl (by unfold b16; omega)⟩, ?_⟩
    show (n - (k + 1)) * 65538 + Int.toNat _ < (n - k) * 65538 + cy.toNat
    omega
  · intro c8
    refine mvb rfl ?_
    refine vg rfl ?_
    refine mvi rfl ?_
    refine vg rfl ?_
    refine vgt rfl rfl ?_ ?_
    · intro c24
      have hwb : wd xs (k : Int) = 0 := wd_ge (by omega)
      have hm : wd xs (k : Int) * z = 0 := by rw [hwb, Int.zero_mul]
      refine vv (rpk (v := .bool true) rfl rfl) ?_
      refine vnil ?_
      refine V.condT rfl ?_
      refine V.skip ?_
      refine V.seq ?_
      refine V.block ?_
      refine V.seq (V.reg rfl ?_)
      refine mvs rfl ?_
      refine mvi rfl ?_
      refine vo ?_
      refine xcall e212 (rat_ok _ _ _ _ _ _ _ (h.ext z7) (by omega)) rfl rfl ?_
      rintro _ _ ⟨rfl, rfl⟩
      refine ⟨_, rfl, ?_⟩
      refine mvi rfl ?_
      refine vv (rbin (bMul (wi (by omega))) rfl rfl) ?_
      refine mvi rfl ?_
      refine vv (rbin (bAdd (wi (by omega))) rfl rfl) ?_
      refine asi rfl ?_
      refine vnil ?_
      refine V.seq (V.reg rfl ?_)
      refine vv (rmv (v := v) rfl) ?_
      refine mvi rfl ?_
      refine vv (rbin (bRem (by omega) (Int.tmod_eq_emod_of_nonneg (by omega))) rfl rfl) ?_
      refine vo ?_
      refine xbs (ps := [(0, .int _ _)]) (cs := [.int _ _]) sl73 zr3 sz3 rfl rfl rfl rfl rfl rfl ?_
      intro W26 x27 b28 nn29
      have s30 := x27.sz
      have z31 := z7.trans x27
      replace hO := hO.ext x27
      refine vo ?_
      refine xapp sl73 in3 hO rfl rfl b28 (by simp only [kb]; omega) (by omega) (by decide) (by omega) ?_
      intro v32 W33 hO34 hg35 ho36
      have y37 := grown_below hg35 (by omega) (fun b e => (hO.low b e).1)
      have s38 := y37.size
      have z39 := z31.below (y37.mono (by omega))
      refine vv (ras (v := v32) rfl) ?_
      refine vnil ?_
      refine V.reg rfl ?_
      refine mvi rfl ?_
      refine vv (rbin (bQuo (by omega) (wiq (by rw [Int.tdiv_eq_ediv_of_nonneg (by omega)]; omega) (Int.tdiv_eq_ediv_of_nonneg (by omega)))) rfl rfl) ?_
      refine asi rfl ?_
      refine vnil ?_
      refine V.reg rfl ?_
      refine mvi rfl ?_
      refine vv (rbin (bAdd (wi (by omega))) rfl rfl) ?_
      refine asi rfl ?_
      refine vnil ?_
      refine ⟨rfl, (k + 1, _, _), ⟨rfl, rfl, rfl, trivial⟩, ⟨rfl, rfl, rfl, trivial⟩, ⟨z39, by omega, by omega, by omega, _, hO34, by rw [List.length_append, hol]; rfl, Dg.append.2 ⟨hod, by intro x hx; simp only [List.mem_cons, List.not_mem_nil, or_false] at hx; unfold b16; omega⟩, times_step hol hov rfl (by unfold b16; omega)⟩, ?_⟩
      show (n - (k + 1)) * 65538 + Int.toNat _ < (n - k) * 65538 + cy.toNat
      omega
    · intro c24
      refine vv (rpk (v := .bool false) rfl rfl) ?_
      refine vnil ?_
      refine V.condF rfl ?_
      refine V.exit ?_
      refine V.seq (V.reg rfl ?_)
      refine vv (rmv (v := v) rfl) ?_
      refine vo ?_
      obtain ⟨a', c', rfl⟩ := hO.form
      have hrn := hO.rn (S := S) (fun b hb _ => hu b (by omega))
      refine xcall e211 (rtrim_ok _ _ _ _ _ _ hrn) rfl rfl ?_
      rintro _ _ ⟨m1, rfl, hr1, hm1, rfl⟩
      refine ⟨_, rfl, ?_⟩
      refine ass rfl ?_
      refine vnil ?_
      refine V.ret ?_
      refine ⟨[.slice _ _ _], ⟨rfl, trivial⟩, ?_⟩
      have e0 : cy = 0 := (by omega)
      subst e0
      rw [Int.mul_zero, Int.add_zero, List.take_of_length_le (by omega)] at hov
      exact ⟨_, _, _, rfl, z7, hr1.cast (by rw [← dg_vl (by decide) hod, hov, Int.mul_comm]), by omega⟩
set_option maxHeartbeats 400000 in
theorem radd_ok (a : Option Addr) (n c : Nat) (xs : List Int) (b : Option Addr) (m d : Nat) (ys : List Int) (S S1 S2 : Nat → Prop) (w : World) (h : RN .i64 S1 w a n c xs) (hd : Dg b16 xs) (h2 : RN .i64 S2 w b m d ys) (hd2 : Dg b16 ys) (hn : n ≤ LX / 2) (hm : m ≤ LX / 2) (hu : Up S w) :
    Calls Tryz.prog 201 #[.slice a n c, .slice b m d] w (fun e w' => ∃ a n' c, e = .returned (.slice a n' c) ∧ Ext w w' ∧ RN .i64 S w' a n' c (dg b16 (vl b16 xs + vl b16 ys)) ∧ n' ≤ max n m + 1) := by
  have z0 := Ext.refl w; have hLX : LX = 17592186044416 := rfl; have hLY : LY = 8796093022208 := rfl
  have hl := h.len; have hl2 := h2.len
  refine enter (args := [.slice a n c, .slice b m d]) Tryz.func201 rfl rfl (Nat.le_of_ble_eq_true rfl) ?_
  refine V.seq (V.reg rfl ?_)
  refine ass rfl ?_
  refine vnil ?_
  refine V.seq (V.reg rfl ?_)
  refine ass rfl ?_
  refine vnil ?_
  refine V.seq (V.reg rfl ?_)
  refine asi rfl ?_
  refine vnil ?_
  refine V.seq ?_
  refine V.seq (V.reg rfl ?_)
  refine asi rfl ?_
  refine vnil ?_
  refine V.block ?_
  refine V.loopK (ι := Nat × Int × Value) [(0, .slice _ _ _), (1, .slice _ _ _), (4, .slice _ _ _)] (fun ⟨k, cy, v⟩ => [(7, .int .i64 (k : Int)), (6, .int .i64 cy), (5, v)]) (fun ⟨k, cy, v⟩ W => Ext w W ∧ 0 ≤ cy ∧ cy ≤ 1 ∧ (k ≤ max n m ∨ (k = max n m + 1 ∧ cy = 0)) ∧ ∃ os, OI .i64 w.heap.size W 3 v os ∧ os.length = k ∧ Dg b16 os ∧ vl b16 os + b16 ^ k * cy = vl b16 (xs.take k) + vl b16 (ys.take k)) (fun ⟨k, cy, v⟩ => (max n m - k) * 2 + cy.toNat) ((0, 0, _)) ⟨rfl, rfl, rfl, trivial⟩ ⟨rfl, rfl, rfl, trivial⟩ ⟨Ext.refl _, by omega, by omega, by omega, [], OI.nil .i64 _ _ _, rfl, Dg.nil _, by simp [vl]⟩ ?_
  intro i2 E3 W1 h4
  obtain ⟨k, cy, v⟩ := i2
  simp only at h4
  show V _ _ _ _ _ _ (ups (ups _ _) [(7, .int .i64 (k : Int)), (6, .int .i64 cy), (5, v)]) _
  obtain ⟨x5, hc0, hc1, hk, os, hO, hol, hod, hov⟩ := h4
  have s6 := x5.sz
  have z7 := x5
  refine V.seq ?_
  refine V.seq (V.reg rfl ?_)
  refine mvi rfl ?_
  refine mvs rfl ?_
  refine vv (rlen sl73 rfl) ?_
  refine vlt rfl rfl ?_ ?_
  · intro c8
    have hwb := wd_dg (B := b16) (by decide) hd (k : Int); have hwb2 := wd_dg (B := b16) (by decide) hd2 (k : Int)
    unfold b16 at hwb hwb2
    refine mvb rfl ?_
    refine vgn (b := true) rfl rfl ?_
    refine vgn (b := true) rfl rfl ?_
    refine vgn (b := true) rfl rfl ?_
    refine vgn (b := true) rfl rfl ?_
    refine vv (rpk (v := .bool true) rfl rfl) ?_
    refine mvb rfl ?_
    refine vgn (b := true) rfl rfl ?_
    refine vgn (b := true) rfl rfl ?_
    refine vv (rpk (v := .bool true) rfl rfl) ?_
    refine vnil ?_
    refine V.condT rfl ?_
    refine V.skip ?_
    refine V.seq ?_
    refine V.block ?_
    refine V.seq (V.reg rfl ?_)
    refine mvs rfl ?_
    refine mvi rfl ?_
    refine vo ?_
    refine xcall e212 (rat_ok _ _ _ _ _ _ _ (h.ext z7) (by omega)) rfl rfl ?_
    rintro _ _ ⟨rfl, rfl⟩
    refine ⟨_, rfl, ?_⟩
    refine mvs rfl ?_
    refine mvi rfl ?_
    refine vo ?_
    refine xcall e212 (rat_ok _ _ _ _ _ _ _ (h2.ext z7) (by omega)) rfl rfl ?_
    rintro _ _ ⟨rfl, rfl⟩
    refine ⟨_, rfl, ?_⟩
    refine vv (rbin (bAdd (wi (by omega))) rfl rfl) ?_
    refine mvi rfl ?_
    refine vv (rbin (bAdd (wi (by omega))) rfl rfl) ?_
    refine asi rfl ?_
    refine vnil ?_
    refine V.seq (V.reg rfl ?_)
    refine vv (rmv (v := v) rfl) ?_
    refine mvi rfl ?_
    refine vv (rbin (bRem (by omega) (Int.tmod_eq_emod_of_nonneg (by omega))) rfl rfl) ?_
    refine vo ?_
    refine xbs (ps := [(0, .int _ _)]) (cs := [.int _ _]) sl73 zr3 sz3 rfl rfl rfl rfl rfl rfl ?_
    intro W11 x12 b13 nn14
    have s15 := x12.sz
    have z16 := z7.trans x12
    replace hO := hO.ext x12
    refine vo ?_
    refine xapp sl73 in3 hO rfl rfl b13 (by simp only [kb]; omega) (by omega) (by decide) (by omega) ?_
    intro v17 W18 hO19 hg20 ho21
    have y22 := grown_below hg20 (by omega) (fun b e => (hO.low b e).1)
    have s23 := y22.size
    have z24 := z16.below (y22.mono (by omega))
    refine vv (ras (v := v17) rfl) ?_
    refine vnil ?_
    refine V.reg rfl ?_
    refine mvi rfl ?_
    refine vv (rbin (bQuo (by omega) (wiq (by rw [Int.tdiv_eq_ediv_of_nonneg (by omega)]; omega) (Int.tdiv_eq_ediv_of_nonneg (by omega)))) rfl rfl) ?_
    refine asi rfl ?_
    refine vnil ?_
    refine V.reg rfl ?_
    refine mvi rfl ?_
    refine vv (rbin (bAdd (wi (by omega))) rfl rfl) ?_
    refine asi rfl ?_
    refine vnil ?_
    refine ⟨rfl, (k + 1, _, _), ⟨rfl, rfl, rfl, trivial⟩, ⟨rfl, rfl, rfl, trivial⟩, ⟨z24, by omega, by omega, by omega, _, hO19, by rw [List.length_append, hol]; rfl, Dg.append.2 ⟨hod, by intro x hx; simp only [List.mem_cons, List.not_mem_nil, or_false] at hx; unfold b16; omega⟩, add_step hol hov rfl (by unfold b16; omega)⟩, ?_⟩
    show (max n m - (k + 1)) * 2 + Int.toNat _ < (max n m - k) * 2 + cy.toNat
    omega
  · intro c8
    refine mvb rfl ?_
    refine vg rfl ?_
    refine mvi rfl ?_
    refine vg rfl ?_
    refine mvs rfl ?_
    refine vg rfl ?_
    refine vv (rlen sl73 rfl) ?_
    refine vg rfl ?_
    refine vlt rfl rfl ?_ ?_
    · intro c25
      have hwb := wd_dg (B := b16) (by decide) hd (k : Int); have hwb2 := wd_dg (B := b16) (by decide) hd2 (k : Int)
      unfold b16 at hwb hwb2
      refine vv (rpk (v := .bool true) rfl rfl) ?_
      refine mvb rfl ?_
      refine vgn (b := true) rfl rfl ?_
      refine vgn (b := true) rfl rfl ?_
      refine vv (rpk (v := .bool true) rfl rfl) ?_
      refine vnil ?_
      refine V.condT rfl ?_
      refine V.skip ?_
      refine V.seq ?_
      refine V.block ?_
      refine V.seq (V.reg rfl ?_)
      refine mvs rfl ?_
      refine mvi rfl ?_
      refine vo ?_
      refine xcall e212 (rat_ok _ _ _ _ _ _ _ (h.ext z7) (by omega)) rfl rfl ?_
      rintro _ _ ⟨rfl, rfl⟩
      refine ⟨_, rfl, ?_⟩
      refine mvs rfl ?_
      refine mvi rfl ?_
      refine vo ?_
      refine xcall e212 (rat_ok _ _ _ _ _ _ _ (h2.ext z7) (by omega)) rfl rfl ?_
      rintro _ _ ⟨rfl, rfl⟩
      refine ⟨_, rfl, ?_⟩
      refine vv (rbin (bAdd (wi (by omega))) rfl rfl) ?_
      refine mvi rfl ?_
      refine vv (rbin (bAdd (wi (by omega))) rfl rfl) ?_
      refine asi rfl ?_
      refine vnil ?_
      refine V.seq (V.reg rfl ?_)
      refine vv (rmv (v := v) rfl) ?_
      refine mvi rfl ?_
      refine vv (rbin (bRem (by omega) (Int.tmod_eq_emod_of_nonneg (by omega))) rfl rfl) ?_
      refine vo ?_
      refine xbs (ps := [(0, .int _ _)]) (cs := [.int _ _]) sl73 zr3 sz3 rfl rfl rfl rfl rfl rfl ?_
      intro W28 x29 b30 nn31
      have s32 := x29.sz
      have z33 := z7.trans x29
      replace hO := hO.ext x29
      refine vo ?_
      refine xapp sl73 in3 hO rfl rfl b30 (by simp only [kb]; omega) (by omega) (by decide) (by omega) ?_
      intro v34 W35 hO36 hg37 ho38
      have y39 := grown_below hg37 (by omega) (fun b e => (hO.low b e).1)
      have s40 := y39.size
      have z41 := z33.below (y39.mono (by omega))
      refine vv (ras (v := v34) rfl) ?_
      refine vnil ?_
      refine V.reg rfl ?_
      refine mvi rfl ?_
      refine vv (rbin (bQuo (by omega) (wiq (by rw [Int.tdiv_eq_ediv_of_nonneg (by omega)]; omega) (Int.tdiv_eq_ediv_of_nonneg (by omega)))) rfl rfl) ?_
      refine asi rfl ?_
      refine vnil ?_
      refine V.reg rfl ?_
      refine mvi rfl ?_
      refine vv (rbin (bAdd (wi (by omega))) rfl rfl) ?_
      refine asi rfl ?_
      refine vnil ?_
      refine ⟨rfl, (k + 1, _, _), ⟨rfl, rfl, rfl, trivial⟩, ⟨rfl, rfl, rfl, trivial⟩, ⟨z41, by omega, by omega, by omega, _, hO36, by rw [List.length_append, hol]; rfl, Dg.append.2 ⟨hod, by intro x hx; simp only [List.mem_cons, List.not_mem_nil, or_false] at hx; unfold b16; omega⟩, add_step hol hov rfl (by unfold b16; omega)⟩, ?_⟩
      show (max n m - (k + 1)) * 2 + Int.toNat _ < (max n m - k) * 2 + cy.toNat
      omega
    · intro c25
      refine vv (rpk (v := .bool false) rfl rfl) ?_
      refine mvb rfl ?_
      refine vg rfl ?_
      refine mvi rfl ?_
      refine vg rfl ?_
      refine vgt rfl rfl ?_ ?_
      · intro c42
        have hwb : wd xs (k : Int) = 0 := wd_ge (by omega)
        have hwb2 : wd ys (k : Int) = 0 := wd_ge (by omega)
        refine vv (rpk (v := .bool true) rfl rfl) ?_
        refine vnil ?_
        refine V.condT rfl ?_
        refine V.skip ?_
        refine V.seq ?_
        refine V.block ?_
        refine V.seq (V.reg rfl ?_)
        refine mvs rfl ?_
        refine mvi rfl ?_
        refine vo ?_
        refine xcall e212 (rat_ok _ _ _ _ _ _ _ (h.ext z7) (by omega)) rfl rfl ?_
        rintro _ _ ⟨rfl, rfl⟩
        refine ⟨_, rfl, ?_⟩
        refine mvs rfl ?_
        refine mvi rfl ?_
        refine vo ?_
        refine xcall e212 (rat_ok _ _ _ _ _ _ _ (h2.ext z7) (by omega)) rfl rfl ?_
        rintro _ _ ⟨rfl, rfl⟩
        refine ⟨_, rfl, ?_⟩
        refine vv (rbin (bAdd (wi (by omega))) rfl rfl) ?_
        refine mvi rfl ?_
        refine vv (rbin (bAdd (wi (by omega))) rfl rfl) ?_
        refine asi rfl ?_
        refine vnil ?_
        refine V.seq (V.reg rfl ?_)
        refine vv (rmv (v := v) rfl) ?_
        refine mvi rfl ?_
        refine vv (rbin (bRem (by omega) (Int.tmod_eq_emod_of_nonneg (by omega))) rfl rfl) ?_
        refine vo ?_
        refine xbs (ps := [(0, .int _ _)]) (cs := [.int _ _]) sl73 zr3 sz3 rfl rfl rfl rfl rfl rfl ?_
        intro W45 x46 b47 nn48
        have s49 := x46.sz
        have z50 := z7.trans x46
        replace hO := hO.ext x46
        refine vo ?_
        refine xapp sl73 in3 hO rfl rfl b47 (by simp only [kb]; omega) (by omega) (by decide) (by omega) ?_
        intro v51 W52 hO53 hg54 ho55
        have y56 := grown_below hg54 (by omega) (fun b e => (hO.low b e).1)
        have s57 := y56.size
        have z58 := z50.below (y56.mono (by omega))
        refine vv (ras (v := v51) rfl) ?_
        refine vnil ?_
        refine V.reg rfl ?_
        refine mvi rfl ?_
        refine vv (rbin (bQuo (by omega) (wiq (by rw [Int.tdiv_eq_ediv_of_nonneg (by omega)]; omega) (Int.tdiv_eq_ediv_of_nonneg (by omega)))) rfl rfl) ?_
        refine asi rfl ?_
        refine vnil ?_
        refine V.reg rfl ?_
        refine mvi rfl ?_
        refine vv (rbin (bAdd (wi (by omega))) rfl rfl) ?_
        refine asi rfl ?_
        refine vnil ?_
        refine ⟨rfl, (k + 1, _, _), ⟨rfl, rfl, rfl, trivial⟩, ⟨rfl, rfl, rfl, trivial⟩, ⟨z58, by omega, by omega, by omega, _, hO53, by rw [List.length_append, hol]; rfl, Dg.append.2 ⟨hod, by intro x hx; simp only [List.mem_cons, List.not_mem_nil, or_false] at hx; unfold b16; omega⟩, add_step hol hov rfl (by unfold b16; omega)⟩, ?_⟩
        show (max n m - (k + 1)) * 2 + Int.toNat _ < (max n m - k) * 2 + cy.toNat
        omega
      · intro c42
        refine vv (rpk (v := .bool false) rfl rfl) ?_
        refine vnil ?_
        refine V.condF rfl ?_
        refine V.exit ?_
        refine V.seq (V.reg rfl ?_)
        refine vv (rmv (v := v) rfl) ?_
        refine vo ?_
        obtain ⟨a', c', rfl⟩ := hO.form
        have hrn := hO.rn (S := S) (fun b hb _ => hu b (by omega))
        refine xcall e211 (rtrim_ok _ _ _ _ _ _ hrn) rfl rfl ?_
        rintro _ _ ⟨m1, rfl, hr1, hm1, rfl⟩
        refine ⟨_, rfl, ?_⟩
        refine ass rfl ?_
        refine vnil ?_
        refine V.ret ?_
        refine ⟨[.slice _ _ _], ⟨rfl, trivial⟩, ?_⟩
        have e0 : cy = 0 := (by omega)
        subst e0
        rw [Int.mul_zero, Int.add_zero, List.take_of_length_le (by omega), List.take_of_length_le (by omega)] at hov
        exact ⟨_, _, _, rfl, z7, hr1.cast (by rw [← dg_vl (by decide) hod, hov]), by omega⟩
set_option maxHeartbeats 400000 in
theorem rsub_ok (a : Option Addr) (n c : Nat) (xs : List Int) (b : Option Addr) (m d : Nat) (u : Int) (S S1 S2 : Nat → Prop) (w : World) (h : RN .i64 S1 w a n c xs) (hd : Dg b16 xs) (h2 : RN .i64 S2 w b m d (dg b16 u)) (hu0 : 0 ≤ u) (hle : u ≤ vl b16 xs) (hn : n ≤ LX / 2) (hu : Up S w) :
    Calls Tryz.prog 203 #[.slice a n c, .slice b m d] w (fun e w' => ∃ a n' c, e = .returned (.slice a n' c) ∧ Ext w w' ∧ RN .i64 S w' a n' c (dg b16 (vl b16 xs - u)) ∧ n' ≤ n) := by
  have z0 := Ext.refl w; have hLX : LX = 17592186044416 := rfl; have hLY : LY = 8796093022208 := rfl
  have hl := h.len; have hl2 := h2.len
  refine enter (args := [.slice a n c, .slice b m d]) Tryz.func203 rfl rfl (Nat.le_of_ble_eq_true rfl) ?_
  refine V.seq (V.reg rfl ?_)
  refine ass rfl ?_
  refine vnil ?_
  refine V.seq (V.reg rfl ?_)
  refine ass rfl ?_
  refine vnil ?_
  refine V.seq (V.reg rfl ?_)
  refine asi rfl ?_
  refine vnil ?_
  refine V.seq ?_
  refine V.seq (V.reg rfl ?_)
  refine asi rfl ?_
  refine vnil ?_
  refine V.block ?_
  refine V.loopK (ι := Nat × Int × Value) [(0, .slice _ _ _), (1, .slice _ _ _), (4, .slice _ _ _)] (fun ⟨k, cy, v⟩ => [(7, .int .i64 (k : Int)), (6, .int .i64 cy), (5, v)]) (fun ⟨k, cy, v⟩ W => Ext w W ∧ 0 ≤ cy ∧ cy ≤ 1 ∧ k ≤ n ∧ ∃ os, OI .i64 w.heap.size W 3 v os ∧ os.length = k ∧ Dg b16 os ∧ vl b16 os = vl b16 (xs.take k) - vl b16 ((dg b16 u).take k) + b16 ^ k * cy) (fun ⟨k, cy, v⟩ => n - k) ((0, 0, _)) ⟨rfl, rfl, rfl, trivial⟩ ⟨rfl, rfl, rfl, trivial⟩ ⟨Ext.refl _, by omega, by omega, by omega, [], OI.nil .i64 _ _ _, rfl, Dg.nil _, by simp [vl]⟩ ?_
  intro i2 E3 W1 h4
  obtain ⟨k, cy, v⟩ := i2
  simp only at h4
  show V _ _ _ _ _ _ (ups (ups _ _) [(7, .int .i64 (k : Int)), (6, .int .i64 cy), (5, v)]) _
  obtain ⟨x5, hc0, hc1, hk, os, hO, hol, hod, hov⟩ := h4
  have s6 := x5.sz
  have z7 := x5
  refine V.seq ?_
  refine V.seq (V.reg rfl ?_)
  refine mvi rfl ?_
  refine mvs rfl ?_
  refine vv (rlen sl73 rfl) ?_
  refine vlt rfl rfl ?_ ?_
  · intro c8
    have hwb : 0 ≤ wd xs (k : Int) ∧ wd xs (k : Int) < 65536 := wd_dg (B := b16) (by decide) hd (k : Int)
    have hwb2 : 0 ≤ wd (dg b16 u) (k : Int) ∧ wd (dg b16 u) (k : Int) < 65536 := wd_dg (B := b16) (by decide) (Dg.dg (B := b16) (by decide) u) (k : Int)
    refine vnil ?_
    refine V.condT rfl ?_
    refine V.skip ?_
    refine V.seq ?_
    refine V.block ?_
    refine V.seq (V.reg rfl ?_)
    refine mvs rfl ?_
    refine mvi rfl ?_
    refine vo ?_
    refine xcall e212 (rat_ok _ _ _ _ _ _ _ (h.ext z7) (by omega)) rfl rfl ?_
    rintro _ _ ⟨rfl, rfl⟩
    refine ⟨_, rfl, ?_⟩
    refine mvs rfl ?_
    refine mvi rfl ?_
    refine vo ?_
    refine xcall e212 (rat_ok _ _ _ _ _ _ _ (h2.ext z7) (by omega)) rfl rfl ?_
    rintro _ _ ⟨rfl, rfl⟩
    refine ⟨_, rfl, ?_⟩
    refine vv (rbin (bSub (wi (by omega))) rfl rfl) ?_
    refine mvi rfl ?_
    refine vv (rbin (bSub (wi (by omega))) rfl rfl) ?_
    refine asi rfl ?_
    refine vnil ?_
    refine V.seq (V.reg rfl ?_)
    refine asi rfl ?_
    refine vnil ?_
    refine V.seq ?_
    refine V.seq (V.reg rfl ?_)
    refine mvi rfl ?_
    refine vlt rfl rfl ?_ ?_
    · intro c11
      refine vnil ?_
      refine V.condT rfl ?_
      refine V.seq (V.reg rfl ?_)
      refine mvi rfl ?_
      refine vv (rbin (bAdd (wi (by omega))) rfl rfl) ?_
      refine asi rfl ?_
      refine vnil ?_
      refine V.reg rfl ?_
      refine asi rfl ?_
      refine vnil ?_
      refine V.reg rfl ?_
      refine vv (rmv (v := v) rfl) ?_
      refine mvi rfl ?_
      refine vo ?_
      refine xbs (ps := [(0, .int _ _)]) (cs := [.int _ _]) sl73 zr3 sz3 rfl rfl rfl rfl rfl rfl ?_
      intro W12 x13 b14 nn15
      have s16 := x13.sz
      have z17 := z7.trans x13
      replace hO := hO.ext x13
      refine vo ?_
      refine xapp sl73 in3 hO rfl rfl b14 (by simp only [kb]; omega) (by omega) (by decide) (by omega) ?_
      intro v18 W19 hO20 hg21 ho22
      have y23 := grown_below hg21 (by omega) (fun b e => (hO.low b e).1)
      have s24 := y23.size
      have z25 := z17.below (y23.mono (by omega))
      refine vv (ras (v := v18) rfl) ?_
      refine vnil ?_
      refine V.reg rfl ?_
      refine mvi rfl ?_
      refine vv (rbin (bAdd (wi (by omega))) rfl rfl) ?_
      refine asi rfl ?_
      refine vnil ?_
      refine ⟨rfl, (k + 1, _, _), ⟨rfl, rfl, rfl, trivial⟩, ⟨rfl, rfl, rfl, trivial⟩, ⟨z25, by omega, by omega, by omega, _, hO20, by rw [List.length_append, hol]; rfl, Dg.append.2 ⟨hod, by intro x hx; simp only [List.mem_cons, List.not_mem_nil, or_false] at hx; subst hx; unfold b16 at *; omega⟩, sub_step16 hol hov rfl (by unfold b16 at *; omega)⟩, ?_⟩
      show n - (k + 1) < n - k
      omega
    · intro c11
      refine vnil ?_
      refine V.condF rfl ?_
      refine V.skip ?_
      refine V.reg rfl ?_
      refine vv (rmv (v := v) rfl) ?_
      refine mvi rfl ?_
      refine vo ?_
      refine xbs (ps := [(0, .int _ _)]) (cs := [.int _ _]) sl73 zr3 sz3 rfl rfl rfl rfl rfl rfl ?_
      intro W26 x27 b28 nn29
      have s30 := x27.sz
      have z31 := z7.trans x27
      replace hO := hO.ext x27
      refine vo ?_
      refine xapp sl73 in3 hO rfl rfl b28 (by simp only [kb]; omega) (by omega) (by decide) (by omega) ?_
      intro v32 W33 hO34 hg35 ho36
      have y37 := grown_below hg35 (by omega) (fun b e => (hO.low b e).1)
      have s38 := y37.size
      have z39 := z31.below (y37.mono (by omega))
      refine vv (ras (v := v32) rfl) ?_
      refine vnil ?_
      refine V.reg rfl ?_
      refine mvi rfl ?_
      refine vv (rbin (bAdd (wi (by omega))) rfl rfl) ?_
      refine asi rfl ?_
      refine vnil ?_
      refine ⟨rfl, (k + 1, _, _), ⟨rfl, rfl, rfl, trivial⟩, ⟨rfl, rfl, rfl, trivial⟩, ⟨z39, by omega, by omega, by omega, _, hO34, by rw [List.length_append, hol]; rfl, Dg.append.2 ⟨hod, by intro x hx; simp only [List.mem_cons, List.not_mem_nil, or_false] at hx; subst hx; unfold b16 at *; omega⟩, sub_step16 hol hov rfl (by unfold b16 at *; omega)⟩, ?_⟩
      show n - (k + 1) < n - k
      omega
  · intro c8
    refine vnil ?_
    refine V.condF rfl ?_
    refine V.exit ?_
    refine V.seq (V.reg rfl ?_)
    refine vv (rmv (v := v) rfl) ?_
    refine vo ?_
    obtain ⟨a', c', rfl⟩ := hO.form
    have hrn := hO.rn (S := S) (fun b hb _ => hu b (by omega))
    refine xcall e211 (rtrim_ok _ _ _ _ _ _ hrn) rfl rfl ?_
    rintro _ _ ⟨m1, rfl, hr1, hm1, rfl⟩
    refine ⟨_, rfl, ?_⟩
    refine ass rfl ?_
    refine vnil ?_
    refine V.ret ?_
    refine ⟨[.slice _ _ _], ⟨rfl, trivial⟩, ?_⟩
    have e0 : k = n := (by omega)
    subst e0
    exact ⟨_, _, _, rfl, z7, hr1.cast (by rw [← dg_vl (by decide) hod, sub_end16 hl hd hod hol hc0 hle hu0 hov]), by omega⟩
set_option maxHeartbeats 400000 in
theorem rcmp_ok (a : Option Addr) (n c : Nat) (xs : List Int) (b : Option Addr) (m d : Nat) (ys : List Int) (S1 S2 : Nat → Prop) (w : World) (h : RN .i64 S1 w a n c xs) (hd : Dg b16 xs) (h2 : RN .i64 S2 w b m d ys) (hd2 : Dg b16 ys) :
    Calls Tryz.prog 202 #[.slice a n c, .slice b m d] w (fun e w' => e = .returned (.int .i64 (cmpI (vl b16 xs) (vl b16 ys))) ∧ w = w') := by
  have z0 := Ext.refl w; have hLX : LX = 17592186044416 := rfl; have hLY : LY = 8796093022208 := rfl
  have hl := h.len; have hl2 := h2.len; have q1 := h.cap; have q2 := h.max; have q3 := h2.cap; have q4 := h2.max
  refine enter (args := [.slice a n c, .slice b m d]) Tryz.func202 rfl rfl (Nat.le_of_ble_eq_true rfl) ?_
  refine V.seq (V.reg rfl ?_)
  refine asi rfl ?_
  refine vnil ?_
  refine V.seq ?_
  refine V.seq (V.reg rfl ?_)
  refine mvs rfl ?_
  refine vv (rlen sl73 rfl) ?_
  refine mvs rfl ?_
  refine vv (rlen sl73 rfl) ?_
  refine vv (rmax rfl rfl (show max (n : Int) (m : Int) = ((max n m : Nat) : Int) by omega)) ?_
  refine vv (rbin (bSub (wi (by omega))) rfl rfl) ?_
  refine asi rfl ?_
  refine vnil ?_
  refine V.block ?_
  refine V.loopK (ι := Nat) [(0, .slice _ _ _), (1, .slice _ _ _)] (fun k => [(5, .int .i64 ((k : Int) - 1))]) (fun k W => w = W ∧ k ≤ max n m ∧ ∀ j : Nat, k ≤ j → wd xs j = wd ys j) (fun k => k) (max n m) ⟨rfl, rfl, trivial⟩ ⟨rfl, trivial⟩ ⟨rfl, Nat.le_refl _, fun j hj => by rw [wd_ge (by simp; omega), wd_ge (by simp; omega)]⟩ ?_
  intro k E2 W1 h3
  obtain ⟨rfl, hk, hq⟩ := h3
  refine V.seq ?_
  refine V.seq (V.reg rfl ?_)
  refine mvi rfl ?_
  refine vge rfl rfl ?_ ?_
  · intro c4
    refine vnil ?_
    refine V.condT rfl ?_
    refine V.skip ?_
    refine V.seq ?_
    refine V.block ?_
    refine V.seq ?_
    refine V.seq (V.reg rfl ?_)
    refine mvs rfl ?_
    refine mvi rfl ?_
    refine vo ?_
    refine xcall e212 (rat_ok _ _ _ _ _ _ _ h (by omega)) rfl rfl ?_
    rintro _ _ ⟨rfl, rfl⟩
    refine ⟨_, rfl, ?_⟩
    refine mvs rfl ?_
    refine mvi rfl ?_
    refine vo ?_
    refine xcall e212 (rat_ok _ _ _ _ _ _ _ h2 (by omega)) rfl rfl ?_
    rintro _ _ ⟨rfl, rfl⟩
    refine ⟨_, rfl, ?_⟩
    refine vlt rfl rfl ?_ ?_
    · intro c7
      refine vnil ?_
      refine V.condT rfl ?_
      refine V.seq (V.reg rfl ?_)
      refine asi rfl ?_
      refine vnil ?_
      refine V.ret ?_
      refine ⟨[.int _ _], ⟨rfl, trivial⟩, ?_⟩
      exact ⟨by rw [cmpI_lt (dig_lt (k := k - 1) hd hd2 (by rw [show ((k - 1 : Nat) : Int) = (k : Int) - 1 by omega]; omega) (fun j hj => hq j (by omega)))]; rfl, rfl⟩
    · intro c7
      refine vnil ?_
      refine V.condF rfl ?_
      refine V.skip ?_
      refine V.seq (V.reg rfl ?_)
      refine mvs rfl ?_
      refine mvi rfl ?_
      refine vo ?_
      refine xcall e212 (rat_ok _ _ _ _ _ _ _ h (by omega)) rfl rfl ?_
      rintro _ _ ⟨rfl, rfl⟩
      refine ⟨_, rfl, ?_⟩
      refine mvs rfl ?_
      refine mvi rfl ?_
      refine vo ?_
      refine xcall e212 (rat_ok _ _ _ _ _ _ _ h2 (by omega)) rfl rfl ?_
      rintro _ _ ⟨rfl, rfl⟩
      refine ⟨_, rfl, ?_⟩
      refine vgt rfl rfl ?_ ?_
      · intro c10
        refine vnil ?_
        refine V.condT rfl ?_
        refine V.seq (V.reg rfl ?_)
        refine asi rfl ?_
        refine vnil ?_
        refine V.ret ?_
        refine ⟨[.int _ _], ⟨rfl, trivial⟩, ?_⟩
        exact ⟨by rw [cmpI_gt (dig_lt (k := k - 1) hd2 hd (by rw [show ((k - 1 : Nat) : Int) = (k : Int) - 1 by omega]; omega) (fun j hj => (hq j (by omega)).symm))]; rfl, rfl⟩
      · intro c10
        refine vnil ?_
        refine V.condF rfl ?_
        refine V.skip ?_
        refine V.reg rfl ?_
        refine mvi rfl ?_
        refine vv (rbin (bSub (show IntKind.i64.wrap ((k : Int) - 1 - 1) = ((k - 1 : Nat) : Int) - 1 by rw [wi (by omega)]; omega)) rfl rfl) ?_
        refine asi rfl ?_
        refine vnil ?_
        refine ⟨rfl, k - 1, ⟨rfl, rfl, trivial⟩, ⟨rfl, trivial⟩, ⟨rfl, by omega, fun j hj => by rcases Nat.lt_or_ge j k with h | h; rw [show (j : Int) = (k : Int) - 1 by omega]; omega; exact hq j h⟩, ?_⟩
        show k - 1 < k
        omega
  · intro c4
    refine vnil ?_
    refine V.condF rfl ?_
    refine V.exit ?_
    refine V.seq (V.reg rfl ?_)
    refine asi rfl ?_
    refine vnil ?_
    refine V.ret ?_
    refine ⟨[.int _ _], ⟨rfl, trivial⟩, ?_⟩
    have e0 : k = 0 := (by omega)
    subst e0
    exact ⟨by rw [cmpI_eq (dig_eq fun j => hq j (Nat.zero_le _))]; rfl, rfl⟩
end Go.Proofs.YtknbjfefeeojlaaGreat
/- Package pylonref01: mul, div. -/
namespace Go.Proofs.YtknbjfefeeojlaaGreat
open Go.RowKit
attribute [local irreducible] RV VH V OpF Calls

set_option maxHeartbeats 400000 in
theorem rmul_ok (a : Option Addr) (n c : Nat) (xs : List Int) (b : Option Addr) (m d : Nat) (ys : List Int) (S S1 S2 : Nat → Prop) (w : World) (h : RN .i64 S1 w a n c xs) (hd : Dg b16 xs) (h2 : RN .i64 S2 w b m d ys) (hd2 : Dg b16 ys) (hn : n ≤ LX / 8) (hm : m ≤ LX / 8) (hu : Up S w) :
    Calls Tryz.prog 200 #[.slice a n c, .slice b m d] w (fun e w' => ∃ a n' c, e = .returned (.slice a n' c) ∧ Ext w w' ∧ RN .i64 S w' a n' c (dg b16 (vl b16 xs * vl b16 ys))) := by
  have z0 := Ext.refl w; have hLX : LX = 17592186044416 := rfl; have hLY : LY = 8796093022208 := rfl
  have hl := h.len; have hl2 := h2.len
  refine enter (args := [.slice a n c, .slice b m d]) Tryz.func200 rfl rfl (Nat.le_of_ble_eq_true rfl) ?_
  refine V.seq (V.reg rfl ?_)
  refine ass rfl ?_
  refine vnil ?_
  refine V.seq ?_
  refine V.seq (V.reg rfl ?_)
  refine mvs rfl ?_
  refine vv (rlen sl73 rfl) ?_
  refine mvs rfl ?_
  refine vv (rlen sl73 rfl) ?_
  refine vv (rbin (bAdd (wi (by omega))) rfl rfl) ?_
  refine vle rfl rfl ?_ ?_
  · intro c1
    refine vnil ?_
    refine V.condT rfl ?_
    refine V.seq (V.reg rfl ?_)
    refine mvs rfl ?_
    refine vo ?_
    refine xcall e214 (rsmall_ok _ _ _ _ _ _ h ((by first | exact hd | exact hd2)) (by omega)) rfl rfl ?_
    rintro _ _ ⟨rfl, rfl⟩
    refine ⟨_, rfl, ?_⟩
    refine mvs rfl ?_
    refine vo ?_
    refine xcall e214 (rsmall_ok _ _ _ _ _ _ h2 ((by first | exact hd | exact hd2)) (by omega)) rfl rfl ?_
    rintro _ _ ⟨rfl, rfl⟩
    refine ⟨_, rfl, ?_⟩
    have hsp := small_prod hd hd2 (by omega)
    refine vv (rbin (bMul (wi (by omega))) rfl rfl) ?_
    refine vo ?_
    refine xcall e213 (rback_ok _ _ _ (by omega) (by omega) (hu.mono (by omega))) rfl rfl ?_
    rintro _ W5 ⟨_, _, _, rfl, x6, hh4⟩
    have s7 := x6.sz
    have z8 := x6
    have hh4l := hh4.len
    refine ⟨_, rfl, ?_⟩
    refine ass rfl ?_
    refine vnil ?_
    refine V.ret ?_
    refine ⟨[.slice _ _ _], ⟨rfl, trivial⟩, ?_⟩
    exact ⟨_, _, _, rfl, z8, hh4⟩
  · intro c1
    refine vnil ?_
    refine V.condF rfl ?_
    refine V.skip ?_
    refine V.seq (V.reg rfl ?_)
    refine ass rfl ?_
    refine vnil ?_
    refine V.seq ?_
    refine V.seq (V.reg rfl ?_)
    refine mvs rfl ?_
    refine vv (rlen sl73 rfl) ?_
    refine vv (rbin (bSub (wi (by omega))) rfl rfl) ?_
    refine asi rfl ?_
    refine vnil ?_
    refine V.block ?_
    refine V.loopK (ι := Nat × Option Addr × Nat × Nat × List Int) [(0, .slice _ _ _), (1, .slice _ _ _), (4, .slice _ _ _)] (fun ⟨k, oa, on, oc, ws⟩ => [(6, .int .i64 ((k : Int) - 1)), (5, .slice oa on oc)]) (fun ⟨k, oa, on, oc, ws⟩ W => Ext w W ∧ k ≤ n ∧ on + k ≤ n + m ∧ RN .i64 S W oa on oc ws ∧ Dg b16 ws ∧ vl b16 ws = vl b16 (xs.drop k) * vl b16 ys) (fun ⟨k, oa, on, oc, ws⟩ => k) ((n, _, _, _, [])) ⟨rfl, rfl, rfl, trivial⟩ ⟨rfl, rfl, trivial⟩ ⟨Ext.refl _, Nat.le_refl _, by omega, RN.nil _ _ _ _ _ (by omega), Dg.nil _, by rw [List.drop_eq_nil_of_le (by omega)]; simp [vl]⟩ ?_
    intro i10 E11 W9 h12
    obtain ⟨k, oa, on, oc, ws⟩ := i10
    simp only at h12
    show V _ _ _ _ _ _ (ups (ups _ _) [(6, .int .i64 ((k : Int) - 1)), (5, .slice oa on oc)]) _
    obtain ⟨x13, hk, hon, hM, hdw, hMv⟩ := h12
    have s14 := x13.sz
    have z15 := x13
    refine V.seq ?_
    refine V.seq (V.reg rfl ?_)
    refine mvi rfl ?_
    refine vge rfl rfl ?_ ?_
    · intro c16
      have hwb : 0 ≤ wd xs ((k : Int) - 1) ∧ wd xs ((k : Int) - 1) < 65536 := wd_dg (B := b16) (by decide) hd ((k : Int) - 1)
      have hml := hM.len
      refine vnil ?_
      refine V.condT rfl ?_
      refine V.skip ?_
      refine V.seq ?_
      refine V.block ?_
      refine V.seq (V.reg rfl ?_)
      refine vo ?_
      refine xbs (ps := [(0, .int _ _)]) (cs := [.int _ _]) sl73 zr3 sz3 rfl rfl rfl rfl rfl rfl ?_
      intro W17 x18 b19 nn20
      have s21 := x18.sz
      have z22 := z15.trans x18
      refine mvs rfl ?_
      refine vo ?_
      refine xappN sl73 in3 (OI.lit (B := W9.heap.size) (k := .i64) (xs := [_]) b19 (by intro q hq; simp only [List.mem_cons, List.not_mem_nil, or_false] at hq; simp only [kb]; omega) (by omega)) rfl rfl (hM.ext x18) (by simp only [List.length_cons, List.length_nil]; omega) (by decide) (by omega) ?_
      intro v23 W24 hO25 hg26 ho27
      have y28 := grown_below hg26 (by omega) (fun b e => ((OI.lit (B := W9.heap.size) (k := .i64) (xs := [_]) b19 (by intro q hq; simp only [List.mem_cons, List.not_mem_nil, or_false] at hq; simp only [kb]; omega) (by omega)).low b e).1)
      have s29 := y28.size
      have z30 := z22.below (y28.mono (by omega))
      refine vv (ras (v := v23) rfl) ?_
      refine vnil ?_
      refine V.seq (V.reg rfl ?_)
      obtain ⟨a', c', rfl⟩ := hO25.form
      have hO1 := hO25.rn (S := S) (fun b hb _ => hu b (by omega))
      have z31 := Ext.refl W24
      refine asi rfl ?_
      refine vnil ?_
      refine V.block ?_
      refine V.loopK (ι := Int × Option Addr × Nat × Nat × List Int) [(0, .slice _ _ _), (1, .slice _ _ _), (4, .slice _ _ _), (6, .int _ _), (23, .int _ _), (24, .bool true), (27, .slice _ _ _), (28, .slice _ _ _), (29, .slice _ _ _)] (fun ⟨j, pa, pn, pc, vs⟩ => [(7, .int .i64 j), (5, .slice pa pn pc)]) (fun ⟨j, pa, pn, pc, vs⟩ W => Ext W24 W ∧ 0 ≤ j ∧ pn + k ≤ n + m + 1 ∧ RN .i64 S W pa pn pc vs ∧ Dg b16 vs ∧ vl b16 vs = 65536 * (vl b16 (xs.drop k) * vl b16 ys) + min j (wd xs ((k : Int) - 1)) * vl b16 ys) (fun ⟨j, pa, pn, pc, vs⟩ => (wd xs ((k : Int) - 1) - j).toNat) ((0, _, _, _, _)) ⟨rfl, rfl, rfl, rfl, rfl, rfl, rfl, rfl, rfl, trivial⟩ ⟨rfl, rfl, trivial⟩ ⟨Ext.refl _, by omega, by simp only [List.length_append, List.length_cons, List.length_nil]; omega, hO1, Dg.append.2 ⟨by intro x hx; simp at hx; subst hx; decide, hdw⟩, by rw [show min (0 : Int) (wd xs ((k : Int) - 1)) = 0 by omega]; simp only [List.cons_append, List.nil_append, vl]; rw [hMv]; unfold b16; omega⟩ ?_
      intro i33 E34 W32 h35
      obtain ⟨j, pa, pn, pc, vs⟩ := i33
      simp only at h35
      show V _ _ _ _ _ _ (ups (ups _ _) [(7, .int .i64 j), (5, .slice pa pn pc)]) _
      obtain ⟨x36, hj0, hpn, hV, hdv, hval⟩ := h35
      have s37 := x36.sz
      have z38 := z30.trans x36
      have z39 := x36
      have hvl2 := hV.len
      refine V.seq ?_
      refine V.seq (V.reg rfl ?_)
      refine mvi rfl ?_
      refine mvs rfl ?_
      refine mvi rfl ?_
      refine vv (rixn (h.ext z38) sl73 sz3 rfl rfl (by omega) (by omega)) ?_
      refine vldN (h.ext z38) rfl sc3 (by omega) (by omega) ?_
      intro q40 hq40 hk41
      simp only [kb] at hk41
      refine vlt rfl rfl ?_ ?_
      · intro c42
        refine vnil ?_
        refine V.condT rfl ?_
        refine V.skip ?_
        refine V.seq ?_
        refine V.block ?_
        refine V.reg rfl ?_
        refine mvs rfl ?_
        refine mvs rfl ?_
        refine mvs rfl ?_
        refine mvi rfl ?_
        refine vv (rixn (h.ext z38) sl73 sz3 rfl rfl (by omega) (by omega)) ?_
        refine vldN (h.ext z38) rfl sc3 (by omega) (by omega) ?_
        intro q43 hq43 hk44
        simp only [kb] at hk44
        refine mvi rfl ?_
        refine vv (rbin (bSub (wi (by omega))) rfl rfl) ?_
        refine vv (rmin rfl rfl rfl) ?_
        refine vo ?_
        refine xcall e215 (rtimes_ok _ _ _ _ _ S _ _ (h2.ext z38) hd2 (by omega) ⟨by omega, by omega⟩ (hu.mono (by omega))) rfl rfl ?_
        rintro _ W46 ⟨_, _, _, rfl, x47, hh45, hh45b⟩
        have s48 := x47.sz
        have z49 := z38.trans x47
        have z50 := z39.trans x47
        have hh45l := hh45.len
        refine ⟨_, rfl, ?_⟩
        refine vo ?_
        have hvn := mul_in16 hval (a := wd xs ((k : Int) - 1)) (by omega) (show min (1024 : Int) (q43 - j) = min 1024 (wd xs ((k : Int) - 1) - j) by rw [hq43])
        have hvp : 0 ≤ vl b16 vs + vl b16 ys * min (1024 : Int) (q43 - j) := by rw [hvn]; exact (mul_len16 hd hd2 (k := k) (by omega) (by omega) (by omega) (by omega)).1
        have hvy : 0 ≤ vl b16 ys * min (1024 : Int) (q43 - j) := Int.mul_nonneg (vl_nonneg (by decide) hd2) (by omega)
        refine xcall e201 (radd_ok _ _ _ _ _ _ _ _ S _ _ _ (hV.ext x47) hdv hh45 (Dg.dg (by decide) _) (by omega) (by omega) (hu.mono (by omega))) rfl rfl ?_
        rintro _ W52 ⟨_, _, _, rfl, x53, hh51, hh51b⟩
        have s54 := x53.sz
        have z55 := z49.trans x53
        have z56 := z50.trans x53
        rw [vl_dg (by decide) hvy] at hh51
        have hh51l := hh51.len
        refine ⟨_, rfl, ?_⟩
        refine ass rfl ?_
        refine vnil ?_
        refine V.reg rfl ?_
        refine mvi rfl ?_
        refine vv (rbin (bAdd (wi (by omega))) rfl rfl) ?_
        refine asi rfl ?_
        refine vnil ?_
        refine ⟨rfl, (j + 1024, _, _, _, _), ⟨rfl, rfl, rfl, rfl, rfl, rfl, rfl, rfl, rfl, trivial⟩, ⟨rfl, rfl, trivial⟩, ⟨z56, by omega, by have := (mul_len16 hd hd2 (k := k) (t := min (j + 1024) (wd xs ((k : Int) - 1))) (by omega) (by omega) (by omega) (by omega)).2; rw [← hvn] at this; omega, hh51, Dg.dg (by decide) _, by rw [vl_dg (by decide) hvp]; exact hvn⟩, ?_⟩
        show (wd xs ((k : Int) - 1) - (j + 1024)).toNat < (wd xs ((k : Int) - 1) - j).toNat
        omega
      · intro c42
        refine vnil ?_
        refine V.condF rfl ?_
        refine V.exit ?_
        refine V.reg rfl ?_
        refine mvi rfl ?_
        refine vv (rbin (bSub (show IntKind.i64.wrap ((k : Int) - 1 - 1) = ((k - 1 : Nat) : Int) - 1 by rw [wi (by omega)]; omega)) rfl rfl) ?_
        refine asi rfl ?_
        refine vnil ?_
        refine ⟨rfl, (k - 1, _, _, _, _), ⟨rfl, rfl, rfl, trivial⟩, ⟨rfl, rfl, trivial⟩, ⟨z38, by omega, by omega, hV, hdv, mul_out16 (by omega) (by omega) hval (by omega)⟩, ?_⟩
        show k - 1 < k
        omega
    · intro c16
      refine vnil ?_
      refine V.condF rfl ?_
      refine V.exit ?_
      refine V.seq (V.reg rfl ?_)
      refine mvs rfl ?_
      refine vo ?_
      refine xcall e211 (rtrim_ok _ _ _ _ _ _ hM) rfl rfl ?_
      rintro _ _ ⟨m1, rfl, hr1, hm1, rfl⟩
      refine ⟨_, rfl, ?_⟩
      refine ass rfl ?_
      refine vnil ?_
      refine V.ret ?_
      refine ⟨[.slice _ _ _], ⟨rfl, trivial⟩, ?_⟩
      have e0 : k = 0 := (by omega)
      subst e0
      exact ⟨_, _, _, rfl, z15, hr1.cast (by rw [← dg_vl (by decide) hdw, hMv]; rfl)⟩
end Go.Proofs.YtknbjfefeeojlaaGreat

/- Package pylonlaw05: SolveInverse. -/
import Derived.Test.YtknbjfefeeojlaaGreatMgqs8
namespace Go.Proofs.YtknbjfefeeojlaaGreat
open Go.RowKit
attribute [local irreducible] RV VH V OpF Calls

set_option maxHeartbeats 2000000 in
theorem solveInv_ok (a1 a2 : Option Addr) (n c m d : Nat) (A : List (List RawQ)) (X : List RawQ) (w : World) (h0 : MX TT w a1 n c A) (h1 : GX TT w a2 m d X) :
    Calls Tryz.prog 11 #[.slice a1 n c, .slice a2 m d] w (fun e w' => e = .returned (.bool true) ∧ Ext w w') := by
 have z0 := Ext.refl w; have hLX : LX = 17592186044416 := rfl; have hLY : LY = 8796093022208 := rfl
 have hLV : LV = 1099511627776 := rfl
 have hx := h0; have hy := h1
 refine enter (args := [.slice a1 n c, .slice a2 m d]) Tryz.func11 rfl rfl (Nat.le_of_ble_eq_true rfl) ?_
 refine V.seq (V.reg rfl ?_)
 refine asb rfl ?_
 refine vnil ?_
 refine V.seq ?_
 refine V.seq (V.reg rfl ?_)
 refine mvs rfl ?_
 refine mvs rfl ?_
 refine vo ?_
 refine xbs (ps := [(0, .slice _ _ _)]) (cs := [.slice _ _ _]) sl22 zr23 sz23 rfl rfl rfl rfl rfl rfl ?_
 intro W1 x2 b3 nn4
 have s5 := x2.sz
 have z6 := x2
 refine vo ?_
 have hm7 : MX TT W1 (some ⟨w.heap.size, 0, none⟩) 1 1 [X] := ⟨[[.slice _ _ _]], RS.lit (s := 1) (S := TT) (n := 1) _ b3 rfl (by simp) trivial rfl (by omega), ⟨_, _, _, rfl, (hy.ext z6)⟩, trivial⟩
 refine xcall e49 (long5_ok _ _ _ _ _ _ A [X] _ _ (hx.ext z6) hm7) rfl rfl ?_
 rintro _ Wb1 ⟨bb1, rfl, xb1, hb1⟩
 refine ⟨_, rfl, ?_⟩
 cases bb1
 ·skip
  have s8 := xb1.sz
  have z9 := z6.trans xb1
  refine mvb rfl ?_
  refine vg rfl ?_
  have hA := (hb1 rfl).1.1; have h6A := (hb1 rfl).1.2
  obtain ⟨rss, hrss⟩ : ∃ rss, rss = A.map (·.map qval) := ⟨_, rfl⟩
  have marss : MA 6 TT _ a1 n c rss := hrss ▸ ((hx.ext z9)).ma (fun r hr => (hA.2.2 r hr).2)
  have hcrss : colsN rss ≤ 8 := by rw [hrss, colsN_raw]; exact hA.2.1
  have hlrss := marss.len
  have hnrss : n ≤ 8 := by have := hA.1; rw [hrss, List.length_map] at hlrss; omega
  have hszrss : szR 6 rss := marss.rowsz (by omega)
  have hrrss : ∀ r ∈ rss, r.length ≤ 20 := fun r hr => by have := cols_ge r hr; omega
  have hc6rss : colsN rss ≤ 6 := by rw [hrss, colsN_raw]; exact h6A.2
  have hn6rss : n ≤ 6 := by have := h6A.1; have := hlrss; rw [hrss, List.length_map] at this; omega
  have hX := (hb1 rfl).2 X (by simp)
  obtain ⟨xs, hxs⟩ : ∃ xs, xs = X.map qval := ⟨_, rfl⟩
  have vaxs : GA 6 TT _ a2 m d xs := hxs ▸ ((hy.ext z9)).va hX.2
  have hlxs := vaxs.len; have hmxs := vaxs.max
  have hnxs : m ≤ 20 := by have := hX.1; rw [hxs, List.length_map] at hlxs; omega
  refine mvs rfl ?_
  refine vg rfl ?_
  refine vv (rlen sl22 rfl) ?_
  refine vg rfl ?_
  refine mvs rfl ?_
  refine vg rfl ?_
  refine vo ?_
  refine xcall e35 (mCols_ok _ _ _ _ _ _ _ marss) rfl rfl ?_
  rintro _ W11 ⟨rfl, x12⟩
  have s13 := x12.sz
  have z14 := z9.trans x12
  have z15 := x12
  refine ⟨_, rfl, ?_⟩
  refine vg rfl ?_
  refine vne rfl rfl ?_ ?_
  ·intro c16
   refine vv (rpk (v := .bool true) rfl rfl) ?_
   refine vnil ?_
   refine V.condT rfl ?_
   refine V.seq (V.reg rfl ?_)
   refine vo ?_
   refine xcall e50 (law5_ok _) rfl rfl ?_
   rintro _ W17 ⟨rfl, x18⟩
   have s19 := x18.sz
   have z20 := z14.trans x18
   refine ⟨_, rfl, ?_⟩
   refine asb rfl ?_
   refine vnil ?_
   refine V.ret ?_
   refine ⟨[.bool true], ⟨rfl, trivial⟩, ?_⟩
   exact ⟨rfl, z20⟩
  ·intro c16
   refine vv (rpk (v := .bool false) rfl rfl) ?_
   refine vnil ?_
   refine V.condF rfl ?_
   refine V.skip ?_
   refine V.seq (V.reg rfl ?_)
   refine mvs rfl ?_
   refine vo ?_
   have hsq : rss.length = colsN rss := by omega
   refine xcall e54 (pInverse _ (marss.ext z15) (by omega) (by omega) (by omega) (pow_room (by omega) (by omega)) (TT.up _)) rfl rfl ?_
   rintro _ Wi ⟨ai, ni, ci, rfl, xi, hv⟩
   by_cases hrk : rank (padm rss) (colsN rss) = rss.length
   ·rw [show (invS rss rss.length).2 = 0 from (inv_code hsq).trans (if_pos hrk)]; refine ⟨_, rfl, ?_⟩
    have s22 := xi.sz
    have z23 := z14.trans xi
    have z24 := z15.trans xi
    have hva := hv.ma (L := 93750) (fun r hr => (inv_sz hsq hrk hszrss (by omega) r hr).mono' (pow_le (L := 6) (M := 6) (by omega) (by decide)))
    have hvl := hv.len; rw [inv_len hsq hrk] at hvl; have hvm := hva.max
    have hvr : ∀ r ∈ (invS rss rss.length).1, r.length ≤ 20 := fun r hr => by have := inv_rect hsq hrk r hr; omega
    have hvc := colsN_inv hsq hrk
    have hvz := hva.rowsz (by omega)
    refine mvt rfl ?_
    refine vv (rext (v := .slice _ _ _) rfl rfl) ?_
    refine vv (rext (v := .int _ _) rfl rfl) ?_
    refine ass rfl ?_
    refine asi rfl ?_
    refine vnil ?_
    refine V.seq (V.reg rfl ?_)
    refine mvs rfl ?_
    refine vo ?_
    refine xcall e55 (pDet _ (marss.ext z24) hsq (by omega) (by omega) (by omega) (pow_room (by omega) (by omega)) (TT.up _)) rfl rfl ?_
    rintro _ W26 ⟨_, rfl, x27, hd⟩
    have s28 := x27.sz
    have z29 := z23.trans x27
    have z30 := z24.trans x27
    have z31 := x27
    obtain ⟨_, _, _, _, _, _, _, _, rfl⟩ := hd.form
    have hda := hd.qa (det_sz hszrss (by omega) (by have := pow_le (L := 6) (k := colsN rss) (M := 6) (B := 93750) (by omega) (by decide); omega) (B := 93751))
    refine ⟨_, rfl, ?_⟩
    refine mvt rfl ?_
    refine vv (rext (v := .agg #[_, _, _, _]) rfl rfl) ?_
    refine vv (rext (v := .int _ _) rfl rfl) ?_
    refine vo ?_
    refine xal zc48 ?_
    intro W33 x34 b35 nn36
    have s37 := x34.sz
    have z38 := z29.trans x34
    have z39 := z30.trans x34
    have z40 := z31.trans x34
    have z41 := x34
    refine vo ?_
    refine sta (cs' := [_, _, _, _]) b35 rfl rfl sz48 rfl rfl rfl ?_
    intro W42 y43 b35
    have z44 := z38.below (y43.below (by omega))
    have z45 := z39.below (y43.below (by omega))
    have z46 := z40.below (y43.below (by omega))
    have z47 := z41.below (y43.below (by omega))
    have s48 := y43.size
    refine asi rfl ?_
    refine vnil ?_
    refine V.seq ?_
    refine V.seq (V.reg rfl ?_)
    refine mvi rfl ?_
    refine vne rfl rfl ?_ ?_
    ·intro c49
     omega
    ·intro c49
     refine mvb rfl ?_
     refine vg rfl ?_
     refine mvi rfl ?_
     refine vg rfl ?_
     refine veq rfl rfl ?_ ?_
     ·intro c50
      refine vg rfl ?_
      refine vv (rldb4 rfl ag48 b35 rfl rfl rfl rfl ) ?_
      refine vg rfl ?_
      refine vo ?_
      refine xcall e66 (fSign_ok [_, _, _, _] _ 93751 _ _ (hda.ext z47) (by omega) (by omega)) rfl rfl ?_
      rintro _ W51 ⟨rfl, x52⟩
      have s53 := x52.sz
      have z54 := z44.trans x52
      have z55 := z45.trans x52
      have z56 := z46.trans x52
      have z57 := z47.trans x52
      replace b35 := b35.ext x52
      refine ⟨_, rfl, ?_⟩
      refine vg rfl ?_
      refine vne rfl rfl ?_ ?_
      ·intro c57
       refine vg rfl ?_
       refine vv (rbne Tryz.underlying4 rfl rfl rfl) ?_
       refine vv (rpk (v := .bool false) rfl rfl) ?_
       refine mvb rfl ?_
       refine vg rfl ?_
       refine mvi rfl ?_
       refine vg rfl ?_
       refine veq rfl rfl ?_ ?_
       ·intro c58
        refine vg rfl ?_
        refine mvs rfl ?_
        refine vg rfl ?_
        refine vo ?_
        refine xcall e63 (pRank _ (marss.ext z55) (by omega) (by omega) (by omega) (pow_room (by omega) (by omega))) rfl rfl ?_
        rintro _ W59 ⟨rfl, x60⟩
        have s61 := x60.sz
        have z62 := z54.trans x60
        have z63 := z55.trans x60
        have z64 := z56.trans x60
        have z65 := z57.trans x60
        replace b35 := b35.ext x60
        refine ⟨_, rfl, ?_⟩
        refine vg rfl ?_
        refine mvs rfl ?_
        refine vg rfl ?_
        refine vv (rlen sl22 rfl) ?_
        refine vg rfl ?_
        refine veq rfl rfl ?_ ?_
        ·intro c66
         refine vg rfl ?_
         refine vv (rbne Tryz.underlying4 rfl rfl rfl) ?_
         refine vv (rpk (v := .bool false) rfl rfl) ?_
         refine vnil ?_
         refine V.condF rfl ?_
         refine V.skip ?_
         refine V.seq ?_
         refine V.seq (V.reg rfl ?_)
         refine mvi rfl ?_
         refine vne rfl rfl ?_ ?_
         ·intro c67
          omega
         ·intro c67
          refine vnil ?_
          refine V.condF rfl ?_
          refine V.skip ?_
          refine V.seq (V.reg rfl ?_)
          refine mvs rfl ?_
          refine vv (rlen sl22 rfl) ?_
          refine vo ?_
          refine xcall e47 (mIdent_ok _ rss.length TT _ (by omega) (TT.up _)) rfl rfl ?_
          rintro _ W68 ⟨_, ni2, _, rfl, x69, hid⟩
          have s70 := x69.sz
          have z71 := z62.trans x69
          have z72 := z63.trans x69
          have z73 := z64.trans x69
          have z74 := z65.trans x69
          replace b35 := b35.ext x69
          have hida := hid.ma (identm_sz rss.length)
          refine ⟨_, rfl, ?_⟩
          refine ass rfl ?_
          refine vnil ?_
          refine V.seq (V.reg rfl ?_)
          refine mvs rfl ?_
          refine mvs rfl ?_
          refine vv (rlen sl22 rfl) ?_
          refine vo ?_
          refine xcall e19 (vResize_ok _ _ _ _ rss.length 6 xs TT TT _ (vaxs.ext z72) (by omega) (by omega) (by omega) (TT.up _)) rfl rfl ?_
          rintro _ W75 ⟨_, nb, cb, rfl, x76, hbs⟩
          have s77 := x76.sz
          have z78 := z71.trans x76
          have z79 := z72.trans x76
          have z80 := z73.trans x76
          have z81 := z74.trans x76
          replace b35 := b35.ext x76
          obtain ⟨bs, hbe⟩ : ∃ z, z = resz xs rss.length := ⟨_, rfl⟩
          rw [← hbe] at hbs
          have hbl : bs.length = rss.length := by rw [hbe, resz_len]
          have hba := hbs.va (L := 6) (by rw [hbe]; exact resz_sz (((vaxs.ext z79)).szv (by omega)) (by omega) _)
          have hbn := hbs.len; have hbm := hbs.max
          refine ⟨_, rfl, ?_⟩
          refine ass rfl ?_
          refine vnil ?_
          refine V.seq (V.reg rfl ?_)
          refine mvs rfl ?_
          refine mvs rfl ?_
          refine vo ?_
          refine xcall e51 (pSolve _ (marss.ext z79) hba (by omega) (by omega) (by omega) (by omega) (pow_room (by omega) (by omega)) (TT.up _)) rfl rfl ?_
          rintro _ W82 ⟨_, _, _, _, nf, cf, rfl, x83, hsx, hsf⟩
          have s84 := x83.sz
          have z85 := z78.trans x83
          have z86 := z79.trans x83
          have z87 := z80.trans x83
          have z88 := z81.trans x83
          replace b35 := b35.ext x83
          rw [(sol_no (n := rss.length) (sol_full hsq hrk hbl).1).1]
          have hsxa := hsx.va (L := 468750) ((solX_sz (M := rss.length) (L := 6) hszrss (((hba.ext x83)).szv (by omega)) (by omega)).mono' (pow_le (M := 7) (by omega) (by decide)))
          have hsxl := hsx.len; have hsxm := hsx.max; have hsxn := solX_len rss bs rss.length
          refine ⟨_, rfl, ?_⟩
          refine mvt rfl ?_
          refine vv (rext (v := .slice _ _ _) rfl rfl) ?_
          refine vv (rext (v := .slice _ _ _) rfl rfl) ?_
          refine vv (rext (v := .int _ _) rfl rfl) ?_
          refine ass rfl ?_
          refine ass rfl ?_
          refine asi rfl ?_
          refine vnil ?_
          refine V.seq (V.reg rfl ?_)
          refine mvs rfl ?_
          refine vo ?_
          refine xcall e55 (pDet _ (hva.ext z87) (by rw [inv_len hsq hrk, hvc]) (by omega) (by omega) (by omega) (by rw [hvc]; exact pow_room (by omega) (by omega)) (TT.up _)) rfl rfl ?_
          rintro _ W89 ⟨_, rfl, x90, hw⟩
          have s91 := x90.sz
          have z92 := z85.trans x90
          have z93 := z86.trans x90
          have z94 := z87.trans x90
          have z95 := z88.trans x90
          replace b35 := b35.ext x90
          obtain ⟨_, _, _, _, _, _, _, _, rfl⟩ := hw.form
          have hwa := hw.qa (det_sz hvz (by omega) (by rw [hvc]; have := pow_le (L := 93750) (k := rss.length) (M := 6) (B := 1464843750) (by omega) (by decide); omega) (B := 1464843751))
          refine ⟨_, rfl, ?_⟩
          refine mvt rfl ?_
          refine vv (rext (v := .agg #[_, _, _, _]) rfl rfl) ?_
          refine vv (rext (v := .int _ _) rfl rfl) ?_
          refine vo ?_
          refine xal zc48 ?_
          intro W97 x98 b99 nn100
          have s101 := x98.sz
          have z102 := z92.trans x98
          have z103 := z93.trans x98
          have z104 := z94.trans x98
          have z105 := z95.trans x98
          have z106 := x98
          replace b35 := b35.ext x98
          refine vo ?_
          refine sta (cs' := [_, _, _, _]) b99 rfl rfl sz48 rfl rfl rfl ?_
          intro W107 y108 b99
          have z109 := z102.below (y108.below (by omega))
          have z110 := z103.below (y108.below (by omega))
          have z111 := z104.below (y108.below (by omega))
          have z112 := z105.below (y108.below (by omega))
          have z113 := z106.below (y108.below (by omega))
          replace b35 := b35.wr y108 (by omega)
          have s114 := y108.size
          refine asi rfl ?_
          refine vnil ?_
          refine V.seq (V.reg rfl ?_)
          refine mvs rfl ?_
          refine mvs rfl ?_
          refine vo ?_
          refine xcall e70 (mMul_ok _ _ _ _ _ _ _ _ 1000000 _ _ TT TT TT _ (hva.ext z111) (marss.ext z110) (by omega) (by omega) (by omega) (by omega) (by omega) (by omega) (TT.up _)) rfl rfl ?_
          rintro _ W115 ⟨_, nhp, chp, rfl, x116, hp⟩
          have s117 := x116.sz
          have z118 := z109.trans x116
          have z119 := z110.trans x116
          have z120 := z111.trans x116
          have z121 := z112.trans x116
          have z122 := z113.trans x116
          replace b35 := b35.ext x116
          replace b99 := b99.ext x116
          have hpa := hp.ma (L := 1000000) (mulm_sz (hvz) (fun i => GA.rows (marss.ext z119) (by omega) i) (by omega) (by omega) (by skip; omega))
          have hpl := hp.len
          refine ⟨_, rfl, ?_⟩
          refine mvs rfl ?_
          refine vo ?_
          refine xcall e40 (mEq_true _ hpa ((hida.ext ((x76.trans x83).trans x90)).ext z122) (by omega) (by omega) (by omega) (fun r hr => by obtain ⟨y, _, rfl⟩ := List.mem_map.1 hr; rw [vmk_len cols_ge]; omega) (fun r hr => by have := identm_rect _ r hr; omega) (mul_left hsq hrk)) rfl rfl ?_
          rintro _ W123 ⟨rfl, x124⟩
          have s125 := x124.sz
          have z126 := z118.trans x124
          have z127 := z119.trans x124
          have z128 := z120.trans x124
          have z129 := z121.trans x124
          have z130 := z122.trans x124
          replace b35 := b35.ext x124
          replace b99 := b99.ext x124
          refine ⟨_, rfl, ?_⟩
          refine mvb rfl ?_
          refine vg rfl ?_
          refine mvs rfl ?_
          refine vg rfl ?_
          refine mvs rfl ?_
          refine vg rfl ?_
          refine vo ?_
          refine xcall e70 (mMul_ok _ _ _ _ _ _ _ _ 1000000 _ _ TT TT TT _ (marss.ext z127) (hva.ext z128) (by omega) (by omega) (by omega) (by omega) (by omega) (by omega) (TT.up _)) rfl rfl ?_
          rintro _ W131 ⟨_, nhq, chq, rfl, x132, hq⟩
          have s133 := x132.sz
          have z134 := z126.trans x132
          have z136 := z128.trans x132
          have z137 := z129.trans x132
          have z138 := z130.trans x132
          replace b35 := b35.ext x132
          replace b99 := b99.ext x132
          have hqa := hq.ma (L := 1000000) (mulm_sz (hszrss) (fun i => GA.rows (hva.ext z136) (by omega) i) (by omega) (by omega) (by rw [inv_len hsq hrk]; omega))
          have hql := hq.len
          refine ⟨_, rfl, ?_⟩
          refine vg rfl ?_
          refine mvs rfl ?_
          refine vg rfl ?_
          refine vo ?_
          refine xcall e40 (mEq_true _ hqa ((hida.ext ((x76.trans x83).trans x90)).ext z138) (by omega) (by omega) (by omega) (fun r hr => by obtain ⟨y, _, rfl⟩ := List.mem_map.1 hr; rw [vmk_len cols_ge]; omega) (fun r hr => by have := identm_rect _ r hr; omega) (mul_right hsq hrk)) rfl rfl ?_
          rintro _ W139 ⟨rfl, x140⟩
          have s141 := x140.sz
          have z142 := z134.trans x140
          have z144 := z136.trans x140
          have z145 := z137.trans x140
          have z146 := z138.trans x140
          replace b35 := b35.ext x140
          replace b99 := b99.ext x140
          refine ⟨_, rfl, ?_⟩
          refine vv (rpk (v := .bool true) rfl rfl) ?_
          refine mvb rfl ?_
          refine vg rfl ?_
          refine mvi rfl ?_
          refine vg rfl ?_
          refine veq rfl rfl ?_ ?_
          ·intro c147
           refine vv (rpk (v := .bool true) rfl rfl) ?_
           refine mvb rfl ?_
           refine vg rfl ?_
           refine mvs rfl ?_
           refine vg rfl ?_
           refine mvs rfl ?_
           refine vg rfl ?_
           refine vo ?_
           refine xcall e22 (mMulVec_ok _ _ _ _ _ _ 93750 6 20 2000000 _ _ TT TT TT _ (hva.ext z144) ((hba.ext (x83.trans x90)).ext z146) hvr (by omega) (by omega) (by omega) (by omega) (by omega) (by omega) (by omega) (TT.up _)) rfl rfl ?_
           rintro _ W148 ⟨_, nu, cu, rfl, x149, hu⟩
           have s150 := x149.sz
           have z151 := z142.trans x149
           have z154 := z145.trans x149
           have z155 := z146.trans x149
           replace b35 := b35.ext x149
           replace b99 := b99.ext x149
           have hul := hu.len; rw [len_mulv, inv_len hsq hrk] at hul; have huc := hu.max
           have hua := hu.va (L := 2000000) (mulv_sz (R := 20) hvz (((hba.ext (x83.trans x90)).ext z155).szv (by omega)) (by omega) (by omega) hvr (by omega) (by omega))
           refine ⟨_, rfl, ?_⟩
           refine vg rfl ?_
           refine mvs rfl ?_
           refine vg rfl ?_
           refine vo ?_
           refine xcall e21 (vEq_true _ hua ((hsxa.ext x90).ext z155) (by omega) (by omega) (by omega) (by omega) (by omega) (inv_solve hsq hrk hbl)) rfl rfl ?_
           rintro _ W156 ⟨rfl, x157⟩
           have s158 := x157.sz
           have z159 := z151.trans x157
           have z162 := z154.trans x157
           have z163 := z155.trans x157
           replace b35 := b35.ext x157
           replace b99 := b99.ext x157
           refine ⟨_, rfl, ?_⟩
           refine vv (rpk (v := .bool true) rfl rfl) ?_
           refine mvb rfl ?_
           refine vg rfl ?_
           refine mvi rfl ?_
           refine vg rfl ?_
           refine veq rfl rfl ?_ ?_
           ·intro c164
            refine vv (rpk (v := .bool true) rfl rfl) ?_
            refine mvb rfl ?_
            refine vg rfl ?_
            refine vv (rldb4 rfl ag48 b35 rfl rfl rfl rfl ) ?_
            refine vg rfl ?_
            refine vv (rldb4 rfl ag48 b99 rfl rfl rfl rfl ) ?_
            refine vg rfl ?_
            refine vo ?_
            refine xcall e71 (fMul_ok [_, _, _, _] [_, _, _, _] _ _ _ _ _ _ _ _ (hda.ext z162) (hwa.ext z163) (by omega) (by omega) (by omega) (TT.up _)) rfl rfl ?_
            rintro _ W166 ⟨_, rfl, x167, hq165⟩
            have s168 := x167.sz
            have z169 := z159.trans x167
            obtain ⟨_, _, _, _, _, _, _, _, rfl⟩ := hq165.form
            refine ⟨_, rfl, ?_⟩
            refine vg rfl ?_
            refine vo ?_
            refine xcall e27 (fFrom_ok 1 TT _ (by omega) (TT.up _)) rfl rfl ?_
            rintro _ W175 ⟨_, rfl, x176, hq174⟩
            have s177 := x176.sz
            have z178 := z169.trans x176
            obtain ⟨_, _, _, _, _, _, _, _, rfl⟩ := hq174.form
            refine ⟨_, rfl, ?_⟩
            refine vg rfl ?_
            refine vo ?_
            refine xcall e67 (fEq_true _ (q1 := [_, _, _, _]) (q2 := [_, _, _, _]) (((hq165.ext x176)).qa (sz_mul (det_sz hszrss (by omega) (by have := pow_le (L := 6) (k := colsN rss) (M := 6) (B := 93750) (by omega) (by decide); omega) (B := 93751)) (det_sz hvz (by omega) (by rw [hvc]; have := pow_le (L := 93750) (k := rss.length) (M := 6) (B := 1464843750) (by omega) (by decide); omega) (B := 1464843751)))) ((hq174).qa szOne') (by omega) (by omega) (by omega) (by rw [inv_det hsq hrk]; rfl)) rfl rfl ?_
            rintro _ W183 ⟨rfl, x184⟩
            have s185 := x184.sz
            have z186 := z178.trans x184
            refine ⟨_, rfl, ?_⟩
            refine vv (rpk (v := .bool true) rfl rfl) ?_
            refine mvb rfl ?_
            refine vg rfl ?_
            refine vo ?_
            refine xcall e50 (law5_ok _) rfl rfl ?_
            rintro _ W191 ⟨rfl, x192⟩
            have s193 := x192.sz
            have z194 := z186.trans x192
            refine ⟨_, rfl, ?_⟩
            refine vv (rpk (v := .bool true) rfl rfl) ?_
            refine asb rfl ?_
            refine vnil ?_
            refine V.ret ?_
            refine ⟨[.bool true], ⟨rfl, trivial⟩, ?_⟩
            exact ⟨rfl, z194⟩
           ·intro c164
            omega
          ·intro c147
           omega
        ·intro c66
         omega
       ·intro c58
        omega
      ·intro c57
       exact absurd (cq_eq.1 c57) ((det_rank hsq).2 hrk)
     ·intro c50
      omega
   ·rw [show (invS rss rss.length).2 = 8 from (inv_code hsq).trans (if_neg hrk)]; refine ⟨_, rfl, ?_⟩
    have s199 := xi.sz
    have z200 := z14.trans xi
    have z201 := z15.trans xi
    have hvl := hv.len; rw [inv_none hsq hrk] at hvl; simp only [List.length_nil] at hvl
    refine mvt rfl ?_
    refine vv (rext (v := .slice _ _ _) rfl rfl) ?_
    refine vv (rext (v := .int _ _) rfl rfl) ?_
    refine ass rfl ?_
    refine asi rfl ?_
    refine vnil ?_
    refine V.seq (V.reg rfl ?_)
    refine mvs rfl ?_
    refine vo ?_
    refine xcall e55 (pDet _ (marss.ext z201) hsq (by omega) (by omega) (by omega) (pow_room (by omega) (by omega)) (TT.up _)) rfl rfl ?_
    rintro _ W202 ⟨_, rfl, x203, hd⟩
    have s204 := x203.sz
    have z205 := z200.trans x203
    have z206 := z201.trans x203
    obtain ⟨_, _, _, _, _, _, _, _, rfl⟩ := hd.form
    have hda := hd.qa (det_sz hszrss (by omega) (by have := pow_le (L := 6) (k := colsN rss) (M := 6) (B := 93750) (by omega) (by decide); omega) (B := 93751))
    refine ⟨_, rfl, ?_⟩
    refine mvt rfl ?_
    refine vv (rext (v := .agg #[_, _, _, _]) rfl rfl) ?_
    refine vv (rext (v := .int _ _) rfl rfl) ?_
    refine vo ?_
    refine xal zc48 ?_
    intro W208 x209 b210 nn211
    have s212 := x209.sz
    have z213 := z205.trans x209
    have z214 := z206.trans x209
    have z215 := x209
    refine vo ?_
    refine sta (cs' := [_, _, _, _]) b210 rfl rfl sz48 rfl rfl rfl ?_
    intro W216 y217 b210
    have z218 := z213.below (y217.below (by omega))
    have z219 := z214.below (y217.below (by omega))
    have z220 := z215.below (y217.below (by omega))
    have s221 := y217.size
    refine asi rfl ?_
    refine vnil ?_
    refine V.seq ?_
    refine V.seq (V.reg rfl ?_)
    refine mvi rfl ?_
    refine vne rfl rfl ?_ ?_
    ·intro c222
     omega
    ·intro c222
     refine mvb rfl ?_
     refine vg rfl ?_
     refine mvi rfl ?_
     refine vg rfl ?_
     refine veq rfl rfl ?_ ?_
     ·intro c223
      omega
     ·intro c223
      refine vg rfl ?_
      refine vv (rldb4 rfl ag48 b210 rfl rfl rfl rfl ) ?_
      refine vg rfl ?_
      refine vo ?_
      refine xcall e66 (fSign_ok [_, _, _, _] _ 93751 _ _ (hda.ext z220) (by omega) (by omega)) rfl rfl ?_
      rintro _ W224 ⟨rfl, x225⟩
      have s226 := x225.sz
      have z227 := z218.trans x225
      have z228 := z219.trans x225
      refine ⟨_, rfl, ?_⟩
      refine vg rfl ?_
      refine vne rfl rfl ?_ ?_
      ·intro c57
       exact absurd (cq_eq.2 (by false_or_by_contra; rename_i h; exact hrk ((det_rank hsq).1 h))) c57
      ·intro c57
       refine vg rfl ?_
       refine vv (rbne Tryz.underlying4 rfl rfl rfl) ?_
       refine vv (rpk (v := .bool false) rfl rfl) ?_
       refine mvb rfl ?_
       refine vg rfl ?_
       refine mvi rfl ?_
       refine vg rfl ?_
       refine veq rfl rfl ?_ ?_
       ·intro c230
        omega
       ·intro c230
        refine vg rfl ?_
        refine mvs rfl ?_
        refine vg rfl ?_
        refine vo ?_
        refine xcall e63 (pRank _ (marss.ext z228) (by omega) (by omega) (by omega) (pow_room (by omega) (by omega))) rfl rfl ?_
        rintro _ W231 ⟨rfl, x232⟩
        have s233 := x232.sz
        have z234 := z227.trans x232
        refine ⟨_, rfl, ?_⟩
        refine vg rfl ?_
        refine mvs rfl ?_
        refine vg rfl ?_
        refine vv (rlen sl22 rfl) ?_
        refine vg rfl ?_
        refine veq rfl rfl ?_ ?_
        ·intro c237
         omega
        ·intro c237
         refine vg rfl ?_
         refine vv (rbne Tryz.underlying4 rfl rfl rfl) ?_
         refine vv (rpk (v := .bool false) rfl rfl) ?_
         refine vnil ?_
         refine V.condF rfl ?_
         refine V.skip ?_
         refine V.seq ?_
         refine V.seq (V.reg rfl ?_)
         refine mvi rfl ?_
         refine vne rfl rfl ?_ ?_
         ·intro c238
          refine vnil ?_
          refine V.condT rfl ?_
          refine V.seq (V.reg rfl ?_)
          refine mvi rfl ?_
          refine veq rfl rfl ?_ ?_
          ·intro c239
           refine mvb rfl ?_
           refine vg rfl ?_
           refine mvs rfl ?_
           refine vg rfl ?_
           refine vv (rlen sl22 rfl) ?_
           refine vg rfl ?_
           refine veq rfl rfl ?_ ?_
           ·intro c240
            refine vv (rpk (v := .bool true) rfl rfl) ?_
            refine mvb rfl ?_
            refine vg rfl ?_
            refine vo ?_
            refine xcall e50 (law5_ok _) rfl rfl ?_
            rintro _ W241 ⟨rfl, x242⟩
            have s243 := x242.sz
            have z244 := z234.trans x242
            refine ⟨_, rfl, ?_⟩
            refine vv (rpk (v := .bool true) rfl rfl) ?_
            refine asb rfl ?_
            refine vnil ?_
            refine V.ret ?_
            refine ⟨[.bool true], ⟨rfl, trivial⟩, ?_⟩
            exact ⟨rfl, z244⟩
           ·intro c240
            omega
          ·intro c239
           omega
         ·intro c238
          omega
 ·skip
  have s247 := xb1.sz
  have z248 := z6.trans xb1
  refine mvb rfl ?_
  refine vgn (b := true) rfl rfl ?_
  refine vgn (b := true) rfl rfl ?_
  refine vgn (b := true) rfl rfl ?_
  refine vgn (b := true) rfl rfl ?_
  refine vgn (b := true) rfl rfl ?_
  refine vv (rpk (v := .bool true) rfl rfl) ?_
  refine vnil ?_
  refine V.condT rfl ?_
  refine V.seq (V.reg rfl ?_)
  refine vo ?_
  refine xcall e50 (law5_ok _) rfl rfl ?_
  rintro _ W249 ⟨rfl, x250⟩
  have s251 := x250.sz
  have z252 := z248.trans x250
  refine ⟨_, rfl, ?_⟩
  refine asb rfl ?_
  refine vnil ?_
  refine V.ret ?_
  refine ⟨[.bool true], ⟨rfl, trivial⟩, ?_⟩
  exact ⟨rfl, z252⟩
end Go.Proofs.YtknbjfefeeojlaaGreat

/- Package pylonlaw05: the sizes that the laws speak of, and the examples. -/
import Derived.Test.YtknbjfefeeojlaaGreatMgqq7
namespace Go.Proofs.YtknbjfefeeojlaaGreat
open Go.RowKit
attribute [local irreducible] RV VH V OpF Calls

set_option maxHeartbeats 400000 in
theorem tall_ok (a1 : Option Addr) (n c : Nat) (rss : List (List RawQ)) (S1 : Nat → Prop) (w : World) (hx : MX S1 w a1 n c rss) :
    Calls Tryz.prog 120 #[.slice a1 n c] w (fun e w' => ∃ q, e = .returned (.bool q) ∧ w = w') := by
 have z0 := Ext.refl w; have hLX : LX = 17592186044416 := rfl; have hLY : LY = 8796093022208 := rfl
 have l1 := hx.len; have l2 := hx.max
 refine enter (args := [.slice a1 n c]) Tryz.func120 rfl rfl (Nat.le_of_ble_eq_true rfl) ?_
 refine V.seq (V.reg rfl ?_)
 refine asb rfl ?_
 refine vnil ?_
 refine V.seq ?_
 refine V.seq (V.reg rfl ?_)
 refine asi rfl ?_
 refine vnil ?_
 refine V.block ?_
 refine V.loopK (ι := Nat) [(0, .slice _ _ _)] (fun k => [(3, .int .i64 (k : Int))]) (fun k W => w = W ∧ k ≤ n) (fun k => n - k) (0) ⟨rfl, trivial⟩ ⟨rfl, trivial⟩ ⟨rfl, Nat.zero_le _⟩ ?_
 intro k E2 W1 h3
 obtain ⟨rfl, hk⟩ := h3
 refine V.seq ?_
 refine V.seq (V.reg rfl ?_)
 refine mvi rfl ?_
 refine mvs rfl ?_
 refine vv (rlen sl22 rfl) ?_
 refine vlt rfl rfl ?_ ?_
 ·intro c4
  refine vnil ?_
  refine V.condT rfl ?_
  refine V.skip ?_
  refine V.seq ?_
  refine V.block ?_
  refine V.seq (V.reg rfl ?_)
  refine asi rfl ?_
  refine vnil ?_
  refine V.block ?_
  refine V.loopK (ι := Nat) [(0, .slice _ _ _), (3, .int _ _), (5, .int _ _), (6, .slice _ _ _), (7, .int _ _), (8, .bool true)] (fun j => [(4, .int .i64 (j : Int))]) (fun j W => w = W ∧ j ≤ (rowat rss ((k : Int)).toNat).length) (fun j => (rowat rss ((k : Int)).toNat).length - j) (0) ⟨rfl, rfl, rfl, rfl, rfl, rfl, trivial⟩ ⟨rfl, trivial⟩ ⟨rfl, Nat.zero_le _⟩ ?_
  intro j E6 W5 h7
  obtain ⟨rfl, hj⟩ := h7
  refine V.seq ?_
  refine V.seq (V.reg rfl ?_)
  refine mvi rfl ?_
  refine mvs rfl ?_
  refine mvi rfl ?_
  refine vv (rix sl22 sz23 rfl rfl (by omega) (by omega) (hx.isS (i := 0) (by omega) (by omega))) ?_
  refine vldRow hx rfl sc23 (by omega) (by omega) ?_
  intro a8 n9 c10 hg11
  have hg11l := hg11.len; have hg11m := hg11.max
  refine vv (rlen sl23 rfl) ?_
  refine vlt rfl rfl ?_ ?_
  ·intro c12
   refine vnil ?_
   refine V.condT rfl ?_
   refine V.skip ?_
   refine V.seq ?_
   refine V.block ?_
   refine V.seq (V.reg rfl ?_)
   refine mvs rfl ?_
   refine mvi rfl ?_
   refine vv (rix sl22 sz23 rfl rfl (by omega) (by omega) (hx.isS (i := 0) (by omega) (by omega))) ?_
   refine vldRow hx rfl sc23 (by omega) (by omega) ?_
   intro a13 n14 c15 hg16
   have hg16l := hg16.len; have hg16m := hg16.max
   refine mvi rfl ?_
   obtain ⟨en0, ea0, el0, ec0, em0, eb0, ek0, ed0, hq0, hc0⟩ := hg16.el (i := (j : Int)) (by omega) (by omega)
   have ce0 : CE w _ _ := hc0
   refine vv (rix sl23 sz48 rfl rfl (by omega) (by omega) (GX.isS (i := 0) hg16 (by omega) (by omega))) ?_
   refine vv (rfaG rfl fd48_0) ?_
   refine vv (rfaG rfl fd46_1) ?_
   refine vv (rld1 (v := .slice _ _ _) rfl sc44 ((ce0.part (l' := [.bool _, .slice _ _ _]) 0 rfl) 1 _ rfl)) ?_
   refine vv (rlen sl44 rfl) ?_
   refine vgt rfl rfl ?_ ?_
   ·intro c17
    refine mvb rfl ?_
    refine vgn (b := true) rfl rfl ?_
    refine vgn (b := true) rfl rfl ?_
    refine vgn (b := true) rfl rfl ?_
    refine vgn (b := true) rfl rfl ?_
    refine vgn (b := true) rfl rfl ?_
    refine vgn (b := true) rfl rfl ?_
    refine vgn (b := true) rfl rfl ?_
    refine vgn (b := true) rfl rfl ?_
    refine vgn (b := true) rfl rfl ?_
    refine vgn (b := true) rfl rfl ?_
    refine vgn (b := true) rfl rfl ?_
    refine vv (rpk (v := .bool true) rfl rfl) ?_
    refine vnil ?_
    refine V.condT rfl ?_
    refine V.seq (V.reg rfl ?_)
    refine asb rfl ?_
    refine vnil ?_
    refine V.ret ?_
    refine ⟨[.bool true], ⟨rfl, trivial⟩, ?_⟩
    exact ⟨_, rfl, rfl⟩
   ·intro c17
    refine mvb rfl ?_
    refine vg rfl ?_
    refine mvs rfl ?_
    refine vg rfl ?_
    refine mvi rfl ?_
    refine vg rfl ?_
    refine vv (rix sl22 sz23 rfl rfl (by omega) (by omega) (hx.isS (i := 0) (by omega) (by omega))) ?_
    refine vg rfl ?_
    refine vldRow hx rfl sc23 (by omega) (by omega) ?_
    intro a18 n19 c20 hg21
    have hg21l := hg21.len; have hg21m := hg21.max
    refine vg rfl ?_
    refine mvi rfl ?_
    refine vg rfl ?_
    obtain ⟨en1, ea1, el1, ec1, em1, eb1, ek1, ed1, hq1, hc1⟩ := hg21.el (i := (j : Int)) (by omega) (by omega)
    have ce1 : CE w _ _ := hc1
    refine vv (rix sl23 sz48 rfl rfl (by omega) (by omega) (GX.isS (i := 0) hg21 (by omega) (by omega))) ?_
    refine vg rfl ?_
    refine vv (rfaG rfl fd48_1) ?_
    refine vg rfl ?_
    refine vv (rfaG rfl fd46_1) ?_
    refine vg rfl ?_
    refine vv (rld1 (v := .slice _ _ _) rfl sc44 ((ce1.part (l' := [.bool _, .slice _ _ _]) 2 rfl) 1 _ rfl)) ?_
    refine vg rfl ?_
    refine vv (rlen sl44 rfl) ?_
    refine vg rfl ?_
    refine vgt rfl rfl ?_ ?_
    ·intro c22
     refine vv (rpk (v := .bool true) rfl rfl) ?_
     refine vnil ?_
     refine V.condT rfl ?_
     refine V.seq (V.reg rfl ?_)
     refine asb rfl ?_
     refine vnil ?_
     refine V.ret ?_
     refine ⟨[.bool true], ⟨rfl, trivial⟩, ?_⟩
     exact ⟨_, rfl, rfl⟩
    ·intro c22
     refine vv (rpk (v := .bool false) rfl rfl) ?_
     refine vnil ?_
     refine V.condF rfl ?_
     refine V.skip ?_
     refine V.reg rfl ?_
     refine mvi rfl ?_
     refine vv (rbin (bAdd (wi (by omega))) rfl rfl) ?_
     refine asi rfl ?_
     refine vnil ?_
     refine ⟨rfl, j + 1, ⟨rfl, rfl, rfl, rfl, rfl, rfl, trivial⟩, ⟨rfl, trivial⟩, ⟨rfl, by omega⟩, ?_⟩
     show (rowat rss ((k : Int)).toNat).length - (j + 1) < (rowat rss ((k : Int)).toNat).length - j
     omega
  ·intro c12
   refine vnil ?_
   refine V.condF rfl ?_
   refine V.exit ?_
   refine V.reg rfl ?_
   refine mvi rfl ?_
   refine vv (rbin (bAdd (wi (by omega))) rfl rfl) ?_
   refine asi rfl ?_
   refine vnil ?_
   refine ⟨rfl, k + 1, ⟨rfl, trivial⟩, ⟨rfl, trivial⟩, ⟨rfl, by omega⟩, ?_⟩
   show n - (k + 1) < n - k
   omega
 ·intro c4
  refine vnil ?_
  refine V.condF rfl ?_
  refine V.exit ?_
  refine V.seq (V.reg rfl ?_)
  refine asb rfl ?_
  refine vnil ?_
  refine V.ret ?_
  refine ⟨[.bool false], ⟨rfl, trivial⟩, ?_⟩
  exact ⟨_, rfl, rfl⟩
set_option maxHeartbeats 400000 in
theorem long5_ok (a1 a2 : Option Addr) (n c m d : Nat) (A B : List (List RawQ)) (S2 : Nat → Prop) (w : World) (hx : MX TT w a1 n c A) (hy : MX S2 w a2 m d B) :
    Calls Tryz.prog 49 #[.slice a1 n c, .slice a2 m d] w (fun e w' => ∃ q, e = .returned (.bool q) ∧ Ext w w' ∧ (q = false → (smallM A ∧ A.length ≤ 6 ∧ colsG A ≤ 6) ∧ ∀ r ∈ B, r.length ≤ 20 ∧ smallV r)) := by
 have z0 := Ext.refl w; have hLX : LX = 17592186044416 := rfl; have hLY : LY = 8796093022208 := rfl
 have l1 := hx.len; have l2 := hx.max; have l3 := hy.len; have l4 := hy.max
 refine enter (args := [.slice a1 n c, .slice a2 m d]) Tryz.func49 rfl rfl (Nat.le_of_ble_eq_true rfl) ?_
 refine V.seq (V.reg rfl ?_)
 refine asb rfl ?_
 refine vnil ?_
 refine V.seq ?_
 refine V.seq (V.reg rfl ?_)
 refine mvs rfl ?_
 refine vo ?_
 refine xbs (ps := [(0, .slice _ _ _)]) (cs := [.slice _ _ _]) sl115 zr22 sz22 rfl rfl rfl rfl rfl rfl ?_
 intro W1 x2 b3 nn4
 have s5 := x2.sz
 have z6 := x2
 refine vo ?_
 have hm7 : MXX TT W1 (some ⟨w.heap.size, 0, none⟩) 1 1 [_] := ⟨[[.slice _ _ _]], RS.lit (s := 1) (S := TT) (n := 1) _ b3 rfl (by simp) trivial rfl (by omega), ⟨_, _, _, rfl, (hx.ext z6)⟩, trivial⟩
 refine xcall e32 (long4_ok _ _ _ _ _ _ hm7) rfl rfl ?_
 rintro _ Wb1 ⟨bb1, rfl, xb1, hb1⟩
 refine ⟨_, rfl, ?_⟩
 cases bb1
 ·skip
  have s8 := xb1.sz
  have z9 := z6.trans xb1
  refine mvb rfl ?_
  refine vg rfl ?_
  refine mvs rfl ?_
  refine vg rfl ?_
  refine vv (rlen sl22 rfl) ?_
  refine vg rfl ?_
  refine vgt rfl rfl ?_ ?_
  ·intro c10
   refine vv (rpk (v := .bool true) rfl rfl) ?_
   refine mvb rfl ?_
   refine vgn (b := true) rfl rfl ?_
   refine vgn (b := true) rfl rfl ?_
   refine vgn (b := true) rfl rfl ?_
   refine vv (rpk (v := .bool true) rfl rfl) ?_
   refine mvb rfl ?_
   refine vgn (b := true) rfl rfl ?_
   refine vgn (b := true) rfl rfl ?_
   refine vv (rpk (v := .bool true) rfl rfl) ?_
   refine vnil ?_
   refine V.condT rfl ?_
   refine V.seq (V.reg rfl ?_)
   refine asb rfl ?_
   refine vnil ?_
   refine V.ret ?_
   refine ⟨[.bool true], ⟨rfl, trivial⟩, ?_⟩
   exact ⟨_, rfl, z9, fun h => (by cases h)⟩
  ·intro c10
   refine vv (rpk (v := .bool false) rfl rfl) ?_
   refine mvb rfl ?_
   refine vg rfl ?_
   refine mvs rfl ?_
   refine vg rfl ?_
   refine vo ?_
   refine xcall e36 (rCols_ok _ _ _ _ _ _ (hx.ext z9)) rfl rfl ?_
   rintro _ _ ⟨rfl, rfl⟩
   refine ⟨_, rfl, ?_⟩
   refine vg rfl ?_
   refine vgt rfl rfl ?_ ?_
   ·intro c12
    refine vv (rpk (v := .bool true) rfl rfl) ?_
    refine mvb rfl ?_
    refine vgn (b := true) rfl rfl ?_
    refine vgn (b := true) rfl rfl ?_
    refine vv (rpk (v := .bool true) rfl rfl) ?_
    refine vnil ?_
    refine V.condT rfl ?_
    refine V.seq (V.reg rfl ?_)
    refine asb rfl ?_
    refine vnil ?_
    refine V.ret ?_
    refine ⟨[.bool true], ⟨rfl, trivial⟩, ?_⟩
    exact ⟨_, rfl, z9, fun h => (by cases h)⟩
   ·intro c12
    refine vv (rpk (v := .bool false) rfl rfl) ?_
    refine mvb rfl ?_
    refine vg rfl ?_
    refine mvs rfl ?_
    refine vg rfl ?_
    refine vo ?_
    refine xcall e14 (long3_ok _ _ _ _ _ _ (hy.ext z9)) rfl rfl ?_
    rintro _ Wb2 ⟨bb2, rfl, xb2, hb2⟩
    refine ⟨_, rfl, ?_⟩
    cases bb2
    ·skip
     have s13 := xb2.sz
     have z14 := z9.trans xb2
     refine vv (rpk (v := .bool false) rfl rfl) ?_
     refine vnil ?_
     refine V.condF rfl ?_
     refine V.skip ?_
     refine V.seq ?_
     refine V.seq (V.reg rfl ?_)
     refine asi rfl ?_
     refine vnil ?_
     refine V.block ?_
     refine V.loopK (ι := Nat) [(0, .slice _ _ _), (1, .slice _ _ _)] (fun k => [(5, .int .i64 (k : Int))]) (fun k W => Ext Wb2 W ∧ k ≤ m) (fun k => m - k) (0) ⟨rfl, rfl, trivial⟩ ⟨rfl, trivial⟩ ⟨Ext.refl _, Nat.zero_le _⟩ ?_
     intro k E16 W15 h17
     obtain ⟨x18, hk⟩ := h17
     have s19 := x18.sz
     have z20 := z14.trans x18
     have z21 := x18
     refine V.seq ?_
     refine V.seq (V.reg rfl ?_)
     refine mvi rfl ?_
     refine mvs rfl ?_
     refine vv (rlen sl22 rfl) ?_
     refine vlt rfl rfl ?_ ?_
     ·intro c22
      refine vnil ?_
      refine V.condT rfl ?_
      refine V.skip ?_
      refine V.seq ?_
      refine V.block ?_
      refine V.seq (V.reg rfl ?_)
      refine mvs rfl ?_
      refine mvi rfl ?_
      refine vv (rix sl22 sz23 rfl rfl (by omega) (by omega) ((hy.ext z20).isS (i := 0) (by omega) (by omega))) ?_
      refine vldRow (hy.ext z20) rfl sc23 (by omega) (by omega) ?_
      intro a23 n24 c25 hg26
      have hg26l := hg26.len; have hg26m := hg26.max
      refine vv (rlen sl23 rfl) ?_
      refine vgt rfl rfl ?_ ?_
      ·intro c27
       refine vnil ?_
       refine V.condT rfl ?_
       refine V.seq (V.reg rfl ?_)
       refine asb rfl ?_
       refine vnil ?_
       refine V.ret ?_
       refine ⟨[.bool true], ⟨rfl, trivial⟩, ?_⟩
       exact ⟨_, rfl, z20, fun h => (by cases h)⟩
      ·intro c27
       refine vnil ?_
       refine V.condF rfl ?_
       refine V.skip ?_
       refine V.reg rfl ?_
       refine mvi rfl ?_
       refine vv (rbin (bAdd (wi (by omega))) rfl rfl) ?_
       refine asi rfl ?_
       refine vnil ?_
       refine ⟨rfl, k + 1, ⟨rfl, rfl, trivial⟩, ⟨rfl, trivial⟩, ⟨z21, by omega⟩, ?_⟩
       show m - (k + 1) < m - k
       omega
     ·intro c22
      refine vnil ?_
      refine V.condF rfl ?_
      refine V.exit ?_
      refine V.seq (V.reg rfl ?_)
      refine mvs rfl ?_
      refine vo ?_
      refine xcall e120 (tall_ok _ _ _ _ _ _ (hx.ext z20)) rfl rfl ?_
      rintro _ _ ⟨bb3, rfl, rfl⟩
      refine ⟨_, rfl, ?_⟩
      cases bb3
      ·skip
       refine mvb rfl ?_
       refine vg rfl ?_
       refine mvs rfl ?_
       refine vg rfl ?_
       refine vo ?_
       refine xcall e120 (tall_ok _ _ _ _ _ _ (hy.ext z20)) rfl rfl ?_
       rintro _ _ ⟨bb4, rfl, rfl⟩
       refine ⟨_, rfl, ?_⟩
       cases bb4
       ·skip
        refine vv (rpk (v := .bool false) rfl rfl) ?_
        refine asb rfl ?_
        refine vnil ?_
        refine V.ret ?_
        refine ⟨[.bool false], ⟨rfl, trivial⟩, ?_⟩
        exact ⟨_, rfl, z20, fun _ => ⟨⟨(hb1 rfl) A (by simp), by omega, by omega⟩, hb2 rfl⟩⟩
       ·skip
        refine vv (rpk (v := .bool true) rfl rfl) ?_
        refine asb rfl ?_
        refine vnil ?_
        refine V.ret ?_
        refine ⟨[.bool true], ⟨rfl, trivial⟩, ?_⟩
        exact ⟨_, rfl, z20, fun h => (by cases h)⟩
      ·skip
       refine mvb rfl ?_
       refine vgn (b := true) rfl rfl ?_
       refine vgn (b := true) rfl rfl ?_
       refine vv (rpk (v := .bool true) rfl rfl) ?_
       refine asb rfl ?_
       refine vnil ?_
       refine V.ret ?_
       refine ⟨[.bool true], ⟨rfl, trivial⟩, ?_⟩
       exact ⟨_, rfl, z20, fun h => (by cases h)⟩
    ·skip
     have s28 := xb2.sz
     have z29 := z9.trans xb2
     refine vv (rpk (v := .bool true) rfl rfl) ?_
     refine vnil ?_
     refine V.condT rfl ?_
     refine V.seq (V.reg rfl ?_)
     refine asb rfl ?_
     refine vnil ?_
     refine V.ret ?_
     refine ⟨[.bool true], ⟨rfl, trivial⟩, ?_⟩
     exact ⟨_, rfl, z29, fun h => (by cases h)⟩
 ·skip
  have s30 := xb1.sz
  have z31 := z6.trans xb1
  refine mvb rfl ?_
  refine vgn (b := true) rfl rfl ?_
  refine vgn (b := true) rfl rfl ?_
  refine vgn (b := true) rfl rfl ?_
  refine vv (rpk (v := .bool true) rfl rfl) ?_
  refine mvb rfl ?_
  refine vgn (b := true) rfl rfl ?_
  refine vgn (b := true) rfl rfl ?_
  refine vgn (b := true) rfl rfl ?_
  refine vv (rpk (v := .bool true) rfl rfl) ?_
  refine mvb rfl ?_
  refine vgn (b := true) rfl rfl ?_
  refine vgn (b := true) rfl rfl ?_
  refine vv (rpk (v := .bool true) rfl rfl) ?_
  refine vnil ?_
  refine V.condT rfl ?_
  refine V.seq (V.reg rfl ?_)
  refine asb rfl ?_
  refine vnil ?_
  refine V.ret ?_
  refine ⟨[.bool true], ⟨rfl, trivial⟩, ?_⟩
  exact ⟨_, rfl, z31, fun h => (by cases h)⟩

section
variable {L : Nat} {S S1 S2 : Nat → Prop} {a1 a2 : Option Addr} {n c m d : Nat} {rss : List (List Rat)} {bs : List Rat}
theorem sReduce_at (w : World) (p : List Int) (r : List (List Rat)) (np nr : Nat) (hx : MA L S1 w a1 n c rss) (hl1 : 1 ≤ L) (hn : n ≤ 1024) (hc : colsN rss ≤ 1024) (hL5 : 15 * (L * 5 ^ colsN rss) + 2 < LY) (hu : Up S w) (e1 : (redS (gridm (matI rss) n (colsN rss)) (colsN rss)).2.1 = p) (e2 : (redS (gridm (matI rss) n (colsN rss)) (colsN rss)).1.take p.length = r) (e3 : p.length = np) :
    Calls Tryz.prog 60 #[.slice a1 n c] w fun e w' => ∃ ar cr ap cp, e = .returned (.tuple #[.slice ar np cr, .slice ap np cp]) ∧ Ext w w' ∧ MC S w' ar np cr r ∧ RN .i64 S w' ap np cp p := by
  have h := sReduce_ok a1 n c L rss S S1 w hx hl1 hn hc hL5 hu
  rw [e1, e2, e3] at h; exact h
theorem sDet_at (w : World) (er : Int) (r : Rat) (hx : MA L S1 w a1 n c rss) (hl1 : 1 ≤ L) (hn : n ≤ 1024) (hc : colsN rss ≤ 1024) (hL5 : 15 * (L * 5 ^ colsN rss) + 2 < LY) (hu : Up S w) (e1 : (if n = colsN rss then (0 : Int) else 13) = er) (e2 : (if n = colsN rss then detS (gridm (matI rss) n (colsN rss)) (colsN rss) else 0) = r) :
    Calls Tryz.prog 55 #[.slice a1 n c] w fun e w' => ∃ q, e = .returned (.tuple #[.agg q.toArray, .int .i64 er]) ∧ Ext w w' ∧ QC S w' q r := by
  have h := sDet_ok a1 n c L rss S S1 w hx hl1 hn hc hL5 hu
  rw [e1, e2] at h; exact h
theorem sInv_at (w : World) (er : Int) (r : List (List Rat)) (nr : Nat) (hx : MA L S1 w a1 n c rss) (hl1 : 1 ≤ L) (hn : n ≤ 512) (hc : colsN rss ≤ 1024) (hL5 : 15 * (L * 5 ^ n) + 2 < LY) (hu : Up S w) (e1 : (invS rss n).2 = er) (e2 : (invS rss n).1 = r) (e3 : r.length = nr) :
    Calls Tryz.prog 54 #[.slice a1 n c] w fun e w' => ∃ ar cr, e = .returned (.tuple #[.slice ar nr cr, .int .i64 er]) ∧ Ext w w' ∧ MC S w' ar nr cr r := by
  refine (sInverse_ok a1 n c L rss S S1 w hx hl1 hn hc hL5 hu).mono ?_
  rintro _ w' ⟨ar, nr, cr, rfl, x, h⟩
  rw [e2] at h; subst e1 e3
  obtain rfl := h.len
  exact ⟨ar, cr, rfl, x, h⟩
theorem sSolve_at (w : World) (er : Int) (x : List Rat) (fr : List (List Rat)) (nx nf : Nat) (hx : MA L S1 w a1 n c rss) (hy : GA L S2 w a2 m d bs) (hl1 : 1 ≤ L) (hn : n ≤ 1000) (hm : m ≤ 1000) (hc : colsN rss ≤ 1000) (hL5 : 15 * (L * 5 ^ (colsN rss + 1)) + 2 < LY) (hu : Up S w) (e1 : solX rss bs (max n m) = x) (e2 : solF rss bs n (max n m) = fr) (e3 : solE rss bs (max n m) = er) (e4 : x.length = nx) (e5 : fr.length = nf) :
    Calls Tryz.prog 51 #[.slice a1 n c, .slice a2 m d] w fun e w' => ∃ ax cx af cf, e = .returned (.tuple #[.slice ax nx cx, .slice af nf cf, .int .i64 er]) ∧ Ext w w' ∧ GC S w' ax nx cx x ∧ MC S w' af nf cf fr := by
  refine (sSolve_ok a1 a2 n c m d L rss bs S S1 S2 w hx hy hl1 hn hm hc hL5 hu).mono ?_
  rintro _ w' ⟨ax, nx, cx, af, nf, cf, er', rfl, x, h1, h2, h3⟩
  subst e4 e5
  rw [e1] at h1; rw [e2] at h2; rw [e3] at h3; subst h3
  obtain rfl := h1.len
  obtain rfl := h2.len
  exact ⟨ax, cx, af, cf, rfl, x, h1, h2⟩
end

set_option maxHeartbeats 400000 in
theorem rInts5_ok (a1 a2 : Option Addr) (n c m d : Nat) (xs ys : List Int) (S1 S2 : Nat → Prop) (w : World) (hx : RN .i64 S1 w a1 n c xs) (hy : RN .i64 S2 w a2 m d ys) :
    Calls Tryz.prog 62 #[.slice a1 n c, .slice a2 m d] w (fun e w' => ∃ q, e = .returned (.bool q) ∧ Ext w w' ∧ (q = true ↔ xs = ys)) := by
 have z0 := Ext.refl w; have hLX : LX = 17592186044416 := rfl; have hLY : LY = 8796093022208 := rfl
 have l1 := hx.len; have l2 := hx.cap; have l3 := hx.max; have l4 := hy.len; have l5 := hy.cap; have l6 := hy.max
 refine enter (args := [.slice a1 n c, .slice a2 m d]) Tryz.func62 rfl rfl (Nat.le_of_ble_eq_true rfl) ?_
 refine V.seq (V.reg rfl ?_)
 refine asb rfl ?_
 refine vnil ?_
 refine V.seq ?_
 refine V.seq (V.reg rfl ?_)
 refine mvs rfl ?_
 refine vv (rlen sl73 rfl) ?_
 refine mvs rfl ?_
 refine vv (rlen sl73 rfl) ?_
 refine vne rfl rfl ?_ ?_
 ·intro c1
  refine vnil ?_
  refine V.condT rfl ?_
  refine V.seq (V.reg rfl ?_)
  refine asb rfl ?_
  refine vnil ?_
  refine V.ret ?_
  refine ⟨[.bool false], ⟨rfl, trivial⟩, ?_⟩
  exact ⟨_, rfl, (Ext.refl w), ⟨fun h => (by cases h), fun h => by subst h; omega⟩⟩
 ·intro c1
  refine vnil ?_
  refine V.condF rfl ?_
  refine V.skip ?_
  refine V.seq ?_
  refine V.seq (V.reg rfl ?_)
  refine asi rfl ?_
  refine vnil ?_
  refine V.block ?_
  refine V.loopK (ι := Nat) [(0, .slice _ _ _), (1, .slice _ _ _)] (fun k => [(5, .int .i64 (k : Int))]) (fun k W => Ext w W ∧ k ≤ n ∧ xs.take k = ys.take k) (fun k => n - k) (0) ⟨rfl, rfl, trivial⟩ ⟨rfl, trivial⟩ ⟨Ext.refl _, Nat.zero_le _, rfl⟩ ?_
  intro k E3 W2 h4
  obtain ⟨x5, hk, ht⟩ := h4
  have s6 := x5.sz
  have z7 := x5
  refine V.seq ?_
  refine V.seq (V.reg rfl ?_)
  refine mvi rfl ?_
  refine mvs rfl ?_
  refine vv (rlen sl73 rfl) ?_
  refine vlt rfl rfl ?_ ?_
  ·intro c8
   refine vnil ?_
   refine V.condT rfl ?_
   refine V.skip ?_
   refine V.seq ?_
   refine V.block ?_
   refine V.seq (V.regD mixed rfl ?_)
   intro W9 x10
   have s11 := x10.sz
   have z12 := z7.trans x10
   have q13 := Ext.refl W9
   refine tk 0 rfl (by kernel_rfl) q13 (pv (fun _ y14 => rmv (v := .slice _ _ _) rfl)) ?_
   refine tk 1 rfl (by kernel_rfl) q13 (pv (fun _ y15 => rmv (v := .int _ _) rfl)) ?_
   refine tk 2 rfl (by kernel_rfl) q13 (pv (fun _ y16 => rixn ((hx.ext z12).ext y16) sl73 sz3 rfl rfl (by omega) (by omega))) ?_
   refine tk 3 rfl (by kernel_rfl) q13 (pv (fun _ y17 => rldN ((hx.ext z12).ext y17) rfl sc3 (by omega) (by omega))) ?_
   refine tk 4 rfl (by kernel_rfl) q13 (pv (fun _ y18 => rmv (v := .slice _ _ _) rfl)) ?_
   refine tk 5 rfl (by kernel_rfl) q13 (pv (fun _ y19 => rmv (v := .int _ _) rfl)) ?_
   refine tk 6 rfl (by kernel_rfl) q13 (pv (fun _ y20 => rixn ((hy.ext z12).ext y20) sl73 sz3 rfl rfl (by omega) (by omega))) ?_
   refine tk 7 rfl (by kernel_rfl) q13 (pv (fun _ y21 => rldN ((hy.ext z12).ext y21) rfl sc3 (by omega) (by omega))) ?_
   refine tkNe 8 rfl (by kernel_rfl) q13 rfl rfl (fun _ h => pv h) ?_ ?_
   ·intro cz
    refine dn (by kernel_rfl) ?_
    refine V.condT rfl ?_
    refine V.seq (V.reg rfl ?_)
    refine asb rfl ?_
    refine vnil ?_
    refine V.ret ?_
    refine ⟨[.bool false], ⟨rfl, trivial⟩, ?_⟩
    exact ⟨_, rfl, z12, ⟨fun h => (by cases h), fun h => absurd (by rw [h]) cz⟩⟩
   ·intro cz
    refine dn (by kernel_rfl) ?_
    refine V.condF rfl ?_
    refine V.skip ?_
    refine V.reg rfl ?_
    refine mvi rfl ?_
    refine vv (rbin (bAdd (wi (by omega))) rfl rfl) ?_
    refine asi rfl ?_
    refine vnil ?_
    refine ⟨rfl, k + 1, ⟨rfl, rfl, trivial⟩, ⟨rfl, trivial⟩, ⟨z12, by omega, by rw [take_getD 0 xs k (by omega), take_getD 0 ys k (by omega), ht]; simp only [wd, Int.toNat_natCast] at cz; rw [cz]⟩, ?_⟩
    show n - (k + 1) < n - k
    omega
  ·intro c8
   refine vnil ?_
   refine V.condF rfl ?_
   refine V.exit ?_
   refine V.seq (V.reg rfl ?_)
   refine asb rfl ?_
   refine vnil ?_
   refine V.ret ?_
   refine ⟨[.bool true], ⟨rfl, trivial⟩, ?_⟩
   refine ⟨_, rfl, z7, ?_⟩
   rw [List.take_of_length_le (by omega), List.take_of_length_le (by omega)] at ht
   exact ⟨fun _ => ht, fun _ => rfl⟩

theorem QC.to {S : Nat → Prop} {W : World} {q : List Value} {r r' : Rat} (h : QC S W q r) (e : r = r') : QC S W q r' := e ▸ h
theorem rInts5_true {S1 S2 : Nat → Prop} {a1 a2 : Option Addr} {n c m d : Nat} {xs ys : List Int} (w : World) (hx : RN .i64 S1 w a1 n c xs) (hy : RN .i64 S2 w a2 m d ys) (e : xs = ys) : Calls Tryz.prog 62 #[.slice a1 n c, .slice a2 m d] w fun e w' => e = .returned (.bool true) ∧ Ext w w' := by
  refine (rInts5_ok _ _ _ _ _ _ _ _ _ _ w hx hy).mono ?_
  rintro _ _ ⟨q, h1, h2, h3⟩
  exact ⟨by rw [h1, h3.2 e], h2⟩


theorem qIs5_true {S1 S2 : Nat → Prop} {q1 q2 : List Value} {r s : Rat} (w : World) (h1 : QC S1 w q1 r) (h2 : QC S2 w q2 s) (e : r = s) : Calls Tryz.prog 37 #[.agg q1.toArray, .agg q2.toArray] w fun e w' => e = .returned (.bool true) ∧ Ext w w' := by
  refine (qIs_ok _ _ _ _ _ _ w h1 h2).mono ?_
  rintro _ _ ⟨q, h1, h2, h3⟩
  exact ⟨by rw [h1, h3.2 (by rw [e])], h2⟩

set_option maxHeartbeats 2000000 in
theorem law5_ok (w : World) :
    Calls Tryz.prog 50 #[] w (fun e w' => e = .returned (.bool true) ∧ Ext w w') := by
 have z0 := Ext.refl w; have hLX : LX = 17592186044416 := rfl; have hLY : LY = 8796093022208 := rfl
 have hLV : LV = 1099511627776 := rfl
 refine enter (args := []) Tryz.func50 rfl rfl (Nat.le_of_ble_eq_true rfl) ?_
 refine V.seq (V.reg rfl ?_)
 refine asb rfl ?_
 refine vnil ?_
 refine V.seq (V.reg rfl ?_)
 refine asf rfl ?_
 refine vnil ?_
 refine V.seq (V.reg rfl ?_)
 refine mvf rfl ?_
 refine vo ?_
 refine xbs (ps := [(0, .int _ _), (1, .int _ _)]) (cs := [.int _ _, .int _ _]) sl118 zr2 sz2 rfl rfl rfl rfl rfl rfl ?_
 intro W1 x2 b3 nn4
 have s5 := x2.sz
 have z6 := x2
 refine vo ?_
 refine xbs (ps := [(0, .int _ _), (1, .int _ _)]) (cs := [.int _ _, .int _ _]) sl118 zr2 sz2 rfl rfl rfl rfl rfl rfl ?_
 intro W7 x8 b9 nn10
 have s11 := x8.sz
 have z12 := z6.trans x8
 replace b3 := b3.ext x8
 refine vo ?_
 refine xbs (ps := [(0, .slice _ _ _), (1, .slice _ _ _)]) (cs := [.slice _ _ _, .slice _ _ _]) sl119 zr118 sz118 rfl rfl rfl rfl rfl rfl ?_
 intro W13 x14 b15 nn16
 have s17 := x14.sz
 have z18 := z12.trans x14
 replace b3 := b3.ext x14
 replace b9 := b9.ext x14
 refine vo ?_
 have hl19 := RN.lit (k := .i64) (xs := [_, _]) 2 b3 (by intro q hq; simp only [List.mem_cons, List.not_mem_nil, or_false] at hq; simp only [kb]; omega) (TT.up w _ (Nat.le_refl _))
 have hl20 := RN.lit (k := .i64) (xs := [_, _]) 2 b9 (by intro q hq; simp only [List.mem_cons, List.not_mem_nil, or_false] at hq; simp only [kb]; omega) (TT.up W1 _ (Nat.le_refl _))
 have hm21 : MI TT W13 (some ⟨W7.heap.size, 0, none⟩) 2 2 [[2, 4], [1, 3]] := ⟨[[.slice _ _ _], [.slice _ _ _]], RS.lit (S := TT) _ b15 rfl (by simp) trivial rfl (by omega), ⟨_, _, _, rfl, hl19⟩, ⟨_, _, _, rfl, hl20⟩, trivial⟩
 refine xcall e103 (rmInts_ok _ _ _ [[2, 4], [1, 3]] TT TT _ hm21 (by omega) (by intro r hr; simp at hr; rcases hr with rfl | rfl <;> simp <;> omega) (TT.up _)) rfl rfl ?_
 rintro _ W24 ⟨_, rn23, _, rfl, x25, hv22⟩
 have s26 := x25.sz
 have z27 := z18.trans x25
 replace b3 := b3.ext x25
 replace b9 := b9.ext x25
 replace b15 := b15.ext x25
 obtain rfl : rn23 = 2 := by have := hv22.len; simpa using this.symm
 replace hv22 := hv22.cast (rss' := ([[2, 4], [1, 3]] : List (List Rat))) (by rfl)
 refine ⟨_, rfl, ?_⟩
 refine mvf rfl ?_
 refine vo ?_
 refine xbs (ps := [(0, .int _ _), (1, .int _ _)]) (cs := [.int _ _, .int _ _]) sl118 zr2 sz2 rfl rfl rfl rfl rfl rfl ?_
 intro W28 x29 b30 nn31
 have s32 := x29.sz
 have z33 := z27.trans x29
 replace b3 := b3.ext x29
 replace b9 := b9.ext x29
 replace b15 := b15.ext x29
 refine vo ?_
 refine xbs (ps := [(0, .int _ _), (1, .int _ _)]) (cs := [.int _ _, .int _ _]) sl118 zr2 sz2 rfl rfl rfl rfl rfl rfl ?_
 intro W34 x35 b36 nn37
 have s38 := x35.sz
 have z39 := z33.trans x35
 replace b3 := b3.ext x35
 replace b9 := b9.ext x35
 replace b15 := b15.ext x35
 replace b30 := b30.ext x35
 refine vo ?_
 refine xbs (ps := [(0, .slice _ _ _), (1, .slice _ _ _)]) (cs := [.slice _ _ _, .slice _ _ _]) sl119 zr118 sz118 rfl rfl rfl rfl rfl rfl ?_
 intro W40 x41 b42 nn43
 have s44 := x41.sz
 have z45 := z39.trans x41
 replace b3 := b3.ext x41
 replace b9 := b9.ext x41
 replace b15 := b15.ext x41
 replace b30 := b30.ext x41
 replace b36 := b36.ext x41
 refine vo ?_
 have hl46 := RN.lit (k := .i64) (xs := [_, _]) 2 b30 (by intro q hq; simp only [List.mem_cons, List.not_mem_nil, or_false] at hq; simp only [kb]; omega) (TT.up W24 _ (Nat.le_refl _))
 have hl47 := RN.lit (k := .i64) (xs := [_, _]) 2 b36 (by intro q hq; simp only [List.mem_cons, List.not_mem_nil, or_false] at hq; simp only [kb]; omega) (TT.up W28 _ (Nat.le_refl _))
 have hm48 : MI TT W40 (some ⟨W34.heap.size, 0, none⟩) 2 2 [[1, 2], [2, 4]] := ⟨[[.slice _ _ _], [.slice _ _ _]], RS.lit (S := TT) _ b42 rfl (by simp) trivial rfl (by omega), ⟨_, _, _, rfl, hl46⟩, ⟨_, _, _, rfl, hl47⟩, trivial⟩
 refine xcall e103 (rmInts_ok _ _ _ [[1, 2], [2, 4]] TT TT _ hm48 (by omega) (by intro r hr; simp at hr; rcases hr with rfl | rfl <;> simp <;> omega) (TT.up _)) rfl rfl ?_
 rintro _ W51 ⟨_, rn50, _, rfl, x52, hv49⟩
 have s53 := x52.sz
 have z54 := z45.trans x52
 replace b3 := b3.ext x52
 replace b9 := b9.ext x52
 replace b15 := b15.ext x52
 replace b30 := b30.ext x52
 replace b36 := b36.ext x52
 replace b42 := b42.ext x52
 obtain rfl : rn50 = 2 := by have := hv49.len; simpa using this.symm
 replace hv49 := hv49.cast (rss' := ([[1, 2], [2, 4]] : List (List Rat))) (by rfl)
 refine ⟨_, rfl, ?_⟩
 refine ass rfl ?_
 refine ass rfl ?_
 refine vnil ?_
 refine V.seq (V.reg rfl ?_)
 refine mvs rfl ?_
 refine vo ?_
 refine xbs (ps := [(0, .int _ _), (1, .int _ _)]) (cs := [.int _ _, .int _ _]) sl118 zr2 sz2 rfl rfl rfl rfl rfl rfl ?_
 intro W55 x56 b57 nn58
 have s59 := x56.sz
 have z60 := z54.trans x56
 replace b3 := b3.ext x56
 replace b9 := b9.ext x56
 replace b15 := b15.ext x56
 replace b30 := b30.ext x56
 replace b36 := b36.ext x56
 replace b42 := b42.ext x56
 refine vo ?_
 have hl61 := RN.lit (k := .i64) (xs := [_, _]) 2 b57 (by intro q hq; simp only [List.mem_cons, List.not_mem_nil, or_false] at hq; simp only [kb]; omega) (TT.up W51 _ (Nat.le_refl _))
 refine xcall e82 (vFrom_ok _ _ _ [6, 4] TT TT _ hl61 (by omega) (TT.up _)) rfl rfl ?_
 rintro _ W64 ⟨_, rn63, _, rfl, x65, hv62⟩
 have s66 := x65.sz
 have z67 := z60.trans x65
 replace b3 := b3.ext x65
 replace b9 := b9.ext x65
 replace b15 := b15.ext x65
 replace b30 := b30.ext x65
 replace b36 := b36.ext x65
 replace b42 := b42.ext x65
 replace b57 := b57.ext x65
 obtain rfl : rn63 = 2 := by have := hv62.len; simpa using this.symm
 replace hv62 := hv62.cast (rs' := ([6, 4] : List Rat)) (by rfl)
 refine ⟨_, rfl, ?_⟩
 refine vo ?_
 refine xcall e51 (sSolve_at _ (0) ([1, 1] : List Rat) ([] : List (List Rat)) 2 0 (((hv22.ext (((((x29.trans x35).trans x41).trans x52).trans x56).trans x65))).ma (L := 1) (szM_B (by decide +kernel))) ((hv62).va (L := 1) (szV_B (by decide +kernel))) (by omega) (by omega) (by omega) (by decide +kernel) (by decide +kernel) (TT.up _) (by decide +kernel) (by decide +kernel) (by decide +kernel) rfl rfl) rfl rfl ?_
 rintro _ W70 ⟨_, _, _, _, rfl, x71, hv68, hv69⟩
 have s72 := x71.sz
 have z73 := z67.trans x71
 replace b3 := b3.ext x71
 replace b9 := b9.ext x71
 replace b15 := b15.ext x71
 replace b30 := b30.ext x71
 replace b36 := b36.ext x71
 replace b42 := b42.ext x71
 replace b57 := b57.ext x71
 refine ⟨_, rfl, ?_⟩
 refine mvt rfl ?_
 refine vv (rext (v := .slice _ _ _) rfl rfl) ?_
 refine vv (rext (v := .slice _ _ _) rfl rfl) ?_
 refine vv (rext (v := .int _ _) rfl rfl) ?_
 refine ass rfl ?_
 refine ass rfl ?_
 refine asi rfl ?_
 refine vnil ?_
 refine V.seq (V.reg rfl ?_)
 refine mvs rfl ?_
 refine vo ?_
 refine xcall e60 (sReduce_at _ [0] ([[1, 2]] : List (List Rat)) 1 1 (((hv49.ext ((x56.trans x65).trans x71))).ma (L := 1) (szM_B (by decide +kernel))) (by omega) (by omega) (by decide +kernel) (by decide +kernel) (TT.up _) (by decide +kernel) (by decide +kernel) (by decide +kernel)) rfl rfl ?_
 rintro _ W76 ⟨_, _, _, _, rfl, x77, hv74, hv75⟩
 have s78 := x77.sz
 have z79 := z73.trans x77
 replace b3 := b3.ext x77
 replace b9 := b9.ext x77
 replace b15 := b15.ext x77
 replace b30 := b30.ext x77
 replace b36 := b36.ext x77
 replace b42 := b42.ext x77
 replace b57 := b57.ext x77
 refine ⟨_, rfl, ?_⟩
 refine mvt rfl ?_
 refine vv (rext (v := .slice _ _ _) rfl rfl) ?_
 refine vv (rext (v := .slice _ _ _) rfl rfl) ?_
 refine ass rfl ?_
 refine ass rfl ?_
 refine vnil ?_
 refine V.seq (V.reg rfl ?_)
 refine mvs rfl ?_
 refine vo ?_
 refine xcall e64 (sNull_ok _ _ _ 1 _ TT TT _ (((hv49.ext (((x56.trans x65).trans x71).trans x77))).ma (L := 1) (szM_B (by decide +kernel))) (by omega) (by omega) (by decide +kernel) (by decide +kernel) (TT.up _)) rfl rfl ?_
 rintro _ W82 ⟨_, rn81, _, rfl, x83, hv80⟩
 have s84 := x83.sz
 have z85 := z79.trans x83
 replace b3 := b3.ext x83
 replace b9 := b9.ext x83
 replace b15 := b15.ext x83
 replace b30 := b30.ext x83
 replace b36 := b36.ext x83
 replace b42 := b42.ext x83
 replace b57 := b57.ext x83
 replace hv80 := hv80.cast (rss' := ([[-2, 1]] : List (List Rat))) (by decide +kernel)
 obtain rfl : rn81 = 1 := by have := hv80.len; exact this.symm.trans rfl
 refine ⟨_, rfl, ?_⟩
 refine ass rfl ?_
 refine vnil ?_
 refine V.seq (V.reg rfl ?_)
 refine mvs rfl ?_
 refine vo ?_
 refine xbs (ps := [(0, .int _ _), (1, .int _ _)]) (cs := [.int _ _, .int _ _]) sl118 zr2 sz2 rfl rfl rfl rfl rfl rfl ?_
 intro W86 x87 b88 nn89
 have s90 := x87.sz
 have z91 := z85.trans x87
 replace b3 := b3.ext x87
 replace b9 := b9.ext x87
 replace b15 := b15.ext x87
 replace b30 := b30.ext x87
 replace b36 := b36.ext x87
 replace b42 := b42.ext x87
 replace b57 := b57.ext x87
 refine vo ?_
 have hl92 := RN.lit (k := .i64) (xs := [_, _]) 2 b88 (by intro q hq; simp only [List.mem_cons, List.not_mem_nil, or_false] at hq; simp only [kb]; omega) (TT.up W82 _ (Nat.le_refl _))
 refine xcall e82 (vFrom_ok _ _ _ [1, 3] TT TT _ hl92 (by omega) (TT.up _)) rfl rfl ?_
 rintro _ W95 ⟨_, rn94, _, rfl, x96, hv93⟩
 have s97 := x96.sz
 have z98 := z91.trans x96
 replace b3 := b3.ext x96
 replace b9 := b9.ext x96
 replace b15 := b15.ext x96
 replace b30 := b30.ext x96
 replace b36 := b36.ext x96
 replace b42 := b42.ext x96
 replace b57 := b57.ext x96
 replace b88 := b88.ext x96
 obtain rfl : rn94 = 2 := by have := hv93.len; simpa using this.symm
 replace hv93 := hv93.cast (rs' := ([1, 3] : List Rat)) (by rfl)
 refine ⟨_, rfl, ?_⟩
 refine vo ?_
 refine xcall e51 (sSolve_at _ (8) ([] : List Rat) ([] : List (List Rat)) 0 0 (((hv49.ext ((((((x56.trans x65).trans x71).trans x77).trans x83).trans x87).trans x96))).ma (L := 1) (szM_B (by decide +kernel))) ((hv93).va (L := 1) (szV_B (by decide +kernel))) (by omega) (by omega) (by omega) (by decide +kernel) (by decide +kernel) (TT.up _) (by decide +kernel) (by decide +kernel) (by decide +kernel) rfl rfl) rfl rfl ?_
 rintro _ W101 ⟨_, _, _, _, rfl, x102, hv99, hv100⟩
 have s103 := x102.sz
 have z104 := z98.trans x102
 replace b3 := b3.ext x102
 replace b9 := b9.ext x102
 replace b15 := b15.ext x102
 replace b30 := b30.ext x102
 replace b36 := b36.ext x102
 replace b42 := b42.ext x102
 replace b57 := b57.ext x102
 replace b88 := b88.ext x102
 refine ⟨_, rfl, ?_⟩
 refine mvt rfl ?_
 refine vv (rext (v := .slice _ _ _) rfl rfl) ?_
 refine vv (rext (v := .slice _ _ _) rfl rfl) ?_
 refine vv (rext (v := .int _ _) rfl rfl) ?_
 refine ass rfl ?_
 refine ass rfl ?_
 refine asi rfl ?_
 refine vnil ?_
 refine V.seq (V.reg rfl ?_)
 refine mvs rfl ?_
 refine vo ?_
 refine xbs (ps := [(0, .int _ _), (1, .int _ _)]) (cs := [.int _ _, .int _ _]) sl118 zr2 sz2 rfl rfl rfl rfl rfl rfl ?_
 intro W105 x106 b107 nn108
 have s109 := x106.sz
 have z110 := z104.trans x106
 replace b3 := b3.ext x106
 replace b9 := b9.ext x106
 replace b15 := b15.ext x106
 replace b30 := b30.ext x106
 replace b36 := b36.ext x106
 replace b42 := b42.ext x106
 replace b57 := b57.ext x106
 replace b88 := b88.ext x106
 refine vo ?_
 have hl111 := RN.lit (k := .i64) (xs := [_, _]) 2 b107 (by intro q hq; simp only [List.mem_cons, List.not_mem_nil, or_false] at hq; simp only [kb]; omega) (TT.up W101 _ (Nat.le_refl _))
 refine xcall e82 (vFrom_ok _ _ _ [1, 2] TT TT _ hl111 (by omega) (TT.up _)) rfl rfl ?_
 rintro _ W114 ⟨_, rn113, _, rfl, x115, hv112⟩
 have s116 := x115.sz
 have z117 := z110.trans x115
 replace b3 := b3.ext x115
 replace b9 := b9.ext x115
 replace b15 := b15.ext x115
 replace b30 := b30.ext x115
 replace b36 := b36.ext x115
 replace b42 := b42.ext x115
 replace b57 := b57.ext x115
 replace b88 := b88.ext x115
 replace b107 := b107.ext x115
 obtain rfl : rn113 = 2 := by have := hv112.len; simpa using this.symm
 replace hv112 := hv112.cast (rs' := ([1, 2] : List Rat)) (by rfl)
 refine ⟨_, rfl, ?_⟩
 refine vo ?_
 refine xcall e51 (sSolve_at _ (0) ([1, 0] : List Rat) ([[-2, 1]] : List (List Rat)) 2 1 (((hv49.ext (((((((((x56.trans x65).trans x71).trans x77).trans x83).trans x87).trans x96).trans x102).trans x106).trans x115))).ma (L := 1) (szM_B (by decide +kernel))) ((hv112).va (L := 1) (szV_B (by decide +kernel))) (by omega) (by omega) (by omega) (by decide +kernel) (by decide +kernel) (TT.up _) (by decide +kernel) (by decide +kernel) (by decide +kernel) rfl rfl) rfl rfl ?_
 rintro _ W120 ⟨_, _, _, _, rfl, x121, hv118, hv119⟩
 have s122 := x121.sz
 have z123 := z117.trans x121
 replace b3 := b3.ext x121
 replace b9 := b9.ext x121
 replace b15 := b15.ext x121
 replace b30 := b30.ext x121
 replace b36 := b36.ext x121
 replace b42 := b42.ext x121
 replace b57 := b57.ext x121
 replace b88 := b88.ext x121
 replace b107 := b107.ext x121
 refine ⟨_, rfl, ?_⟩
 refine mvt rfl ?_
 refine vv (rext (v := .slice _ _ _) rfl rfl) ?_
 refine vv (rext (v := .slice _ _ _) rfl rfl) ?_
 refine vv (rext (v := .int _ _) rfl rfl) ?_
 refine ass rfl ?_
 refine ass rfl ?_
 refine asi rfl ?_
 refine vnil ?_
 refine V.seq (V.reg rfl ?_)
 refine mvs rfl ?_
 refine vo ?_
 refine xcall e55 (sDet_at _ (0) (2 : Rat) (((hv22.ext ((((((((((((((x29.trans x35).trans x41).trans x52).trans x56).trans x65).trans x71).trans x77).trans x83).trans x87).trans x96).trans x102).trans x106).trans x115).trans x121))).ma (L := 1) (szM_B (by decide +kernel))) (by omega) (by omega) (by decide +kernel) (by decide +kernel) (TT.up _) (by decide +kernel) (by decide +kernel)) rfl rfl ?_
 rintro _ W125 ⟨_, rfl, x126, hv124⟩
 have s127 := x126.sz
 have z128 := z123.trans x126
 replace b3 := b3.ext x126
 replace b9 := b9.ext x126
 replace b15 := b15.ext x126
 replace b30 := b30.ext x126
 replace b36 := b36.ext x126
 replace b42 := b42.ext x126
 replace b57 := b57.ext x126
 replace b88 := b88.ext x126
 replace b107 := b107.ext x126
 obtain ⟨_, _, _, _, _, _, _, _, rfl⟩ := hv124.form
 refine ⟨_, rfl, ?_⟩
 refine mvt rfl ?_
 refine vv (rext (v := .agg #[_, _, _, _]) rfl rfl) ?_
 refine vv (rext (v := .int _ _) rfl rfl) ?_
 refine vo ?_
 refine xal zc48 ?_
 intro W130 x131 b132 nn133
 have s134 := x131.sz
 have z135 := z128.trans x131
 have z136 := x131
 replace b3 := b3.ext x131
 replace b9 := b9.ext x131
 replace b15 := b15.ext x131
 replace b30 := b30.ext x131
 replace b36 := b36.ext x131
 replace b42 := b42.ext x131
 replace b57 := b57.ext x131
 replace b88 := b88.ext x131
 replace b107 := b107.ext x131
 refine vo ?_
 refine sta (cs' := [_, _, _, _]) b132 rfl rfl sz48 rfl rfl rfl ?_
 intro W137 y138 b132
 have z139 := z135.below (y138.below (by omega))
 have z140 := z136.below (y138.below (by omega))
 replace b3 := b3.wr y138 (by omega)
 replace b9 := b9.wr y138 (by omega)
 replace b15 := b15.wr y138 (by omega)
 replace b30 := b30.wr y138 (by omega)
 replace b36 := b36.wr y138 (by omega)
 replace b42 := b42.wr y138 (by omega)
 replace b57 := b57.wr y138 (by omega)
 replace b88 := b88.wr y138 (by omega)
 replace b107 := b107.wr y138 (by omega)
 have s141 := y138.size
 refine asi rfl ?_
 refine vnil ?_
 refine V.seq (V.reg rfl ?_)
 refine mvs rfl ?_
 refine vo ?_
 refine xcall e54 (sInv_at _ (0) ([[3/2, -2], [-1/2, 1]] : List (List Rat)) 2 ((((hv22.ext (((((((((((((((x29.trans x35).trans x41).trans x52).trans x56).trans x65).trans x71).trans x77).trans x83).trans x87).trans x96).trans x102).trans x106).trans x115).trans x121).trans x126)).ext z140)).ma (L := 1) (szM_B (by decide +kernel))) (by omega) (by omega) (by decide +kernel) (by decide +kernel) (TT.up _) (by decide +kernel) (by decide +kernel) rfl) rfl rfl ?_
 rintro _ W143 ⟨_, _, rfl, x144, hv142⟩
 have s145 := x144.sz
 have z146 := z139.trans x144
 have z147 := z140.trans x144
 replace b3 := b3.ext x144
 replace b9 := b9.ext x144
 replace b15 := b15.ext x144
 replace b30 := b30.ext x144
 replace b36 := b36.ext x144
 replace b42 := b42.ext x144
 replace b57 := b57.ext x144
 replace b88 := b88.ext x144
 replace b107 := b107.ext x144
 replace b132 := b132.ext x144
 refine ⟨_, rfl, ?_⟩
 refine mvt rfl ?_
 refine vv (rext (v := .slice _ _ _) rfl rfl) ?_
 refine vv (rext (v := .int _ _) rfl rfl) ?_
 refine ass rfl ?_
 refine asi rfl ?_
 refine vnil ?_
 refine V.seq ?_
 refine V.seq (V.reg rfl ?_)
 refine mvs rfl ?_
 refine vo ?_
 refine xbs (ps := [(0, .int _ _), (1, .int _ _)]) (cs := [.int _ _, .int _ _]) sl118 zr2 sz2 rfl rfl rfl rfl rfl rfl ?_
 intro W148 x149 b150 nn151
 have s152 := x149.sz
 have z153 := z146.trans x149
 have z154 := z147.trans x149
 replace b3 := b3.ext x149
 replace b9 := b9.ext x149
 replace b15 := b15.ext x149
 replace b30 := b30.ext x149
 replace b36 := b36.ext x149
 replace b42 := b42.ext x149
 replace b57 := b57.ext x149
 replace b88 := b88.ext x149
 replace b107 := b107.ext x149
 replace b132 := b132.ext x149
 refine vo ?_
 have hl155 := RN.lit (k := .i64) (xs := [_, _]) 2 b150 (by intro q hq; simp only [List.mem_cons, List.not_mem_nil, or_false] at hq; simp only [kb]; omega) (TT.up W143 _ (Nat.le_refl _))
 refine xcall e82 (vFrom_ok _ _ _ [1, 1] TT TT _ hl155 (by omega) (TT.up _)) rfl rfl ?_
 rintro _ W158 ⟨_, rn157, _, rfl, x159, hv156⟩
 have s160 := x159.sz
 have z161 := z153.trans x159
 have z162 := z154.trans x159
 replace b3 := b3.ext x159
 replace b9 := b9.ext x159
 replace b15 := b15.ext x159
 replace b30 := b30.ext x159
 replace b36 := b36.ext x159
 replace b42 := b42.ext x159
 replace b57 := b57.ext x159
 replace b88 := b88.ext x159
 replace b107 := b107.ext x159
 replace b132 := b132.ext x159
 replace b150 := b150.ext x159
 obtain rfl : rn157 = 2 := by have := hv156.len; simpa using this.symm
 replace hv156 := hv156.cast (rs' := ([1, 1] : List Rat)) (by rfl)
 refine ⟨_, rfl, ?_⟩
 refine vo ?_
 refine xcall e56 (vIs_true _ ((hv68.ext ((((((((x77.trans x83).trans x87).trans x96).trans x102).trans x106).trans x115).trans x121).trans x126)).ext z162) hv156 rfl) rfl rfl ?_
 rintro _ W163 ⟨rfl, x164⟩
 have s165 := x164.sz
 have z166 := z161.trans x164
 have z167 := z162.trans x164
 replace b3 := b3.ext x164
 replace b9 := b9.ext x164
 replace b15 := b15.ext x164
 replace b30 := b30.ext x164
 replace b36 := b36.ext x164
 replace b42 := b42.ext x164
 replace b57 := b57.ext x164
 replace b88 := b88.ext x164
 replace b107 := b107.ext x164
 replace b132 := b132.ext x164
 replace b150 := b150.ext x164
 refine ⟨_, rfl, ?_⟩
 refine vv (rnot (q := false) rfl rfl) ?_
 refine mvb rfl ?_
 refine vg rfl ?_
 refine mvs rfl ?_
 refine vg rfl ?_
 refine vv (rlen sl22 rfl) ?_
 refine vg rfl ?_
 refine vne rfl rfl ?_ ?_
 ·intro c168
  omega
 ·intro c168
  refine vv (rpk (v := .bool false) rfl rfl) ?_
  refine mvb rfl ?_
  refine vg rfl ?_
  refine mvi rfl ?_
  refine vg rfl ?_
  refine vne rfl rfl ?_ ?_
  ·intro c169
   omega
  ·intro c169
   refine vv (rpk (v := .bool false) rfl rfl) ?_
   refine mvb rfl ?_
   refine vg rfl ?_
   refine mvs rfl ?_
   refine vg rfl ?_
   refine mvf rfl ?_
   refine vg rfl ?_
   refine vo ?_
   refine xbs (ps := [(0, .int _ _), (1, .int _ _)]) (cs := [.int _ _, .int _ _]) sl118 zr2 sz2 rfl rfl rfl rfl rfl rfl ?_
   intro W170 x171 b172 nn173
   have s174 := x171.sz
   have z175 := z166.trans x171
   have z176 := z167.trans x171
   replace b3 := b3.ext x171
   replace b9 := b9.ext x171
   replace b15 := b15.ext x171
   replace b30 := b30.ext x171
   replace b36 := b36.ext x171
   replace b42 := b42.ext x171
   replace b57 := b57.ext x171
   replace b88 := b88.ext x171
   replace b107 := b107.ext x171
   replace b132 := b132.ext x171
   replace b150 := b150.ext x171
   refine vg rfl ?_
   refine vo ?_
   refine xbs (ps := [(0, .slice _ _ _)]) (cs := [.slice _ _ _]) sl119 zr118 sz118 rfl rfl rfl rfl rfl rfl ?_
   intro W177 x178 b179 nn180
   have s181 := x178.sz
   have z182 := z175.trans x178
   have z183 := z176.trans x178
   replace b3 := b3.ext x178
   replace b9 := b9.ext x178
   replace b15 := b15.ext x178
   replace b30 := b30.ext x178
   replace b36 := b36.ext x178
   replace b42 := b42.ext x178
   replace b57 := b57.ext x178
   replace b88 := b88.ext x178
   replace b107 := b107.ext x178
   replace b132 := b132.ext x178
   replace b150 := b150.ext x178
   replace b172 := b172.ext x178
   refine vg rfl ?_
   refine vo ?_
   have hl184 := RN.lit (k := .i64) (xs := [_, _]) 2 b172 (by intro q hq; simp only [List.mem_cons, List.not_mem_nil, or_false] at hq; simp only [kb]; omega) (TT.up W163 _ (Nat.le_refl _))
   have hm185 : MI TT W177 (some ⟨W170.heap.size, 0, none⟩) 1 1 [[1, 2]] := ⟨[[.slice _ _ _]], RS.lit (S := TT) _ b179 rfl (by simp) trivial rfl (by omega), ⟨_, _, _, rfl, hl184⟩, trivial⟩
   refine xcall e103 (rmInts_ok _ _ _ [[1, 2]] TT TT _ hm185 (by omega) (by intro r hr; simp at hr; rcases hr with rfl <;> simp <;> omega) (TT.up _)) rfl rfl ?_
   rintro _ W188 ⟨_, rn187, _, rfl, x189, hv186⟩
   have s190 := x189.sz
   have z191 := z182.trans x189
   have z192 := z183.trans x189
   replace b3 := b3.ext x189
   replace b9 := b9.ext x189
   replace b15 := b15.ext x189
   replace b30 := b30.ext x189
   replace b36 := b36.ext x189
   replace b42 := b42.ext x189
   replace b57 := b57.ext x189
   replace b88 := b88.ext x189
   replace b107 := b107.ext x189
   replace b132 := b132.ext x189
   replace b150 := b150.ext x189
   replace b172 := b172.ext x189
   replace b179 := b179.ext x189
   obtain rfl : rn187 = 1 := by have := hv186.len; simpa using this.symm
   replace hv186 := hv186.cast (rss' := ([[1, 2]] : List (List Rat))) (by rfl)
   refine ⟨_, rfl, ?_⟩
   refine vg rfl ?_
   refine vo ?_
   refine xcall e42 (mIs_true _ ((hv74.ext (((((((x83.trans x87).trans x96).trans x102).trans x106).trans x115).trans x121).trans x126)).ext z192) hv186 rfl) rfl rfl ?_
   rintro _ W193 ⟨rfl, x194⟩
   have s195 := x194.sz
   have z196 := z191.trans x194
   have z197 := z192.trans x194
   replace b3 := b3.ext x194
   replace b9 := b9.ext x194
   replace b15 := b15.ext x194
   replace b30 := b30.ext x194
   replace b36 := b36.ext x194
   replace b42 := b42.ext x194
   replace b57 := b57.ext x194
   replace b88 := b88.ext x194
   replace b107 := b107.ext x194
   replace b132 := b132.ext x194
   replace b150 := b150.ext x194
   replace b172 := b172.ext x194
   replace b179 := b179.ext x194
   refine ⟨_, rfl, ?_⟩
   refine vg rfl ?_
   refine vv (rnot (q := false) rfl rfl) ?_
   refine vv (rpk (v := .bool false) rfl rfl) ?_
   refine mvb rfl ?_
   refine vg rfl ?_
   refine mvs rfl ?_
   refine vg rfl ?_
   refine vo ?_
   refine xbs (ps := [(0, .int _ _)]) (cs := [.int _ _]) sl73 zr3 sz3 rfl rfl rfl rfl rfl rfl ?_
   intro W198 x199 b200 nn201
   have s202 := x199.sz
   have z203 := z196.trans x199
   have z204 := z197.trans x199
   replace b3 := b3.ext x199
   replace b9 := b9.ext x199
   replace b15 := b15.ext x199
   replace b30 := b30.ext x199
   replace b36 := b36.ext x199
   replace b42 := b42.ext x199
   replace b57 := b57.ext x199
   replace b88 := b88.ext x199
   replace b107 := b107.ext x199
   replace b132 := b132.ext x199
   replace b150 := b150.ext x199
   replace b172 := b172.ext x199
   replace b179 := b179.ext x199
   refine vg rfl ?_
   refine vo ?_
   have hl205 := RN.lit (k := .i64) (xs := [_]) 1 b200 (by intro q hq; simp only [List.mem_cons, List.not_mem_nil, or_false] at hq; simp only [kb]; omega) (TT.up W193 _ (Nat.le_refl _))
   refine xcall e62 (rInts5_true _ ((hv75.ext (((((((x83.trans x87).trans x96).trans x102).trans x106).trans x115).trans x121).trans x126)).ext z204) hl205 rfl) rfl rfl ?_
   rintro _ W206 ⟨rfl, x207⟩
   have s208 := x207.sz
   have z209 := z203.trans x207
   have z210 := z204.trans x207
   replace b3 := b3.ext x207
   replace b9 := b9.ext x207
   replace b15 := b15.ext x207
   replace b30 := b30.ext x207
   replace b36 := b36.ext x207
   replace b42 := b42.ext x207
   replace b57 := b57.ext x207
   replace b88 := b88.ext x207
   replace b107 := b107.ext x207
   replace b132 := b132.ext x207
   replace b150 := b150.ext x207
   replace b172 := b172.ext x207
   replace b179 := b179.ext x207
   replace b200 := b200.ext x207
   refine ⟨_, rfl, ?_⟩
   refine vg rfl ?_
   refine vv (rnot (q := false) rfl rfl) ?_
   refine vv (rpk (v := .bool false) rfl rfl) ?_
   refine mvb rfl ?_
   refine vg rfl ?_
   refine mvs rfl ?_
   refine vg rfl ?_
   refine mvf rfl ?_
   refine vg rfl ?_
   refine vo ?_
   refine xbs (ps := [(0, .int _ _), (1, .int _ _)]) (cs := [.int _ _, .int _ _]) sl118 zr2 sz2 rfl rfl rfl rfl rfl rfl ?_
   intro W211 x212 b213 nn214
   have s215 := x212.sz
   have z216 := z209.trans x212
   have z217 := z210.trans x212
   replace b3 := b3.ext x212
   replace b9 := b9.ext x212
   replace b15 := b15.ext x212
   replace b30 := b30.ext x212
   replace b36 := b36.ext x212
   replace b42 := b42.ext x212
   replace b57 := b57.ext x212
   replace b88 := b88.ext x212
   replace b107 := b107.ext x212
   replace b132 := b132.ext x212
   replace b150 := b150.ext x212
   replace b172 := b172.ext x212
   replace b179 := b179.ext x212
   replace b200 := b200.ext x212
   refine vg rfl ?_
   refine vo ?_
   refine xbs (ps := [(0, .slice _ _ _)]) (cs := [.slice _ _ _]) sl119 zr118 sz118 rfl rfl rfl rfl rfl rfl ?_
   intro W218 x219 b220 nn221
   have s222 := x219.sz
   have z223 := z216.trans x219
   have z224 := z217.trans x219
   replace b3 := b3.ext x219
   replace b9 := b9.ext x219
   replace b15 := b15.ext x219
   replace b30 := b30.ext x219
   replace b36 := b36.ext x219
   replace b42 := b42.ext x219
   replace b57 := b57.ext x219
   replace b88 := b88.ext x219
   replace b107 := b107.ext x219
   replace b132 := b132.ext x219
   replace b150 := b150.ext x219
   replace b172 := b172.ext x219
   replace b179 := b179.ext x219
   replace b200 := b200.ext x219
   replace b213 := b213.ext x219
   refine vg rfl ?_
   refine vo ?_
   have hl225 := RN.lit (k := .i64) (xs := [_, _]) 2 b213 (by intro q hq; simp only [List.mem_cons, List.not_mem_nil, or_false] at hq; simp only [kb]; omega) (TT.up W206 _ (Nat.le_refl _))
   have hm226 : MI TT W218 (some ⟨W211.heap.size, 0, none⟩) 1 1 [[-2, 1]] := ⟨[[.slice _ _ _]], RS.lit (S := TT) _ b220 rfl (by simp) trivial rfl (by omega), ⟨_, _, _, rfl, hl225⟩, trivial⟩
   refine xcall e103 (rmInts_ok _ _ _ [[-2, 1]] TT TT _ hm226 (by omega) (by intro r hr; simp at hr; rcases hr with rfl <;> simp <;> omega) (TT.up _)) rfl rfl ?_
   rintro _ W229 ⟨_, rn228, _, rfl, x230, hv227⟩
   have s231 := x230.sz
   have z232 := z223.trans x230
   have z233 := z224.trans x230
   replace b3 := b3.ext x230
   replace b9 := b9.ext x230
   replace b15 := b15.ext x230
   replace b30 := b30.ext x230
   replace b36 := b36.ext x230
   replace b42 := b42.ext x230
   replace b57 := b57.ext x230
   replace b88 := b88.ext x230
   replace b107 := b107.ext x230
   replace b132 := b132.ext x230
   replace b150 := b150.ext x230
   replace b172 := b172.ext x230
   replace b179 := b179.ext x230
   replace b200 := b200.ext x230
   replace b213 := b213.ext x230
   replace b220 := b220.ext x230
   obtain rfl : rn228 = 1 := by have := hv227.len; simpa using this.symm
   replace hv227 := hv227.cast (rss' := ([[-2, 1]] : List (List Rat))) (by rfl)
   refine ⟨_, rfl, ?_⟩
   refine vg rfl ?_
   refine vo ?_
   refine xcall e42 (mIs_true _ ((hv80.ext ((((((x87.trans x96).trans x102).trans x106).trans x115).trans x121).trans x126)).ext z233) hv227 rfl) rfl rfl ?_
   rintro _ W234 ⟨rfl, x235⟩
   have s236 := x235.sz
   have z237 := z232.trans x235
   have z238 := z233.trans x235
   replace b3 := b3.ext x235
   replace b9 := b9.ext x235
   replace b15 := b15.ext x235
   replace b30 := b30.ext x235
   replace b36 := b36.ext x235
   replace b42 := b42.ext x235
   replace b57 := b57.ext x235
   replace b88 := b88.ext x235
   replace b107 := b107.ext x235
   replace b132 := b132.ext x235
   replace b150 := b150.ext x235
   replace b172 := b172.ext x235
   replace b179 := b179.ext x235
   replace b200 := b200.ext x235
   replace b213 := b213.ext x235
   replace b220 := b220.ext x235
   refine ⟨_, rfl, ?_⟩
   refine vg rfl ?_
   refine vv (rnot (q := false) rfl rfl) ?_
   refine vv (rpk (v := .bool false) rfl rfl) ?_
   refine mvb rfl ?_
   refine vg rfl ?_
   refine mvi rfl ?_
   refine vg rfl ?_
   refine vne rfl rfl ?_ ?_
   ·intro c239
    omega
   ·intro c239
    refine vv (rpk (v := .bool false) rfl rfl) ?_
    refine vnil ?_
    refine V.condF rfl ?_
    refine V.skip ?_
    refine V.seq (V.reg rfl ?_)
    refine vo ?_
    refine xcall e121 (rOf_ok (1) (2) TT _ (by omega) (by omega) (TT.up _)) rfl rfl ?_
    rintro _ W241 ⟨_, rfl, x242, hv240⟩
    have s243 := x242.sz
    have z244 := z237.trans x242
    have z245 := z238.trans x242
    replace b3 := b3.ext x242
    replace b9 := b9.ext x242
    replace b15 := b15.ext x242
    replace b30 := b30.ext x242
    replace b36 := b36.ext x242
    replace b42 := b42.ext x242
    replace b57 := b57.ext x242
    replace b88 := b88.ext x242
    replace b107 := b107.ext x242
    replace b132 := b132.ext x242
    replace b150 := b150.ext x242
    replace b172 := b172.ext x242
    replace b179 := b179.ext x242
    replace b200 := b200.ext x242
    replace b213 := b213.ext x242
    replace b220 := b220.ext x242
    replace hv240 := QC.to hv240 (r' := (1/2 : Rat)) (by decide +kernel)
    obtain ⟨_, _, _, _, _, _, _, _, rfl⟩ := hv240.form
    refine ⟨_, rfl, ?_⟩
    refine vo ?_
    refine xal zc48 ?_
    intro W247 x248 b249 nn250
    have s251 := x248.sz
    have z252 := z244.trans x248
    have z253 := z245.trans x248
    have z254 := x248
    replace b3 := b3.ext x248
    replace b9 := b9.ext x248
    replace b15 := b15.ext x248
    replace b30 := b30.ext x248
    replace b36 := b36.ext x248
    replace b42 := b42.ext x248
    replace b57 := b57.ext x248
    replace b88 := b88.ext x248
    replace b107 := b107.ext x248
    replace b132 := b132.ext x248
    replace b150 := b150.ext x248
    replace b172 := b172.ext x248
    replace b179 := b179.ext x248
    replace b200 := b200.ext x248
    replace b213 := b213.ext x248
    replace b220 := b220.ext x248
    refine vo ?_
    refine sta (cs' := [_, _, _, _]) b249 rfl rfl sz48 rfl rfl rfl ?_
    intro W255 y256 b249
    have z257 := z252.below (y256.below (by omega))
    have z258 := z253.below (y256.below (by omega))
    have z259 := z254.below (y256.below (by omega))
    replace b3 := b3.wr y256 (by omega)
    replace b9 := b9.wr y256 (by omega)
    replace b15 := b15.wr y256 (by omega)
    replace b30 := b30.wr y256 (by omega)
    replace b36 := b36.wr y256 (by omega)
    replace b42 := b42.wr y256 (by omega)
    replace b57 := b57.wr y256 (by omega)
    replace b88 := b88.wr y256 (by omega)
    replace b107 := b107.wr y256 (by omega)
    replace b132 := b132.wr y256 (by omega)
    replace b150 := b150.wr y256 (by omega)
    replace b172 := b172.wr y256 (by omega)
    replace b179 := b179.wr y256 (by omega)
    replace b200 := b200.wr y256 (by omega)
    replace b213 := b213.wr y256 (by omega)
    replace b220 := b220.wr y256 (by omega)
    have s260 := y256.size
    refine vnil ?_
    refine V.seq (V.regJ (ι := Nat × Nat) [(0, .bool false), (13, .slice _ _ _), (15, .int _ _), (16, .pointer (some ⟨_, _, none⟩)), (17, .int _ _), (18, .slice _ _ _), (19, .int _ _), (20, .pointer (some ⟨_, _, none⟩))] (fun ⟨nb, nb2⟩ => [(21, .slice (some ⟨nb, 0, none⟩) 2 2)]) (fun ⟨nb, nb2⟩ W => Ext W255 W ∧ MC TT W (some ⟨nb, 0, none⟩) 2 2 [[(3/2 : Rat), -2], [-1/2, 1]]) mixed rfl ⟨rfl, rfl, rfl, rfl, rfl, rfl, rfl, rfl, trivial⟩ ?_ ?_)
    ·skip
     intro W262 x263
     have s264 := x263.sz
     have z267 := z259.trans x263
     have z268 := x263
     replace b3 := b3.ext x263
     replace b9 := b9.ext x263
     replace b15 := b15.ext x263
     replace b30 := b30.ext x263
     replace b36 := b36.ext x263
     replace b42 := b42.ext x263
     replace b57 := b57.ext x263
     replace b88 := b88.ext x263
     replace b107 := b107.ext x263
     replace b132 := b132.ext x263
     replace b150 := b150.ext x263
     replace b172 := b172.ext x263
     replace b179 := b179.ext x263
     replace b200 := b200.ext x263
     replace b213 := b213.ext x263
     replace b220 := b220.ext x263
     replace b249 := b249.ext x263
     have q269 := Ext.refl W262
     have r270 := b3
     have r271 := b9
     have r272 := b15
     have r273 := b30
     have r274 := b36
     have r275 := b42
     have r276 := b57
     have r277 := b88
     have r278 := b107
     have r279 := b132
     have r280 := b150
     have r281 := b172
     have r282 := b179
     have r283 := b200
     have r284 := b213
     have r285 := b220
     have r286 := b249
     refine tk 3 rfl (by kernel_rfl) q269 (pv (fun _ y287 => rldb4 rfl ag48 (r286.ext y287) rfl rfl rfl rfl )) ?_
     refine ef 0 (by kernel_rfl) rfl ?_
     refine xcall e121 (rOf_ok (3) (2) TT _ (by omega) (by omega) (TT.up _)) rfl rfl ?_
     rintro _ W289 ⟨_, rfl, x290, hv288⟩
     have s291 := x290.sz
     have z294 := z267.trans x290
     have z295 := z268.trans x290
     have q296 := q269.trans x290
     replace hv288 := QC.to hv288 (r' := (3/2 : Rat)) (by decide +kernel)
     obtain ⟨_, _, _, _, _, _, _, _, rfl⟩ := hv288.form
     refine ⟨_, rfl, ?_⟩
     refine ⟨fun _ => q296, ?_⟩
     refine ef 1 (by kernel_rfl) rfl ?_
     refine xcall e116 (rInt_ok (-2) TT _ (by omega) (TT.up _)) rfl rfl ?_
     rintro _ W298 ⟨_, rfl, x299, hv297⟩
     have s300 := x299.sz
     have z303 := z294.trans x299
     have z304 := z295.trans x299
     have q305 := q296.trans x299
     replace hv297 := QC.to hv297 (r' := (-2 : Rat)) (by decide +kernel)
     obtain ⟨_, _, _, _, _, _, _, _, rfl⟩ := hv297.form
     refine ⟨_, rfl, ?_⟩
     refine ⟨fun _ => q305, ?_⟩
     refine efs 2 [4] (by kernel_rfl) ⟨?_, ?_, trivial⟩
     ·skip
      refine efI rfl ?_
      refine xbs (zs := [.bool false, .slice _ _ _, .bool false, .slice _ _ _]) (ps := [(0, .agg #[_, _, _, _]), (1, .agg #[_, _, _, _])]) (cs := [.bool _, .slice _ _ _, .bool _, .slice _ _ _, .bool _, .slice _ _ _, .bool _, .slice _ _ _]) sl23 zr48 sz48 rfl rfl rfl rfl rfl (fillS2 _ _ _ _ _ _ _ _ _ _ _ _) ?_
      intro W306 x307 b308 nn309
      have s310 := x307.sz
      have z313 := z303.trans x307
      have z314 := z304.trans x307
      have q315 := q305.trans x307
      refine ⟨fun _ => q315, ?_⟩
      refine ef 4 (by kernel_rfl) rfl ?_
      refine xcall e122 (rNegQ_ok [_, _, _, _] _ 1 TT _ _ (((hv240.ext z313)).qa (szB_sz (by decide +kernel))) (by omega) (by omega) (TT.up _)) rfl rfl ?_
      rintro _ W317 ⟨_, rfl, x318, hv316⟩
      have s319 := x318.sz
      have z323 := z314.trans x318
      replace b308 := b308.ext x318
      have q324 := q315.trans x318
      replace hv316 := QC.to hv316 (r' := (-1/2 : Rat)) (by decide +kernel)
      obtain ⟨_, _, _, _, _, _, _, _, rfl⟩ := hv316.form
      refine ⟨_, rfl, ?_⟩
      refine ⟨fun _ => q324, ?_⟩
      refine ef 5 (by kernel_rfl) rfl ?_
      refine xcall e116 (rInt_ok (1) TT _ (by omega) (TT.up _)) rfl rfl ?_
      rintro _ W326 ⟨_, rfl, x327, hv325⟩
      have s328 := x327.sz
      have z332 := z323.trans x327
      replace b308 := b308.ext x327
      have q333 := q324.trans x327
      replace hv325 := QC.to hv325 (r' := (1 : Rat)) (by decide +kernel)
      obtain ⟨_, _, _, _, _, _, _, _, rfl⟩ := hv325.form
      refine ⟨_, rfl, ?_⟩
      refine ⟨fun _ => q333, ?_⟩
      refine ef 6 (by kernel_rfl) rfl ?_
      refine xbs (zs := [.bool false, .slice _ _ _, .bool false, .slice _ _ _]) (ps := [(0, .agg #[_, _, _, _]), (1, .agg #[_, _, _, _])]) (cs := [.bool _, .slice _ _ _, .bool _, .slice _ _ _, .bool _, .slice _ _ _, .bool _, .slice _ _ _]) sl23 zr48 sz48 rfl rfl rfl rfl rfl (fillS2 _ _ _ _ _ _ _ _ _ _ _ _) ?_
      intro W334 x335 b336 nn337
      have s338 := x335.sz
      have z342 := z332.trans x335
      replace b308 := b308.ext x335
      have q343 := q333.trans x335
      refine ⟨fun _ => q343, ?_⟩
      refine ef 7 (by kernel_rfl) rfl ?_
      refine xbs (ps := [(0, .slice _ _ _), (1, .slice _ _ _)]) (cs := [.slice _ _ _, .slice _ _ _]) sl22 zr23 sz23 rfl rfl rfl rfl rfl rfl ?_
      intro W344 x345 b346 nn347
      have s348 := x345.sz
      have z352 := z342.trans x345
      replace b308 := b308.ext x345
      replace b336 := b336.ext x345
      have q353 := q343.trans x345
      refine ⟨fun _ => q353, ?_⟩
      refine tk 8 rfl (by kernel_rfl) q353 (pv (fun _ y354 => ras (v := .slice _ _ _) rfl)) ?_
      refine dn (by kernel_rfl) ?_
      have hv355 : GC TT W344 (some ⟨W298.heap.size, 0, none⟩) 2 2 [_, _] := ⟨[[.bool _, .slice _ _ _, .bool _, .slice _ _ _], [.bool _, .slice _ _ _, .bool _, .slice _ _ _]], RS.lit (s := 4) (S := TT) (n := 2) _ b308 rfl (by simp) trivial rfl (by omega), (hv288.ext (((((x299.trans x307).trans x318).trans x327).trans x335).trans x345)), (hv297.ext ((((x307.trans x318).trans x327).trans x335).trans x345)), trivial⟩
      have hv356 : GC TT W344 (some ⟨W326.heap.size, 0, none⟩) 2 2 [_, _] := ⟨[[.bool _, .slice _ _ _, .bool _, .slice _ _ _], [.bool _, .slice _ _ _, .bool _, .slice _ _ _]], RS.lit (s := 4) (S := TT) (n := 2) _ b336 rfl (by simp) trivial rfl (by omega), (hv316.ext ((x327.trans x335).trans x345)), (hv325.ext (x335.trans x345)), trivial⟩
      have hwant : MC TT W344 (some ⟨W334.heap.size, 0, none⟩) 2 2 [_, _] := ⟨[[.slice _ _ _], [.slice _ _ _]], RS.lit (s := 1) (S := TT) (n := 2) _ b346 rfl (by simp) trivial rfl (by omega), ⟨_, _, _, rfl, hv355⟩, ⟨_, _, _, rfl, hv356⟩, trivial⟩
      exact ⟨(W334.heap.size, 0), ⟨rfl, rfl, rfl, rfl, rfl, rfl, rfl, rfl, trivial⟩, ⟨rfl, trivial⟩, z352, hwant⟩
     ·skip
      refine efI rfl ?_
      refine xcall e122 (rNegQ_ok [_, _, _, _] _ 1 TT _ _ (((hv240.ext z303)).qa (szB_sz (by decide +kernel))) (by omega) (by omega) (TT.up _)) rfl rfl ?_
      rintro _ W358 ⟨_, rfl, x359, hv357⟩
      have s360 := x359.sz
      have z364 := z304.trans x359
      have q365 := q305.trans x359
      replace hv357 := QC.to hv357 (r' := (-1/2 : Rat)) (by decide +kernel)
      obtain ⟨_, _, _, _, _, _, _, _, rfl⟩ := hv357.form
      refine ⟨_, rfl, ?_⟩
      refine ⟨fun _ => q365, ?_⟩
      refine efs 2 [5] (by kernel_rfl) ⟨?_, ?_, trivial⟩
      ·skip
       refine efI rfl ?_
       refine xbs (zs := [.bool false, .slice _ _ _, .bool false, .slice _ _ _]) (ps := [(0, .agg #[_, _, _, _]), (1, .agg #[_, _, _, _])]) (cs := [.bool _, .slice _ _ _, .bool _, .slice _ _ _, .bool _, .slice _ _ _, .bool _, .slice _ _ _]) sl23 zr48 sz48 rfl rfl rfl rfl rfl (fillS2 _ _ _ _ _ _ _ _ _ _ _ _) ?_
       intro W366 x367 b368 nn369
       have s370 := x367.sz
       have z374 := z364.trans x367
       have q375 := q365.trans x367
       refine ⟨fun _ => q375, ?_⟩
       refine ef 5 (by kernel_rfl) rfl ?_
       refine xcall e116 (rInt_ok (1) TT _ (by omega) (TT.up _)) rfl rfl ?_
       rintro _ W377 ⟨_, rfl, x378, hv376⟩
       have s379 := x378.sz
       have z383 := z374.trans x378
       replace b368 := b368.ext x378
       have q384 := q375.trans x378
       replace hv376 := QC.to hv376 (r' := (1 : Rat)) (by decide +kernel)
       obtain ⟨_, _, _, _, _, _, _, _, rfl⟩ := hv376.form
       refine ⟨_, rfl, ?_⟩
       refine ⟨fun _ => q384, ?_⟩
       refine ef 6 (by kernel_rfl) rfl ?_
       refine xbs (zs := [.bool false, .slice _ _ _, .bool false, .slice _ _ _]) (ps := [(0, .agg #[_, _, _, _]), (1, .agg #[_, _, _, _])]) (cs := [.bool _, .slice _ _ _, .bool _, .slice _ _ _, .bool _, .slice _ _ _, .bool _, .slice _ _ _]) sl23 zr48 sz48 rfl rfl rfl rfl rfl (fillS2 _ _ _ _ _ _ _ _ _ _ _ _) ?_
       intro W385 x386 b387 nn388
       have s389 := x386.sz
       have z393 := z383.trans x386
       replace b368 := b368.ext x386
       have q394 := q384.trans x386
       refine ⟨fun _ => q394, ?_⟩
       refine ef 7 (by kernel_rfl) rfl ?_
       refine xbs (ps := [(0, .slice _ _ _), (1, .slice _ _ _)]) (cs := [.slice _ _ _, .slice _ _ _]) sl22 zr23 sz23 rfl rfl rfl rfl rfl rfl ?_
       intro W395 x396 b397 nn398
       have s399 := x396.sz
       have z403 := z393.trans x396
       replace b368 := b368.ext x396
       replace b387 := b387.ext x396
       have q404 := q394.trans x396
       refine ⟨fun _ => q404, ?_⟩
       refine tk 8 rfl (by kernel_rfl) q404 (pv (fun _ y405 => ras (v := .slice _ _ _) rfl)) ?_
       refine dn (by kernel_rfl) ?_
       have hv406 : GC TT W395 (some ⟨W358.heap.size, 0, none⟩) 2 2 [_, _] := ⟨[[.bool _, .slice _ _ _, .bool _, .slice _ _ _], [.bool _, .slice _ _ _, .bool _, .slice _ _ _]], RS.lit (s := 4) (S := TT) (n := 2) _ b368 rfl (by simp) trivial rfl (by omega), (hv288.ext (((((x299.trans x359).trans x367).trans x378).trans x386).trans x396)), (hv297.ext ((((x359.trans x367).trans x378).trans x386).trans x396)), trivial⟩
       have hv407 : GC TT W395 (some ⟨W377.heap.size, 0, none⟩) 2 2 [_, _] := ⟨[[.bool _, .slice _ _ _, .bool _, .slice _ _ _], [.bool _, .slice _ _ _, .bool _, .slice _ _ _]], RS.lit (s := 4) (S := TT) (n := 2) _ b387 rfl (by simp) trivial rfl (by omega), (hv357.ext (((x367.trans x378).trans x386).trans x396)), (hv376.ext (x386.trans x396)), trivial⟩
       have hwant : MC TT W395 (some ⟨W385.heap.size, 0, none⟩) 2 2 [_, _] := ⟨[[.slice _ _ _], [.slice _ _ _]], RS.lit (s := 1) (S := TT) (n := 2) _ b397 rfl (by simp) trivial rfl (by omega), ⟨_, _, _, rfl, hv406⟩, ⟨_, _, _, rfl, hv407⟩, trivial⟩
       exact ⟨(W385.heap.size, 0), ⟨rfl, rfl, rfl, rfl, rfl, rfl, rfl, rfl, trivial⟩, ⟨rfl, trivial⟩, z403, hwant⟩
      ·skip
       refine efI rfl ?_
       refine xcall e116 (rInt_ok (1) TT _ (by omega) (TT.up _)) rfl rfl ?_
       rintro _ W409 ⟨_, rfl, x410, hv408⟩
       have s411 := x410.sz
       have z415 := z364.trans x410
       have q416 := q365.trans x410
       replace hv408 := QC.to hv408 (r' := (1 : Rat)) (by decide +kernel)
       obtain ⟨_, _, _, _, _, _, _, _, rfl⟩ := hv408.form
       refine ⟨_, rfl, ?_⟩
       refine ⟨fun _ => q416, ?_⟩
       refine efs 2 [6] (by kernel_rfl) ⟨?_, ?_, trivial⟩
       ·skip
        refine efI rfl ?_
        refine xbs (zs := [.bool false, .slice _ _ _, .bool false, .slice _ _ _]) (ps := [(0, .agg #[_, _, _, _]), (1, .agg #[_, _, _, _])]) (cs := [.bool _, .slice _ _ _, .bool _, .slice _ _ _, .bool _, .slice _ _ _, .bool _, .slice _ _ _]) sl23 zr48 sz48 rfl rfl rfl rfl rfl (fillS2 _ _ _ _ _ _ _ _ _ _ _ _) ?_
        intro W417 x418 b419 nn420
        have s421 := x418.sz
        have z425 := z415.trans x418
        have q426 := q416.trans x418
        refine ⟨fun _ => q426, ?_⟩
        refine ef 6 (by kernel_rfl) rfl ?_
        refine xbs (zs := [.bool false, .slice _ _ _, .bool false, .slice _ _ _]) (ps := [(0, .agg #[_, _, _, _]), (1, .agg #[_, _, _, _])]) (cs := [.bool _, .slice _ _ _, .bool _, .slice _ _ _, .bool _, .slice _ _ _, .bool _, .slice _ _ _]) sl23 zr48 sz48 rfl rfl rfl rfl rfl (fillS2 _ _ _ _ _ _ _ _ _ _ _ _) ?_
        intro W427 x428 b429 nn430
        have s431 := x428.sz
        have z435 := z425.trans x428
        replace b419 := b419.ext x428
        have q436 := q426.trans x428
        refine ⟨fun _ => q436, ?_⟩
        refine ef 7 (by kernel_rfl) rfl ?_
        refine xbs (ps := [(0, .slice _ _ _), (1, .slice _ _ _)]) (cs := [.slice _ _ _, .slice _ _ _]) sl22 zr23 sz23 rfl rfl rfl rfl rfl rfl ?_
        intro W437 x438 b439 nn440
        have s441 := x438.sz
        have z445 := z435.trans x438
        replace b419 := b419.ext x438
        replace b429 := b429.ext x438
        have q446 := q436.trans x438
        refine ⟨fun _ => q446, ?_⟩
        refine tk 8 rfl (by kernel_rfl) q446 (pv (fun _ y447 => ras (v := .slice _ _ _) rfl)) ?_
        refine dn (by kernel_rfl) ?_
        have hv448 : GC TT W437 (some ⟨W409.heap.size, 0, none⟩) 2 2 [_, _] := ⟨[[.bool _, .slice _ _ _, .bool _, .slice _ _ _], [.bool _, .slice _ _ _, .bool _, .slice _ _ _]], RS.lit (s := 4) (S := TT) (n := 2) _ b419 rfl (by simp) trivial rfl (by omega), (hv288.ext (((((x299.trans x359).trans x410).trans x418).trans x428).trans x438)), (hv297.ext ((((x359.trans x410).trans x418).trans x428).trans x438)), trivial⟩
        have hv449 : GC TT W437 (some ⟨W417.heap.size, 0, none⟩) 2 2 [_, _] := ⟨[[.bool _, .slice _ _ _, .bool _, .slice _ _ _], [.bool _, .slice _ _ _, .bool _, .slice _ _ _]], RS.lit (s := 4) (S := TT) (n := 2) _ b429 rfl (by simp) trivial rfl (by omega), (hv357.ext (((x410.trans x418).trans x428).trans x438)), (hv408.ext ((x418.trans x428).trans x438)), trivial⟩
        have hwant : MC TT W437 (some ⟨W427.heap.size, 0, none⟩) 2 2 [_, _] := ⟨[[.slice _ _ _], [.slice _ _ _]], RS.lit (s := 1) (S := TT) (n := 2) _ b439 rfl (by simp) trivial rfl (by omega), ⟨_, _, _, rfl, hv448⟩, ⟨_, _, _, rfl, hv449⟩, trivial⟩
        exact ⟨(W427.heap.size, 0), ⟨rfl, rfl, rfl, rfl, rfl, rfl, rfl, rfl, trivial⟩, ⟨rfl, trivial⟩, z445, hwant⟩
       ·skip
        refine efI rfl ?_
        refine xbs (zs := [.bool false, .slice _ _ _, .bool false, .slice _ _ _]) (ps := [(0, .agg #[_, _, _, _]), (1, .agg #[_, _, _, _])]) (cs := [.bool _, .slice _ _ _, .bool _, .slice _ _ _, .bool _, .slice _ _ _, .bool _, .slice _ _ _]) sl23 zr48 sz48 rfl rfl rfl rfl rfl (fillS2 _ _ _ _ _ _ _ _ _ _ _ _) ?_
        intro W450 x451 b452 nn453
        have s454 := x451.sz
        have z458 := z415.trans x451
        have q459 := q416.trans x451
        refine ⟨fun _ => q459, ?_⟩
        refine ef 2 (by kernel_rfl) rfl ?_
        refine xbs (zs := [.bool false, .slice _ _ _, .bool false, .slice _ _ _]) (ps := [(0, .agg #[_, _, _, _]), (1, .agg #[_, _, _, _])]) (cs := [.bool _, .slice _ _ _, .bool _, .slice _ _ _, .bool _, .slice _ _ _, .bool _, .slice _ _ _]) sl23 zr48 sz48 rfl rfl rfl rfl rfl (fillS2 _ _ _ _ _ _ _ _ _ _ _ _) ?_
        intro W460 x461 b462 nn463
        have s464 := x461.sz
        have z468 := z458.trans x461
        replace b452 := b452.ext x461
        have q469 := q459.trans x461
        refine ⟨fun _ => q469, ?_⟩
        refine ef 7 (by kernel_rfl) rfl ?_
        refine xbs (ps := [(0, .slice _ _ _), (1, .slice _ _ _)]) (cs := [.slice _ _ _, .slice _ _ _]) sl22 zr23 sz23 rfl rfl rfl rfl rfl rfl ?_
        intro W470 x471 b472 nn473
        have s474 := x471.sz
        have z478 := z468.trans x471
        replace b452 := b452.ext x471
        replace b462 := b462.ext x471
        have q479 := q469.trans x471
        refine ⟨fun _ => q479, ?_⟩
        refine tk 8 rfl (by kernel_rfl) q479 (pv (fun _ y480 => ras (v := .slice _ _ _) rfl)) ?_
        refine dn (by kernel_rfl) ?_
        have hv481 : GC TT W470 (some ⟨W450.heap.size, 0, none⟩) 2 2 [_, _] := ⟨[[.bool _, .slice _ _ _, .bool _, .slice _ _ _], [.bool _, .slice _ _ _, .bool _, .slice _ _ _]], RS.lit (s := 4) (S := TT) (n := 2) _ b462 rfl (by simp) trivial rfl (by omega), (hv288.ext (((((x299.trans x359).trans x410).trans x451).trans x461).trans x471)), (hv297.ext ((((x359.trans x410).trans x451).trans x461).trans x471)), trivial⟩
        have hv482 : GC TT W470 (some ⟨W409.heap.size, 0, none⟩) 2 2 [_, _] := ⟨[[.bool _, .slice _ _ _, .bool _, .slice _ _ _], [.bool _, .slice _ _ _, .bool _, .slice _ _ _]], RS.lit (s := 4) (S := TT) (n := 2) _ b452 rfl (by simp) trivial rfl (by omega), (hv357.ext (((x410.trans x451).trans x461).trans x471)), (hv408.ext ((x451.trans x461).trans x471)), trivial⟩
        have hwant : MC TT W470 (some ⟨W460.heap.size, 0, none⟩) 2 2 [_, _] := ⟨[[.slice _ _ _], [.slice _ _ _]], RS.lit (s := 1) (S := TT) (n := 2) _ b472 rfl (by simp) trivial rfl (by omega), ⟨_, _, _, rfl, hv481⟩, ⟨_, _, _, rfl, hv482⟩, trivial⟩
        exact ⟨(W460.heap.size, 0), ⟨rfl, rfl, rfl, rfl, rfl, rfl, rfl, rfl, trivial⟩, ⟨rfl, trivial⟩, z478, hwant⟩
    ·skip
     intro i485 E486 W484 h487
     obtain ⟨nb, nb2⟩ := i485
     simp only at h487
     show thenV _ _ .normal (ups (ups _ _) [(21, .slice (some ⟨nb, 0, none⟩) 2 2)]) _ _
     obtain ⟨x488, hwant⟩ := h487
     have s489 := x488.sz
     have z490 := z257.trans x488
     have z491 := z258.trans x488
     have z492 := z259.trans x488
     replace b3 := b3.ext x488
     replace b9 := b9.ext x488
     replace b15 := b15.ext x488
     replace b30 := b30.ext x488
     replace b36 := b36.ext x488
     replace b42 := b42.ext x488
     replace b57 := b57.ext x488
     replace b88 := b88.ext x488
     replace b107 := b107.ext x488
     replace b132 := b132.ext x488
     replace b150 := b150.ext x488
     replace b172 := b172.ext x488
     replace b179 := b179.ext x488
     replace b200 := b200.ext x488
     replace b213 := b213.ext x488
     replace b220 := b220.ext x488
     replace b249 := b249.ext x488
     refine V.seq (V.regD mixed rfl ?_)
     intro W494 x495
     have s496 := x495.sz
     have z497 := z490.trans x495
     have z498 := z491.trans x495
     have z499 := z492.trans x495
     replace b3 := b3.ext x495
     replace b9 := b9.ext x495
     replace b15 := b15.ext x495
     replace b30 := b30.ext x495
     replace b36 := b36.ext x495
     replace b42 := b42.ext x495
     replace b57 := b57.ext x495
     replace b88 := b88.ext x495
     replace b107 := b107.ext x495
     replace b132 := b132.ext x495
     replace b150 := b150.ext x495
     replace b172 := b172.ext x495
     replace b179 := b179.ext x495
     replace b200 := b200.ext x495
     replace b213 := b213.ext x495
     replace b220 := b220.ext x495
     replace b249 := b249.ext x495
     have q501 := Ext.refl W494
     have r502 := b3
     have r503 := b9
     have r504 := b15
     have r505 := b30
     have r506 := b36
     have r507 := b42
     have r508 := b57
     have r509 := b88
     have r510 := b107
     have r511 := b132
     have r512 := b150
     have r513 := b172
     have r514 := b179
     have r515 := b200
     have r516 := b213
     have r517 := b220
     have r518 := b249
     refine tk 0 rfl (by kernel_rfl) q501 (pv (fun _ y519 => rmv (v := .slice _ _ _) rfl)) ?_
     refine ef 1 (by kernel_rfl) rfl ?_
     refine xbs (ps := [(0, .int _ _), (1, .int _ _)]) (cs := [.int _ _, .int _ _]) sl118 zr2 sz2 rfl rfl rfl rfl rfl rfl ?_
     intro W520 x521 b522 nn523
     have s524 := x521.sz
     have z525 := z497.trans x521
     have z526 := z498.trans x521
     have z527 := z499.trans x521
     have q529 := q501.trans x521
     refine ⟨fun _ => q529, ?_⟩
     refine ef 2 (by kernel_rfl) rfl ?_
     have hl530 := RN.lit (k := .i64) (xs := [_, _]) 2 b522 (by intro q hq; simp only [List.mem_cons, List.not_mem_nil, or_false] at hq; simp only [kb]; omega) (TT.up W494 _ (Nat.le_refl _))
     refine xcall e82 (vFrom_ok _ _ _ [1, 0] TT TT _ hl530 (by omega) (TT.up _)) rfl rfl ?_
     rintro _ W533 ⟨_, rn532, _, rfl, x534, hv531⟩
     have s535 := x534.sz
     have z536 := z525.trans x534
     have z537 := z526.trans x534
     have z538 := z527.trans x534
     have q540 := q529.trans x534
     obtain rfl : rn532 = 2 := by have := hv531.len; simpa using this.symm
     replace hv531 := hv531.cast (rs' := ([1, 0] : List Rat)) (by rfl)
     refine ⟨_, rfl, ?_⟩
     refine ⟨fun _ => q540, ?_⟩
     refine ef 3 (by kernel_rfl) rfl ?_
     refine xcall e56 (vIs_true _ ((hv118.ext x126).ext z537) hv531 rfl) rfl rfl ?_
     rintro _ W541 ⟨rfl, x542⟩
     have s543 := x542.sz
     have z544 := z536.trans x542
     have z545 := z537.trans x542
     have z546 := z538.trans x542
     have q548 := q540.trans x542
     refine ⟨_, rfl, ?_⟩
     refine ⟨fun _ => q548, ?_⟩
     refine tk 4 rfl (by kernel_rfl) q548 (pv (fun _ y549 => rmv (v := .bool true) rfl)) ?_
     refine tk 5 rfl (by kernel_rfl) q548 (pg rfl (fun _ y550 => rmv (v := .int _ _) rfl)) ?_
     refine tk 6 rfl (by kernel_rfl) q548 (pg rfl (fun _ y551 => rcmp (cEq (t := true) rfl) rfl rfl rfl)) ?_
     refine tk 7 rfl (by kernel_rfl) q548 (pv (fun _ y552 => rpk (v := .bool true) rfl rfl)) ?_
     refine tk 8 rfl (by kernel_rfl) q548 (pv (fun _ y553 => rmv (v := .bool true) rfl)) ?_
     refine tk 9 rfl (by kernel_rfl) q548 (pg rfl (fun _ y554 => rldb4 rfl ag48 (r511.ext y554) rfl rfl rfl rfl )) ?_
     refine efg 10 (by kernel_rfl) rfl rfl ?_
     refine xcall e116 (rInt_ok (2) TT _ (by omega) (TT.up _)) rfl rfl ?_
     rintro _ W556 ⟨_, rfl, x557, hv555⟩
     have s558 := x557.sz
     have z559 := z544.trans x557
     have z560 := z545.trans x557
     have z561 := z546.trans x557
     have q563 := q548.trans x557
     replace hv555 := QC.to hv555 (r' := (2 : Rat)) (by decide +kernel)
     obtain ⟨_, _, _, _, _, _, _, _, rfl⟩ := hv555.form
     refine ⟨_, rfl, ?_⟩
     refine ⟨fun _ => q563, ?_⟩
     refine efg 11 (by kernel_rfl) rfl rfl ?_
     refine xcall e37 (qIs5_true _ (q1 := [_, _, _, _]) (q2 := [_, _, _, _]) (hv124.ext z560) hv555 rfl) rfl rfl ?_
     rintro _ W564 ⟨rfl, x565⟩
     have s566 := x565.sz
     have z567 := z559.trans x565
     have z569 := z561.trans x565
     have q571 := q563.trans x565
     refine ⟨_, rfl, ?_⟩
     refine ⟨fun _ => q571, ?_⟩
     refine tk 12 rfl (by kernel_rfl) q571 (pv (fun _ y572 => rpk (v := .bool true) rfl rfl)) ?_
     refine tk 13 rfl (by kernel_rfl) q571 (pv (fun _ y573 => rmv (v := .bool true) rfl)) ?_
     refine tk 14 rfl (by kernel_rfl) q571 (pg rfl (fun _ y574 => rmv (v := .int _ _) rfl)) ?_
     refine tk 15 rfl (by kernel_rfl) q571 (pg rfl (fun _ y575 => rcmp (cEq (t := true) rfl) rfl rfl rfl)) ?_
     refine tk 16 rfl (by kernel_rfl) q571 (pv (fun _ y576 => rpk (v := .bool true) rfl rfl)) ?_
     refine tk 17 rfl (by kernel_rfl) q571 (pv (fun _ y577 => rmv (v := .bool true) rfl)) ?_
     refine tk 18 rfl (by kernel_rfl) q571 (pg rfl (fun _ y578 => rmv (v := .slice _ _ _) rfl)) ?_
     refine tk 19 rfl (by kernel_rfl) q571 (pg rfl (fun _ y579 => rmv (v := .slice _ _ _) rfl)) ?_
     refine efg 20 (by kernel_rfl) rfl rfl ?_
     refine xcall e42 (mIs_true _ ((hv142.ext (((((((((((((x149.trans x159).trans x164).trans x171).trans x178).trans x189).trans x194).trans x199).trans x207).trans x212).trans x219).trans x230).trans x235).trans x242)).ext z569) (hwant.ext (((((x495.trans x521).trans x534).trans x542).trans x557).trans x565)) rfl) rfl rfl ?_
     rintro _ W580 ⟨rfl, x581⟩
     have s582 := x581.sz
     have z583 := z567.trans x581
     have q587 := q571.trans x581
     refine ⟨_, rfl, ?_⟩
     refine ⟨fun _ => q587, ?_⟩
     refine tk 21 rfl (by kernel_rfl) q587 (pv (fun _ y588 => rpk (v := .bool true) rfl rfl)) ?_
     refine tk 22 rfl (by kernel_rfl) q587 (pv (fun _ y589 => rmv (v := .bool true) rfl)) ?_
     refine tk 23 rfl (by kernel_rfl) q587 (pg rfl (fun _ y590 => rmv (v := .int _ _) rfl)) ?_
     refine tk 24 rfl (by kernel_rfl) q587 (pg rfl (fun _ y591 => rcmp (cEq (t := true) rfl) rfl rfl rfl)) ?_
     refine tk 25 rfl (by kernel_rfl) q587 (pv (fun _ y592 => rpk (v := .bool true) rfl rfl)) ?_
     refine tk 26 rfl (by kernel_rfl) q587 (pv (fun _ y593 => ras (v := .bool true) rfl)) ?_
     refine dn (by kernel_rfl) ?_
     refine V.ret ?_
     refine ⟨[.bool true], ⟨rfl, trivial⟩, ?_⟩
     exact ⟨rfl, z583⟩
end Go.Proofs.YtknbjfefeeojlaaGreat
/- What the laws of layer 5 ask of package solve's functions: the reduced form of a matrix, sizes. -/
namespace Go.Proofs.YtknbjfefeeojlaaGreat
open Go.RowKit
attribute [local irreducible] RV VH V OpF Calls
def pivs (rss : List (List Rat)) : List Int := (redS (padm rss) (colsN rss)).2.1
theorem pow5_le {k m : Nat} (h : k ≤ m) : 5 ^ k ≤ 5 ^ m := Nat.pow_le_pow_right (by omega) h
theorem szV.set {L : Nat} {xs : List Rat} (h : szV L xs) {i : Nat} {r : Rat} (hr : sz L r) : szV L (xs.set i r) := fun x hx => by
  rcases List.mem_or_eq_of_mem_set hx with h' | rfl
  · exact h x h'
  · exact hr
theorem szV.mono' {L L' : Nat} {xs : List Rat} (h : szV L xs) (hL : L ≤ L') : szV L' xs := fun x hx => (h x hx).mono hL
theorem svec_sz {L : Nat} {rows : List (List Rat)} (h : szR L rows) (hL : 1 ≤ L) (piv : List Int) (N : Nat) : ∀ i, szV L (svec rows piv N i)
  | 0 => fun x hx => by rw [(List.mem_replicate.1 hx).2]; exact sz_zero.mono hL
  | i + 1 => (svec_sz h hL piv N i).set (h.at hL _ _)
theorem nvec_sz {L : Nat} {rows : List (List Rat)} (h : szR L rows) (hL : 1 ≤ L) (piv : List Int) (N k : Nat) : ∀ i, szV L (nvec rows piv N k i)
  | 0 => (unitv_sz _ _).mono' hL
  | i + 1 => (nvec_sz h hL piv N k i).set (sz_neg (h.at hL _ _))
theorem nullL_sz {L : Nat} {rows : List (List Rat)} (h : szR L rows) (hL : 1 ≤ L) (piv : List Int) (N : Nat) : ∀ k, szR L (nullL rows piv N k)
  | 0 => fun r hr => by simp [nullL] at hr
  | k + 1 => by
    have ih := nullL_sz h hL piv N k
    by_cases hm : (k : Int) ∈ piv
    · rw [show nullL rows piv N (k + 1) = nullL rows piv N k from if_pos hm]; exact ih
    · rw [show nullL rows piv N (k + 1) = nullL rows piv N k ++ [nvec rows piv N k piv.length] from if_neg hm]
      intro r hr
      rcases List.mem_append.1 hr with h' | h'
      · exact ih r h'
      · rw [List.mem_singleton.1 h']; exact nvec_sz h hL _ _ _ _
theorem padm_sz {L : Nat} {rss : List (List Rat)} (h : szR L rss) (hL : 1 ≤ L) : szR L (padm rss) := gridm_sz fun i k => h.matI hL _ _
theorem red_sz {L : Nat} {rss : List (List Rat)} (h : szR L rss) (hL : 1 ≤ L) (n : Nat) : szR (L * 5 ^ n) (redS (padm rss) n).1 := (redS_all (padm_rect rss) (padm_sz h hL) hL n).2.2.2
theorem nullS_sz {L : Nat} {rss : List (List Rat)} (h : szR L rss) (hL : 1 ≤ L) : szR (L * 5 ^ colsN rss) (nullS rss rss.length) :=
  nullL_sz (red_sz h hL _) (Nat.mul_pos hL (Nat.pow_pos (by omega))) _ _ _
theorem widm_sz {L : Nat} {rss : List (List Rat)} {bs : List Rat} {M : Nat} (h1 : szR L rss) (h2 : szV L bs) (hL : 1 ≤ L) : szR L (widm rss bs M) :=
  gridm_sz fun i k => (show szR L (wideM rss bs M (colsN rss)) from gridm_sz fun i k => wideF_sz h1 h2 hL _ _).matI hL _ _
theorem solX_sz {L : Nat} {rss : List (List Rat)} {bs : List Rat} {M : Nat} (h1 : szR L rss) (h2 : szV L bs) (hL : 1 ≤ L) : szV (L * 5 ^ (colsN rss + 1)) (solX rss bs M) := by
  unfold solX
  split
  · intro r hr; simp at hr
  · exact svec_sz (redS_all (wide_rect _ _ _ _) (widm_sz h1 h2 hL) hL _).2.2.2 (Nat.mul_pos hL (Nat.pow_pos (by omega))) _ _ _
theorem genS_sz {a b d : Nat} {x0 : List Rat} {fr : List (List Rat)} {z : List Rat} (piv : List Int) (h0 : szV a x0) (h1 : szR b fr) (h2 : szV d z) (ha : 1 ≤ a) (hb : 1 ≤ b) (hd : 1 ≤ d) : ∀ k, szV (a + k * (b + d + 1)) (genS x0 fr z piv k).1
  | 0 => by simpa [genS] using h0
  | k + 1 => by
    have ih := genS_sz piv h0 h1 h2 ha hb hd k
    have e : a + (k + 1) * (b + d + 1) = a + k * (b + d + 1) + (b + d + 1) := by rw [Nat.succ_mul]; omega
    rw [genS, e]
    split
    · exact ih.mono' (by omega)
    · exact axR_sz (szV_at h2 hd _) (h1.row _) ih hb (by omega) (by omega)
theorem sol_no {rss : List (List Rat)} {bs : List Rat} {n M : Nat} (h : (colsN rss : Int) ∉ (redS (widm rss bs M) (colsN rss + 1)).2.1) :
    solE rss bs M = 0 ∧ solX rss bs M = svec (redS (widm rss bs M) (colsN rss + 1)).1 (redS (widm rss bs M) (colsN rss + 1)).2.1 (colsN rss) (redS (widm rss bs M) (colsN rss + 1)).2.1.length ∧ solF rss bs n M = nullS rss n := by
  have h' : (colsN rss : Int) ∉ (solW rss bs M).2.1 := h
  exact ⟨if_neg h', if_neg h', if_neg h'⟩
theorem general_all {rss : List (List Rat)} {z : List Rat} (hz : z.length = colsN rss) : solE rss (mulv rss z) rss.length = 0 ∧ solF rss (mulv rss z) rss.length rss.length = nullS rss rss.length ∧
    (genS (solX rss (mulv rss z) rss.length) (nullS rss rss.length) z (pivs rss) (colsN rss)).2 = (nullS rss rss.length).length ∧ ∀ j, vat (genS (solX rss (mulv rss z) rss.length) (nullS rss rss.length) z (pivs rss) (colsN rss)).1 j = vat z j := by
  have hzz : ∀ i, vat (mulv rss z) i = sumk (fun k => mat rss i k * vat z k) (colsN rss) := fun i => by
    rw [vat_mulv, dotv_sum _ _ (m := colsN rss) (by omega)]; rfl
  obtain ⟨h1, h2⟩ := wid_sol (Nat.le_refl _) (show (mulv rss z).length ≤ rss.length by simp [mulv]) hzz (colsN rss + 1)
  obtain ⟨h3, h4, h5⟩ := sol_no (n := rss.length) h2
  refine ⟨h3, h5, genS_cnt _ _ _ _ _ _, fun j => ?_⟩
  rw [h4]
  exact general_law hz j
theorem gen_room {rss : List (List Rat)} (x0 : List Rat) (z : List Rat) {k : Nat} (hk : k < colsN rss) (hm : (k : Int) ∉ pivs rss) : (genS x0 (nullS rss rss.length) z (pivs rss) k).2 < (nullS rss rss.length).length := by
  have h := genS_cnt x0 (redS (padm rss) (colsN rss)).1 z (pivs rss) (colsN rss) k
  have h2 := (null_get (redS (padm rss) (colsN rss)).1 (pivs rss) (colsN rss) hm (colsN rss) hk).1
  exact Nat.lt_of_le_of_lt (Nat.le_of_eq h) h2
/-- Whether k is among the first i elements. -/
def hasP (p : List Int) (k : Int) : Nat → Bool
  | 0 => false
  | i + 1 => hasP p k i || (wd p i == k)
theorem hasP_iff (p : List Int) (k : Int) : ∀ i, i ≤ p.length → (hasP p k i = true ↔ ∃ j, j < i ∧ wd p j = k)
  | 0, _ => by simp [hasP]
  | i + 1, hi => by
    have ih := hasP_iff p k i (by omega)
    simp only [hasP, Bool.or_eq_true, beq_iff_eq, ih]
    constructor
    · rintro (⟨j, h1, h2⟩ | h)
      · exact ⟨j, by omega, h2⟩
      · exact ⟨i, by omega, h⟩
    · rintro ⟨j, h1, h2⟩
      rcases Nat.lt_succ_iff_lt_or_eq.1 h1 with h | rfl
      · exact .inl ⟨j, h, h2⟩
      · exact .inr h2
theorem hasP_mem (p : List Int) (k : Int) : hasP p k p.length = true ↔ k ∈ p := by rw [hasP_iff p k _ (Nat.le_refl _)]; exact wd_mem
theorem genS_in {x0 : List Rat} {fr : List (List Rat)} {z : List Rat} {piv : List Int} {k : Nat} (h : (k : Int) ∈ piv) : genS x0 fr z piv (k + 1) = genS x0 fr z piv k := if_pos h
theorem genS_out {x0 : List Rat} {fr : List (List Rat)} {z : List Rat} {piv : List Int} {k : Nat} (h : (k : Int) ∉ piv) : genS x0 fr z piv (k + 1) = (axR (vat z k) (rowat fr (genS x0 fr z piv k).2) (genS x0 fr z piv k).1, (genS x0 fr z piv k).2 + 1) := if_neg h
theorem nullL_rect (rows : List (List Rat)) (piv : List Int) (N : Nat) : ∀ k, rect N (nullL rows piv N k)
  | 0 => fun r hr => by simp [nullL] at hr
  | k + 1 => by
    have ih := nullL_rect rows piv N k
    by_cases hm : (k : Int) ∈ piv
    · rw [show nullL rows piv N (k + 1) = nullL rows piv N k from if_pos hm]; exact ih
    · rw [show nullL rows piv N (k + 1) = nullL rows piv N k ++ [nvec rows piv N k piv.length] from if_neg hm]
      intro r hr
      rcases List.mem_append.1 hr with h' | h'
      · exact ih r h'
      · rw [List.mem_singleton.1 h']; exact nvec_len _ _ _ _ _
theorem rect.row_le {N : Nat} {rows : List (List Rat)} (h : rect N rows) (i : Nat) : (rowat rows i).length ≤ N := Proofs.YtknbjfefeeojlaaGreat.row_le (fun r hr => Nat.le_of_eq (h r hr)) i
theorem nullS_rect (rss : List (List Rat)) (n : Nat) : rect (colsN rss) (nullS rss n) := nullL_rect _ _ _ _
theorem solX_len (rss : List (List Rat)) (bs : List Rat) (M : Nat) : (solX rss bs M).length ≤ colsN rss := by
  unfold solX
  split
  · exact Nat.zero_le _
  · rw [svec_len]; exact Nat.le_refl _
theorem genS_len {N : Nat} {x0 : List Rat} {fr : List (List Rat)} (z : List Rat) (piv : List Int) (h0 : x0.length ≤ N) (h1 : rect N fr) : ∀ k, (genS x0 fr z piv k).1.length ≤ N
  | 0 => h0
  | k + 1 => by
    have ih := genS_len z piv h0 h1 k
    have := h1.row_le (genS x0 fr z piv k).2
    rw [genS]
    split
    · exact ih
    · rw [axR_len]; omega
theorem pow_room {L k : Nat} (h : k ≤ 9) (hL : L ≤ 100000) : 15 * (L * 5 ^ k) + 2 < LY := by
  have h1 := Nat.mul_le_mul hL (pow5_le h)
  have h2 : LY = 8796093022208 := rfl
  have h3 : (5 : Nat) ^ 9 = 1953125 := by decide
  omega
theorem pow_le {L k M B : Nat} (h : k ≤ M) (hB : L * 5 ^ M ≤ B) : L * 5 ^ k ≤ B := Nat.le_trans (Nat.mul_le_mul_left _ (pow5_le h)) hB
theorem gen_bd {N k : Nat} (hN : N ≤ 8) (hk : k ≤ N) : 1000 * 5 ^ (N + 1) + k * (6 * 5 ^ N + 6 + 1) ≤ 2000000000 := by
  have h1 := pow_le (L := 1000) (k := N + 1) (M := 9) (B := 1953125000) (by omega) (by decide)
  have h2 := pow_le (L := 6) (k := N) (M := 8) (B := 2343750) hN (by decide)
  have h3 : k * (6 * 5 ^ N + 6 + 1) ≤ 8 * (2343750 + 6 + 1) := Nat.mul_le_mul (by omega) (by omega)
  omega
section
variable {L : Nat} {S S1 S2 : Nat → Prop} {a1 a2 : Option Addr} {n c m d : Nat} {rss : List (List Rat)} {bs : List Rat}
theorem MA.mono {L' : Nat} {S : Nat → Prop} {W : World} (h : MA L S W a1 n c rss) (hL : L ≤ L') : MA L' S W a1 n c rss := by
  obtain ⟨qs, h1, h2⟩ := h
  exact ⟨qs, h1, h2.imp fun _ _ ⟨a, n, c, e, hr⟩ => ⟨a, n, c, e, hr.mono hL⟩⟩
theorem pReduce (w : World) (hx : MA L S1 w a1 n c rss) (hl1 : 1 ≤ L) (hn : n ≤ 1024) (hc : colsN rss ≤ 1024) (hL5 : 15 * (L * 5 ^ colsN rss) + 2 < LY) (hu : Up S w) :
    Calls Tryz.prog 60 #[.slice a1 n c] w fun e w' => ∃ ar cr ap cp np, e = .returned (.tuple #[.slice ar np cr, .slice ap np cp]) ∧ Ext w w' ∧ MC S w' ar np cr (redR rss) ∧ RN .i64 S w' ap np cp (pivs rss) := by
  have hl := hx.len
  refine (sReduce_ok a1 n c L rss S S1 w hx hl1 hn hc hL5 hu).mono ?_
  subst hl
  rintro _ w' ⟨ar, cr, ap, cp, e, x, h1, h2⟩
  exact ⟨ar, cr, ap, cp, _, e, x, h1, h2⟩
theorem pSolve (w : World) (hx : MA L S1 w a1 n c rss) (hy : GA L S2 w a2 m d bs) (hl1 : 1 ≤ L) (hn : n ≤ 1000) (hm : m ≤ n) (hc : colsN rss ≤ 1000) (hL5 : 15 * (L * 5 ^ (colsN rss + 1)) + 2 < LY) (hu : Up S w) :
    Calls Tryz.prog 51 #[.slice a1 n c, .slice a2 m d] w fun e w' => ∃ ax nx cx af nf cf, e = .returned (.tuple #[.slice ax nx cx, .slice af nf cf, .int .i64 (solE rss bs rss.length)]) ∧ Ext w w' ∧ GC S w' ax nx cx (solX rss bs rss.length) ∧ MC S w' af nf cf (solF rss bs rss.length rss.length) := by
  have hl := hx.len
  refine (sSolve_ok a1 a2 n c m d L rss bs S S1 S2 w hx hy hl1 hn (by omega) hc hL5 hu).mono ?_
  subst hl
  rintro _ w' ⟨ax, nx, cx, af, nf, cf, er, rfl, x, h1, h2, rfl⟩
  rw [Nat.max_eq_left hm] at h1 h2 ⊢
  exact ⟨ax, nx, cx, af, nf, cf, rfl, x, h1, h2⟩
end
end Go.Proofs.YtknbjfefeeojlaaGreat
/- Package pylonlaw05: SolveGeneral. -/
namespace Go.Proofs.YtknbjfefeeojlaaGreat
open Go.RowKit
attribute [local irreducible] RV VH V OpF Calls

set_option maxHeartbeats 2000000 in
theorem solveGen_ok (a1 a2 : Option Addr) (n c m d : Nat) (A : List (List RawQ)) (X : List RawQ) (w : World) (h0 : MX TT w a1 n c A) (h1 : GX TT w a2 m d X) :
    Calls Tryz.prog 10 #[.slice a1 n c, .slice a2 m d] w (fun e w' => e = .returned (.bool true) ∧ Ext w w') := by
 have z0 := Ext.refl w; have hLX : LX = 17592186044416 := rfl; have hLY : LY = 8796093022208 := rfl
 have hLV : LV = 1099511627776 := rfl
 have hx := h0; have hy := h1
 refine enter (args := [.slice a1 n c, .slice a2 m d]) Tryz.func10 rfl rfl (Nat.le_of_ble_eq_true rfl) ?_
 refine V.seq (V.reg rfl ?_)
 refine asb rfl ?_
 refine vnil ?_
 refine V.seq ?_
 refine V.seq (V.reg rfl ?_)
 refine mvs rfl ?_
 refine mvs rfl ?_
 refine vo ?_
 refine xbs (ps := [(0, .slice _ _ _)]) (cs := [.slice _ _ _]) sl22 zr23 sz23 rfl rfl rfl rfl rfl rfl ?_
 intro W1 x2 b3 nn4
 have s5 := x2.sz
 have z6 := x2
 refine vo ?_
 have hm7 : MX TT W1 (some ⟨w.heap.size, 0, none⟩) 1 1 [X] := ⟨[[.slice _ _ _]], RS.lit (s := 1) (S := TT) (n := 1) _ b3 rfl (by simp) trivial rfl (by omega), ⟨_, _, _, rfl, (hy.ext z6)⟩, trivial⟩
 refine xcall e49 (long5_ok _ _ _ _ _ _ A [X] _ _ (hx.ext z6) hm7) rfl rfl ?_
 rintro _ Wb1 ⟨bb1, rfl, xb1, hb1⟩
 refine ⟨_, rfl, ?_⟩
 cases bb1
 ·skip
  have s8 := xb1.sz
  have z9 := z6.trans xb1
  replace b3 := b3.ext xb1
  refine vnil ?_
  refine V.condF rfl ?_
  refine V.skip ?_
  refine V.seq (V.reg rfl ?_)
  have hA := (hb1 rfl).1.1; have h6A := (hb1 rfl).1.2
  obtain ⟨rss, hrss⟩ : ∃ rss, rss = A.map (·.map qval) := ⟨_, rfl⟩
  have marss : MA 6 TT _ a1 n c rss := hrss ▸ ((hx.ext z9)).ma (fun r hr => (hA.2.2 r hr).2)
  have hcrss : colsN rss ≤ 8 := by rw [hrss, colsN_raw]; exact hA.2.1
  have hlrss := marss.len
  have hnrss : n ≤ 8 := by have := hA.1; rw [hrss, List.length_map] at hlrss; omega
  have hszrss : szR 6 rss := marss.rowsz (by omega)
  have hrrss : ∀ r ∈ rss, r.length ≤ 20 := fun r hr => by have := cols_ge r hr; omega
  have hc6rss : colsN rss ≤ 6 := by rw [hrss, colsN_raw]; exact h6A.2
  have hn6rss : n ≤ 6 := by have := h6A.1; have := hlrss; rw [hrss, List.length_map] at this; omega
  have hX := (hb1 rfl).2 X (by simp)
  obtain ⟨zs, hzs⟩ : ∃ xs, xs = X.map qval := ⟨_, rfl⟩
  have vazs : GA 6 TT _ a2 m d zs := hzs ▸ ((hy.ext z9)).va hX.2
  have hlzs := vazs.len; have hmzs := vazs.max
  have hnzs : m ≤ 20 := by have := hX.1; rw [hzs, List.length_map] at hlzs; omega
  have hNn : colsN rss ≤ 1000 := by omega
  refine mvs rfl ?_
  refine mvs rfl ?_
  refine vo ?_
  refine xcall e35 (mCols_ok _ _ _ _ _ _ _ marss) rfl rfl ?_
  rintro _ W11 ⟨rfl, x12⟩
  have s13 := x12.sz
  have z14 := z9.trans x12
  have z15 := x12
  replace b3 := b3.ext x12
  refine ⟨_, rfl, ?_⟩
  refine vo ?_
  refine xcall e19 (vResize_ok _ _ _ _ (colsN rss) 6 zs TT TT _ (vazs.ext z15) (by omega) (by omega) (by omega) (TT.up _)) rfl rfl ?_
  rintro _ W16 ⟨_, nz, cz, rfl, x17, hzr⟩
  have s18 := x17.sz
  have z19 := z14.trans x17
  have z20 := z15.trans x17
  replace b3 := b3.ext x17
  obtain ⟨z, hz⟩ : ∃ z, z = resz zs (colsN rss) := ⟨_, rfl⟩
  rw [← hz] at hzr
  have hzl : z.length = colsN rss := by rw [hz, resz_len]
  have hza := hzr.va (L := 6) (by rw [hz]; exact resz_sz (((vazs.ext z20)).szv (by omega)) (by omega) _)
  have hzn := hzr.len; have hzc := hzr.max
  have hzs6 := hza.szv (by omega)
  refine ⟨_, rfl, ?_⟩
  refine ass rfl ?_
  refine vnil ?_
  refine V.seq (V.reg rfl ?_)
  refine mvs rfl ?_
  refine mvs rfl ?_
  refine mvs rfl ?_
  refine vo ?_
  refine xcall e22 (mMulVec_ok _ _ _ _ _ _ 6 6 20 1000 _ _ TT TT TT _ (marss.ext z20) hza hrrss (by omega) (by omega) (by omega) (by omega) (by omega) (by omega) (by omega) (TT.up _)) rfl rfl ?_
  rintro _ W21 ⟨_, nhq, chq, rfl, x22, hq⟩
  have s23 := x22.sz
  have z24 := z19.trans x22
  have z25 := z20.trans x22
  replace b3 := b3.ext x22
  have hql := hq.len; rw [len_mulv, hlrss] at hql; have hqc := hq.max
  have hqa := hq.va (L := 1000) (mulv_sz (R := 20) hszrss ((hza.ext x22).szv (by omega)) (by omega) (by omega) hrrss (by omega) (by omega))
  refine ⟨_, rfl, ?_⟩
  refine vo ?_
  refine xcall e51 (pSolve _ (((marss.ext z25)).mono (L' := 1000) (by omega)) hqa (by omega) (by omega) (by omega) (by omega) (pow_room (by omega) (by omega)) (TT.up _)) rfl rfl ?_
  rintro _ W26 ⟨_, _, _, _, nf, cf, rfl, x27, hsx, hsf⟩
  have s28 := x27.sz
  have z29 := z24.trans x27
  have z30 := z25.trans x27
  replace b3 := b3.ext x27
  have hga := general_all (rss := rss) (z := z) hzl
  rw [hga.2.1] at hsf
  rw [hga.1]
  have hfa := hsf.ma (L := 2343750) (fun r hr => (nullS_sz hszrss (by omega) r hr).mono' (pow_le hcrss (by decide)))
  have hfl := hsf.len; have hfm := hfa.max
  have hxsz := solX_sz (M := rss.length) (rss := rss) (bs := mulv rss z) (L := 1000) (fun r hr => (hszrss r hr).mono' (by omega)) (((hqa.ext x27)).szv (by omega)) (by omega)
  refine ⟨_, rfl, ?_⟩
  refine mvt rfl ?_
  refine vv (rext (v := .slice _ _ _) rfl rfl) ?_
  refine vv (rext (v := .slice _ _ _) rfl rfl) ?_
  refine vv (rext (v := .int _ _) rfl rfl) ?_
  refine ass rfl ?_
  refine ass rfl ?_
  refine asi rfl ?_
  refine vnil ?_
  refine V.seq (V.reg rfl ?_)
  refine mvs rfl ?_
  refine vo ?_
  refine xcall e60 (pReduce _ (marss.ext z30) (by omega) (by omega) (by omega) (pow_room (by omega) (by omega)) (TT.up _)) rfl rfl ?_
  rintro _ W31 ⟨_, _, _, _, np, rfl, x32, hrm, hrp⟩
  have s33 := x32.sz
  have z34 := z29.trans x32
  have z35 := z30.trans x32
  replace b3 := b3.ext x32
  have hpl := hrp.len; have hpc := hrp.cap; have hpm := hrp.max
  refine ⟨_, rfl, ?_⟩
  refine mvt rfl ?_
  refine vv (rext (v := .slice _ _ _) rfl rfl) ?_
  refine vv (rext (v := .slice _ _ _) rfl rfl) ?_
  refine ass rfl ?_
  refine ass rfl ?_
  refine vnil ?_
  refine V.seq ?_
  refine V.seq (V.reg rfl ?_)
  refine mvi rfl ?_
  refine vne rfl rfl ?_ ?_
  ·intro c36
   omega
  ·intro c36
   refine vnil ?_
   refine V.condF rfl ?_
   refine V.skip ?_
   refine V.seq (V.reg rfl ?_)
   refine asi rfl ?_
   refine vnil ?_
   refine V.seq ?_
   refine V.seq (V.reg rfl ?_)
   refine asi rfl ?_
   refine vnil ?_
   refine V.block ?_
   refine V.loopK (ι := Nat × Nat × Option Addr × Nat × Nat) [(0, .slice _ _ _), (1, .slice _ _ _), (6, .slice _ _ _), (9, .slice _ _ _)] (fun ⟨k, j, ax, nx, cx⟩ => [(11, .int .i64 (k : Int)), (10, .int .i64 (j : Int)), (5, .slice ax nx cx)]) (fun ⟨k, j, ax, nx, cx⟩ W => Ext W31 W ∧ k ≤ colsN rss ∧ (genS (solX rss (mulv rss z) rss.length) (nullS rss rss.length) z (pivs rss) k).2 = j ∧ GC TT W ax nx cx (genS (solX rss (mulv rss z) rss.length) (nullS rss rss.length) z (pivs rss) k).1) (fun ⟨k, j, ax, nx, cx⟩ => colsN rss - k) ((0, 0, _, _, _)) ⟨rfl, rfl, rfl, rfl, trivial⟩ ⟨rfl, rfl, rfl, trivial⟩ ⟨Ext.refl _, Nat.zero_le _, rfl, (hsx.ext x32)⟩ ?_
   intro i38 E39 W37 h40
   obtain ⟨k, j, ax, nx, cx⟩ := i38
   simp only at h40
   show V _ _ _ _ _ _ (ups (ups _ _) [(11, .int .i64 (k : Int)), (10, .int .i64 (j : Int)), (5, .slice ax nx cx)]) _
   obtain ⟨x41, hk, hj, hX⟩ := h40
   have s42 := x41.sz
   have z43 := z34.trans x41
   have z44 := z35.trans x41
   have z45 := x41
   replace b3 := b3.ext x41
   have hXl := hX.len; have hXc := hX.max
   have hXs := genS_len z (pivs rss) (solX_len rss (mulv rss z) rss.length) (nullS_rect rss rss.length) k
   refine V.seq ?_
   refine V.seq (V.reg rfl ?_)
   refine mvi rfl ?_
   refine mvs rfl ?_
   refine vo ?_
   refine xcall e35 (mCols_ok _ _ _ _ _ _ _ (marss.ext z44)) rfl rfl ?_
   rintro _ W46 ⟨rfl, x47⟩
   have s48 := x47.sz
   have z49 := z43.trans x47
   have z51 := z45.trans x47
   replace b3 := b3.ext x47
   refine ⟨_, rfl, ?_⟩
   refine vlt rfl rfl ?_ ?_
   ·intro c10
    refine vnil ?_
    refine V.condT rfl ?_
    refine V.skip ?_
    refine V.seq ?_
    refine V.block ?_
    refine V.seq (V.reg rfl ?_)
    refine asb rfl ?_
    refine vnil ?_
    refine V.seq ?_
    refine V.seq (V.reg rfl ?_)
    refine asi rfl ?_
    refine vnil ?_
    refine V.block ?_
    refine V.loopK (ι := Nat × Bool) [(0, .slice _ _ _), (1, .slice _ _ _), (5, .slice _ _ _), (6, .slice _ _ _), (9, .slice _ _ _), (10, .int _ _), (11, .int _ _), (39, .int _ _), (40, .slice _ _ _), (41, .int _ _), (42, .bool true)] (fun ⟨i, q⟩ => [(13, .int .i64 (i : Int)), (12, .bool q)]) (fun ⟨i, q⟩ W => W46 = W ∧ i ≤ np ∧ q = hasP (pivs rss) k i) (fun ⟨i, q⟩ => np - i) ((0, false)) ⟨rfl, rfl, rfl, rfl, rfl, rfl, rfl, rfl, rfl, rfl, rfl, trivial⟩ ⟨rfl, rfl, trivial⟩ ⟨rfl, Nat.zero_le _, rfl⟩ ?_
    intro i53 E54 W52 h55
    obtain ⟨i, q⟩ := i53
    simp only at h55
    show V _ _ _ _ _ _ (ups (ups _ _) [(13, .int .i64 (i : Int)), (12, .bool q)]) _
    obtain ⟨rfl, hi, hq⟩ := h55
    refine V.seq ?_
    refine V.seq (V.reg rfl ?_)
    refine mvi rfl ?_
    refine mvs rfl ?_
    refine vv (rlen sl73 rfl) ?_
    refine vlt rfl rfl ?_ ?_
    ·intro c56
     refine vnil ?_
     refine V.condT rfl ?_
     refine V.skip ?_
     refine V.seq ?_
     refine V.block ?_
     refine V.reg rfl ?_
     refine mvb rfl ?_
     refine vo ?_
     refine xv (rmv (v := .bool q) rfl) ?_
     cases q
     ·skip
      refine vg rfl ?_
      refine mvs rfl ?_
      refine vg rfl ?_
      refine mvi rfl ?_
      refine vg rfl ?_
      refine vv (rixn (hrp.ext z51) sl73 sz3 rfl rfl (by omega) (by omega)) ?_
      refine vg rfl ?_
      refine vldN (hrp.ext z51) rfl sc3 (by omega) (by omega) ?_
      intro q57 hq57 hk58
      simp only [kb] at hk58
      refine vg rfl ?_
      refine mvi rfl ?_
      refine vg rfl ?_
      refine veq rfl rfl ?_ ?_
      ·intro c16
       refine vv (rpk (v := .bool true) rfl rfl) ?_
       refine asb rfl ?_
       refine vnil ?_
       refine V.reg rfl ?_
       refine mvi rfl ?_
       refine vv (rbin (bAdd (wi (by omega))) rfl rfl) ?_
       refine asi rfl ?_
       refine vnil ?_
       refine ⟨rfl, (i + 1, true), ⟨rfl, rfl, rfl, rfl, rfl, rfl, rfl, rfl, rfl, rfl, rfl, trivial⟩, ⟨rfl, rfl, trivial⟩, ⟨rfl, by omega, (by rw [hasP, ← hq, Bool.false_or]; exact (beq_iff_eq.2 (by omega)).symm)⟩, ?_⟩
       show np - (i + 1) < np - i
       omega
      ·intro c16
       refine vv (rpk (v := .bool false) rfl rfl) ?_
       refine asb rfl ?_
       refine vnil ?_
       refine V.reg rfl ?_
       refine mvi rfl ?_
       refine vv (rbin (bAdd (wi (by omega))) rfl rfl) ?_
       refine asi rfl ?_
       refine vnil ?_
       refine ⟨rfl, (i + 1, false), ⟨rfl, rfl, rfl, rfl, rfl, rfl, rfl, rfl, rfl, rfl, rfl, trivial⟩, ⟨rfl, rfl, trivial⟩, ⟨rfl, by omega, (by rw [hasP, ← hq, Bool.false_or]; exact (beq_eq_false_iff_ne.2 (by omega)).symm)⟩, ?_⟩
       show np - (i + 1) < np - i
       omega
     ·skip
      refine vgn (b := true) rfl rfl ?_
      refine vgn (b := true) rfl rfl ?_
      refine vgn (b := true) rfl rfl ?_
      refine vgn (b := true) rfl rfl ?_
      refine vgn (b := true) rfl rfl ?_
      refine vgn (b := true) rfl rfl ?_
      refine vv (rpk (v := .bool true) rfl rfl) ?_
      refine asb rfl ?_
      refine vnil ?_
      refine V.reg rfl ?_
      refine mvi rfl ?_
      refine vv (rbin (bAdd (wi (by omega))) rfl rfl) ?_
      refine asi rfl ?_
      refine vnil ?_
      refine ⟨rfl, (i + 1, true), ⟨rfl, rfl, rfl, rfl, rfl, rfl, rfl, rfl, rfl, rfl, rfl, trivial⟩, ⟨rfl, rfl, trivial⟩, ⟨rfl, by omega, by rw [hasP, ← hq]; rfl⟩, ?_⟩
      show np - (i + 1) < np - i
      omega
    ·intro c56
     refine vnil ?_
     refine V.condF rfl ?_
     refine V.exit ?_
     refine V.seq ?_
     refine V.seq (V.reg rfl ?_)
     refine mvb rfl ?_
     refine vnil ?_
     refine V.condB rfl ?_ ?_
     ·intro cp
      have hm : (k : Int) ∈ pivs rss := (hasP_mem _ _).1 (by rw [hpl, ← show i = np by omega, ← hq]; exact cp)
      refine V.exit ?_
      refine V.reg rfl ?_
      refine mvi rfl ?_
      refine vv (rbin (bAdd (wi (by omega))) rfl rfl) ?_
      refine asi rfl ?_
      refine vnil ?_
      refine ⟨rfl, (k + 1, j, _, _, _), ⟨rfl, rfl, rfl, rfl, trivial⟩, ⟨rfl, rfl, rfl, trivial⟩, ⟨z51, by omega, by rw [genS_in hm]; exact hj, by rw [genS_in hm]; exact (hX.ext x47)⟩, ?_⟩
      show colsN rss - (k + 1) < colsN rss - k
      omega
     ·intro cp
      have hm : (k : Int) ∉ pivs rss := fun h => by have h2 := (hasP_mem _ _).2 h; rw [hpl, ← show i = np by omega, ← hq, cp] at h2; cases h2
      have hrm := gen_room (rss := rss) (solX rss (mulv rss z) rss.length) z (k := k) (by omega) hm
      rw [hj, hfl] at hrm
      refine V.skip ?_
      refine V.seq ?_
      refine V.seq (V.reg rfl ?_)
      refine mvi rfl ?_
      refine mvs rfl ?_
      refine vv (rlen sl22 rfl) ?_
      refine vge rfl rfl ?_ ?_
      ·intro c59
       omega
      ·intro c59
       refine mvb rfl ?_
       refine vg rfl ?_
       refine mvi rfl ?_
       refine vg rfl ?_
       refine mvs rfl ?_
       refine vg rfl ?_
       refine vv (rlen sl23 rfl) ?_
       refine vg rfl ?_
       refine vge rfl rfl ?_ ?_
       ·intro c60
        omega
       ·intro c60
        obtain ⟨en0, ea0, el0, ec0, em0, eb0, ek0, ed0, hq0, hc0⟩ := (hza.ext ((((x22.trans x27).trans x32).trans x41).trans x47)).el (i := (k : Int)) (by omega) (by omega)
        have ce0 : CE W46 _ _ := hc0
        obtain ⟨ra0, rk0, rc0, hcr0, hg0⟩ := (hfa.ext ((x32.trans x41).trans x47)).el (i := (j : Int)) (by omega) (by omega)
        have cr0 : C1 W46 _ _ := hcr0; have hgl0 := hg0.len
        have hXa := ((hX.ext x47)).va (L := 2000000000) ((genS_sz (pivs rss) hxsz (nullS_sz hszrss (by omega)) hzs6 (Nat.mul_pos (by omega) (Nat.pow_pos (by omega))) (Nat.mul_pos (by omega) (Nat.pow_pos (by omega))) (by omega) k).mono' (gen_bd hcrss (by omega)))
        have hrl0 := (nullS_rect rss rss.length).row_le ((j : Int)).toNat
        refine vv (rpk (v := .bool false) rfl rfl) ?_
        refine vnil ?_
        refine V.condF rfl ?_
        refine V.skip ?_
        refine V.seq (V.regD mixed rfl ?_)
        intro W61 x62
        have s63 := x62.sz
        have z66 := z51.trans x62
        replace b3 := b3.ext x62
        have q67 := Ext.refl W61
        have r68 := b3
        refine tk 0 rfl (by kernel_rfl) q67 (pv (fun _ y69 => rmv (v := .slice _ _ _) rfl)) ?_
        refine tk 1 rfl (by kernel_rfl) q67 (pv (fun _ y70 => rmv (v := .int _ _) rfl)) ?_
        refine tk 2 rfl (by kernel_rfl) q67 (pv (fun _ y71 => rix sl23 sz48 rfl rfl (by omega) (by omega) (((hza.ext (((((x22.trans x27).trans x32).trans x41).trans x47).trans x62)).ext y71).isS (i := 0) (by omega) (by omega)))) ?_
        refine tk 3 rfl (by kernel_rfl) q67 (pv (fun _ y72 => rldn (l := [.bool _, .slice _ _ _, .bool _, .slice _ _ _]) rfl ag48 rfl ((ce0.ext x62).ext y72))) ?_
        refine tk 4 rfl (by kernel_rfl) q67 (pv (fun _ y73 => rmv (v := .slice _ _ _) rfl)) ?_
        refine tk 5 rfl (by kernel_rfl) q67 (pv (fun _ y74 => rmv (v := .int _ _) rfl)) ?_
        refine tk 6 rfl (by kernel_rfl) q67 (pv (fun _ y75 => rix sl22 sz23 rfl rfl (by omega) (by omega) (((hfa.ext (((x32.trans x41).trans x47).trans x62)).ext y75).isS (i := 0) (by omega) (by omega)))) ?_
        refine tk 7 rfl (by kernel_rfl) q67 (pv (fun _ y76 => rld1 (v := .slice _ _ _) rfl sc23 ((cr0.ext x62).ext y76))) ?_
        refine tk 8 rfl (by kernel_rfl) q67 (pv (fun _ y77 => rmv (v := .slice _ _ _) rfl)) ?_
        refine ef 9 (by kernel_rfl) rfl ?_
        refine xcall e68 (vScl_ok [_, _, _, _] _ _ _ _ _ _ _ _ _ _ _ _ _ _ _ _ _ (hg0.ext x62) (hXa.ext x62) (hq0.ext x62) (by omega) (by omega) (by omega) (by omega) (by omega) (by omega) (TT.up _)) rfl rfl ?_
        rintro _ W78 ⟨_, _, _, rfl, x79, hv⟩
        have s80 := x79.sz
        have z83 := z66.trans x79
        have q84 := q67.trans x79
        have hX2 : GC _ _ _ _ _ (genS (solX rss (mulv rss z) rss.length) (nullS rss rss.length) z (pivs rss) (k + 1)).1 := hv.cast (by rw [genS_out hm]; unfold axR; rw [hj, show (rowat (nullS rss rss.length) j).length = rk0 from hgl0, hXl]; rfl)
        refine ⟨_, rfl, ?_⟩
        refine ⟨fun _ => q84, ?_⟩
        refine tk 10 rfl (by kernel_rfl) q84 (pv (fun _ y85 => ras (v := .slice _ _ _) rfl)) ?_
        refine dn (by kernel_rfl) ?_
        refine V.reg rfl ?_
        refine mvi rfl ?_
        refine vv (rbin (bAdd (wi (by omega))) rfl rfl) ?_
        refine asi rfl ?_
        refine vnil ?_
        refine V.reg rfl ?_
        refine mvi rfl ?_
        refine vv (rbin (bAdd (wi (by omega))) rfl rfl) ?_
        refine asi rfl ?_
        refine vnil ?_
        refine ⟨rfl, (k + 1, j + 1, _, _, _), ⟨rfl, rfl, rfl, rfl, trivial⟩, ⟨rfl, rfl, rfl, trivial⟩, ⟨z83, by omega, (by rw [genS_out hm]; show _ + 1 = _; rw [hj]), hX2⟩, ?_⟩
        show colsN rss - (k + 1) < colsN rss - k
        omega
   ·intro c10
    have ek : k = colsN rss := by omega
    have hj9 := hga.2.2.1
    rw [← ek, hj] at hj9
    have hX9 := (hX.ext x47); rw [ek] at hX9
    have hX9a := (hX9).va (L := 2000000000) ((genS_sz (pivs rss) hxsz (nullS_sz hszrss (by omega)) hzs6 (Nat.mul_pos (by omega) (Nat.pow_pos (by omega))) (Nat.mul_pos (by omega) (Nat.pow_pos (by omega))) (by omega) (colsN rss)).mono' (gen_bd hcrss (by omega)))
    refine vnil ?_
    refine V.condF rfl ?_
    refine V.exit ?_
    refine V.seq (V.reg rfl ?_)
    refine mvi rfl ?_
    refine mvs rfl ?_
    refine vv (rlen sl22 rfl) ?_
    refine veq rfl rfl ?_ ?_
    ·intro c86
     refine mvb rfl ?_
     refine vg rfl ?_
     refine mvs rfl ?_
     refine vg rfl ?_
     refine mvs rfl ?_
     refine vg rfl ?_
     refine vo ?_
     refine xcall e21 (vEq_true _ hX9a (hza.ext ((((x22.trans x27).trans x32).trans x41).trans x47)) (by omega) (by omega) (by omega) (by omega) (by omega) hga.2.2.2) rfl rfl ?_
     rintro _ W87 ⟨rfl, x88⟩
     have s89 := x88.sz
     have z90 := z49.trans x88
     refine ⟨_, rfl, ?_⟩
     refine vv (rpk (v := .bool true) rfl rfl) ?_
     refine mvb rfl ?_
     refine vg rfl ?_
     refine vo ?_
     refine xcall e50 (law5_ok _) rfl rfl ?_
     rintro _ W93 ⟨rfl, x94⟩
     have s95 := x94.sz
     have z96 := z90.trans x94
     refine ⟨_, rfl, ?_⟩
     refine vv (rpk (v := .bool true) rfl rfl) ?_
     refine asb rfl ?_
     refine vnil ?_
     refine V.ret ?_
     refine ⟨[.bool true], ⟨rfl, trivial⟩, ?_⟩
     exact ⟨rfl, z96⟩
    ·intro c86
     omega
 ·skip
  have s99 := xb1.sz
  have z100 := z6.trans xb1
  refine vnil ?_
  refine V.condT rfl ?_
  refine V.seq (V.reg rfl ?_)
  refine vo ?_
  refine xcall e50 (law5_ok _) rfl rfl ?_
  rintro _ W101 ⟨rfl, x102⟩
  have s103 := x102.sz
  have z104 := z100.trans x102
  refine ⟨_, rfl, ?_⟩
  refine asb rfl ?_
  refine vnil ?_
  refine V.ret ?_
  refine ⟨[.bool true], ⟨rfl, trivial⟩, ?_⟩
  exact ⟨rfl, z104⟩
end Go.Proofs.YtknbjfefeeojlaaGreat

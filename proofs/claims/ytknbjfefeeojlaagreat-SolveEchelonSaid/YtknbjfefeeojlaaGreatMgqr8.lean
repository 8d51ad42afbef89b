/- Package pylonlaw05: the sizes that the laws speak of, and the examples. -/
import Derived.Test.YtknbjfefeeojlaaGreatMgqr7
namespace Go.Proofs.YtknbjfefeeojlaaGreat
open Go.RowKit
attribute [local irreducible] RV VH V OpF Calls

set_option maxHeartbeats 400000 in
theorem tall_ok (a1 : Option Addr) (n c : Nat) (rss : List (List RawQ)) (S1 : Nat → Prop) (w : World) (hx : MX S1 w a1 n c rss) :
    Calls Tryz.prog 120 #[.slice a1 n c] w (fun e w' => ∃ q, e = .returned (.bool q) ∧ w = w') := by
 have z0 := Ext.refl w; have hLX : LX = 17592186044416 := rfl; have hLY : LY = 8796093022208 := rfl
 have l1 := hx.len; have l2 := hx.max
 refine enter (args := [.slice a1 n c]) Tryz.func120 rfl rfl (Nat.le_of_ble_eq_true rfl) ?_
 refine V.seq (V.reg rfl ?_)
 refine asb rfl ?_
 refine vnil ?_
 refine V.seq ?_
 refine V.seq (V.reg rfl ?_)
 refine asi rfl ?_
 refine vnil ?_
 refine V.block ?_
 refine V.loopK (ι := Nat) [(0, .slice _ _ _)] (fun k => [(3, .int .i64 (k : Int))]) (fun k W => w = W ∧ k ≤ n) (fun k => n - k) (0) ⟨rfl, trivial⟩ ⟨rfl, trivial⟩ ⟨rfl, Nat.zero_le _⟩ ?_
 intro k E2 W1 h3
 obtain ⟨rfl, hk⟩ := h3
 refine V.seq ?_
 refine V.seq (V.reg rfl ?_)
 refine mvi rfl ?_
 refine mvs rfl ?_
 refine vv (rlen sl22 rfl) ?_
 refine vlt rfl rfl ?_ ?_
 ·intro c4
  refine vnil ?_
  refine V.condT rfl ?_
  refine V.skip ?_
  refine V.seq ?_
  refine V.block ?_
  refine V.seq (V.reg rfl ?_)
  refine asi rfl ?_
  refine vnil ?_
  refine V.block ?_
  refine V.loopK (ι := Nat) [(0, .slice _ _ _), (3, .int _ _), (5, .int _ _), (6, .slice _ _ _), (7, .int _ _), (8, .bool true)] (fun j => [(4, .int .i64 (j : Int))]) (fun j W => w = W ∧ j ≤ (rowat rss ((k : Int)).toNat).length) (fun j => (rowat rss ((k : Int)).toNat).length - j) (0) ⟨rfl, rfl, rfl, rfl, rfl, rfl, trivial⟩ ⟨rfl, trivial⟩ ⟨rfl, Nat.zero_le _⟩ ?_
  intro j E6 W5 h7
  obtain ⟨rfl, hj⟩ := h7
  refine V.seq ?_
  refine V.seq (V.reg rfl ?_)
  refine mvi rfl ?_
  refine mvs rfl ?_
  refine mvi rfl ?_
  refine vv (rix sl22 sz23 rfl rfl (by omega) (by omega) (hx.isS (i := 0) (by omega) (by omega))) ?_
  refine vldRow hx rfl sc23 (by omega) (by omega) ?_
  intro a8 n9 c10 hg11
  have hg11l := hg11.len; have hg11m := hg11.max
  refine vv (rlen sl23 rfl) ?_
  refine vlt rfl rfl ?_ ?_
  ·intro c12
   refine vnil ?_
   refine V.condT rfl ?_
   refine V.skip ?_
   refine V.seq ?_
   refine V.block ?_
   refine V.seq (V.reg rfl ?_)
   refine mvs rfl ?_
   refine mvi rfl ?_
   refine vv (rix sl22 sz23 rfl rfl (by omega) (by omega) (hx.isS (i := 0) (by omega) (by omega))) ?_
   refine vldRow hx rfl sc23 (by omega) (by omega) ?_
   intro a13 n14 c15 hg16
   have hg16l := hg16.len; have hg16m := hg16.max
   refine mvi rfl ?_
   obtain ⟨en0, ea0, el0, ec0, em0, eb0, ek0, ed0, hq0, hc0⟩ := hg16.el (i := (j : Int)) (by omega) (by omega)
   have ce0 : CE w _ _ := hc0
   refine vv (rix sl23 sz48 rfl rfl (by omega) (by omega) (GX.isS (i := 0) hg16 (by omega) (by omega))) ?_
   refine vv (rfaG rfl fd48_0) ?_
   refine vv (rfaG rfl fd46_1) ?_
   refine vv (rld1 (v := .slice _ _ _) rfl sc44 ((ce0.part (l' := [.bool _, .slice _ _ _]) 0 rfl) 1 _ rfl)) ?_
   refine vv (rlen sl44 rfl) ?_
   refine vgt rfl rfl ?_ ?_
   ·intro c17
    refine mvb rfl ?_
    refine vgn (b := true) rfl rfl ?_
    refine vgn (b := true) rfl rfl ?_
    refine vgn (b := true) rfl rfl ?_
    refine vgn (b := true) rfl rfl ?_
    refine vgn (b := true) rfl rfl ?_
    refine vgn (b := true) rfl rfl ?_
    refine vgn (b := true) rfl rfl ?_
    refine vgn (b := true) rfl rfl ?_
    refine vgn (b := true) rfl rfl ?_
    refine vgn (b := true) rfl rfl ?_
    refine vgn (b := true) rfl rfl ?_
    refine vv (rpk (v := .bool true) rfl rfl) ?_
    refine vnil ?_
    refine V.condT rfl ?_
    refine V.seq (V.reg rfl ?_)
    refine asb rfl ?_
    refine vnil ?_
    refine V.ret ?_
    refine ⟨[.bool true], ⟨rfl, trivial⟩, ?_⟩
    exact ⟨_, rfl, rfl⟩
   ·intro c17
    refine mvb rfl ?_
    refine vg rfl ?_
    refine mvs rfl ?_
    refine vg rfl ?_
    refine mvi rfl ?_
    refine vg rfl ?_
    refine vv (rix sl22 sz23 rfl rfl (by omega) (by omega) (hx.isS (i := 0) (by omega) (by omega))) ?_
    refine vg rfl ?_
    refine vldRow hx rfl sc23 (by omega) (by omega) ?_
    intro a18 n19 c20 hg21
    have hg21l := hg21.len; have hg21m := hg21.max
    refine vg rfl ?_
    refine mvi rfl ?_
    refine vg rfl ?_
    obtain ⟨en1, ea1, el1, ec1, em1, eb1, ek1, ed1, hq1, hc1⟩ := hg21.el (i := (j : Int)) (by omega) (by omega)
    have ce1 : CE w _ _ := hc1
    refine vv (rix sl23 sz48 rfl rfl (by omega) (by omega) (GX.isS (i := 0) hg21 (by omega) (by omega))) ?_
    refine vg rfl ?_
    refine vv (rfaG rfl fd48_1) ?_
    refine vg rfl ?_
    refine vv (rfaG rfl fd46_1) ?_
    refine vg rfl ?_
    refine vv (rld1 (v := .slice _ _ _) rfl sc44 ((ce1.part (l' := [.bool _, .slice _ _ _]) 2 rfl) 1 _ rfl)) ?_
    refine vg rfl ?_
    refine vv (rlen sl44 rfl) ?_
    refine vg rfl ?_
    refine vgt rfl rfl ?_ ?_
    ·intro c22
     refine vv (rpk (v := .bool true) rfl rfl) ?_
     refine vnil ?_
     refine V.condT rfl ?_
     refine V.seq (V.reg rfl ?_)
     refine asb rfl ?_
     refine vnil ?_
     refine V.ret ?_
     refine ⟨[.bool true], ⟨rfl, trivial⟩, ?_⟩
     exact ⟨_, rfl, rfl⟩
    ·intro c22
     refine vv (rpk (v := .bool false) rfl rfl) ?_
     refine vnil ?_
     refine V.condF rfl ?_
     refine V.skip ?_
     refine V.reg rfl ?_
     refine mvi rfl ?_
     refine vv (rbin (bAdd (wi (by omega))) rfl rfl) ?_
     refine asi rfl ?_
     refine vnil ?_
     refine ⟨rfl, j + 1, ⟨rfl, rfl, rfl, rfl, rfl, rfl, trivial⟩, ⟨rfl, trivial⟩, ⟨rfl, by omega⟩, ?_⟩
     show (rowat rss ((k : Int)).toNat).length - (j + 1) < (rowat rss ((k : Int)).toNat).length - j
     omega
  ·intro c12
   refine vnil ?_
   refine V.condF rfl ?_
   refine V.exit ?_
   refine V.reg rfl ?_
   refine mvi rfl ?_
   refine vv (rbin (bAdd (wi (by omega))) rfl rfl) ?_
   refine asi rfl ?_
   refine vnil ?_
   refine ⟨rfl, k + 1, ⟨rfl, trivial⟩, ⟨rfl, trivial⟩, ⟨rfl, by omega⟩, ?_⟩
   show n - (k + 1) < n - k
   omega
 ·intro c4
  refine vnil ?_
  refine V.condF rfl ?_
  refine V.exit ?_
  refine V.seq (V.reg rfl ?_)
  refine asb rfl ?_
  refine vnil ?_
  refine V.ret ?_
  refine ⟨[.bool false], ⟨rfl, trivial⟩, ?_⟩
  exact ⟨_, rfl, rfl⟩
set_option maxHeartbeats 400000 in
theorem long5_ok (a1 a2 : Option Addr) (n c m d : Nat) (A B : List (List RawQ)) (S2 : Nat → Prop) (w : World) (hx : MX TT w a1 n c A) (hy : MX S2 w a2 m d B) :
    Calls Tryz.prog 49 #[.slice a1 n c, .slice a2 m d] w (fun e w' => ∃ q, e = .returned (.bool q) ∧ Ext w w' ∧ (q = false → (smallM A ∧ A.length ≤ 6 ∧ colsG A ≤ 6) ∧ ∀ r ∈ B, r.length ≤ 20 ∧ smallV r)) := by
 have z0 := Ext.refl w; have hLX : LX = 17592186044416 := rfl; have hLY : LY = 8796093022208 := rfl
 have l1 := hx.len; have l2 := hx.max; have l3 := hy.len; have l4 := hy.max
 refine enter (args := [.slice a1 n c, .slice a2 m d]) Tryz.func49 rfl rfl (Nat.le_of_ble_eq_true rfl) ?_
 refine V.seq (V.reg rfl ?_)
 refine asb rfl ?_
 refine vnil ?_
 refine V.seq ?_
 refine V.seq (V.reg rfl ?_)
 refine mvs rfl ?_
 refine vo ?_
 refine xbs (ps := [(0, .slice _ _ _)]) (cs := [.slice _ _ _]) sl115 zr22 sz22 rfl rfl rfl rfl rfl rfl ?_
 intro W1 x2 b3 nn4
 have s5 := x2.sz
 have z6 := x2
 refine vo ?_
 have hm7 : MXX TT W1 (some ⟨w.heap.size, 0, none⟩) 1 1 [_] := ⟨[[.slice _ _ _]], RS.lit (s := 1) (S := TT) (n := 1) _ b3 rfl (by simp) trivial rfl (by omega), ⟨_, _, _, rfl, (hx.ext z6)⟩, trivial⟩
 refine xcall e32 (long4_ok _ _ _ _ _ _ hm7) rfl rfl ?_
 rintro _ Wb1 ⟨bb1, rfl, xb1, hb1⟩
 refine ⟨_, rfl, ?_⟩
 cases bb1
 ·skip
  have s8 := xb1.sz
  have z9 := z6.trans xb1
  refine mvb rfl ?_
  refine vg rfl ?_
  refine mvs rfl ?_
  refine vg rfl ?_
  refine vv (rlen sl22 rfl) ?_
  refine vg rfl ?_
  refine vgt rfl rfl ?_ ?_
  ·intro c10
   refine vv (rpk (v := .bool true) rfl rfl) ?_
   refine mvb rfl ?_
   refine vgn (b := true) rfl rfl ?_
   refine vgn (b := true) rfl rfl ?_
   refine vgn (b := true) rfl rfl ?_
   refine vv (rpk (v := .bool true) rfl rfl) ?_
   refine mvb rfl ?_
   refine vgn (b := true) rfl rfl ?_
   refine vgn (b := true) rfl rfl ?_
   refine vv (rpk (v := .bool true) rfl rfl) ?_
   refine vnil ?_
   refine V.condT rfl ?_
   refine V.seq (V.reg rfl ?_)
   refine asb rfl ?_
   refine vnil ?_
   refine V.ret ?_
   refine ⟨[.bool true], ⟨rfl, trivial⟩, ?_⟩
   exact ⟨_, rfl, z9, fun h => (by cases h)⟩
  ·intro c10
   refine vv (rpk (v := .bool false) rfl rfl) ?_
   refine mvb rfl ?_
   refine vg rfl ?_
   refine mvs rfl ?_
   refine vg rfl ?_
   refine vo ?_
   refine xcall e36 (rCols_ok _ _ _ _ _ _ (hx.ext z9)) rfl rfl ?_
   rintro _ _ ⟨rfl, rfl⟩
   refine ⟨_, rfl, ?_⟩
   refine vg rfl ?_
   refine vgt rfl rfl ?_ ?_
   ·intro c12
    refine vv (rpk (v := .bool true) rfl rfl) ?_
    refine mvb rfl ?_
    refine vgn (b := true) rfl rfl ?_
    refine vgn (b := true) rfl rfl ?_
    refine vv (rpk (v := .bool true) rfl rfl) ?_
    refine vnil ?_
    refine V.condT rfl ?_
    refine V.seq (V.reg rfl ?_)
    refine asb rfl ?_
    refine vnil ?_
    refine V.ret ?_
    refine ⟨[.bool true], ⟨rfl, trivial⟩, ?_⟩
    exact ⟨_, rfl, z9, fun h => (by cases h)⟩
   ·intro c12
    refine vv (rpk (v := .bool false) rfl rfl) ?_
    refine mvb rfl ?_
    refine vg rfl ?_
    refine mvs rfl ?_
    refine vg rfl ?_
    refine vo ?_
    refine xcall e14 (long3_ok _ _ _ _ _ _ (hy.ext z9)) rfl rfl ?_
    rintro _ Wb2 ⟨bb2, rfl, xb2, hb2⟩
    refine ⟨_, rfl, ?_⟩
    cases bb2
    ·skip
     have s13 := xb2.sz
     have z14 := z9.trans xb2
     refine vv (rpk (v := .bool false) rfl rfl) ?_
     refine vnil ?_
     refine V.condF rfl ?_
     refine V.skip ?_
     refine V.seq ?_
     refine V.seq (V.reg rfl ?_)
     refine asi rfl ?_
     refine vnil ?_
     refine V.block ?_
     refine V.loopK (ι := Nat) [(0, .slice _ _ _), (1, .slice _ _ _)] (fun k => [(5, .int .i64 (k : Int))]) (fun k W => Ext Wb2 W ∧ k ≤ m) (fun k => m - k) (0) ⟨rfl, rfl, trivial⟩ ⟨rfl, trivial⟩ ⟨Ext.refl _, Nat.zero_le _⟩ ?_
     intro k E16 W15 h17
     obtain ⟨x18, hk⟩ := h17
     have s19 := x18.sz
     have z20 := z14.trans x18
     have z21 := x18
     refine V.seq ?_
     refine V.seq (V.reg rfl ?_)
     refine mvi rfl ?_
     refine mvs rfl ?_
     refine vv (rlen sl22 rfl) ?_
     refine vlt rfl rfl ?_ ?_
     ·intro c22
      refine vnil ?_
      refine V.condT rfl ?_
      refine V.skip ?_
      refine V.seq ?_
      refine V.block ?_
      refine V.seq (V.reg rfl ?_)
      refine mvs rfl ?_
      refine mvi rfl ?_
      refine vv (rix sl22 sz23 rfl rfl (by omega) (by omega) ((hy.ext z20).isS (i := 0) (by omega) (by omega))) ?_
      refine vldRow (hy.ext z20) rfl sc23 (by omega) (by omega) ?_
      intro a23 n24 c25 hg26
      have hg26l := hg26.len; have hg26m := hg26.max
      refine vv (rlen sl23 rfl) ?_
      refine vgt rfl rfl ?_ ?_
      ·intro c27
       refine vnil ?_
       refine V.condT rfl ?_
       refine V.seq (V.reg rfl ?_)
       refine asb rfl ?_
       refine vnil ?_
       refine V.ret ?_
       refine ⟨[.bool true], ⟨rfl, trivial⟩, ?_⟩
       exact ⟨_, rfl, z20, fun h => (by cases h)⟩
      ·intro c27
       refine vnil ?_
       refine V.condF rfl ?_
       refine V.skip ?_
       refine V.reg rfl ?_
       refine mvi rfl ?_
       refine vv (rbin (bAdd (wi (by omega))) rfl rfl) ?_
       refine asi rfl ?_
       refine vnil ?_
       refine ⟨rfl, k + 1, ⟨rfl, rfl, trivial⟩, ⟨rfl, trivial⟩, ⟨z21, by omega⟩, ?_⟩
       show m - (k + 1) < m - k
       omega
     ·intro c22
      refine vnil ?_
      refine V.condF rfl ?_
      refine V.exit ?_
      refine V.seq (V.reg rfl ?_)
      refine mvs rfl ?_
      refine vo ?_
      refine xcall e120 (tall_ok _ _ _ _ _ _ (hx.ext z20)) rfl rfl ?_
      rintro _ _ ⟨bb3, rfl, rfl⟩
      refine ⟨_, rfl, ?_⟩
      cases bb3
      ·skip
       refine mvb rfl ?_
       refine vg rfl ?_
       refine mvs rfl ?_
       refine vg rfl ?_
       refine vo ?_
       refine xcall e120 (tall_ok _ _ _ _ _ _ (hy.ext z20)) rfl rfl ?_
       rintro _ _ ⟨bb4, rfl, rfl⟩
       refine ⟨_, rfl, ?_⟩
       cases bb4
       ·skip
        refine vv (rpk (v := .bool false) rfl rfl) ?_
        refine asb rfl ?_
        refine vnil ?_
        refine V.ret ?_
        refine ⟨[.bool false], ⟨rfl, trivial⟩, ?_⟩
        exact ⟨_, rfl, z20, fun _ => ⟨⟨(hb1 rfl) A (by simp), by omega, by omega⟩, hb2 rfl⟩⟩
       ·skip
        refine vv (rpk (v := .bool true) rfl rfl) ?_
        refine asb rfl ?_
        refine vnil ?_
        refine V.ret ?_
        refine ⟨[.bool true], ⟨rfl, trivial⟩, ?_⟩
        exact ⟨_, rfl, z20, fun h => (by cases h)⟩
      ·skip
       refine mvb rfl ?_
       refine vgn (b := true) rfl rfl ?_
       refine vgn (b := true) rfl rfl ?_
       refine vv (rpk (v := .bool true) rfl rfl) ?_
       refine asb rfl ?_
       refine vnil ?_
       refine V.ret ?_
       refine ⟨[.bool true], ⟨rfl, trivial⟩, ?_⟩
       exact ⟨_, rfl, z20, fun h => (by cases h)⟩
    ·skip
     have s28 := xb2.sz
     have z29 := z9.trans xb2
     refine vv (rpk (v := .bool true) rfl rfl) ?_
     refine vnil ?_
     refine V.condT rfl ?_
     refine V.seq (V.reg rfl ?_)
     refine asb rfl ?_
     refine vnil ?_
     refine V.ret ?_
     refine ⟨[.bool true], ⟨rfl, trivial⟩, ?_⟩
     exact ⟨_, rfl, z29, fun h => (by cases h)⟩
 ·skip
  have s30 := xb1.sz
  have z31 := z6.trans xb1
  refine mvb rfl ?_
  refine vgn (b := true) rfl rfl ?_
  refine vgn (b := true) rfl rfl ?_
  refine vgn (b := true) rfl rfl ?_
  refine vv (rpk (v := .bool true) rfl rfl) ?_
  refine mvb rfl ?_
  refine vgn (b := true) rfl rfl ?_
  refine vgn (b := true) rfl rfl ?_
  refine vgn (b := true) rfl rfl ?_
  refine vv (rpk (v := .bool true) rfl rfl) ?_
  refine mvb rfl ?_
  refine vgn (b := true) rfl rfl ?_
  refine vgn (b := true) rfl rfl ?_
  refine vv (rpk (v := .bool true) rfl rfl) ?_
  refine vnil ?_
  refine V.condT rfl ?_
  refine V.seq (V.reg rfl ?_)
  refine asb rfl ?_
  refine vnil ?_
  refine V.ret ?_
  refine ⟨[.bool true], ⟨rfl, trivial⟩, ?_⟩
  exact ⟨_, rfl, z31, fun h => (by cases h)⟩

section
variable {L : Nat} {S S1 S2 : Nat → Prop} {a1 a2 : Option Addr} {n c m d : Nat} {rss : List (List Rat)} {bs : List Rat}
theorem sReduce_at (w : World) (p : List Int) (r : List (List Rat)) (np nr : Nat) (hx : MA L S1 w a1 n c rss) (hl1 : 1 ≤ L) (hn : n ≤ 1024) (hc : colsN rss ≤ 1024) (hL5 : 15 * (L * 5 ^ colsN rss) + 2 < LY) (hu : Up S w) (e1 : (redS (gridm (matI rss) n (colsN rss)) (colsN rss)).2.1 = p) (e2 : (redS (gridm (matI rss) n (colsN rss)) (colsN rss)).1.take p.length = r) (e3 : p.length = np) :
    Calls Tryz.prog 60 #[.slice a1 n c] w fun e w' => ∃ ar cr ap cp, e = .returned (.tuple #[.slice ar np cr, .slice ap np cp]) ∧ Ext w w' ∧ MC S w' ar np cr r ∧ RN .i64 S w' ap np cp p := by
  have h := sReduce_ok a1 n c L rss S S1 w hx hl1 hn hc hL5 hu
  rw [e1, e2, e3] at h; exact h
theorem sDet_at (w : World) (er : Int) (r : Rat) (hx : MA L S1 w a1 n c rss) (hl1 : 1 ≤ L) (hn : n ≤ 1024) (hc : colsN rss ≤ 1024) (hL5 : 15 * (L * 5 ^ colsN rss) + 2 < LY) (hu : Up S w) (e1 : (if n = colsN rss then (0 : Int) else 13) = er) (e2 : (if n = colsN rss then detS (gridm (matI rss) n (colsN rss)) (colsN rss) else 0) = r) :
    Calls Tryz.prog 55 #[.slice a1 n c] w fun e w' => ∃ q, e = .returned (.tuple #[.agg q.toArray, .int .i64 er]) ∧ Ext w w' ∧ QC S w' q r := by
  have h := sDet_ok a1 n c L rss S S1 w hx hl1 hn hc hL5 hu
  rw [e1, e2] at h; exact h
theorem sInv_at (w : World) (er : Int) (r : List (List Rat)) (nr : Nat) (hx : MA L S1 w a1 n c rss) (hl1 : 1 ≤ L) (hn : n ≤ 512) (hc : colsN rss ≤ 1024) (hL5 : 15 * (L * 5 ^ n) + 2 < LY) (hu : Up S w) (e1 : (invS rss n).2 = er) (e2 : (invS rss n).1 = r) (e3 : r.length = nr) :
    Calls Tryz.prog 54 #[.slice a1 n c] w fun e w' => ∃ ar cr, e = .returned (.tuple #[.slice ar nr cr, .int .i64 er]) ∧ Ext w w' ∧ MC S w' ar nr cr r := by
  refine (sInverse_ok a1 n c L rss S S1 w hx hl1 hn hc hL5 hu).mono ?_
  rintro _ w' ⟨ar, nr, cr, rfl, x, h⟩
  rw [e2] at h; subst e1 e3
  obtain rfl := h.len
  exact ⟨ar, cr, rfl, x, h⟩
theorem sSolve_at (w : World) (er : Int) (x : List Rat) (fr : List (List Rat)) (nx nf : Nat) (hx : MA L S1 w a1 n c rss) (hy : GA L S2 w a2 m d bs) (hl1 : 1 ≤ L) (hn : n ≤ 1000) (hm : m ≤ 1000) (hc : colsN rss ≤ 1000) (hL5 : 15 * (L * 5 ^ (colsN rss + 1)) + 2 < LY) (hu : Up S w) (e1 : solX rss bs (max n m) = x) (e2 : solF rss bs n (max n m) = fr) (e3 : solE rss bs (max n m) = er) (e4 : x.length = nx) (e5 : fr.length = nf) :
    Calls Tryz.prog 51 #[.slice a1 n c, .slice a2 m d] w fun e w' => ∃ ax cx af cf, e = .returned (.tuple #[.slice ax nx cx, .slice af nf cf, .int .i64 er]) ∧ Ext w w' ∧ GC S w' ax nx cx x ∧ MC S w' af nf cf fr := by
  refine (sSolve_ok a1 a2 n c m d L rss bs S S1 S2 w hx hy hl1 hn hm hc hL5 hu).mono ?_
  rintro _ w' ⟨ax, nx, cx, af, nf, cf, er', rfl, x, h1, h2, h3⟩
  subst e4 e5
  rw [e1] at h1; rw [e2] at h2; rw [e3] at h3; subst h3
  obtain rfl := h1.len
  obtain rfl := h2.len
  exact ⟨ax, cx, af, cf, rfl, x, h1, h2⟩
end

set_option maxHeartbeats 400000 in
theorem rInts5_ok (a1 a2 : Option Addr) (n c m d : Nat) (xs ys : List Int) (S1 S2 : Nat → Prop) (w : World) (hx : RN .i64 S1 w a1 n c xs) (hy : RN .i64 S2 w a2 m d ys) :
    Calls Tryz.prog 62 #[.slice a1 n c, .slice a2 m d] w (fun e w' => ∃ q, e = .returned (.bool q) ∧ Ext w w' ∧ (q = true ↔ xs = ys)) := by
 have z0 := Ext.refl w; have hLX : LX = 17592186044416 := rfl; have hLY : LY = 8796093022208 := rfl
 have l1 := hx.len; have l2 := hx.cap; have l3 := hx.max; have l4 := hy.len; have l5 := hy.cap; have l6 := hy.max
 refine enter (args := [.slice a1 n c, .slice a2 m d]) Tryz.func62 rfl rfl (Nat.le_of_ble_eq_true rfl) ?_
 refine V.seq (V.reg rfl ?_)
 refine asb rfl ?_
 refine vnil ?_
 refine V.seq ?_
 refine V.seq (V.reg rfl ?_)
 refine mvs rfl ?_
 refine vv (rlen sl73 rfl) ?_
 refine mvs rfl ?_
 refine vv (rlen sl73 rfl) ?_
 refine vne rfl rfl ?_ ?_
 ·intro c1
  refine vnil ?_
  refine V.condT rfl ?_
  refine V.seq (V.reg rfl ?_)
  refine asb rfl ?_
  refine vnil ?_
  refine V.ret ?_
  refine ⟨[.bool false], ⟨rfl, trivial⟩, ?_⟩
  exact ⟨_, rfl, (Ext.refl w), ⟨fun h => (by cases h), fun h => by subst h; omega⟩⟩
 ·intro c1
  refine vnil ?_
  refine V.condF rfl ?_
  refine V.skip ?_
  refine V.seq ?_
  refine V.seq (V.reg rfl ?_)
  refine asi rfl ?_
  refine vnil ?_
  refine V.block ?_
  refine V.loopK (ι := Nat) [(0, .slice _ _ _), (1, .slice _ _ _)] (fun k => [(5, .int .i64 (k : Int))]) (fun k W => Ext w W ∧ k ≤ n ∧ xs.take k = ys.take k) (fun k => n - k) (0) ⟨rfl, rfl, trivial⟩ ⟨rfl, trivial⟩ ⟨Ext.refl _, Nat.zero_le _, rfl⟩ ?_
  intro k E3 W2 h4
  obtain ⟨x5, hk, ht⟩ := h4
  have s6 := x5.sz
  have z7 := x5
  refine V.seq ?_
  refine V.seq (V.reg rfl ?_)
  refine mvi rfl ?_
  refine mvs rfl ?_
  refine vv (rlen sl73 rfl) ?_
  refine vlt rfl rfl ?_ ?_
  ·intro c8
   refine vnil ?_
   refine V.condT rfl ?_
   refine V.skip ?_
   refine V.seq ?_
   refine V.block ?_
   refine V.seq (V.regD mixed rfl ?_)
   intro W9 x10
   have s11 := x10.sz
   have z12 := z7.trans x10
   have q13 := Ext.refl W9
   refine tk 0 rfl (by kernel_rfl) q13 (pv (fun _ y14 => rmv (v := .slice _ _ _) rfl)) ?_
   refine tk 1 rfl (by kernel_rfl) q13 (pv (fun _ y15 => rmv (v := .int _ _) rfl)) ?_
   refine tk 2 rfl (by kernel_rfl) q13 (pv (fun _ y16 => rixn ((hx.ext z12).ext y16) sl73 sz3 rfl rfl (by omega) (by omega))) ?_
   refine tk 3 rfl (by kernel_rfl) q13 (pv (fun _ y17 => rldN ((hx.ext z12).ext y17) rfl sc3 (by omega) (by omega))) ?_
   refine tk 4 rfl (by kernel_rfl) q13 (pv (fun _ y18 => rmv (v := .slice _ _ _) rfl)) ?_
   refine tk 5 rfl (by kernel_rfl) q13 (pv (fun _ y19 => rmv (v := .int _ _) rfl)) ?_
   refine tk 6 rfl (by kernel_rfl) q13 (pv (fun _ y20 => rixn ((hy.ext z12).ext y20) sl73 sz3 rfl rfl (by omega) (by omega))) ?_
   refine tk 7 rfl (by kernel_rfl) q13 (pv (fun _ y21 => rldN ((hy.ext z12).ext y21) rfl sc3 (by omega) (by omega))) ?_
   refine tkNe 8 rfl (by kernel_rfl) q13 rfl rfl (fun _ h => pv h) ?_ ?_
   ·intro cz
    refine dn (by kernel_rfl) ?_
    refine V.condT rfl ?_
    refine V.seq (V.reg rfl ?_)
    refine asb rfl ?_
    refine vnil ?_
    refine V.ret ?_
    refine ⟨[.bool false], ⟨rfl, trivial⟩, ?_⟩
    exact ⟨_, rfl, z12, ⟨fun h => (by cases h), fun h => absurd (by rw [h]) cz⟩⟩
   ·intro cz
    refine dn (by kernel_rfl) ?_
    refine V.condF rfl ?_
    refine V.skip ?_
    refine V.reg rfl ?_
    refine mvi rfl ?_
    refine vv (rbin (bAdd (wi (by omega))) rfl rfl) ?_
    refine asi rfl ?_
    refine vnil ?_
    refine ⟨rfl, k + 1, ⟨rfl, rfl, trivial⟩, ⟨rfl, trivial⟩, ⟨z12, by omega, by rw [take_getD 0 xs k (by omega), take_getD 0 ys k (by omega), ht]; simp only [wd, Int.toNat_natCast] at cz; rw [cz]⟩, ?_⟩
    show n - (k + 1) < n - k
    omega
  ·intro c8
   refine vnil ?_
   refine V.condF rfl ?_
   refine V.exit ?_
   refine V.seq (V.reg rfl ?_)
   refine asb rfl ?_
   refine vnil ?_
   refine V.ret ?_
   refine ⟨[.bool true], ⟨rfl, trivial⟩, ?_⟩
   refine ⟨_, rfl, z7, ?_⟩
   rw [List.take_of_length_le (by omega), List.take_of_length_le (by omega)] at ht
   exact ⟨fun _ => ht, fun _ => rfl⟩

theorem QC.to {S : Nat → Prop} {W : World} {q : List Value} {r r' : Rat} (h : QC S W q r) (e : r = r') : QC S W q r' := e ▸ h
theorem rInts5_true {S1 S2 : Nat → Prop} {a1 a2 : Option Addr} {n c m d : Nat} {xs ys : List Int} (w : World) (hx : RN .i64 S1 w a1 n c xs) (hy : RN .i64 S2 w a2 m d ys) (e : xs = ys) : Calls Tryz.prog 62 #[.slice a1 n c, .slice a2 m d] w fun e w' => e = .returned (.bool true) ∧ Ext w w' := by
  refine (rInts5_ok _ _ _ _ _ _ _ _ _ _ w hx hy).mono ?_
  rintro _ _ ⟨q, h1, h2, h3⟩
  exact ⟨by rw [h1, h3.2 e], h2⟩


theorem qIs5_true {S1 S2 : Nat → Prop} {q1 q2 : List Value} {r s : Rat} (w : World) (h1 : QC S1 w q1 r) (h2 : QC S2 w q2 s) (e : r = s) : Calls Tryz.prog 37 #[.agg q1.toArray, .agg q2.toArray] w fun e w' => e = .returned (.bool true) ∧ Ext w w' := by
  refine (qIs_ok _ _ _ _ _ _ w h1 h2).mono ?_
  rintro _ _ ⟨q, h1, h2, h3⟩
  exact ⟨by rw [h1, h3.2 (by rw [e])], h2⟩

set_option maxHeartbeats 2000000 in
theorem law5_ok (w : World) :
    Calls Tryz.prog 50 #[] w (fun e w' => e = .returned (.bool true) ∧ Ext w w') := by
 have z0 := Ext.refl w; have hLX : LX = 17592186044416 := rfl; have hLY : LY = 8796093022208 := rfl
 have hLV : LV = 1099511627776 := rfl
 refine enter (args := []) Tryz.func50 rfl rfl (Nat.le_of_ble_eq_true rfl) ?_
 refine V.seq (V.reg rfl ?_)
 refine asb rfl ?_
 refine vnil ?_
 refine V.seq (V.reg rfl ?_)
 refine asf rfl ?_
 refine vnil ?_
 refine V.seq (V.reg rfl ?_)
 refine mvf rfl ?_
 refine vo ?_
 refine xbs (ps := [(0, .int _ _), (1, .int _ _)]) (cs := [.int _ _, .int _ _]) sl118 zr2 sz2 rfl rfl rfl rfl rfl rfl ?_
 intro W1 x2 b3 nn4
 have s5 := x2.sz
 have z6 := x2
 refine vo ?_
 refine xbs (ps := [(0, .int _ _), (1, .int _ _)]) (cs := [.int _ _, .int _ _]) sl118 zr2 sz2 rfl rfl rfl rfl rfl rfl ?_
 intro W7 x8 b9 nn10
 have s11 := x8.sz
 have z12 := z6.trans x8
 replace b3 := b3.ext x8
 refine vo ?_
 refine xbs (ps := [(0, .slice _ _ _), (1, .slice _ _ _)]) (cs := [.slice _ _ _, .slice _ _ _]) sl119 zr118 sz118 rfl rfl rfl rfl rfl rfl ?_
 intro W13 x14 b15 nn16
 have s17 := x14.sz
 have z18 := z12.trans x14
 replace b3 := b3.ext x14
 replace b9 := b9.ext x14
 refine vo ?_
 have hl19 := RN.lit (k := .i64) (xs := [_, _]) 2 b3 (by intro q hq; simp only [List.mem_cons, List.not_mem_nil, or_false] at hq; simp only [kb]; omega) (TT.up w _ (Nat.le_refl _))
 have hl20 := RN.lit (k := .i64) (xs := [_, _]) 2 b9 (by intro q hq; simp only [List.mem_cons, List.not_mem_nil, or_false] at hq; simp only [kb]; omega) (TT.up W1 _ (Nat.le_refl _))
 have hm21 : MI TT W13 (some ⟨W7.heap.size, 0, none⟩) 2 2 [[2, 4], [1, 3]] := ⟨[[.slice _ _ _], [.slice _ _ _]], RS.lit (S := TT) _ b15 rfl (by simp) trivial rfl (by omega), ⟨_, _, _, rfl, hl19⟩, ⟨_, _, _, rfl, hl20⟩, trivial⟩
 refine xcall e103 (rmInts_ok _ _ _ [[2, 4], [1, 3]] TT TT _ hm21 (by omega) (by intro r hr; simp at hr; rcases hr with rfl | rfl <;> simp <;> omega) (TT.up _)) rfl rfl ?_
 rintro _ W24 ⟨_, rn23, _, rfl, x25, hv22⟩
 have s26 := x25.sz
 have z27 := z18.trans x25
 replace b3 := b3.ext x25
 replace b9 := b9.ext x25
 replace b15 := b15.ext x25
 obtain rfl : rn23 = 2 := by have := hv22.len; simpa using this.symm
 replace hv22 := hv22.cast (rss' := ([[2, 4], [1, 3]] : List (List Rat))) (by rfl)
 refine ⟨_, rfl, ?_⟩
 refine mvf rfl ?_
 refine vo ?_
 refine xbs (ps := [(0, .int _ _), (1, .int _ _)]) (cs := [.int _ _, .int _ _]) sl118 zr2 sz2 rfl rfl rfl rfl rfl rfl ?_
 intro W28 x29 b30 nn31
 have s32 := x29.sz
 have z33 := z27.trans x29
 replace b3 := b3.ext x29
 replace b9 := b9.ext x29
 replace b15 := b15.ext x29
 refine vo ?_
 refine xbs (ps := [(0, .int _ _), (1, .int _ _)]) (cs := [.int _ _, .int _ _]) sl118 zr2 sz2 rfl rfl rfl rfl rfl rfl ?_
 intro W34 x35 b36 nn37
 have s38 := x35.sz
 have z39 := z33.trans x35
 replace b3 := b3.ext x35
 replace b9 := b9.ext x35
 replace b15 := b15.ext x35
 replace b30 := b30.ext x35
 refine vo ?_
 refine xbs (ps := [(0, .slice _ _ _), (1, .slice _ _ _)]) (cs := [.slice _ _ _, .slice _ _ _]) sl119 zr118 sz118 rfl rfl rfl rfl rfl rfl ?_
 intro W40 x41 b42 nn43
 have s44 := x41.sz
 have z45 := z39.trans x41
 replace b3 := b3.ext x41
 replace b9 := b9.ext x41
 replace b15 := b15.ext x41
 replace b30 := b30.ext x41
 replace b36 := b36.ext x41
 refine vo ?_
 have hl46 := RN.lit (k := .i64) (xs := [_, _]) 2 b30 (by intro q hq; simp only [List.mem_cons, List.not_mem_nil, or_false] at hq; simp only [kb]; omega) (TT.up W24 _ (Nat.le_refl _))
 have hl47 := RN.lit (k := .i64) (xs := [_, _]) 2 b36 (by intro q hq; simp only [List.mem_cons, List.not_mem_nil, or_false] at hq; simp only [kb]; omega) (TT.up W28 _ (Nat.le_refl _))
 have hm48 : MI TT W40 (some ⟨W34.heap.size, 0, none⟩) 2 2 [[1, 2], [2, 4]] := ⟨[[.slice _ _ _], [.slice _ _ _]], RS.lit (S := TT) _ b42 rfl (by simp) trivial rfl (by omega), ⟨_, _, _, rfl, hl46⟩, ⟨_, _, _, rfl, hl47⟩, trivial⟩
 refine xcall e103 (rmInts_ok _ _ _ [[1, 2], [2, 4]] TT TT _ hm48 (by omega) (by intro r hr; simp at hr; rcases hr with rfl | rfl <;> simp <;> omega) (TT.up _)) rfl rfl ?_
 rintro _ W51 ⟨_, rn50, _, rfl, x52, hv49⟩
 have s53 := x52.sz
 have z54 := z45.trans x52
 replace b3 := b3.ext x52
 replace b9 := b9.ext x52
 replace b15 := b15.ext x52
 replace b30 := b30.ext x52
 replace b36 := b36.ext x52
 replace b42 := b42.ext x52
 obtain rfl : rn50 = 2 := by have := hv49.len; simpa using this.symm
 replace hv49 := hv49.cast (rss' := ([[1, 2], [2, 4]] : List (List Rat))) (by rfl)
 refine ⟨_, rfl, ?_⟩
 refine ass rfl ?_
 refine ass rfl ?_
 refine vnil ?_
 refine V.seq (V.reg rfl ?_)
 refine mvs rfl ?_
 refine vo ?_
 refine xbs (ps := [(0, .int _ _), (1, .int _ _)]) (cs := [.int _ _, .int _ _]) sl118 zr2 sz2 rfl rfl rfl rfl rfl rfl ?_
 intro W55 x56 b57 nn58
 have s59 := x56.sz
 have z60 := z54.trans x56
 replace b3 := b3.ext x56
 replace b9 := b9.ext x56
 replace b15 := b15.ext x56
 replace b30 := b30.ext x56
 replace b36 := b36.ext x56
 replace b42 := b42.ext x56
 refine vo ?_
 have hl61 := RN.lit (k := .i64) (xs := [_, _]) 2 b57 (by intro q hq; simp only [List.mem_cons, List.not_mem_nil, or_false] at hq; simp only [kb]; omega) (TT.up W51 _ (Nat.le_refl _))
 refine xcall e82 (vFrom_ok _ _ _ [6, 4] TT TT _ hl61 (by omega) (TT.up _)) rfl rfl ?_
 rintro _ W64 ⟨_, rn63, _, rfl, x65, hv62⟩
 have s66 := x65.sz
 have z67 := z60.trans x65
 replace b3 := b3.ext x65
 replace b9 := b9.ext x65
 replace b15 := b15.ext x65
 replace b30 := b30.ext x65
 replace b36 := b36.ext x65
 replace b42 := b42.ext x65
 replace b57 := b57.ext x65
 obtain rfl : rn63 = 2 := by have := hv62.len; simpa using this.symm
 replace hv62 := hv62.cast (rs' := ([6, 4] : List Rat)) (by rfl)
 refine ⟨_, rfl, ?_⟩
 refine vo ?_
 refine xcall e51 (sSolve_at _ (0) ([1, 1] : List Rat) ([] : List (List Rat)) 2 0 (((hv22.ext (((((x29.trans x35).trans x41).trans x52).trans x56).trans x65))).ma (L := 1) (szM_B (by decide +kernel))) ((hv62).va (L := 1) (szV_B (by decide +kernel))) (by omega) (by omega) (by omega) (by decide +kernel) (by decide +kernel) (TT.up _) (by decide +kernel) (by decide +kernel) (by decide +kernel) rfl rfl) rfl rfl ?_
 rintro _ W70 ⟨_, _, _, _, rfl, x71, hv68, hv69⟩
 have s72 := x71.sz
 have z73 := z67.trans x71
 replace b3 := b3.ext x71
 replace b9 := b9.ext x71
 replace b15 := b15.ext x71
 replace b30 := b30.ext x71
 replace b36 := b36.ext x71
 replace b42 := b42.ext x71
 replace b57 := b57.ext x71
 refine ⟨_, rfl, ?_⟩
 refine mvt rfl ?_
 refine vv (rext (v := .slice _ _ _) rfl rfl) ?_
 refine vv (rext (v := .slice _ _ _) rfl rfl) ?_
 refine vv (rext (v := .int _ _) rfl rfl) ?_
 refine ass rfl ?_
 refine ass rfl ?_
 refine asi rfl ?_
 refine vnil ?_
 refine V.seq (V.reg rfl ?_)
 refine mvs rfl ?_
 refine vo ?_
 refine xcall e60 (sReduce_at _ [0] ([[1, 2]] : List (List Rat)) 1 1 (((hv49.ext ((x56.trans x65).trans x71))).ma (L := 1) (szM_B (by decide +kernel))) (by omega) (by omega) (by decide +kernel) (by decide +kernel) (TT.up _) (by decide +kernel) (by decide +kernel) (by decide +kernel)) rfl rfl ?_
 rintro _ W76 ⟨_, _, _, _, rfl, x77, hv74, hv75⟩
 have s78 := x77.sz
 have z79 := z73.trans x77
 replace b3 := b3.ext x77
 replace b9 := b9.ext x77
 replace b15 := b15.ext x77
 replace b30 := b30.ext x77
 replace b36 := b36.ext x77
 replace b42 := b42.ext x77
 replace b57 := b57.ext x77
 refine ⟨_, rfl, ?_⟩
 refine mvt rfl ?_
 refine vv (rext (v := .slice _ _ _) rfl rfl) ?_
 refine vv (rext (v := .slice _ _ _) rfl rfl) ?_
 refine ass rfl ?_
 refine ass rfl ?_
 refine vnil ?_
 refine V.seq (V.reg rfl ?_)
 refine mvs rfl ?_
 refine vo ?_
 refine xcall e64 (sNull_ok _ _ _ 1 _ TT TT _ (((hv49.ext (((x56.trans x65).trans x71).trans x77))).ma (L := 1) (szM_B (by decide +kernel))) (by omega) (by omega) (by decide +kernel) (by decide +kernel) (TT.up _)) rfl rfl ?_
 rintro _ W82 ⟨_, rn81, _, rfl, x83, hv80⟩
 have s84 := x83.sz
 have z85 := z79.trans x83
 replace b3 := b3.ext x83
 replace b9 := b9.ext x83
 replace b15 := b15.ext x83
 replace b30 := b30.ext x83
 replace b36 := b36.ext x83
 replace b42 := b42.ext x83
 replace b57 := b57.ext x83
 replace hv80 := hv80.cast (rss' := ([[-2, 1]] : List (List Rat))) (by decide +kernel)
 obtain rfl : rn81 = 1 := by have := hv80.len; exact this.symm.trans rfl
 refine ⟨_, rfl, ?_⟩
 refine ass rfl ?_
 refine vnil ?_
 refine V.seq (V.reg rfl ?_)
 refine mvs rfl ?_
 refine vo ?_
 refine xbs (ps := [(0, .int _ _), (1, .int _ _)]) (cs := [.int _ _, .int _ _]) sl118 zr2 sz2 rfl rfl rfl rfl rfl rfl ?_
 intro W86 x87 b88 nn89
 have s90 := x87.sz
 have z91 := z85.trans x87
 replace b3 := b3.ext x87
 replace b9 := b9.ext x87
 replace b15 := b15.ext x87
 replace b30 := b30.ext x87
 replace b36 := b36.ext x87
 replace b42 := b42.ext x87
 replace b57 := b57.ext x87
 refine vo ?_
 have hl92 := RN.lit (k := .i64) (xs := [_, _]) 2 b88 (by intro q hq; simp only [List.mem_cons, List.not_mem_nil, or_false] at hq; simp only [kb]; omega) (TT.up W82 _ (Nat.le_refl _))
 refine xcall e82 (vFrom_ok _ _ _ [1, 3] TT TT _ hl92 (by omega) (TT.up _)) rfl rfl ?_
 rintro _ W95 ⟨_, rn94, _, rfl, x96, hv93⟩
 have s97 := x96.sz
 have z98 := z91.trans x96
 replace b3 := b3.ext x96
 replace b9 := b9.ext x96
 replace b15 := b15.ext x96
 replace b30 := b30.ext x96
 replace b36 := b36.ext x96
 replace b42 := b42.ext x96
 replace b57 := b57.ext x96
 replace b88 := b88.ext x96
 obtain rfl : rn94 = 2 := by have := hv93.len; simpa using this.symm
 replace hv93 := hv93.cast (rs' := ([1, 3] : List Rat)) (by rfl)
 refine ⟨_, rfl, ?_⟩
 refine vo ?_
 refine xcall e51 (sSolve_at _ (8) ([] : List Rat) ([] : List (List Rat)) 0 0 (((hv49.ext ((((((x56.trans x65).trans x71).trans x77).trans x83).trans x87).trans x96))).ma (L := 1) (szM_B (by decide +kernel))) ((hv93).va (L := 1) (szV_B (by decide +kernel))) (by omega) (by omega) (by omega) (by decide +kernel) (by decide +kernel) (TT.up _) (by decide +kernel) (by decide +kernel) (by decide +kernel) rfl rfl) rfl rfl ?_
 rintro _ W101 ⟨_, _, _, _, rfl, x102, hv99, hv100⟩
 have s103 := x102.sz
 have z104 := z98.trans x102
 replace b3 := b3.ext x102
 replace b9 := b9.ext x102
 replace b15 := b15.ext x102
 replace b30 := b30.ext x102
 replace b36 := b36.ext x102
 replace b42 := b42.ext x102
 replace b57 := b57.ext x102
 replace b88 := b88.ext x102
 refine ⟨_, rfl, ?_⟩
 refine mvt rfl ?_
 refine vv (rext (v := .slice _ _ _) rfl rfl) ?_
 refine vv (rext (v := .slice _ _ _) rfl rfl) ?_
 refine vv (rext (v := .int _ _) rfl rfl) ?_
 refine ass rfl ?_
 refine ass rfl ?_
 refine asi rfl ?_
 refine vnil ?_
 refine V.seq (V.reg rfl ?_)
 refine mvs rfl ?_
 refine vo ?_
 refine xbs (ps := [(0, .int _ _), (1, .int _ _)]) (cs := [.int _ _, .int _ _]) sl118 zr2 sz2 rfl rfl rfl rfl rfl rfl ?_
 intro W105 x106 b107 nn108
 have s109 := x106.sz
 have z110 := z104.trans x106
 replace b3 := b3.ext x106
 replace b9 := b9.ext x106
 replace b15 := b15.ext x106
 replace b30 := b30.ext x106
 replace b36 := b36.ext x106
 replace b42 := b42.ext x106
 replace b57 := b57.ext x106
 replace b88 := b88.ext x106
 refine vo ?_
 have hl111 := RN.lit (k := .i64) (xs := [_, _]) 2 b107 (by intro q hq; simp only [List.mem_cons, List.not_mem_nil, or_false] at hq; simp only [kb]; omega) (TT.up W101 _ (Nat.le_refl _))
 refine xcall e82 (vFrom_ok _ _ _ [1, 2] TT TT _ hl111 (by omega) (TT.up _)) rfl rfl ?_
 rintro _ W114 ⟨_, rn113, _, rfl, x115, hv112⟩
 have s116 := x115.sz
 have z117 := z110.trans x115
 replace b3 := b3.ext x115
 replace b9 := b9.ext x115
 replace b15 := b15.ext x115
 replace b30 := b30.ext x115
 replace b36 := b36.ext x115
 replace b42 := b42.ext x115
 replace b57 := b57.ext x115
 replace b88 := b88.ext x115
 replace b107 := b107.ext x115
 obtain rfl : rn113 = 2 := by have := hv112.len; simpa using this.symm
 replace hv112 := hv112.cast (rs' := ([1, 2] : List Rat)) (by rfl)
 refine ⟨_, rfl, ?_⟩
 refine vo ?_
 refine xcall e51 (sSolve_at _ (0) ([1, 0] : List Rat) ([[-2, 1]] : List (List Rat)) 2 1 (((hv49.ext (((((((((x56.trans x65).trans x71).trans x77).trans x83).trans x87).trans x96).trans x102).trans x106).trans x115))).ma (L := 1) (szM_B (by decide +kernel))) ((hv112).va (L := 1) (szV_B (by decide +kernel))) (by omega) (by omega) (by omega) (by decide +kernel) (by decide +kernel) (TT.up _) (by decide +kernel) (by decide +kernel) (by decide +kernel) rfl rfl) rfl rfl ?_
 rintro _ W120 ⟨_, _, _, _, rfl, x121, hv118, hv119⟩
 have s122 := x121.sz
 have z123 := z117.trans x121
 replace b3 := b3.ext x121
 replace b9 := b9.ext x121
 replace b15 := b15.ext x121
 replace b30 := b30.ext x121
 replace b36 := b36.ext x121
 replace b42 := b42.ext x121
 replace b57 := b57.ext x121
 replace b88 := b88.ext x121
 replace b107 := b107.ext x121
 refine ⟨_, rfl, ?_⟩
 refine mvt rfl ?_
 refine vv (rext (v := .slice _ _ _) rfl rfl) ?_
 refine vv (rext (v := .slice _ _ _) rfl rfl) ?_
 refine vv (rext (v := .int _ _) rfl rfl) ?_
 refine ass rfl ?_
 refine ass rfl ?_
 refine asi rfl ?_
 refine vnil ?_
 refine V.seq (V.reg rfl ?_)
 refine mvs rfl ?_
 refine vo ?_
 refine xcall e55 (sDet_at _ (0) (2 : Rat) (((hv22.ext ((((((((((((((x29.trans x35).trans x41).trans x52).trans x56).trans x65).trans x71).trans x77).trans x83).trans x87).trans x96).trans x102).trans x106).trans x115).trans x121))).ma (L := 1) (szM_B (by decide +kernel))) (by omega) (by omega) (by decide +kernel) (by decide +kernel) (TT.up _) (by decide +kernel) (by decide +kernel)) rfl rfl ?_
 rintro _ W125 ⟨_, rfl, x126, hv124⟩
 have s127 := x126.sz
 have z128 := z123.trans x126
 replace b3 := b3.ext x126
 replace b9 := b9.ext x126
 replace b15 := b15.ext x126
 replace b30 := b30.ext x126
 replace b36 := b36.ext x126
 replace b42 := b42.ext x126
 replace b57 := b57.ext x126
 replace b88 := b88.ext x126
 replace b107 := b107.ext x126
 obtain ⟨_, _, _, _, _, _, _, _, rfl⟩ := hv124.form
 refine ⟨_, rfl, ?_⟩
 refine mvt rfl ?_
 refine vv (rext (v := .agg #[_, _, _, _]) rfl rfl) ?_
 refine vv (rext (v := .int _ _) rfl rfl) ?_
 refine vo ?_
 refine xal zc48 ?_
 intro W130 x131 b132 nn133
 have s134 := x131.sz
 have z135 := z128.trans x131
 have z136 := x131
 replace b3 := b3.ext x131
 replace b9 := b9.ext x131
 replace b15 := b15.ext x131
 replace b30 := b30.ext x131
 replace b36 := b36.ext x131
 replace b42 := b42.ext x131
 replace b57 := b57.ext x131
 replace b88 := b88.ext x131
 replace b107 := b107.ext x131
 refine vo ?_
 refine sta (cs' := [_, _, _, _]) b132 rfl rfl sz48 rfl rfl rfl ?_
 intro W137 y138 b132
 have z139 := z135.below (y138.below (by omega))
 have z140 := z136.below (y138.below (by omega))
 replace b3 := b3.wr y138 (by omega)
 replace b9 := b9.wr y138 (by omega)
 replace b15 := b15.wr y138 (by omega)
 replace b30 := b30.wr y138 (by omega)
 replace b36 := b36.wr y138 (by omega)
 replace b42 := b42.wr y138 (by omega)
 replace b57 := b57.wr y138 (by omega)
 replace b88 := b88.wr y138 (by omega)
 replace b107 := b107.wr y138 (by omega)
 have s141 := y138.size
 refine asi rfl ?_
 refine vnil ?_
 refine V.seq (V.reg rfl ?_)
 refine mvs rfl ?_
 refine vo ?_
 refine xcall e54 (sInv_at _ (0) ([[3/2, -2], [-1/2, 1]] : List (List Rat)) 2 ((((hv22.ext (((((((((((((((x29.trans x35).trans x41).trans x52).trans x56).trans x65).trans x71).trans x77).trans x83).trans x87).trans x96).trans x102).trans x106).trans x115).trans x121).trans x126)).ext z140)).ma (L := 1) (szM_B (by decide +kernel))) (by omega) (by omega) (by decide +kernel) (by decide +kernel) (TT.up _) (by decide +kernel) (by decide +kernel) rfl) rfl rfl ?_
 rintro _ W143 ⟨_, _, rfl, x144, hv142⟩
 have s145 := x144.sz
 have z146 := z139.trans x144
 have z147 := z140.trans x144
 replace b3 := b3.ext x144
 replace b9 := b9.ext x144
 replace b15 := b15.ext x144
 replace b30 := b30.ext x144
 replace b36 := b36.ext x144
 replace b42 := b42.ext x144
 replace b57 := b57.ext x144
 replace b88 := b88.ext x144
 replace b107 := b107.ext x144
 replace b132 := b132.ext x144
 refine ⟨_, rfl, ?_⟩
 refine mvt rfl ?_
 refine vv (rext (v := .slice _ _ _) rfl rfl) ?_
 refine vv (rext (v := .int _ _) rfl rfl) ?_
 refine ass rfl ?_
 refine asi rfl ?_
 refine vnil ?_
 refine V.seq ?_
 refine V.seq (V.reg rfl ?_)
 refine mvs rfl ?_
 refine vo ?_
 refine xbs (ps := [(0, .int _ _), (1, .int _ _)]) (cs := [.int _ _, .int _ _]) sl118 zr2 sz2 rfl rfl rfl rfl rfl rfl ?_
 intro W148 x149 b150 nn151
 have s152 := x149.sz
 have z153 := z146.trans x149
 have z154 := z147.trans x149
 replace b3 := b3.ext x149
 replace b9 := b9.ext x149
 replace b15 := b15.ext x149
 replace b30 := b30.ext x149
 replace b36 := b36.ext x149
 replace b42 := b42.ext x149
 replace b57 := b57.ext x149
 replace b88 := b88.ext x149
 replace b107 := b107.ext x149
 replace b132 := b132.ext x149
 refine vo ?_
 have hl155 := RN.lit (k := .i64) (xs := [_, _]) 2 b150 (by intro q hq; simp only [List.mem_cons, List.not_mem_nil, or_false] at hq; simp only [kb]; omega) (TT.up W143 _ (Nat.le_refl _))
 refine xcall e82 (vFrom_ok _ _ _ [1, 1] TT TT _ hl155 (by omega) (TT.up _)) rfl rfl ?_
 rintro _ W158 ⟨_, rn157, _, rfl, x159, hv156⟩
 have s160 := x159.sz
 have z161 := z153.trans x159
 have z162 := z154.trans x159
 replace b3 := b3.ext x159
 replace b9 := b9.ext x159
 replace b15 := b15.ext x159
 replace b30 := b30.ext x159
 replace b36 := b36.ext x159
 replace b42 := b42.ext x159
 replace b57 := b57.ext x159
 replace b88 := b88.ext x159
 replace b107 := b107.ext x159
 replace b132 := b132.ext x159
 replace b150 := b150.ext x159
 obtain rfl : rn157 = 2 := by have := hv156.len; simpa using this.symm
 replace hv156 := hv156.cast (rs' := ([1, 1] : List Rat)) (by rfl)
 refine ⟨_, rfl, ?_⟩
 refine vo ?_
 refine xcall e56 (vIs_true _ ((hv68.ext ((((((((x77.trans x83).trans x87).trans x96).trans x102).trans x106).trans x115).trans x121).trans x126)).ext z162) hv156 rfl) rfl rfl ?_
 rintro _ W163 ⟨rfl, x164⟩
 have s165 := x164.sz
 have z166 := z161.trans x164
 have z167 := z162.trans x164
 replace b3 := b3.ext x164
 replace b9 := b9.ext x164
 replace b15 := b15.ext x164
 replace b30 := b30.ext x164
 replace b36 := b36.ext x164
 replace b42 := b42.ext x164
 replace b57 := b57.ext x164
 replace b88 := b88.ext x164
 replace b107 := b107.ext x164
 replace b132 := b132.ext x164
 replace b150 := b150.ext x164
 refine ⟨_, rfl, ?_⟩
 refine vv (rnot (q := false) rfl rfl) ?_
 refine mvb rfl ?_
 refine vg rfl ?_
 refine mvs rfl ?_
 refine vg rfl ?_
 refine vv (rlen sl22 rfl) ?_
 refine vg rfl ?_
 refine vne rfl rfl ?_ ?_
 ·intro c168
  omega
 ·intro c168
  refine vv (rpk (v := .bool false) rfl rfl) ?_
  refine mvb rfl ?_
  refine vg rfl ?_
  refine mvi rfl ?_
  refine vg rfl ?_
  refine vne rfl rfl ?_ ?_
  ·intro c169
   omega
  ·intro c169
   refine vv (rpk (v := .bool false) rfl rfl) ?_
   refine mvb rfl ?_
   refine vg rfl ?_
   refine mvs rfl ?_
   refine vg rfl ?_
   refine mvf rfl ?_
   refine vg rfl ?_
   refine vo ?_
   refine xbs (ps := [(0, .int _ _), (1, .int _ _)]) (cs := [.int _ _, .int _ _]) sl118 zr2 sz2 rfl rfl rfl rfl rfl rfl ?_
   intro W170 x171 b172 nn173
   have s174 := x171.sz
   have z175 := z166.trans x171
   have z176 := z167.trans x171
   replace b3 := b3.ext x171
   replace b9 := b9.ext x171
   replace b15 := b15.ext x171
   replace b30 := b30.ext x171
   replace b36 := b36.ext x171
   replace b42 := b42.ext x171
   replace b57 := b57.ext x171
   replace b88 := b88.ext x171
   replace b107 := b107.ext x171
   replace b132 := b132.ext x171
   replace b150 := b150.ext x171
   refine vg rfl ?_
   refine vo ?_
   refine xbs (ps := [(0, .slice _ _ _)]) (cs := [.slice _ _ _]) sl119 zr118 sz118 rfl rfl rfl rfl rfl rfl ?_
   intro W177 x178 b179 nn180
   have s181 := x178.sz
   have z182 := z175.trans x178
   have z183 := z176.trans x178
   replace b3 := b3.ext x178
   replace b9 := b9.ext x178
   replace b15 := b15.ext x178
   replace b30 := b30.ext x178
   replace b36 := b36.ext x178
   replace b42 := b42.ext x178
   replace b57 := b57.ext x178
   replace b88 := b88.ext x178
   replace b107 := b107.ext x178
   replace b132 := b132.ext x178
   replace b150 := b150.ext x178
   replace b172 := b172.ext x178
   refine vg rfl ?_
   refine vo ?_
   have hl184 := RN.lit (k := .i64) (xs := [_, _]) 2 b172 (by intro q hq; simp only [List.mem_cons, List.not_mem_nil, or_false] at hq; simp only [kb]; omega) (TT.up W163 _ (Nat.le_refl _))
   have hm185 : MI TT W177 (some ⟨W170.heap.size, 0, none⟩) 1 1 [[1, 2]] := ⟨[[.slice _ _ _]], RS.lit (S := TT) _ b179 rfl (by simp) trivial rfl (by omega), ⟨_, _, _, rfl, hl184⟩, trivial⟩
   refine xcall e103 (rmInts_ok _ _ _ [[1, 2]] TT TT _ hm185 (by omega) (by intro r hr; simp at hr; rcases hr with rfl <;> simp <;> omega) (TT.up _)) rfl rfl ?_
   rintro _ W188 ⟨_, rn187, _, rfl, x189, hv186⟩
   have s190 := x189.sz
   have z191 := z182.trans x189
   have z192 := z183.trans x189
   replace b3 := b3.ext x189
   replace b9 := b9.ext x189
   replace b15 := b15.ext x189
   replace b30 := b30.ext x189
   replace b36 := b36.ext x189
   replace b42 := b42.ext x189
   replace b57 := b57.ext x189
   replace b88 := b88.ext x189
   replace b107 := b107.ext x189
   replace b132 := b132.ext x189
   replace b150 := b150.ext x189
   replace b172 := b172.ext x189
   replace b179 := b179.ext x189
   obtain rfl : rn187 = 1 := by have := hv186.len; simpa using this.symm
   replace hv186 := hv186.cast (rss' := ([[1, 2]] : List (List Rat))) (by rfl)
   refine ⟨_, rfl, ?_⟩
   refine vg rfl ?_
   refine vo ?_
   refine xcall e42 (mIs_true _ ((hv74.ext (((((((x83.trans x87).trans x96).trans x102).trans x106).trans x115).trans x121).trans x126)).ext z192) hv186 rfl) rfl rfl ?_
   rintro _ W193 ⟨rfl, x194⟩
   have s195 := x194.sz
   have z196 := z191.trans x194
   have z197 := z192.trans x194
   replace b3 := b3.ext x194
   replace b9 := b9.ext x194
   replace b15 := b15.ext x194
   replace b30 := b30.ext x194
   replace b36 := b36.ext x194
   replace b42 := b42.ext x194
   replace b57 := b57.ext x194
   replace b88 := b88.ext x194
   replace b107 := b107.ext x194
   replace b132 := b132.ext x194
   replace b150 := b150.ext x194
   replace b172 := b172.ext x194
   replace b179 := b179.ext x194
   refine ⟨_, rfl, ?_⟩
   refine vg rfl ?_
   refine vv (rnot (q := false) rfl rfl) ?_
   refine vv (rpk (v := .bool false) rfl rfl) ?_
   refine mvb rfl ?_
   refine vg rfl ?_
   refine mvs rfl ?_
   refine vg rfl ?_
   refine vo ?_
   refine xbs (ps := [(0, .int _ _)]) (cs := [.int _ _]) sl73 zr3 sz3 rfl rfl rfl rfl rfl rfl ?_
   intro W198 x199 b200 nn201
   have s202 := x199.sz
   have z203 := z196.trans x199
   have z204 := z197.trans x199
   replace b3 := b3.ext x199
   replace b9 := b9.ext x199
   replace b15 := b15.ext x199
   replace b30 := b30.ext x199
   replace b36 := b36.ext x199
   replace b42 := b42.ext x199
   replace b57 := b57.ext x199
   replace b88 := b88.ext x199
   replace b107 := b107.ext x199
   replace b132 := b132.ext x199
   replace b150 := b150.ext x199
   replace b172 := b172.ext x199
   replace b179 := b179.ext x199
   refine vg rfl ?_
   refine vo ?_
   have hl205 := RN.lit (k := .i64) (xs := [_]) 1 b200 (by intro q hq; simp only [List.mem_cons, List.not_mem_nil, or_false] at hq; simp only [kb]; omega) (TT.up W193 _ (Nat.le_refl _))
   refine xcall e62 (rInts5_true _ ((hv75.ext (((((((x83.trans x87).trans x96).trans x102).trans x106).trans x115).trans x121).trans x126)).ext z204) hl205 rfl) rfl rfl ?_
   rintro _ W206 ⟨rfl, x207⟩
   have s208 := x207.sz
   have z209 := z203.trans x207
   have z210 := z204.trans x207
   replace b3 := b3.ext x207
   replace b9 := b9.ext x207
   replace b15 := b15.ext x207
   replace b30 := b30.ext x207
   replace b36 := b36.ext x207
   replace b42 := b42.ext x207
   replace b57 := b57.ext x207
   replace b88 := b88.ext x207
   replace b107 := b107.ext x207
   replace b132 := b132.ext x207
   replace b150 := b150.ext x207
   replace b172 := b172.ext x207
   replace b179 := b179.ext x207
   replace b200 := b200.ext x207
   refine ⟨_, rfl, ?_⟩
   refine vg rfl ?_
   refine vv (rnot (q := false) rfl rfl) ?_
   refine vv (rpk (v := .bool false) rfl rfl) ?_
   refine mvb rfl ?_
   refine vg rfl ?_
   refine mvs rfl ?_
   refine vg rfl ?_
   refine mvf rfl ?_
   refine vg rfl ?_
   refine vo ?_
   refine xbs (ps := [(0, .int _ _), (1, .int _ _)]) (cs := [.int _ _, .int _ _]) sl118 zr2 sz2 rfl rfl rfl rfl rfl rfl ?_
   intro W211 x212 b213 nn214
   have s215 := x212.sz
   have z216 := z209.trans x212
   have z217 := z210.trans x212
   replace b3 := b3.ext x212
   replace b9 := b9.ext x212
   replace b15 := b15.ext x212
   replace b30 := b30.ext x212
   replace b36 := b36.ext x212
   replace b42 := b42.ext x212
   replace b57 := b57.ext x212
   replace b88 := b88.ext x212
   replace b107 := b107.ext x212
   replace b132 := b132.ext x212
   replace b150 := b150.ext x212
   replace b172 := b172.ext x212
   replace b179 := b179.ext x212
   replace b200 := b200.ext x212
   refine vg rfl ?_
   refine vo ?_
   refine xbs (ps := [(0, .slice _ _ _)]) (cs := [.slice _ _ _]) sl119 zr118 sz118 rfl rfl rfl rfl rfl rfl ?_
   intro W218 x219 b220 nn221
   have s222 := x219.sz
   have z223 := z216.trans x219
   have z224 := z217.trans x219
   replace b3 := b3.ext x219
   replace b9 := b9.ext x219
   replace b15 := b15.ext x219
   replace b30 := b30.ext x219
   replace b36 := b36.ext x219
   replace b42 := b42.ext x219
   replace b57 := b57.ext x219
   replace b88 := b88.ext x219
   replace b107 := b107.ext x219
   replace b132 := b132.ext x219
   replace b150 := b150.ext x219
   replace b172 := b172.ext x219
   replace b179 := b179.ext x219
   replace b200 := b200.ext x219
   replace b213 := b213.ext x219
   refine vg rfl ?_
   refine vo ?_
   have hl225 := RN.lit (k := .i64) (xs := [_, _]) 2 b213 (by intro q hq; simp only [List.mem_cons, List.not_mem_nil, or_false] at hq; simp only [kb]; omega) (TT.up W206 _ (Nat.le_refl _))
   have hm226 : MI TT W218 (some ⟨W211.heap.size, 0, none⟩) 1 1 [[-2, 1]] := ⟨[[.slice _ _ _]], RS.lit (S := TT) _ b220 rfl (by simp) trivial rfl (by omega), ⟨_, _, _, rfl, hl225⟩, trivial⟩
   refine xcall e103 (rmInts_ok _ _ _ [[-2, 1]] TT TT _ hm226 (by omega) (by intro r hr; simp at hr; rcases hr with rfl <;> simp <;> omega) (TT.up _)) rfl rfl ?_
   rintro _ W229 ⟨_, rn228, _, rfl, x230, hv227⟩
   have s231 := x230.sz
   have z232 := z223.trans x230
   have z233 := z224.trans x230
   replace b3 := b3.ext x230
   replace b9 := b9.ext x230
   replace b15 := b15.ext x230
   replace b30 := b30.ext x230
   replace b36 := b36.ext x230
   replace b42 := b42.ext x230
   replace b57 := b57.ext x230
   replace b88 := b88.ext x230
   replace b107 := b107.ext x230
   replace b132 := b132.ext x230
   replace b150 := b150.ext x230
   replace b172 := b172.ext x230
   replace b179 := b179.ext x230
   replace b200 := b200.ext x230
   replace b213 := b213.ext x230
   replace b220 := b220.ext x230
   obtain rfl : rn228 = 1 := by have := hv227.len; simpa using this.symm
   replace hv227 := hv227.cast (rss' := ([[-2, 1]] : List (List Rat))) (by rfl)
   refine ⟨_, rfl, ?_⟩
   refine vg rfl ?_
   refine vo ?_
   refine xcall e42 (mIs_true _ ((hv80.ext ((((((x87.trans x96).trans x102).trans x106).trans x115).trans x121).trans x126)).ext z233) hv227 rfl) rfl rfl ?_
   rintro _ W234 ⟨rfl, x235⟩
   have s236 := x235.sz
   have z237 := z232.trans x235
   have z238 := z233.trans x235
   replace b3 := b3.ext x235
   replace b9 := b9.ext x235
   replace b15 := b15.ext x235
   replace b30 := b30.ext x235
   replace b36 := b36.ext x235
   replace b42 := b42.ext x235
   replace b57 := b57.ext x235
   replace b88 := b88.ext x235
   replace b107 := b107.ext x235
   replace b132 := b132.ext x235
   replace b150 := b150.ext x235
   replace b172 := b172.ext x235
   replace b179 := b179.ext x235
   replace b200 := b200.ext x235
   replace b213 := b213.ext x235
   replace b220 := b220.ext x235
   refine ⟨_, rfl, ?_⟩
   refine vg rfl ?_
   refine vv (rnot (q := false) rfl rfl) ?_
   refine vv (rpk (v := .bool false) rfl rfl) ?_
   refine mvb rfl ?_
   refine vg rfl ?_
   refine mvi rfl ?_
   refine vg rfl ?_
   refine vne rfl rfl ?_ ?_
   ·intro c239
    omega
   ·intro c239
    refine vv (rpk (v := .bool false) rfl rfl) ?_
    refine vnil ?_
    refine V.condF rfl ?_
    refine V.skip ?_
    refine V.seq (V.reg rfl ?_)
    refine vo ?_
    refine xcall e121 (rOf_ok (1) (2) TT _ (by omega) (by omega) (TT.up _)) rfl rfl ?_
    rintro _ W241 ⟨_, rfl, x242, hv240⟩
    have s243 := x242.sz
    have z244 := z237.trans x242
    have z245 := z238.trans x242
    replace b3 := b3.ext x242
    replace b9 := b9.ext x242
    replace b15 := b15.ext x242
    replace b30 := b30.ext x242
    replace b36 := b36.ext x242
    replace b42 := b42.ext x242
    replace b57 := b57.ext x242
    replace b88 := b88.ext x242
    replace b107 := b107.ext x242
    replace b132 := b132.ext x242
    replace b150 := b150.ext x242
    replace b172 := b172.ext x242
    replace b179 := b179.ext x242
    replace b200 := b200.ext x242
    replace b213 := b213.ext x242
    replace b220 := b220.ext x242
    replace hv240 := QC.to hv240 (r' := (1/2 : Rat)) (by decide +kernel)
    obtain ⟨_, _, _, _, _, _, _, _, rfl⟩ := hv240.form
    refine ⟨_, rfl, ?_⟩
    refine vo ?_
    refine xal zc48 ?_
    intro W247 x248 b249 nn250
    have s251 := x248.sz
    have z252 := z244.trans x248
    have z253 := z245.trans x248
    have z254 := x248
    replace b3 := b3.ext x248
    replace b9 := b9.ext x248
    replace b15 := b15.ext x248
    replace b30 := b30.ext x248
    replace b36 := b36.ext x248
    replace b42 := b42.ext x248
    replace b57 := b57.ext x248
    replace b88 := b88.ext x248
    replace b107 := b107.ext x248
    replace b132 := b132.ext x248
    replace b150 := b150.ext x248
    replace b172 := b172.ext x248
    replace b179 := b179.ext x248
    replace b200 := b200.ext x248
    replace b213 := b213.ext x248
    replace b220 := b220.ext x248
    refine vo ?_
    refine sta (cs' := [_, _, _, _]) b249 rfl rfl sz48 rfl rfl rfl ?_
    intro W255 y256 b249
    have z257 := z252.below (y256.below (by omega))
    have z258 := z253.below (y256.below (by omega))
    have z259 := z254.below (y256.below (by omega))
    replace b3 := b3.wr y256 (by omega)
    replace b9 := b9.wr y256 (by omega)
    replace b15 := b15.wr y256 (by omega)
    replace b30 := b30.wr y256 (by omega)
    replace b36 := b36.wr y256 (by omega)
    replace b42 := b42.wr y256 (by omega)
    replace b57 := b57.wr y256 (by omega)
    replace b88 := b88.wr y256 (by omega)
    replace b107 := b107.wr y256 (by omega)
    replace b132 := b132.wr y256 (by omega)
    replace b150 := b150.wr y256 (by omega)
    replace b172 := b172.wr y256 (by omega)
    replace b179 := b179.wr y256 (by omega)
    replace b200 := b200.wr y256 (by omega)
    replace b213 := b213.wr y256 (by omega)
    replace b220 := b220.wr y256 (by omega)
    have s260 := y256.size
    refine vnil ?_
    refine V.seq (V.regJ (ι := Nat × Nat) [(0, .bool false), (13, .slice _ _ _), (15, .int _ _), (16, .pointer (some ⟨_, _, none⟩)), (17, .int _ _), (18, .slice _ _ _), (19, .int _ _), (20, .pointer (some ⟨_, _, none⟩))] (fun ⟨nb, nb2⟩ => [(21, .slice (some ⟨nb, 0, none⟩) 2 2)]) (fun ⟨nb, nb2⟩ W => Ext W255 W ∧ MC TT W (some ⟨nb, 0, none⟩) 2 2 [[(3/2 : Rat), -2], [-1/2, 1]]) mixed rfl ⟨rfl, rfl, rfl, rfl, rfl, rfl, rfl, rfl, trivial⟩ ?_ ?_)
    ·skip
     intro W262 x263
     have s264 := x263.sz
     have z267 := z259.trans x263
     have z268 := x263
     replace b3 := b3.ext x263
     replace b9 := b9.ext x263
     replace b15 := b15.ext x263
     replace b30 := b30.ext x263
     replace b36 := b36.ext x263
     replace b42 := b42.ext x263
     replace b57 := b57.ext x263
     replace b88 := b88.ext x263
     replace b107 := b107.ext x263
     replace b132 := b132.ext x263
     replace b150 := b150.ext x263
     replace b172 := b172.ext x263
     replace b179 := b179.ext x263
     replace b200 := b200.ext x263
     replace b213 := b213.ext x263
     replace b220 := b220.ext x263
     replace b249 := b249.ext x263
     have q269 := Ext.refl W262
     have r270 := b3
     have r271 := b9
     have r272 := b15
     have r273 := b30
     have r274 := b36
     have r275 := b42
     have r276 := b57
     have r277 := b88
     have r278 := b107
     have r279 := b132
     have r280 := b150
     have r281 := b172
     have r282 := b179
     have r283 := b200
     have r284 := b213
     have r285 := b220
     have r286 := b249
     refine tk 3 rfl (by kernel_rfl) q269 (pv (fun _ y287 => rldb4 rfl ag48 (r286.ext y287) rfl rfl rfl rfl )) ?_
     refine ef 0 (by kernel_rfl) rfl ?_
     refine xcall e121 (rOf_ok (3) (2) TT _ (by omega) (by omega) (TT.up _)) rfl rfl ?_
     rintro _ W289 ⟨_, rfl, x290, hv288⟩
     have s291 := x290.sz
     have z294 := z267.trans x290
     have z295 := z268.trans x290
     have q296 := q269.trans x290
     replace hv288 := QC.to hv288 (r' := (3/2 : Rat)) (by decide +kernel)
     obtain ⟨_, _, _, _, _, _, _, _, rfl⟩ := hv288.form
     refine ⟨_, rfl, ?_⟩
     refine ⟨fun _ => q296, ?_⟩
     refine ef 1 (by kernel_rfl) rfl ?_
     refine xcall e116 (rInt_ok (-2) TT _ (by omega) (TT.up _)) rfl rfl ?_
     rintro _ W298 ⟨_, rfl, x299, hv297⟩
     have s300 := x299.sz
     have z303 := z294.trans x299
     have z304 := z295.trans x299
     have q305 := q296.trans x299
     replace hv297 := QC.to hv297 (r' := (-2 : Rat)) (by decide +kernel)
     obtain ⟨_, _, _, _, _, _, _, _, rfl⟩ := hv297.form
     refine ⟨_, rfl, ?_⟩
     refine ⟨fun _ => q305, ?_⟩
     refine efs 2 [4] (by kernel_rfl) ⟨?_, ?_, trivial⟩
     ·skip
      refine efI rfl ?_
      refine xbs (zs := [.bool false, .slice _ _ _, .bool false, .slice _ _ _]) (ps := [(0, .agg #[_, _, _, _]), (1, .agg #[_, _, _, _])]) (cs := [.bool _, .slice _ _ _, .bool _, .slice _ _ _, .bool _, .slice _ _ _, .bool _, .slice _ _ _]) sl23 zr48 sz48 rfl rfl rfl rfl rfl (fillS2 _ _ _ _ _ _ _ _ _ _ _ _) ?_
      intro W306 x307 b308 nn309
      have s310 := x307.sz
      have z313 := z303.trans x307
      have z314 := z304.trans x307
      have q315 := q305.trans x307
      refine ⟨fun _ => q315, ?_⟩
      refine ef 4 (by kernel_rfl) rfl ?_
      refine xcall e122 (rNegQ_ok [_, _, _, _] _ 1 TT _ _ (((hv240.ext z313)).qa (szB_sz (by decide +kernel))) (by omega) (by omega) (TT.up _)) rfl rfl ?_
      rintro _ W317 ⟨_, rfl, x318, hv316⟩
      have s319 := x318.sz
      have z323 := z314.trans x318
      replace b308 := b308.ext x318
      have q324 := q315.trans x318
      replace hv316 := QC.to hv316 (r' := (-1/2 : Rat)) (by decide +kernel)
      obtain ⟨_, _, _, _, _, _, _, _, rfl⟩ := hv316.form
      refine ⟨_, rfl, ?_⟩
      refine ⟨fun _ => q324, ?_⟩
      refine ef 5 (by kernel_rfl) rfl ?_
      refine xcall e116 (rInt_ok (1) TT _ (by omega) (TT.up _)) rfl rfl ?_
      rintro _ W326 ⟨_, rfl, x327, hv325⟩
      have s328 := x327.sz
      have z332 := z323.trans x327
      replace b308 := b308.ext x327
      have q333 := q324.trans x327
      replace hv325 := QC.to hv325 (r' := (1 : Rat)) (by decide +kernel)
      obtain ⟨_, _, _, _, _, _, _, _, rfl⟩ := hv325.form
      refine ⟨_, rfl, ?_⟩
      refine ⟨fun _ => q333, ?_⟩
      refine ef 6 (by kernel_rfl) rfl ?_
      refine xbs (zs := [.bool false, .slice _ _ _, .bool false, .slice _ _ _]) (ps := [(0, .agg #[_, _, _, _]), (1, .agg #[_, _, _, _])]) (cs := [.bool _, .slice _ _ _, .bool _, .slice _ _ _, .bool _, .slice _ _ _, .bool _, .slice _ _ _]) sl23 zr48 sz48 rfl rfl rfl rfl rfl (fillS2 _ _ _ _ _ _ _ _ _ _ _ _) ?_
      intro W334 x335 b336 nn337
      have s338 := x335.sz
      have z342 := z332.trans x335
      replace b308 := b308.ext x335
      have q343 := q333.trans x335
      refine ⟨fun _ => q343, ?_⟩
      refine ef 7 (by kernel_rfl) rfl ?_
      refine xbs (ps := [(0, .slice _ _ _), (1, .slice _ _ _)]) (cs := [.slice _ _ _, .slice _ _ _]) sl22 zr23 sz23 rfl rfl rfl rfl rfl rfl ?_
      intro W344 x345 b346 nn347
      have s348 := x345.sz
      have z352 := z342.trans x345
      replace b308 := b308.ext x345
      replace b336 := b336.ext x345
      have q353 := q343.trans x345
      refine ⟨fun _ => q353, ?_⟩
      refine tk 8 rfl (by kernel_rfl) q353 (pv (fun _ y354 => ras (v := .slice _ _ _) rfl)) ?_
      refine dn (by kernel_rfl) ?_
      have hv355 : GC TT W344 (some ⟨W298.heap.size, 0, none⟩) 2 2 [_, _] := ⟨[[.bool _, .slice _ _ _, .bool _, .slice _ _ _], [.bool _, .slice _ _ _, .bool _, .slice _ _ _]], RS.lit (s := 4) (S := TT) (n := 2) _ b308 rfl (by simp) trivial rfl (by omega), (hv288.ext (((((x299.trans x307).trans x318).trans x327).trans x335).trans x345)), (hv297.ext ((((x307.trans x318).trans x327).trans x335).trans x345)), trivial⟩
      have hv356 : GC TT W344 (some ⟨W326.heap.size, 0, none⟩) 2 2 [_, _] := ⟨[[.bool _, .slice _ _ _, .bool _, .slice _ _ _], [.bool _, .slice _ _ _, .bool _, .slice _ _ _]], RS.lit (s := 4) (S := TT) (n := 2) _ b336 rfl (by simp) trivial rfl (by omega), (hv316.ext ((x327.trans x335).trans x345)), (hv325.ext (x335.trans x345)), trivial⟩
      have hwant : MC TT W344 (some ⟨W334.heap.size, 0, none⟩) 2 2 [_, _] := ⟨[[.slice _ _ _], [.slice _ _ _]], RS.lit (s := 1) (S := TT) (n := 2) _ b346 rfl (by simp) trivial rfl (by omega), ⟨_, _, _, rfl, hv355⟩, ⟨_, _, _, rfl, hv356⟩, trivial⟩
      exact ⟨(W334.heap.size, 0), ⟨rfl, rfl, rfl, rfl, rfl, rfl, rfl, rfl, trivial⟩, ⟨rfl, trivial⟩, z352, hwant⟩
     ·skip
      refine efI rfl ?_
      refine xcall e122 (rNegQ_ok [_, _, _, _] _ 1 TT _ _ (((hv240.ext z303)).qa (szB_sz (by decide +kernel))) (by omega) (by omega) (TT.up _)) rfl rfl ?_
      rintro _ W358 ⟨_, rfl, x359, hv357⟩
      have s360 := x359.sz
      have z364 := z304.trans x359
      have q365 := q305.trans x359
      replace hv357 := QC.to hv357 (r' := (-1/2 : Rat)) (by decide +kernel)
      obtain ⟨_, _, _, _, _, _, _, _, rfl⟩ := hv357.form
      refine ⟨_, rfl, ?_⟩
      refine ⟨fun _ => q365, ?_⟩
      refine efs 2 [5] (by kernel_rfl) ⟨?_, ?_, trivial⟩
      ·skip
       refine efI rfl ?_
       refine xbs (zs := [.bool false, .slice _ _ _, .bool false, .slice _ _ _]) (ps := [(0, .agg #[_, _, _, _]), (1, .agg #[_, _, _, _])]) (cs := [.bool _, .slice _ _ _, .bool _, .slice _ _ _, .bool _, .slice _ _ _, .bool _, .slice _ _ _]) sl23 zr48 sz48 rfl rfl rfl rfl rfl (fillS2 _ _ _ _ _ _ _ _ _ _ _ _) ?_
       intro W366 x367 b368 nn369
       have s370 := x367.sz
       have z374 := z364.trans x367
       have q375 := q365.trans x367
       refine ⟨fun _ => q375, ?_⟩
       refine ef 5 (by kernel_rfl) rfl ?_
       refine xcall e116 (rInt_ok (1) TT _ (by omega) (TT.up _)) rfl rfl ?_
       rintro _ W377 ⟨_, rfl, x378, hv376⟩
       have s379 := x378.sz
       have z383 := z374.trans x378
       replace b368 := b368.ext x378
       have q384 := q375.trans x378
       replace hv376 := QC.to hv376 (r' := (1 : Rat)) (by decide +kernel)
       obtain ⟨_, _, _, _, _, _, _, _, rfl⟩ := hv376.form
       refine ⟨_, rfl, ?_⟩
       refine ⟨fun _ => q384, ?_⟩
       refine ef 6 (by kernel_rfl) rfl ?_
       refine xbs (zs := [.bool false, .slice _ _ _, .bool false, .slice _ _ _]) (ps := [(0, .agg #[_, _, _, _]), (1, .agg #[_, _, _, _])]) (cs := [.bool _, .slice _ _ _, .bool _, .slice _ _ _, .bool _, .slice _ _ _, .bool _, .slice _ _ _]) sl23 zr48 sz48 rfl rfl rfl rfl rfl (fillS2 _ _ _ _ _ _ _ _ _ _ _ _) ?_
       intro W385 x386 b387 nn388
       have s389 := x386.sz
       have z393 := z383.trans x386
       replace b368 := b368.ext x386
       have q394 := q384.trans x386
       refine ⟨fun _ => q394, ?_⟩
       refine ef 7 (by kernel_rfl) rfl ?_
       refine xbs (ps := [(0, .slice _ _ _), (1, .slice _ _ _)]) (cs := [.slice _ _ _, .slice _ _ _]) sl22 zr23 sz23 rfl rfl rfl rfl rfl rfl ?_
       intro W395 x396 b397 nn398
       have s399 := x396.sz
       have z403 := z393.trans x396
       replace b368 := b368.ext x396
       replace b387 := b387.ext x396
       have q404 := q394.trans x396
       refine ⟨fun _ => q404, ?_⟩
       refine tk 8 rfl (by kernel_rfl) q404 (pv (fun _ y405 => ras (v := .slice _ _ _) rfl)) ?_
       refine dn (by kernel_rfl) ?_
       have hv406 : GC TT W395 (some ⟨W358.heap.size, 0, none⟩) 2 2 [_, _] := ⟨[[.bool _, .slice _ _ _, .bool _, .slice _ _ _], [.bool _, .slice _ _ _, .bool _, .slice _ _ _]], RS.lit (s := 4) (S := TT) (n := 2) _ b368 rfl (by simp) trivial rfl (by omega), (hv288.ext (((((x299.trans x359).trans x367).trans x378).trans x386).trans x396)), (hv297.ext ((((x359.trans x367).trans x378).trans x386).trans x396)), trivial⟩
       have hv407 : GC TT W395 (some ⟨W377.heap.size, 0, none⟩) 2 2 [_, _] := ⟨[[.bool _, .slice _ _ _, .bool _, .slice _ _ _], [.bool _, .slice _ _ _, .bool _, .slice _ _ _]], RS.lit (s := 4) (S := TT) (n := 2) _ b387 rfl (by simp) trivial rfl (by omega), (hv357.ext (((x367.trans x378).trans x386).trans x396)), (hv376.ext (x386.trans x396)), trivial⟩
       have hwant : MC TT W395 (some ⟨W385.heap.size, 0, none⟩) 2 2 [_, _] := ⟨[[.slice _ _ _], [.slice _ _ _]], RS.lit (s := 1) (S := TT) (n := 2) _ b397 rfl (by simp) trivial rfl (by omega), ⟨_, _, _, rfl, hv406⟩, ⟨_, _, _, rfl, hv407⟩, trivial⟩
       exact ⟨(W385.heap.size, 0), ⟨rfl, rfl, rfl, rfl, rfl, rfl, rfl, rfl, trivial⟩, ⟨rfl, trivial⟩, z403, hwant⟩
      ·skip
       refine efI rfl ?_
       refine xcall e116 (rInt_ok (1) TT _ (by omega) (TT.up _)) rfl rfl ?_
       rintro _ W409 ⟨_, rfl, x410, hv408⟩
       have s411 := x410.sz
       have z415 := z364.trans x410
       have q416 := q365.trans x410
       replace hv408 := QC.to hv408 (r' := (1 : Rat)) (by decide +kernel)
       obtain ⟨_, _, _, _, _, _, _, _, rfl⟩ := hv408.form
       refine ⟨_, rfl, ?_⟩
       refine ⟨fun _ => q416, ?_⟩
       refine efs 2 [6] (by kernel_rfl) ⟨?_, ?_, trivial⟩
       ·skip
        refine efI rfl ?_
        refine xbs (zs := [.bool false, .slice _ _ _, .bool false, .slice _ _ _]) (ps := [(0, .agg #[_, _, _, _]), (1, .agg #[_, _, _, _])]) (cs := [.bool _, .slice _ _ _, .bool _, .slice _ _ _, .bool _, .slice _ _ _, .bool _, .slice _ _ _]) sl23 zr48 sz48 rfl rfl rfl rfl rfl (fillS2 _ _ _ _ _ _ _ _ _ _ _ _) ?_
        intro W417 x418 b419 nn420
        have s421 := x418.sz
        have z425 := z415.trans x418
        have q426 := q416.trans x418
        refine ⟨fun _ => q426, ?_⟩
        refine ef 6 (by kernel_rfl) rfl ?_
        refine xbs (zs := [.bool false, .slice _ _ _, .bool false, .slice _ _ _]) (ps := [(0, .agg #[_, _, _, _]), (1, .agg #[_, _, _, _])]) (cs := [.bool _, .slice _ _ _, .bool _, .slice _ _ _, .bool _, .slice _ _ _, .bool _, .slice _ _ _]) sl23 zr48 sz48 rfl rfl rfl rfl rfl (fillS2 _ _ _ _ _ _ _ _ _ _ _ _) ?_
        intro W427 x428 b429 nn430
        have s431 := x428.sz
        have z435 := z425.trans x428
        replace b419 := b419.ext x428
        have q436 := q426.trans x428
        refine ⟨fun _ => q436, ?_⟩
        refine ef 7 (by kernel_rfl) rfl ?_
        refine xbs (ps := [(0, .slice _ _ _), (1, .slice _ _ _)]) (cs := [.slice _ _ _, .slice _ _ _]) sl22 zr23 sz23 rfl rfl rfl rfl rfl rfl ?_
        intro W437 x438 b439 nn440
        have s441 := x438.sz
        have z445 := z435.trans x438
        replace b419 := b419.ext x438
        replace b429 := b429.ext x438
        have q446 := q436.trans x438
        refine ⟨fun _ => q446, ?_⟩
        refine tk 8 rfl (by kernel_rfl) q446 (pv (fun _ y447 => ras (v := .slice _ _ _) rfl)) ?_
        refine dn (by kernel_rfl) ?_
        have hv448 : GC TT W437 (some ⟨W409.heap.size, 0, none⟩) 2 2 [_, _] := ⟨[[.bool _, .slice _ _ _, .bool _, .slice _ _ _], [.bool _, .slice _ _ _, .bool _, .slice _ _ _]], RS.lit (s := 4) (S := TT) (n := 2) _ b419 rfl (by simp) trivial rfl (by omega), (hv288.ext (((((x299.trans x359).trans x410).trans x418).trans x428).trans x438)), (hv297.ext ((((x359.trans x410).trans x418).trans x428).trans x438)), trivial⟩
        have hv449 : GC TT W437 (some ⟨W417.heap.size, 0, none⟩) 2 2 [_, _] := ⟨[[.bool _, .slice _ _ _, .bool _, .slice _ _ _], [.bool _, .slice _ _ _, .bool _, .slice _ _ _]], RS.lit (s := 4) (S := TT) (n := 2) _ b429 rfl (by simp) trivial rfl (by omega), (hv357.ext (((x410.trans x418).trans x428).trans x438)), (hv408.ext ((x418.trans x428).trans x438)), trivial⟩
        have hwant : MC TT W437 (some ⟨W427.heap.size, 0, none⟩) 2 2 [_, _] := ⟨[[.slice _ _ _], [.slice _ _ _]], RS.lit (s := 1) (S := TT) (n := 2) _ b439 rfl (by simp) trivial rfl (by omega), ⟨_, _, _, rfl, hv448⟩, ⟨_, _, _, rfl, hv449⟩, trivial⟩
        exact ⟨(W427.heap.size, 0), ⟨rfl, rfl, rfl, rfl, rfl, rfl, rfl, rfl, trivial⟩, ⟨rfl, trivial⟩, z445, hwant⟩
       ·skip
        refine efI rfl ?_
        refine xbs (zs := [.bool false, .slice _ _ _, .bool false, .slice _ _ _]) (ps := [(0, .agg #[_, _, _, _]), (1, .agg #[_, _, _, _])]) (cs := [.bool _, .slice _ _ _, .bool _, .slice _ _ _, .bool _, .slice _ _ _, .bool _, .slice _ _ _]) sl23 zr48 sz48 rfl rfl rfl rfl rfl (fillS2 _ _ _ _ _ _ _ _ _ _ _ _) ?_
        intro W450 x451 b452 nn453
        have s454 := x451.sz
        have z458 := z415.trans x451
        have q459 := q416.trans x451
        refine ⟨fun _ => q459, ?_⟩
        refine ef 2 (by kernel_rfl) rfl ?_
        refine xbs (zs := [.bool false, .slice _ _ _, .bool false, .slice _ _ _]) (ps := [(0, .agg #[_, _, _, _]), (1, .agg #[_, _, _, _])]) (cs := [.bool _, .slice _ _ _, .bool _, .slice _ _ _, .bool _, .slice _ _ _, .bool _, .slice _ _ _]) sl23 zr48 sz48 rfl rfl rfl rfl rfl (fillS2 _ _ _ _ _ _ _ _ _ _ _ _) ?_
        intro W460 x461 b462 nn463
        have s464 := x461.sz
        have z468 := z458.trans x461
        replace b452 := b452.ext x461
        have q469 := q459.trans x461
        refine ⟨fun _ => q469, ?_⟩
        refine ef 7 (by kernel_rfl) rfl ?_
        refine xbs (ps := [(0, .slice _ _ _), (1, .slice _ _ _)]) (cs := [.slice _ _ _, .slice _ _ _]) sl22 zr23 sz23 rfl rfl rfl rfl rfl rfl ?_
        intro W470 x471 b472 nn473
        have s474 := x471.sz
        have z478 := z468.trans x471
        replace b452 := b452.ext x471
        replace b462 := b462.ext x471
        have q479 := q469.trans x471
        refine ⟨fun _ => q479, ?_⟩
        refine tk 8 rfl (by kernel_rfl) q479 (pv (fun _ y480 => ras (v := .slice _ _ _) rfl)) ?_
        refine dn (by kernel_rfl) ?_
        have hv481 : GC TT W470 (some ⟨W450.heap.size, 0, none⟩) 2 2 [_, _] := ⟨[[.bool _, .slice _ _ _, .bool _, .slice _ _ _], [.bool _, .slice _ _ _, .bool _, .slice _ _ _]], RS.lit (s := 4) (S := TT) (n := 2) _ b462 rfl (by simp) trivial rfl (by omega), (hv288.ext (((((x299.trans x359).trans x410).trans x451).trans x461).trans x471)), (hv297.ext ((((x359.trans x410).trans x451).trans x461).trans x471)), trivial⟩
        have hv482 : GC TT W470 (some ⟨W409.heap.size, 0, none⟩) 2 2 [_, _] := ⟨[[.bool _, .slice _ _ _, .bool _, .slice _ _ _], [.bool _, .slice _ _ _, .bool _, .slice _ _ _]], RS.lit (s := 4) (S := TT) (n := 2) _ b452 rfl (by simp) trivial rfl (by omega), (hv357.ext (((x410.trans x451).trans x461).trans x471)), (hv408.ext ((x451.trans x461).trans x471)), trivial⟩
        have hwant : MC TT W470 (some ⟨W460.heap.size, 0, none⟩) 2 2 [_, _] := ⟨[[.slice _ _ _], [.slice _ _ _]], RS.lit (s := 1) (S := TT) (n := 2) _ b472 rfl (by simp) trivial rfl (by omega), ⟨_, _, _, rfl, hv481⟩, ⟨_, _, _, rfl, hv482⟩, trivial⟩
        exact ⟨(W460.heap.size, 0), ⟨rfl, rfl, rfl, rfl, rfl, rfl, rfl, rfl, trivial⟩, ⟨rfl, trivial⟩, z478, hwant⟩
    ·skip
     intro i485 E486 W484 h487
     obtain ⟨nb, nb2⟩ := i485
     simp only at h487
     show thenV _ _ .normal (ups (ups _ _) [(21, .slice (some ⟨nb, 0, none⟩) 2 2)]) _ _
     obtain ⟨x488, hwant⟩ := h487
     have s489 := x488.sz
     have z490 := z257.trans x488
     have z491 := z258.trans x488
     have z492 := z259.trans x488
     replace b3 := b3.ext x488
     replace b9 := b9.ext x488
     replace b15 := b15.ext x488
     replace b30 := b30.ext x488
     replace b36 := b36.ext x488
     replace b42 := b42.ext x488
     replace b57 := b57.ext x488
     replace b88 := b88.ext x488
     replace b107 := b107.ext x488
     replace b132 := b132.ext x488
     replace b150 := b150.ext x488
     replace b172 := b172.ext x488
     replace b179 := b179.ext x488
     replace b200 := b200.ext x488
     replace b213 := b213.ext x488
     replace b220 := b220.ext x488
     replace b249 := b249.ext x488
     refine V.seq (V.regD mixed rfl ?_)
     intro W494 x495
     have s496 := x495.sz
     have z497 := z490.trans x495
     have z498 := z491.trans x495
     have z499 := z492.trans x495
     replace b3 := b3.ext x495
     replace b9 := b9.ext x495
     replace b15 := b15.ext x495
     replace b30 := b30.ext x495
     replace b36 := b36.ext x495
     replace b42 := b42.ext x495
     replace b57 := b57.ext x495
     replace b88 := b88.ext x495
     replace b107 := b107.ext x495
     replace b132 := b132.ext x495
     replace b150 := b150.ext x495
     replace b172 := b172.ext x495
     replace b179 := b179.ext x495
     replace b200 := b200.ext x495
     replace b213 := b213.ext x495
     replace b220 := b220.ext x495
     replace b249 := b249.ext x495
     have q501 := Ext.refl W494
     have r502 := b3
     have r503 := b9
     have r504 := b15
     have r505 := b30
     have r506 := b36
     have r507 := b42
     have r508 := b57
     have r509 := b88
     have r510 := b107
     have r511 := b132
     have r512 := b150
     have r513 := b172
     have r514 := b179
     have r515 := b200
     have r516 := b213
     have r517 := b220
     have r518 := b249
     refine tk 0 rfl (by kernel_rfl) q501 (pv (fun _ y519 => rmv (v := .slice _ _ _) rfl)) ?_
     refine ef 1 (by kernel_rfl) rfl ?_
     refine xbs (ps := [(0, .int _ _), (1, .int _ _)]) (cs := [.int _ _, .int _ _]) sl118 zr2 sz2 rfl rfl rfl rfl rfl rfl ?_
     intro W520 x521 b522 nn523
     have s524 := x521.sz
     have z525 := z497.trans x521
     have z526 := z498.trans x521
     have z527 := z499.trans x521
     have q529 := q501.trans x521
     refine ⟨fun _ => q529, ?_⟩
     refine ef 2 (by kernel_rfl) rfl ?_
     have hl530 := RN.lit (k := .i64) (xs := [_, _]) 2 b522 (by intro q hq; simp only [List.mem_cons, List.not_mem_nil, or_false] at hq; simp only [kb]; omega) (TT.up W494 _ (Nat.le_refl _))
     refine xcall e82 (vFrom_ok _ _ _ [1, 0] TT TT _ hl530 (by omega) (TT.up _)) rfl rfl ?_
     rintro _ W533 ⟨_, rn532, _, rfl, x534, hv531⟩
     have s535 := x534.sz
     have z536 := z525.trans x534
     have z537 := z526.trans x534
     have z538 := z527.trans x534
     have q540 := q529.trans x534
     obtain rfl : rn532 = 2 := by have := hv531.len; simpa using this.symm
     replace hv531 := hv531.cast (rs' := ([1, 0] : List Rat)) (by rfl)
     refine ⟨_, rfl, ?_⟩
     refine ⟨fun _ => q540, ?_⟩
     refine ef 3 (by kernel_rfl) rfl ?_
     refine xcall e56 (vIs_true _ ((hv118.ext x126).ext z537) hv531 rfl) rfl rfl ?_
     rintro _ W541 ⟨rfl, x542⟩
     have s543 := x542.sz
     have z544 := z536.trans x542
     have z545 := z537.trans x542
     have z546 := z538.trans x542
     have q548 := q540.trans x542
     refine ⟨_, rfl, ?_⟩
     refine ⟨fun _ => q548, ?_⟩
     refine tk 4 rfl (by kernel_rfl) q548 (pv (fun _ y549 => rmv (v := .bool true) rfl)) ?_
     refine tk 5 rfl (by kernel_rfl) q548 (pg rfl (fun _ y550 => rmv (v := .int _ _) rfl)) ?_
     refine tk 6 rfl (by kernel_rfl) q548 (pg rfl (fun _ y551 => rcmp (cEq (t := true) rfl) rfl rfl rfl)) ?_
     refine tk 7 rfl (by kernel_rfl) q548 (pv (fun _ y552 => rpk (v := .bool true) rfl rfl)) ?_
     refine tk 8 rfl (by kernel_rfl) q548 (pv (fun _ y553 => rmv (v := .bool true) rfl)) ?_
     refine tk 9 rfl (by kernel_rfl) q548 (pg rfl (fun _ y554 => rldb4 rfl ag48 (r511.ext y554) rfl rfl rfl rfl )) ?_
     refine efg 10 (by kernel_rfl) rfl rfl ?_
     refine xcall e116 (rInt_ok (2) TT _ (by omega) (TT.up _)) rfl rfl ?_
     rintro _ W556 ⟨_, rfl, x557, hv555⟩
     have s558 := x557.sz
     have z559 := z544.trans x557
     have z560 := z545.trans x557
     have z561 := z546.trans x557
     have q563 := q548.trans x557
     replace hv555 := QC.to hv555 (r' := (2 : Rat)) (by decide +kernel)
     obtain ⟨_, _, _, _, _, _, _, _, rfl⟩ := hv555.form
     refine ⟨_, rfl, ?_⟩
     refine ⟨fun _ => q563, ?_⟩
     refine efg 11 (by kernel_rfl) rfl rfl ?_
     refine xcall e37 (qIs5_true _ (q1 := [_, _, _, _]) (q2 := [_, _, _, _]) (hv124.ext z560) hv555 rfl) rfl rfl ?_
     rintro _ W564 ⟨rfl, x565⟩
     have s566 := x565.sz
     have z567 := z559.trans x565
     have z569 := z561.trans x565
     have q571 := q563.trans x565
     refine ⟨_, rfl, ?_⟩
     refine ⟨fun _ => q571, ?_⟩
     refine tk 12 rfl (by kernel_rfl) q571 (pv (fun _ y572 => rpk (v := .bool true) rfl rfl)) ?_
     refine tk 13 rfl (by kernel_rfl) q571 (pv (fun _ y573 => rmv (v := .bool true) rfl)) ?_
     refine tk 14 rfl (by kernel_rfl) q571 (pg rfl (fun _ y574 => rmv (v := .int _ _) rfl)) ?_
     refine tk 15 rfl (by kernel_rfl) q571 (pg rfl (fun _ y575 => rcmp (cEq (t := true) rfl) rfl rfl rfl)) ?_
     refine tk 16 rfl (by kernel_rfl) q571 (pv (fun _ y576 => rpk (v := .bool true) rfl rfl)) ?_
     refine tk 17 rfl (by kernel_rfl) q571 (pv (fun _ y577 => rmv (v := .bool true) rfl)) ?_
     refine tk 18 rfl (by kernel_rfl) q571 (pg rfl (fun _ y578 => rmv (v := .slice _ _ _) rfl)) ?_
     refine tk 19 rfl (by kernel_rfl) q571 (pg rfl (fun _ y579 => rmv (v := .slice _ _ _) rfl)) ?_
     refine efg 20 (by kernel_rfl) rfl rfl ?_
     refine xcall e42 (mIs_true _ ((hv142.ext (((((((((((((x149.trans x159).trans x164).trans x171).trans x178).trans x189).trans x194).trans x199).trans x207).trans x212).trans x219).trans x230).trans x235).trans x242)).ext z569) (hwant.ext (((((x495.trans x521).trans x534).trans x542).trans x557).trans x565)) rfl) rfl rfl ?_
     rintro _ W580 ⟨rfl, x581⟩
     have s582 := x581.sz
     have z583 := z567.trans x581
     have q587 := q571.trans x581
     refine ⟨_, rfl, ?_⟩
     refine ⟨fun _ => q587, ?_⟩
     refine tk 21 rfl (by kernel_rfl) q587 (pv (fun _ y588 => rpk (v := .bool true) rfl rfl)) ?_
     refine tk 22 rfl (by kernel_rfl) q587 (pv (fun _ y589 => rmv (v := .bool true) rfl)) ?_
     refine tk 23 rfl (by kernel_rfl) q587 (pg rfl (fun _ y590 => rmv (v := .int _ _) rfl)) ?_
     refine tk 24 rfl (by kernel_rfl) q587 (pg rfl (fun _ y591 => rcmp (cEq (t := true) rfl) rfl rfl rfl)) ?_
     refine tk 25 rfl (by kernel_rfl) q587 (pv (fun _ y592 => rpk (v := .bool true) rfl rfl)) ?_
     refine tk 26 rfl (by kernel_rfl) q587 (pv (fun _ y593 => ras (v := .bool true) rfl)) ?_
     refine dn (by kernel_rfl) ?_
     refine V.ret ?_
     refine ⟨[.bool true], ⟨rfl, trivial⟩, ?_⟩
     exact ⟨rfl, z583⟩
end Go.Proofs.YtknbjfefeeojlaaGreat
/- What the laws of layer 5 ask of package solve's functions: the reduced form of a matrix, sizes. -/
namespace Go.Proofs.YtknbjfefeeojlaaGreat
open Go.RowKit
attribute [local irreducible] RV VH V OpF Calls
def pivs (rss : List (List Rat)) : List Int := (redS (padm rss) (colsN rss)).2.1
theorem pow5_le {k m : Nat} (h : k ≤ m) : 5 ^ k ≤ 5 ^ m := Nat.pow_le_pow_right (by omega) h
theorem szV.set {L : Nat} {xs : List Rat} (h : szV L xs) {i : Nat} {r : Rat} (hr : sz L r) : szV L (xs.set i r) := fun x hx => by
  rcases List.mem_or_eq_of_mem_set hx with h' | rfl
  · exact h x h'
  · exact hr
theorem szV.mono' {L L' : Nat} {xs : List Rat} (h : szV L xs) (hL : L ≤ L') : szV L' xs := fun x hx => (h x hx).mono hL
theorem padm_sz {L : Nat} {rss : List (List Rat)} (h : szR L rss) (hL : 1 ≤ L) : szR L (padm rss) := gridm_sz fun i k => h.matI hL _ _
theorem red_sz {L : Nat} {rss : List (List Rat)} (h : szR L rss) (hL : 1 ≤ L) (n : Nat) : szR (L * 5 ^ n) (redS (padm rss) n).1 := (redS_all (padm_rect rss) (padm_sz h hL) hL n).2.2.2
theorem redR_sz {L : Nat} {rss : List (List Rat)} (h : szR L rss) (hL : 1 ≤ L) : szR (L * 5 ^ colsN rss) (redR rss) := fun r hr => red_sz h hL _ r (List.mem_of_mem_take hr)
theorem comS_sz {a b : Nat} {rss rows : List (List Rat)} (piv : List Int) (h0 : szR a rss) (h1 : szR b rows) (ha : 1 ≤ a) (hb : 1 ≤ b) (i : Nat) : ∀ j, szV (1 + j * (a + b + 1)) (comS rss i rows piv j)
  | 0 => fun r hr => by simp [comS] at hr
  | j + 1 => by
    have ih := comS_sz piv h0 h1 ha hb i j
    have e : 1 + (j + 1) * (a + b + 1) = 1 + j * (a + b + 1) + (a + b + 1) := by rw [Nat.succ_mul]; omega
    rw [comS, e]
    exact axR_sz (h0.matI ha _ _) (h1.row _) ih hb (by omega) (by omega)
theorem rect.row_le {N : Nat} {rows : List (List Rat)} (h : rect N rows) (i : Nat) : (rowat rows i).length ≤ N := Proofs.YtknbjfefeeojlaaGreat.row_le (fun r hr => Nat.le_of_eq (h r hr)) i
theorem pow_room {L k : Nat} (h : k ≤ 9) (hL : L ≤ 100000) : 15 * (L * 5 ^ k) + 2 < LY := by
  have h1 := Nat.mul_le_mul hL (pow5_le h)
  have h2 : LY = 8796093022208 := rfl
  have h3 : (5 : Nat) ^ 9 = 1953125 := by decide
  omega
theorem pow_le {L k M B : Nat} (h : k ≤ M) (hB : L * 5 ^ M ≤ B) : L * 5 ^ k ≤ B := Nat.le_trans (Nat.mul_le_mul_left _ (pow5_le h)) hB
section
variable {L : Nat} {S S1 S2 : Nat → Prop} {a1 a2 : Option Addr} {n c m d : Nat} {rss : List (List Rat)} {bs : List Rat}
theorem MA.mono {L' : Nat} {S : Nat → Prop} {W : World} (h : MA L S W a1 n c rss) (hL : L ≤ L') : MA L' S W a1 n c rss := by
  obtain ⟨qs, h1, h2⟩ := h
  exact ⟨qs, h1, h2.imp fun _ _ ⟨a, n, c, e, hr⟩ => ⟨a, n, c, e, hr.mono hL⟩⟩
theorem pReduce (w : World) (hx : MA L S1 w a1 n c rss) (hl1 : 1 ≤ L) (hn : n ≤ 1024) (hc : colsN rss ≤ 1024) (hL5 : 15 * (L * 5 ^ colsN rss) + 2 < LY) (hu : Up S w) :
    Calls Tryz.prog 60 #[.slice a1 n c] w fun e w' => ∃ ar cr ap cp np, e = .returned (.tuple #[.slice ar np cr, .slice ap np cp]) ∧ Ext w w' ∧ MC S w' ar np cr (redR rss) ∧ RN .i64 S w' ap np cp (pivs rss) := by
  have hl := hx.len
  refine (sReduce_ok a1 n c L rss S S1 w hx hl1 hn hc hL5 hu).mono ?_
  subst hl
  rintro _ w' ⟨ar, cr, ap, cp, e, x, h1, h2⟩
  exact ⟨ar, cr, ap, cp, _, e, x, h1, h2⟩
theorem pRank (w : World) (hx : MA L S1 w a1 n c rss) (hl1 : 1 ≤ L) (hn : n ≤ 1024) (hc : colsN rss ≤ 1024) (hL5 : 15 * (L * 5 ^ colsN rss) + 2 < LY) :
    Calls Tryz.prog 63 #[.slice a1 n c] w fun e w' => e = .returned (.int .i64 ((rank (padm rss) (colsN rss) : Nat) : Int)) ∧ Ext w w' := by
  have hl := hx.len
  refine (sRank_ok a1 n c L rss S1 w hx hl1 hn hc hL5).mono ?_
  subst hl
  exact fun _ _ h => h
end
end Go.Proofs.YtknbjfefeeojlaaGreat
/- append(v, l...) of elements of any size. -/
namespace Go.Proofs.YtknbjfefeeojlaaGreat
open Go.RowKit
theorem All2.app {α β : Type} {p : α → β → Prop} : ∀ {xs : List α} {ys : List β} {xs2 : List α} {ys2 : List β}, All2 p xs ys → All2 p xs2 ys2 → All2 p (xs ++ xs2) (ys ++ ys2)
  | [], [], _, _, _, h => h
  | _ :: _, _ :: _, _, _, ⟨h1, h2⟩, h => ⟨h1, All2.app h2 h⟩
section
variable {r : Option Nat} {P : Program} {ρ : Operand → Value} {W : World} {d : Option Tmp} {ty e : TypeId} {pos : String} {af : Array Edge} {g : Option (Nat × Bool)} {x y : Operand} {v : Value} {K : Value → World → Prop} {s B : Nat} {ρt : Type} {El : (Nat → Prop) → World → List Value → ρt → Prop} {S S' : Nat → Prop} {rs rs2 : List ρt}
theorem xappGN {t1 : TypeId} {m c bytes : Nat} {a : Option Addr} {z : Value} {qs2 : List (List Value)} (ok : ElOK El) (hS : Sl P t1 e) (hi : ∃ i, P.info? e = some i ∧ i.size = s ∧ i.bytes = bytes ∧ i.zero = some z) (hzs : Nat.beq z.cells.size s = true) (hs0 : Nat.blt 0 s = true) (hO : GO s El S B W e v rs) (hx : ρ x = v) (hy : ρ y = .slice a m c) (hb : RS s S' W a m c qs2) (ho : ∀ q ∈ qs2, ∀ u ∈ q, Value.oneCell' u = true) (hel : All2 (El (SO S v) W) qs2 rs2)
    (hlen : (rs.length + rs2.length) * bytes ≤ 140737488355328) (hbp : 0 < bytes) (hB : B ≤ W.heap.size)
    (hk2 : ∀ v' W', GO s El S B W' e v' (rs ++ rs2) → KB B W W' → K v' W') :
    OpF r P ρ ⟨d, .call ⟨.builtin .append, #[x, y], #[t1, t1]⟩, ty, pos, af, g⟩ W K := by
  obtain ⟨qs, h1, h2⟩ := hO
  obtain ⟨i, g1, g2, g3, g4⟩ := hi
  have hs' : 0 < s := by have := Nat.le_of_ble_eq_true hs0; omega
  have hl := h2.len
  have hl2 := hel.len
  have hbl := hb.len
  have hle : rs.length + rs2.length ≤ 140737488355328 := Nat.le_trans (Nat.le_mul_of_pos_right _ hbp) hlen
  have key : ∀ v' W', OS s B W' e v' (qs ++ qs2) → W.grownBy W' v.ownBlock → (v'.ownBlock = v.ownBlock ∨ v'.ownBlock = some W.heap.size) → K v' W' := fun v' W' hO' hg hown => by
    refine hk2 v' W' ⟨_, hO', ?_⟩ (KB.grownS h1 hg (Nat.le_refl _) hB)
    refine (All2.app h2 hel).imp fun q r hq => ?_
    have g1 := ok.sub (S' := fun b => SO S v b ∧ v'.ownBlock ≠ some b) hq (fun b hb hs => ⟨hs, fun e => by
        rcases hown with h | h
        · rw [h] at e; exact hs.2 e
        · rw [h] at e; injection e with e; omega⟩)
    exact ok.sub (ok.ck g1 (grown_ck hg fun b e hs => hs.1.2 e)) fun b _ hs => ⟨hs.1.1, hs.2⟩
  by_cases hm : 0 < m
  · obtain ⟨b, off, cs, T, fz, rfl, hs, hbb, hc⟩ := hb.at_ hm
    obtain ⟨v', W', hr, h5, h6, h7, h8⟩ := run_append_own_at (P := P) W B t1 ty e i z s bytes hS g1 g4 g2 g3 (Nat.eq_of_beq_eq_true hzs) hs' v qs.length _ h1.row ⟨b, off, none⟩ m c qs2.flatten (by rw [flat_len hb.wd, hbl])
      (by intro j u hj
          have hj1 := (List.getElem?_eq_some_iff.1 hj).1
          rw [flat_len hb.wd] at hj1
          have hd := Nat.div_add_mod j s
          have hk : j / s < qs2.length := (Nat.div_lt_iff_lt_mul hs').2 hj1
          have hr := Nat.mod_lt j hs'
          have h9 := flat_get hb.wd (List.getElem?_eq_getElem hk) hr
          rw [show j / s * s + j % s = j by rw [Nat.mul_comm]; exact hd, hj] at h9
          have h10 := hc (j / s) _ (List.getElem?_eq_getElem hk) (j % s) u h9.symm
          rw [addO]
          simp only [World.cell?, hbb]
          rw [show off + j = off + j / s * s + j % s by rw [Nat.mul_comm]; omega]; exact h10)
      (by intro u hu
          obtain ⟨q, hq, hu⟩ := List.mem_flatten.1 hu
          exact ho q hq u hu) (by simp only [maxLen]; omega) (by rw [hl, ← hbl, hl2]; exact hlen) hB
    unfold OpF execOp
    simp only [resolve, invoke, builtin, Sem.run_bind, Sem.run_pure, Result.andThen_ok, List.map_toArray, List.map_cons, List.map_nil, hx, hy, hr]
    refine key v' W' ⟨?_, fun q hq => ?_⟩ h6 h8
    · rw [List.length_append, List.flatten_append, hbl]; exact h5
    · rcases List.mem_append.1 hq with hq | hq
      · exact h1.wd q hq
      · exact hb.wd q hq
  · have hm0 : m = 0 := by omega
    subst hm0
    have hys : qs2 = [] := List.eq_nil_of_length_eq_zero hbl
    subst hys
    have hr : (Builtin.append_ #[t1, t1] ty #[v, .slice a 0 c]).run P W = .ok v W := by
      obtain ⟨a', c', rfl⟩ := h1.form
      have hrn := h1.rs (S := fun _ => True) (fun _ _ _ => trivial)
      have hsrc : Src P i.size t1 (.slice a 0 c) 0 [] W := by
        cases a with
        | none => exact Src.ofNil W hS c
        | some ad => exact Src.ofSlice W hS ad 0 c [] (by simp) (by simp) (by simp)
      exact run_append_nothing W t1 t1 ty e i hS g1 a' qs.length c' hrn.cap _ hsrc
    unfold OpF execOp
    simp only [resolve, invoke, builtin, Sem.run_bind, Sem.run_pure, Result.andThen_ok, List.map_toArray, List.map_cons, List.map_nil, hx, hy, hr]
    exact key v W (by simpa using h1) (World.grownBy.refl _ _) (.inl rfl)
end
end Go.Proofs.YtknbjfefeeojlaaGreat
/- The reduced form, row by row, as the law of the echelon form asks. -/
namespace Go.Proofs.YtknbjfefeeojlaaGreat
open Go.RowKit
attribute [local irreducible] RV VH V OpF Calls
theorem pivs_RI (rss : List (List Rat)) : RI (padm rss) (redS (padm rss) (colsN rss)).1 (pivs rss) (colsN rss) := redS_RI _ _
theorem pivs_lt {rss : List (List Rat)} {i : Nat} (h : i < (pivs rss).length) : 0 ≤ wd (pivs rss) i ∧ wd (pivs rss) i < colsN rss := by
  have h1 := (pivs_RI rss).nn i h
  have h2 := (pivs_RI rss).lt i h
  omega
theorem pivs_inc {rss : List (List Rat)} {i : Nat} (h0 : 0 < i) (h : i < (pivs rss).length) : wd (pivs rss) ((i : Int) - 1) < wd (pivs rss) i := by
  have h1 := (pivs_RI rss).nn i h
  have h2 := (pivs_RI rss).nn (i - 1) (by omega)
  have h3 := (pivs_RI rss).inc (i - 1) i (by omega) h
  rw [show (i : Int) - 1 = ((i - 1 : Nat) : Int) by omega]
  omega
theorem pivs_le (rss : List (List Rat)) : (pivs rss).length ≤ colsN rss := rank_le _ _
theorem redR_len' (rss : List (List Rat)) : (redR rss).length = (pivs rss).length := redR_len rss
theorem rowat_redR {rss : List (List Rat)} {i : Nat} (h : i < (pivs rss).length) : rowat (redR rss) i = rowat (redS (padm rss) (colsN rss)).1 i := by
  unfold redR rowat
  rw [List.getD_eq_getElem?_getD, List.getElem?_take, if_pos (show i < (redS (padm rss) (colsN rss)).2.1.length from h), List.getD_eq_getElem?_getD]
theorem mat_redR {rss : List (List Rat)} {i : Nat} (h : i < (pivs rss).length) (k : Nat) : mat (redR rss) i k = mat (redS (padm rss) (colsN rss)).1 i k := by
  unfold mat; rw [rowat_redR h]
theorem redR_row {rss : List (List Rat)} {i : Nat} (h : i < (pivs rss).length) : (rowat (redR rss) i).length = colsN rss := (redR_rect rss).row (by rw [redR_len']; exact h)
theorem ech_lead {rss : List (List Rat)} {i k : Nat} (h : i < (pivs rss).length) (hk : (k : Int) < wd (pivs rss) i) : matI (redR rss) i k = 0 := by
  have h1 := (pivs_RI rss).nn i h
  rw [matI_nat, mat_redR h]
  exact (pivs_RI rss).lead i k h (by omega)
theorem mat_identm {n i j : Nat} (hi : i < n) (hj : j < n) : mat (identm n) i j = if i = j then 1 else 0 := by
  have : rowat (identm n) i = unitv n (i : Int) := by simp [rowat, identm, hi]
  unfold mat
  rw [this, vat_unitv]
  by_cases e : i = j
  · rw [if_pos ⟨e.symm, hi⟩, if_pos e]
  · rw [if_neg (fun h => e h.1.symm), if_neg e]
theorem ech_one {rss : List (List Rat)} {i j : Nat} (hi : i < (pivs rss).length) (hj : j < (pivs rss).length) : matI (redR rss) j (wd (pivs rss) i) = matI (identm (pivs rss).length) i j := by
  rw [(pivs_RI rss).nn i hi, matI_nat, matI_nat, mat_redR hj, mat_identm hi hj]
  have := (pivs_RI rss).pl
  rw [(pivs_RI rss).one j i (by omega) hi]
  by_cases e : j = i
  · rw [if_pos e, if_pos e.symm]
  · rw [if_neg e, if_neg (Ne.symm e)]
theorem comS_redR (rss : List (List Rat)) (i : Nat) : ∀ j, j ≤ (pivs rss).length → comS rss i (redR rss) (pivs rss) j = comS rss i (redS (padm rss) (colsN rss)).1 (pivs rss) j
  | 0, _ => rfl
  | j + 1, h => by rw [comS, comS, comS_redR rss i j (by omega), rowat_redR (by omega)]
theorem comb_law2 (rss : List (List Rat)) (i k : Nat) : vat (comS rss i (redR rss) (pivs rss) (pivs rss).length) k = mat rss i k := by
  rw [comS_redR rss i _ (Nat.le_refl _)]; exact comb_law rss i k
theorem comS_len (rss : List (List Rat)) (i : Nat) {N : Nat} {rows : List (List Rat)} (h : rect N rows) (piv : List Int) : ∀ j, (comS rss i rows piv j).length ≤ N
  | 0 => Nat.zero_le _
  | j + 1 => by
    have h1 := comS_len rss i h piv j
    have h2 := h.row_le j
    rw [comS, axR_len]; omega
theorem MA.two {L : Nat} {W : World} {a : Option Addr} {n c : Nat} {rss : List (List Rat)} (h : MA L TT W a n c rss) : ∃ qs, RS 1 (fun b => b < W.heap.size) W a n c qs ∧ All2 (RowOf (GA L) (fun b => b < W.heap.size) W) qs rss ∧ ∀ q ∈ qs, ∀ u ∈ q, Value.oneCell' u = true := by
  obtain ⟨qs, h1, h2⟩ := MG.sub (okRowA L) h (S' := fun b => b < W.heap.size) fun b hb _ => hb
  refine ⟨qs, h1, h2, fun q hq u hu => ?_⟩
  obtain ⟨i, hi⟩ := List.getElem?_of_mem hq
  obtain ⟨r, _, a', n', c', rfl, _⟩ := h2.get hi
  rw [List.mem_singleton.1 hu]; rfl
end Go.Proofs.YtknbjfefeeojlaaGreat
/- Package pylonlaw05: SolveEchelon. -/
namespace Go.Proofs.YtknbjfefeeojlaaGreat
open Go.RowKit
attribute [local irreducible] RV VH V OpF Calls

set_option maxHeartbeats 2000000 in
theorem solveEch_ok (a1 : Option Addr) (n c : Nat) (A : List (List RawQ)) (w : World) (h0 : MX TT w a1 n c A) :
    Calls Tryz.prog 8 #[.slice a1 n c] w (fun e w' => e = .returned (.bool true) ∧ Ext w w') := by
 have z0 := Ext.refl w; have hLX : LX = 17592186044416 := rfl; have hLY : LY = 8796093022208 := rfl
 have hLV : LV = 1099511627776 := rfl
 have hx := h0
 refine enter (args := [.slice a1 n c]) Tryz.func8 rfl rfl (Nat.le_of_ble_eq_true rfl) ?_
 refine V.seq (V.reg rfl ?_)
 refine asb rfl ?_
 refine vnil ?_
 refine V.seq ?_
 refine V.seq (V.reg rfl ?_)
 refine mvs rfl ?_
 refine vo ?_
 have hm1 : MX TT w none 0 0 [] := ⟨[], RS.nil _ _ _ _ _ (by omega), trivial⟩
 refine xcall e49 (long5_ok _ _ _ _ _ _ A [] _ _ hx hm1) rfl rfl ?_
 rintro _ Wb1 ⟨bb1, rfl, xb1, hb1⟩
 refine ⟨_, rfl, ?_⟩
 cases bb1
 ·skip
  have s2 := xb1.sz
  have z3 := xb1
  refine vnil ?_
  refine V.condF rfl ?_
  refine V.skip ?_
  refine V.seq (V.reg rfl ?_)
  have hA := (hb1 rfl).1.1; have h6A := (hb1 rfl).1.2
  obtain ⟨rss, hrss⟩ : ∃ rss, rss = A.map (·.map qval) := ⟨_, rfl⟩
  have marss : MA 6 TT _ a1 n c rss := hrss ▸ ((hx.ext z3)).ma (fun r hr => (hA.2.2 r hr).2)
  have hcrss : colsN rss ≤ 8 := by rw [hrss, colsN_raw]; exact hA.2.1
  have hlrss := marss.len
  have hnrss : n ≤ 8 := by have := hA.1; rw [hrss, List.length_map] at hlrss; omega
  have hszrss : szR 6 rss := marss.rowsz (by omega)
  have hrrss : ∀ r ∈ rss, r.length ≤ 20 := fun r hr => by have := cols_ge r hr; omega
  have hc6rss : colsN rss ≤ 6 := by rw [hrss, colsN_raw]; exact h6A.2
  have hn6rss : n ≤ 6 := by have := h6A.1; have := hlrss; rw [hrss, List.length_map] at this; omega
  refine mvs rfl ?_
  refine vo ?_
  refine xcall e60 (pReduce _ marss (by omega) (by omega) (by omega) (pow_room (by omega) (by omega)) (TT.up _)) rfl rfl ?_
  rintro _ W5 ⟨_, _, _, _, np, rfl, x6, hrm, hrp⟩
  have s7 := x6.sz
  have z8 := z3.trans x6
  have z9 := x6
  have hra := hrm.ma (L := 93750) (fun r hr => (redR_sz hszrss (by omega) r hr).mono' (pow_le (L := 6) (M := 6) (by omega) (by decide)))
  have hpl := hrp.len; have hpc := hrp.cap; have hpm := hrp.max; have hpn := pivs_le rss; have hrc := colsN_rect_le (redR_rect rss)
  have hRsz := hra.rowsz (by omega)
  refine ⟨_, rfl, ?_⟩
  refine mvt rfl ?_
  refine vv (rext (v := .slice _ _ _) rfl rfl) ?_
  refine vv (rext (v := .slice _ _ _) rfl rfl) ?_
  refine ass rfl ?_
  refine ass rfl ?_
  refine vnil ?_
  refine V.seq ?_
  refine V.seq (V.reg rfl ?_)
  refine mvs rfl ?_
  refine vv (rlen sl22 rfl) ?_
  refine mvs rfl ?_
  refine vv (rlen sl73 rfl) ?_
  refine vne rfl rfl ?_ ?_
  ·intro c10
   omega
  ·intro c10
   refine vnil ?_
   refine V.condF rfl ?_
   refine V.skip ?_
   refine V.seq ?_
   refine V.seq (V.reg rfl ?_)
   refine asi rfl ?_
   refine vnil ?_
   refine V.block ?_
   refine V.loopK (ι := Nat) [(0, .slice _ _ _), (3, .slice _ _ _), (4, .slice _ _ _)] (fun i => [(5, .int .i64 (i : Int))]) (fun i W => Ext W5 W ∧ i ≤ np) (fun i => np - i) (0) ⟨rfl, rfl, rfl, trivial⟩ ⟨rfl, trivial⟩ ⟨Ext.refl _, Nat.zero_le _⟩ ?_
   intro i E12 W11 h13
   obtain ⟨x14, hi⟩ := h13
   have s15 := x14.sz
   have z16 := z8.trans x14
   have z17 := z9.trans x14
   have z18 := x14
   refine V.seq ?_
   refine V.seq (V.reg rfl ?_)
   refine mvi rfl ?_
   refine mvs rfl ?_
   refine vv (rlen sl22 rfl) ?_
   refine vlt rfl rfl ?_ ?_
   ·intro c19
    have hpv := pivs_lt (rss := rss) (i := i) (by omega)
    have hrw := redR_row (rss := rss) (i := i) (by omega)
    have hpi : 0 < i → wd (pivs rss) ((i : Int) - 1) < wd (pivs rss) i := fun h => pivs_inc h (by omega)
    obtain ⟨ra0, rk0, rc0, hcr0, hg0⟩ := (hra.ext z18).el (i := (i : Int)) (by omega) (by omega)
    have cr0 : C1 W11 _ _ := hcr0; have hgl0 := hg0.len
    have hrk : rk0 = colsN rss := hgl0.symm.trans hrw
    refine vnil ?_
    refine V.condT rfl ?_
    refine V.skip ?_
    refine V.seq ?_
    refine V.block ?_
    refine V.seq ?_
    refine V.seq (V.regD mixed rfl ?_)
    intro W20 x21
    have s22 := x21.sz
    have z24 := z17.trans x21
    have z25 := z18.trans x21
    have q26 := Ext.refl W20
    refine tk 0 rfl (by kernel_rfl) q26 (pv (fun _ y27 => rmv (v := .slice _ _ _) rfl)) ?_
    refine tk 1 rfl (by kernel_rfl) q26 (pv (fun _ y28 => rmv (v := .int _ _) rfl)) ?_
    refine tk 2 rfl (by kernel_rfl) q26 (pv (fun _ y29 => rixn ((hrp.ext z25).ext y29) sl73 sz3 rfl rfl (by omega) (by omega))) ?_
    refine tk 3 rfl (by kernel_rfl) q26 (pv (fun _ y30 => rldN ((hrp.ext z25).ext y30) rfl sc3 (by omega) (by omega))) ?_
    refine tk 4 rfl (by kernel_rfl) q26 (pv (fun _ y31 => rcmp (cLt (decide_eq_false (by omega))) rfl rfl rfl)) ?_
    refine tk 5 rfl (by kernel_rfl) q26 (pv (fun _ y32 => rmv (v := .bool false) rfl)) ?_
    refine tk 6 rfl (by kernel_rfl) q26 (pg rfl (fun _ y33 => rmv (v := .slice _ _ _) rfl)) ?_
    refine tk 7 rfl (by kernel_rfl) q26 (pg rfl (fun _ y34 => rmv (v := .int _ _) rfl)) ?_
    refine tk 8 rfl (by kernel_rfl) q26 (pg rfl (fun _ y35 => rixn ((hrp.ext z25).ext y35) sl73 sz3 rfl rfl (by omega) (by omega))) ?_
    refine tk 9 rfl (by kernel_rfl) q26 (pg rfl (fun _ y36 => rldN ((hrp.ext z25).ext y36) rfl sc3 (by omega) (by omega))) ?_
    refine tk 10 rfl (by kernel_rfl) q26 (pg rfl (fun _ y37 => rmv (v := .slice _ _ _) rfl)) ?_
    refine efg 11 (by kernel_rfl) rfl rfl ?_
    refine xcall e35 (mCols_ok _ _ _ _ _ _ _ (marss.ext z24)) rfl rfl ?_
    rintro _ W38 ⟨rfl, x39⟩
    have s40 := x39.sz
    have z42 := z24.trans x39
    have z43 := z25.trans x39
    have q44 := q26.trans x39
    refine ⟨_, rfl, ?_⟩
    refine ⟨fun _ => q44, ?_⟩
    refine tk 12 rfl (by kernel_rfl) q44 (pg rfl (fun _ y45 => rcmp (cGe (decide_eq_false (by omega))) rfl rfl rfl)) ?_
    refine tk 13 rfl (by kernel_rfl) q44 (pv (fun _ y46 => rpk (v := .bool false) rfl rfl)) ?_
    refine tk 14 rfl (by kernel_rfl) q44 (pv (fun _ y47 => rmv (v := .bool false) rfl)) ?_
    refine tk 15 rfl (by kernel_rfl) q44 (pg rfl (fun _ y48 => rmv (v := .slice _ _ _) rfl)) ?_
    refine tk 16 rfl (by kernel_rfl) q44 (pg rfl (fun _ y49 => rmv (v := .int _ _) rfl)) ?_
    refine tk 17 rfl (by kernel_rfl) q44 (pg rfl (fun _ y50 => rix sl22 sz23 rfl rfl (by omega) (by omega) (((hra.ext z25).ext y50).isS (i := 0) (by omega) (by omega)))) ?_
    refine tk 18 rfl (by kernel_rfl) q44 (pg rfl (fun _ y51 => rld1 (v := .slice _ _ _) rfl sc23 ((cr0.ext x21).ext y51))) ?_
    refine tk 19 rfl (by kernel_rfl) q44 (pg rfl (fun _ y52 => rlen sl23 rfl)) ?_
    refine tk 20 rfl (by kernel_rfl) q44 (pg rfl (fun _ y53 => rmv (v := .slice _ _ _) rfl)) ?_
    refine efg 21 (by kernel_rfl) rfl rfl ?_
    refine xcall e35 (mCols_ok _ _ _ _ _ _ _ (marss.ext z42)) rfl rfl ?_
    rintro _ W54 ⟨rfl, x55⟩
    have s56 := x55.sz
    have z59 := z43.trans x55
    have q60 := q44.trans x55
    refine ⟨_, rfl, ?_⟩
    refine ⟨fun _ => q60, ?_⟩
    refine tk 22 rfl (by kernel_rfl) q60 (pg rfl (fun _ y61 => rcmp (cNe (decide_eq_false (by omega))) rfl rfl rfl)) ?_
    refine tk 23 rfl (by kernel_rfl) q60 (pv (fun _ y62 => rpk (v := .bool false) rfl rfl)) ?_
    refine tk 24 rfl (by kernel_rfl) q60 (pv (fun _ y63 => rmv (v := .bool false) rfl)) ?_
    refine tk 25 rfl (by kernel_rfl) q60 (pg rfl (fun _ y64 => rmv (v := .int _ _) rfl)) ?_
    refine tkGt 26 rfl (by kernel_rfl) q60 rfl rfl (fun _ h => pg rfl h) ?_ ?_
    ·intro c66
     refine tk 27 rfl (by kernel_rfl) q60 (pg rfl (fun _ y67 => rmv (v := .bool true) rfl)) ?_
     refine tk 28 rfl (by kernel_rfl) q60 (pg rfl (fun _ y68 => rmv (v := .slice _ _ _) rfl)) ?_
     refine tk 29 rfl (by kernel_rfl) q60 (pg rfl (fun _ y69 => rmv (v := .int _ _) rfl)) ?_
     refine tk 30 rfl (by kernel_rfl) q60 (pg rfl (fun _ y70 => rixn ((hrp.ext z25).ext y70) sl73 sz3 rfl rfl (by omega) (by omega))) ?_
     refine tk 31 rfl (by kernel_rfl) q60 (pg rfl (fun _ y71 => rldN ((hrp.ext z25).ext y71) rfl sc3 (by omega) (by omega))) ?_
     refine tk 32 rfl (by kernel_rfl) q60 (pg rfl (fun _ y72 => rmv (v := .slice _ _ _) rfl)) ?_
     refine tk 33 rfl (by kernel_rfl) q60 (pg rfl (fun _ y73 => rmv (v := .int _ _) rfl)) ?_
     refine tk 34 rfl (by kernel_rfl) q60 (pg rfl (fun _ y74 => rbin (bSub (wi (by omega))) rfl rfl)) ?_
     refine tk 35 rfl (by kernel_rfl) q60 (pg rfl (fun _ y75 => rixn ((hrp.ext z25).ext y75) sl73 sz3 rfl rfl (by omega) (by omega))) ?_
     refine tk 36 rfl (by kernel_rfl) q60 (pg rfl (fun _ y76 => rldN ((hrp.ext z25).ext y76) rfl sc3 (by omega) (by omega))) ?_
     refine tk 37 rfl (by kernel_rfl) q60 (pg rfl (fun _ y77 => rcmp (cLe (decide_eq_false (by omega))) rfl rfl rfl)) ?_
     refine tk 38 rfl (by kernel_rfl) q60 (pg rfl (fun _ y78 => rpk (v := .bool false) rfl rfl)) ?_
     refine tk 39 rfl (by kernel_rfl) q60 (pv (fun _ y79 => rpk (v := .bool false) rfl rfl)) ?_
     refine dn (by kernel_rfl) ?_
     refine V.condF rfl ?_
     refine V.skip ?_
     refine V.seq ?_
     refine V.seq (V.reg rfl ?_)
     refine asi rfl ?_
     refine vnil ?_
     refine V.block ?_
     refine V.loopK (ι := Nat) [(0, .slice _ _ _), (3, .slice _ _ _), (4, .slice _ _ _), (5, .int _ _)] (fun k => [(6, .int .i64 (k : Int))]) (fun k W => Ext W54 W ∧ (k : Int) ≤ wd (pivs rss) i) (fun k => (wd (pivs rss) i).toNat - k) (0) ⟨rfl, rfl, rfl, rfl, trivial⟩ ⟨rfl, trivial⟩ ⟨Ext.refl _, hpv.1⟩ ?_
     intro k E81 W80 h82
     obtain ⟨x83, hk⟩ := h82
     have s84 := x83.sz
     have z87 := z59.trans x83
     have z88 := x83
     refine V.seq ?_
     refine V.seq (V.reg rfl ?_)
     refine mvi rfl ?_
     refine mvs rfl ?_
     refine mvi rfl ?_
     refine vv (rixn (hrp.ext z87) sl73 sz3 rfl rfl (by omega) (by omega)) ?_
     refine vldN (hrp.ext z87) rfl sc3 (by omega) (by omega) ?_
     intro q89 hq89 hk90
     simp only [kb] at hk90
     refine vlt rfl rfl ?_ ?_
     ·intro c91
      refine vnil ?_
      refine V.condT rfl ?_
      refine V.skip ?_
      refine V.seq ?_
      refine V.block ?_
      refine V.seq (V.reg rfl ?_)
      refine mvs rfl ?_
      refine mvi rfl ?_
      refine mvi rfl ?_
      refine vo ?_
      refine xcall e38 (mAt_ok _ _ _ _ _ _ _ TT _ _ (hra.ext z87) (by omega) (by omega) (TT.up _)) rfl rfl ?_
      rintro _ W93 ⟨_, rfl, x94, hq92⟩
      have s95 := x94.sz
      have z99 := z88.trans x94
      obtain ⟨_, _, _, _, _, _, _, _, rfl⟩ := hq92.form
      refine ⟨_, rfl, ?_⟩
      refine vo ?_
      refine xcall e66 (fSign_ok [_, _, _, _] _ 93750 _ _ ((hq92).qa ((show szR 93750 (redR rss) from hRsz).matI (by omega) _ _)) (by omega) (by omega)) rfl rfl ?_
      rintro _ W100 ⟨rfl, x101⟩
      have s102 := x101.sz
      have z106 := z99.trans x101
      refine ⟨_, rfl, ?_⟩
      refine vne rfl rfl ?_ ?_
      ·intro c14
       exact absurd (cq_eq.2 (ech_lead (rss := rss) (i := i) (k := k) (by omega) (by omega))) c14
      ·intro c14
       refine vnil ?_
       refine V.condF rfl ?_
       refine V.skip ?_
       refine V.reg rfl ?_
       refine mvi rfl ?_
       refine vv (rbin (bAdd (wi (by omega))) rfl rfl) ?_
       refine asi rfl ?_
       refine vnil ?_
       refine ⟨rfl, k + 1, ⟨rfl, rfl, rfl, rfl, trivial⟩, ⟨rfl, trivial⟩, ⟨z106, by omega⟩, ?_⟩
       show (wd (pivs rss) i).toNat - (k + 1) < (wd (pivs rss) i).toNat - k
       omega
     ·intro c91
      refine vnil ?_
      refine V.condF rfl ?_
      refine V.exit ?_
      refine V.seq (V.reg rfl ?_)
      refine asi rfl ?_
      refine vnil ?_
      refine V.block ?_
      refine V.loopK (ι := Nat) [(0, .slice _ _ _), (3, .slice _ _ _), (4, .slice _ _ _), (5, .int _ _)] (fun j => [(7, .int .i64 (j : Int))]) (fun j W => Ext W80 W ∧ j ≤ np) (fun j => np - j) (0) ⟨rfl, rfl, rfl, rfl, trivial⟩ ⟨rfl, trivial⟩ ⟨Ext.refl _, Nat.zero_le _⟩ ?_
      intro j E108 W107 h109
      obtain ⟨x110, hj⟩ := h109
      have s111 := x110.sz
      have z114 := z87.trans x110
      have z116 := x110
      refine V.seq ?_
      refine V.seq (V.reg rfl ?_)
      refine mvi rfl ?_
      refine mvs rfl ?_
      refine vv (rlen sl22 rfl) ?_
      refine vlt rfl rfl ?_ ?_
      ·intro c117
       refine vnil ?_
       refine V.condT rfl ?_
       refine V.skip ?_
       refine V.seq ?_
       refine V.block ?_
       refine V.seq (V.reg rfl ?_)
       refine mvs rfl ?_
       refine mvi rfl ?_
       refine mvs rfl ?_
       refine mvi rfl ?_
       refine vv (rixn (hrp.ext z114) sl73 sz3 rfl rfl (by omega) (by omega)) ?_
       refine vldN (hrp.ext z114) rfl sc3 (by omega) (by omega) ?_
       intro q118 hq118 hk119
       simp only [kb] at hk119
       refine vo ?_
       refine xcall e38 (mAt_ok _ _ _ _ _ _ _ TT _ _ (hra.ext z114) (by omega) (by omega) (TT.up _)) rfl rfl ?_
       rintro _ W121 ⟨_, rfl, x122, hq120⟩
       have s123 := x122.sz
       have z128 := z116.trans x122
       obtain ⟨_, _, _, _, _, _, _, _, rfl⟩ := hq120.form
       refine ⟨_, rfl, ?_⟩
       refine mvs rfl ?_
       refine vv (rlen sl22 rfl) ?_
       refine vo ?_
       refine xcall e47 (mIdent_ok _ np TT _ (by omega) (TT.up _)) rfl rfl ?_
       rintro _ W129 ⟨_, ni, _, rfl, x130, hid⟩
       have s131 := x130.sz
       have z136 := z128.trans x130
       have hida := hid.ma (identm_sz np)
       refine ⟨_, rfl, ?_⟩
       refine mvi rfl ?_
       refine mvi rfl ?_
       refine vo ?_
       refine xcall e38 (mAt_ok _ _ _ _ _ _ _ TT _ _ hida (by omega) (by omega) (TT.up _)) rfl rfl ?_
       rintro _ W138 ⟨_, rfl, x139, hq137⟩
       have s140 := x139.sz
       have z145 := z136.trans x139
       obtain ⟨_, _, _, _, _, _, _, _, rfl⟩ := hq137.form
       refine ⟨_, rfl, ?_⟩
       refine vo ?_
       refine xcall e67 (fEq_true _ (q1 := [_, _, _, _]) (q2 := [_, _, _, _]) (((hq120.ext (x130.trans x139))).qa ((show szR 93750 (redR rss) from hRsz).matI (by omega) _ _)) ((hq137).qa ((identm_sz np).matI (by omega) _ _)) (by omega) (by omega) (by omega) (by rw [hq118]; have h := ech_one (rss := rss) (i := i) (j := j) (by omega) (by omega); rw [hpl] at h; exact h)) rfl rfl ?_
       rintro _ W146 ⟨rfl, x147⟩
       have s148 := x147.sz
       have z153 := z145.trans x147
       refine ⟨_, rfl, ?_⟩
       refine vv (rnot (q := false) rfl rfl) ?_
       refine vnil ?_
       refine V.condF rfl ?_
       refine V.skip ?_
       refine V.reg rfl ?_
       refine mvi rfl ?_
       refine vv (rbin (bAdd (wi (by omega))) rfl rfl) ?_
       refine asi rfl ?_
       refine vnil ?_
       refine ⟨rfl, j + 1, ⟨rfl, rfl, rfl, rfl, trivial⟩, ⟨rfl, trivial⟩, ⟨z153, by omega⟩, ?_⟩
       show np - (j + 1) < np - j
       omega
      ·intro c117
       refine vnil ?_
       refine V.condF rfl ?_
       refine V.exit ?_
       refine V.reg rfl ?_
       refine mvi rfl ?_
       refine vv (rbin (bAdd (wi (by omega))) rfl rfl) ?_
       refine asi rfl ?_
       refine vnil ?_
       refine ⟨rfl, i + 1, ⟨rfl, rfl, rfl, trivial⟩, ⟨rfl, trivial⟩, ⟨z114, by omega⟩, ?_⟩
       show np - (i + 1) < np - i
       omega
    ·intro c66
     refine tk 27 rfl (by kernel_rfl) q60 (pg rfl (fun _ y154 => rmv (v := .bool false) rfl)) ?_
     refine tk 28 rfl (by kernel_rfl) q60 (pgn (b := false) rfl rfl) ?_
     refine tk 29 rfl (by kernel_rfl) q60 (pgn (b := false) rfl rfl) ?_
     refine tk 30 rfl (by kernel_rfl) q60 (pgn (b := false) rfl rfl) ?_
     refine tk 31 rfl (by kernel_rfl) q60 (pgn (b := false) rfl rfl) ?_
     refine tk 32 rfl (by kernel_rfl) q60 (pgn (b := false) rfl rfl) ?_
     refine tk 33 rfl (by kernel_rfl) q60 (pgn (b := false) rfl rfl) ?_
     refine tk 34 rfl (by kernel_rfl) q60 (pgn (b := false) rfl rfl) ?_
     refine tk 35 rfl (by kernel_rfl) q60 (pgn (b := false) rfl rfl) ?_
     refine tk 36 rfl (by kernel_rfl) q60 (pgn (b := false) rfl rfl) ?_
     refine tk 37 rfl (by kernel_rfl) q60 (pgn (b := false) rfl rfl) ?_
     refine tk 38 rfl (by kernel_rfl) q60 (pg rfl (fun _ y155 => rpk (v := .bool false) rfl rfl)) ?_
     refine tk 39 rfl (by kernel_rfl) q60 (pv (fun _ y156 => rpk (v := .bool false) rfl rfl)) ?_
     refine dn (by kernel_rfl) ?_
     refine V.condF rfl ?_
     refine V.skip ?_
     refine V.seq ?_
     refine V.seq (V.reg rfl ?_)
     refine asi rfl ?_
     refine vnil ?_
     refine V.block ?_
     refine V.loopK (ι := Nat) [(0, .slice _ _ _), (3, .slice _ _ _), (4, .slice _ _ _), (5, .int _ _)] (fun k => [(6, .int .i64 (k : Int))]) (fun k W => Ext W54 W ∧ (k : Int) ≤ wd (pivs rss) i) (fun k => (wd (pivs rss) i).toNat - k) (0) ⟨rfl, rfl, rfl, rfl, trivial⟩ ⟨rfl, trivial⟩ ⟨Ext.refl _, hpv.1⟩ ?_
     intro k E158 W157 h159
     obtain ⟨x160, hk⟩ := h159
     have s161 := x160.sz
     have z164 := z59.trans x160
     have z165 := x160
     refine V.seq ?_
     refine V.seq (V.reg rfl ?_)
     refine mvi rfl ?_
     refine mvs rfl ?_
     refine mvi rfl ?_
     refine vv (rixn (hrp.ext z164) sl73 sz3 rfl rfl (by omega) (by omega)) ?_
     refine vldN (hrp.ext z164) rfl sc3 (by omega) (by omega) ?_
     intro q166 hq166 hk167
     simp only [kb] at hk167
     refine vlt rfl rfl ?_ ?_
     ·intro c168
      refine vnil ?_
      refine V.condT rfl ?_
      refine V.skip ?_
      refine V.seq ?_
      refine V.block ?_
      refine V.seq (V.reg rfl ?_)
      refine mvs rfl ?_
      refine mvi rfl ?_
      refine mvi rfl ?_
      refine vo ?_
      refine xcall e38 (mAt_ok _ _ _ _ _ _ _ TT _ _ (hra.ext z164) (by omega) (by omega) (TT.up _)) rfl rfl ?_
      rintro _ W170 ⟨_, rfl, x171, hq169⟩
      have s172 := x171.sz
      have z176 := z165.trans x171
      obtain ⟨_, _, _, _, _, _, _, _, rfl⟩ := hq169.form
      refine ⟨_, rfl, ?_⟩
      refine vo ?_
      refine xcall e66 (fSign_ok [_, _, _, _] _ 93750 _ _ ((hq169).qa ((show szR 93750 (redR rss) from hRsz).matI (by omega) _ _)) (by omega) (by omega)) rfl rfl ?_
      rintro _ W177 ⟨rfl, x178⟩
      have s179 := x178.sz
      have z183 := z176.trans x178
      refine ⟨_, rfl, ?_⟩
      refine vne rfl rfl ?_ ?_
      ·intro c14
       exact absurd (cq_eq.2 (ech_lead (rss := rss) (i := i) (k := k) (by omega) (by omega))) c14
      ·intro c14
       refine vnil ?_
       refine V.condF rfl ?_
       refine V.skip ?_
       refine V.reg rfl ?_
       refine mvi rfl ?_
       refine vv (rbin (bAdd (wi (by omega))) rfl rfl) ?_
       refine asi rfl ?_
       refine vnil ?_
       refine ⟨rfl, k + 1, ⟨rfl, rfl, rfl, rfl, trivial⟩, ⟨rfl, trivial⟩, ⟨z183, by omega⟩, ?_⟩
       show (wd (pivs rss) i).toNat - (k + 1) < (wd (pivs rss) i).toNat - k
       omega
     ·intro c168
      refine vnil ?_
      refine V.condF rfl ?_
      refine V.exit ?_
      refine V.seq (V.reg rfl ?_)
      refine asi rfl ?_
      refine vnil ?_
      refine V.block ?_
      refine V.loopK (ι := Nat) [(0, .slice _ _ _), (3, .slice _ _ _), (4, .slice _ _ _), (5, .int _ _)] (fun j => [(7, .int .i64 (j : Int))]) (fun j W => Ext W157 W ∧ j ≤ np) (fun j => np - j) (0) ⟨rfl, rfl, rfl, rfl, trivial⟩ ⟨rfl, trivial⟩ ⟨Ext.refl _, Nat.zero_le _⟩ ?_
      intro j E185 W184 h186
      obtain ⟨x187, hj⟩ := h186
      have s188 := x187.sz
      have z191 := z164.trans x187
      have z193 := x187
      refine V.seq ?_
      refine V.seq (V.reg rfl ?_)
      refine mvi rfl ?_
      refine mvs rfl ?_
      refine vv (rlen sl22 rfl) ?_
      refine vlt rfl rfl ?_ ?_
      ·intro c194
       refine vnil ?_
       refine V.condT rfl ?_
       refine V.skip ?_
       refine V.seq ?_
       refine V.block ?_
       refine V.seq (V.reg rfl ?_)
       refine mvs rfl ?_
       refine mvi rfl ?_
       refine mvs rfl ?_
       refine mvi rfl ?_
       refine vv (rixn (hrp.ext z191) sl73 sz3 rfl rfl (by omega) (by omega)) ?_
       refine vldN (hrp.ext z191) rfl sc3 (by omega) (by omega) ?_
       intro q195 hq195 hk196
       simp only [kb] at hk196
       refine vo ?_
       refine xcall e38 (mAt_ok _ _ _ _ _ _ _ TT _ _ (hra.ext z191) (by omega) (by omega) (TT.up _)) rfl rfl ?_
       rintro _ W198 ⟨_, rfl, x199, hq197⟩
       have s200 := x199.sz
       have z205 := z193.trans x199
       obtain ⟨_, _, _, _, _, _, _, _, rfl⟩ := hq197.form
       refine ⟨_, rfl, ?_⟩
       refine mvs rfl ?_
       refine vv (rlen sl22 rfl) ?_
       refine vo ?_
       refine xcall e47 (mIdent_ok _ np TT _ (by omega) (TT.up _)) rfl rfl ?_
       rintro _ W206 ⟨_, ni, _, rfl, x207, hid⟩
       have s208 := x207.sz
       have z213 := z205.trans x207
       have hida := hid.ma (identm_sz np)
       refine ⟨_, rfl, ?_⟩
       refine mvi rfl ?_
       refine mvi rfl ?_
       refine vo ?_
       refine xcall e38 (mAt_ok _ _ _ _ _ _ _ TT _ _ hida (by omega) (by omega) (TT.up _)) rfl rfl ?_
       rintro _ W215 ⟨_, rfl, x216, hq214⟩
       have s217 := x216.sz
       have z222 := z213.trans x216
       obtain ⟨_, _, _, _, _, _, _, _, rfl⟩ := hq214.form
       refine ⟨_, rfl, ?_⟩
       refine vo ?_
       refine xcall e67 (fEq_true _ (q1 := [_, _, _, _]) (q2 := [_, _, _, _]) (((hq197.ext (x207.trans x216))).qa ((show szR 93750 (redR rss) from hRsz).matI (by omega) _ _)) ((hq214).qa ((identm_sz np).matI (by omega) _ _)) (by omega) (by omega) (by omega) (by rw [hq195]; have h := ech_one (rss := rss) (i := i) (j := j) (by omega) (by omega); rw [hpl] at h; exact h)) rfl rfl ?_
       rintro _ W223 ⟨rfl, x224⟩
       have s225 := x224.sz
       have z230 := z222.trans x224
       refine ⟨_, rfl, ?_⟩
       refine vv (rnot (q := false) rfl rfl) ?_
       refine vnil ?_
       refine V.condF rfl ?_
       refine V.skip ?_
       refine V.reg rfl ?_
       refine mvi rfl ?_
       refine vv (rbin (bAdd (wi (by omega))) rfl rfl) ?_
       refine asi rfl ?_
       refine vnil ?_
       refine ⟨rfl, j + 1, ⟨rfl, rfl, rfl, rfl, trivial⟩, ⟨rfl, trivial⟩, ⟨z230, by omega⟩, ?_⟩
       show np - (j + 1) < np - j
       omega
      ·intro c194
       refine vnil ?_
       refine V.condF rfl ?_
       refine V.exit ?_
       refine V.reg rfl ?_
       refine mvi rfl ?_
       refine vv (rbin (bAdd (wi (by omega))) rfl rfl) ?_
       refine asi rfl ?_
       refine vnil ?_
       refine ⟨rfl, i + 1, ⟨rfl, rfl, rfl, trivial⟩, ⟨rfl, trivial⟩, ⟨z191, by omega⟩, ?_⟩
       show np - (i + 1) < np - i
       omega
   ·intro c19
    refine vnil ?_
    refine V.condF rfl ?_
    refine V.exit ?_
    refine V.seq ?_
    refine V.seq (V.reg rfl ?_)
    refine asi rfl ?_
    refine vnil ?_
    refine V.block ?_
    refine V.loopK (ι := Nat) [(0, .slice _ _ _), (3, .slice _ _ _), (4, .slice _ _ _)] (fun u => [(8, .int .i64 (u : Int))]) (fun u W => Ext W11 W ∧ u ≤ n) (fun u => n - u) (0) ⟨rfl, rfl, rfl, trivial⟩ ⟨rfl, trivial⟩ ⟨Ext.refl _, Nat.zero_le _⟩ ?_
    intro u E232 W231 h233
    obtain ⟨x234, hu⟩ := h233
    have s235 := x234.sz
    have z236 := z16.trans x234
    have z237 := z17.trans x234
    have z238 := z18.trans x234
    have z239 := x234
    refine V.seq ?_
    refine V.seq (V.reg rfl ?_)
    refine mvi rfl ?_
    refine mvs rfl ?_
    refine vv (rlen sl22 rfl) ?_
    refine vlt rfl rfl ?_ ?_
    ·intro c240
     refine vnil ?_
     refine V.condT rfl ?_
     refine V.skip ?_
     refine V.seq ?_
     refine V.block ?_
     refine V.seq (V.reg rfl ?_)
     refine ass rfl ?_
     refine vnil ?_
     refine V.seq ?_
     refine V.seq (V.reg rfl ?_)
     refine asi rfl ?_
     refine vnil ?_
     refine V.block ?_
     refine V.loopK (ι := Nat × Option Addr × Nat × Nat) [(0, .slice _ _ _), (3, .slice _ _ _), (4, .slice _ _ _), (8, .int _ _)] (fun ⟨t, ax, nx, cx⟩ => [(10, .int .i64 (t : Int)), (9, .slice ax nx cx)]) (fun ⟨t, ax, nx, cx⟩ W => Ext W231 W ∧ t ≤ np ∧ GC TT W ax nx cx (comS rss u (redR rss) (pivs rss) t)) (fun ⟨t, ax, nx, cx⟩ => np - t) ((0, _, _, _)) ⟨rfl, rfl, rfl, rfl, trivial⟩ ⟨rfl, rfl, trivial⟩ ⟨Ext.refl _, Nat.zero_le _, ⟨[], RS.nil _ _ _ _ _ (by omega), trivial⟩⟩ ?_
     intro i242 E243 W241 h244
     obtain ⟨t, ax, nx, cx⟩ := i242
     simp only at h244
     show V _ _ _ _ _ _ (ups (ups _ _) [(10, .int .i64 (t : Int)), (9, .slice ax nx cx)]) _
     obtain ⟨x245, ht, hX⟩ := h244
     have s246 := x245.sz
     have z248 := z237.trans x245
     have z249 := z238.trans x245
     have z250 := z239.trans x245
     have z251 := x245
     refine V.seq ?_
     refine V.seq (V.reg rfl ?_)
     refine mvi rfl ?_
     refine mvs rfl ?_
     refine vv (rlen sl22 rfl) ?_
     refine vlt rfl rfl ?_ ?_
     ·intro c252
      obtain ⟨rb0, sk0, sc0, hcs0, hs0⟩ := (hra.ext z249).el (i := (t : Int)) (by omega) (by omega)
      have cs0 : C1 W241 _ _ := hcs0; have hsl0 := hs0.len; have hsm0 := redR_row (rss := rss) (i := t) (by omega)
      have hsk : sk0 = colsN rss := hsl0.symm.trans hsm0
      have hXl := hX.len; have hXn := comS_len rss u (redR_rect rss) (pivs rss) t
      have hXa := (hX).va (L := 1000000) ((comS_sz (pivs rss) hszrss hRsz (by omega) (by omega) u t).mono' (by omega))
      refine vnil ?_
      refine V.condT rfl ?_
      refine V.skip ?_
      refine V.seq ?_
      refine V.block ?_
      refine V.regD mixed rfl ?_
      intro W253 x254
      have s255 := x254.sz
      have z257 := z248.trans x254
      have z258 := z249.trans x254
      have z260 := z251.trans x254
      have q261 := Ext.refl W253
      refine tk 0 rfl (by kernel_rfl) q261 (pv (fun _ y262 => rmv (v := .slice _ _ _) rfl)) ?_
      refine tk 1 rfl (by kernel_rfl) q261 (pv (fun _ y263 => rmv (v := .int _ _) rfl)) ?_
      refine tk 2 rfl (by kernel_rfl) q261 (pv (fun _ y264 => rmv (v := .slice _ _ _) rfl)) ?_
      refine tk 3 rfl (by kernel_rfl) q261 (pv (fun _ y265 => rmv (v := .int _ _) rfl)) ?_
      refine tk 4 rfl (by kernel_rfl) q261 (pv (fun _ y266 => rixn ((hrp.ext z258).ext y266) sl73 sz3 rfl rfl (by omega) (by omega))) ?_
      refine tk 5 rfl (by kernel_rfl) q261 (pv (fun _ y267 => rldN ((hrp.ext z258).ext y267) rfl sc3 (by omega) (by omega))) ?_
      refine tk 7 rfl (by kernel_rfl) q261 (pv (fun _ y268 => rmv (v := .slice _ _ _) rfl)) ?_
      refine tk 8 rfl (by kernel_rfl) q261 (pv (fun _ y269 => rmv (v := .int _ _) rfl)) ?_
      refine tk 9 rfl (by kernel_rfl) q261 (pv (fun _ y270 => rix sl22 sz23 rfl rfl (by omega) (by omega) (((hra.ext z258).ext y270).isS (i := 0) (by omega) (by omega)))) ?_
      refine tk 10 rfl (by kernel_rfl) q261 (pv (fun _ y271 => rld1 (v := .slice _ _ _) rfl sc23 ((cs0.ext x254).ext y271))) ?_
      refine tk 11 rfl (by kernel_rfl) q261 (pv (fun _ y272 => rmv (v := .slice _ _ _) rfl)) ?_
      refine ef 6 (by kernel_rfl) rfl ?_
      refine xcall e38 (mAt_ok _ _ _ _ _ _ _ TT _ _ (marss.ext z257) (by omega) (by omega) (TT.up _)) rfl rfl ?_
      rintro _ W274 ⟨_, rfl, x275, hq273⟩
      have s276 := x275.sz
      have z281 := z260.trans x275
      have q282 := q261.trans x275
      obtain ⟨_, _, _, _, _, _, _, _, rfl⟩ := hq273.form
      refine ⟨_, rfl, ?_⟩
      refine ⟨fun _ => q282, ?_⟩
      refine ef 12 (by kernel_rfl) rfl ?_
      refine xcall e68 (vScl_ok [_, _, _, _] _ _ _ _ _ _ _ _ _ _ _ _ _ _ _ _ _ (hs0.ext (x254.trans x275)) (hXa.ext (x254.trans x275)) ((hq273).qa (hszrss.matI (by omega) _ _)) (by omega) (by omega) (by omega) (by omega) (by omega) (by omega) (TT.up _)) rfl rfl ?_
      rintro _ W283 ⟨_, _, _, rfl, x284, hv⟩
      have s285 := x284.sz
      have z290 := z281.trans x284
      have q291 := q282.trans x284
      have hX2 : GC _ _ _ _ _ (comS rss u (redR rss) (pivs rss) (t + 1)) := hv.cast (by show _ = axR _ _ _; unfold axR; rw [show (rowat (redR rss) t).length = sk0 from hsl0, hXl]; rfl)
      refine ⟨_, rfl, ?_⟩
      refine ⟨fun _ => q291, ?_⟩
      refine tk 13 rfl (by kernel_rfl) q291 (pv (fun _ y292 => ras (v := .slice _ _ _) rfl)) ?_
      refine dn (by kernel_rfl) ?_
      refine V.reg rfl ?_
      refine mvi rfl ?_
      refine vv (rbin (bAdd (wi (by omega))) rfl rfl) ?_
      refine asi rfl ?_
      refine vnil ?_
      refine ⟨rfl, (t + 1, _, _, _), ⟨rfl, rfl, rfl, rfl, trivial⟩, ⟨rfl, rfl, trivial⟩, ⟨z290, by omega, hX2⟩, ?_⟩
      show np - (t + 1) < np - t
      omega
     ·intro c252
      have hXl := hX.len; have hXn := comS_len rss u (redR_rect rss) (pivs rss) t
      have hXa := (hX).va (L := 1000000) ((comS_sz (pivs rss) hszrss hRsz (by omega) (by omega) u t).mono' (by omega))
      refine vnil ?_
      refine V.condF rfl ?_
      refine V.exit ?_
      refine V.seq (V.reg rfl ?_)
      refine mvs rfl ?_
      refine mvs rfl ?_
      refine mvi rfl ?_
      refine vv (rix sl22 sz23 rfl rfl (by omega) (by omega) ((marss.ext z248).isS (i := 0) (by omega) (by omega))) ?_
      refine vldRow (marss.ext z248) rfl sc23 (by omega) (by omega) ?_
      intro a293 n294 c295 hg296
      have hg296l := hg296.len; have hg296m := hg296.max
      refine vo ?_
      have hrw9 := row_le hrrss ((u : Int)).toNat
      refine xcall e21 (vEq_true _ hXa hg296 (by omega) (by omega) (by omega) (by omega) (by omega) (fun j => by rw [show t = (pivs rss).length by omega]; exact comb_law2 rss u j)) rfl rfl ?_
      rintro _ W297 ⟨rfl, x298⟩
      have s299 := x298.sz
      have z303 := z250.trans x298
      refine ⟨_, rfl, ?_⟩
      refine vv (rnot (q := false) rfl rfl) ?_
      refine vnil ?_
      refine V.condF rfl ?_
      refine V.skip ?_
      refine V.reg rfl ?_
      refine mvi rfl ?_
      refine vv (rbin (bAdd (wi (by omega))) rfl rfl) ?_
      refine asi rfl ?_
      refine vnil ?_
      refine ⟨rfl, u + 1, ⟨rfl, rfl, rfl, trivial⟩, ⟨rfl, trivial⟩, ⟨z303, by omega⟩, ?_⟩
      show n - (u + 1) < n - u
      omega
    ·intro c240
     refine vnil ?_
     refine V.condF rfl ?_
     refine V.exit ?_
     refine V.seq (V.reg rfl ?_)
     refine ass rfl ?_
     refine vnil ?_
     refine V.seq (V.reg rfl ?_)
     refine mvs rfl ?_
     refine mvs rfl ?_
     refine vo ?_
     obtain ⟨qs1, hr1, ha1, ho1⟩ := (((marss.ext z237)).mono (L' := 93750) (by omega)).two
     obtain ⟨qs2, hr2, ha2, ho2⟩ := ((hra.ext z238)).two
     refine xappGN (okRowA 93750) sl22 in23 rfl rfl (GO.nil (S := TT) (B := W231.heap.size) _ _) rfl rfl hr1 ho1 (ha1.imp fun _ _ h => (okRowA _).sub h fun b _ _ => ⟨trivial, by simp [Value.ownBlock]⟩) (by have h3 := ha1.len; have h4 := hr1.len; simp only [List.length_nil]; omega) (by decide) (by omega) ?_
     intro v1 W1 hO1 hk1
     have yk1 := hk1.below; have s306 := yk1.size
     have z307 := z236.below (yk1.mono (by omega))
     have z308 := z237.below (yk1.mono (by omega))
     refine mvs rfl ?_
     refine vo ?_
     have ck1 : CK (fun b => b < W231.heap.size) _ _ := (Below.kd (D := fun b => b < W231.heap.size) yk1 (fun k h _ => h)).ck
     refine xappGN (okRowA 93750) sl22 in23 rfl rfl hO1 rfl rfl (hr2.ck ck1) ho2 (ha2.imp fun _ _ h => (okRowA _).sub ((okRowA _).ck h ck1) fun b _ hb => ⟨trivial, fun e => by obtain ⟨qs', hg', _⟩ := hO1; have := (hg'.low _ e).1; omega⟩) (by have h3 := ha1.len; have h4 := hr1.len; have h5 := ha2.len; have h6 := hr2.len; simp only [List.nil_append]; omega) (by decide) (by omega) ?_
     intro v2 W2 hO2 hk2
     have yk2 := hk2.below; have s312 := yk2.size
     have z313 := z307.below (yk2.mono (by omega))
     have z314 := z308.below (yk2.mono (by omega))
     obtain ⟨a', c', rfl⟩ := hO2.form
     have hboth : MA 93750 TT W2 _ _ _ (rss ++ redR rss) := hO2.fin (okRowA _) (fun b _ _ => trivial)
     have hbl := hboth.len; rw [List.length_append, redR_len'] at hbl
     have hbc := both_law rss
     refine ass rfl ?_
     refine vnil ?_
     refine V.seq (V.reg rfl ?_)
     refine mvs rfl ?_
     refine vo ?_
     refine xcall e63 (pRank _ hboth (by omega) (by omega) (by omega) (pow_room (by omega) (by omega))) rfl rfl ?_
     rintro _ W319 ⟨rfl, x320⟩
     have s321 := x320.sz
     have z322 := z313.trans x320
     have z323 := z314.trans x320
     refine ⟨_, rfl, ?_⟩
     refine mvs rfl ?_
     refine vv (rlen sl22 rfl) ?_
     refine veq rfl rfl ?_ ?_
     ·intro c33
      refine mvb rfl ?_
      refine vg rfl ?_
      refine mvs rfl ?_
      refine vg rfl ?_
      refine vo ?_
      refine xcall e45 (mTr_ok _ _ _ 6 _ TT TT _ (marss.ext z323) (by omega) (by omega) (by omega) (by omega) (TT.up _)) rfl rfl ?_
      rintro _ W328 ⟨_, nt, _, rfl, x329, htr⟩
      have s330 := x329.sz
      have z331 := z322.trans x329
      have htra := htr.ma (L := 6) (gridm_sz fun i k => hszrss.matI (by omega) _ _)
      have htl := htr.len; rw [len_gridm] at htl
      have htc := colsN_rect_le (gridm_rect (fun i k => matI rss k i) (colsN rss) n)
      refine ⟨_, rfl, ?_⟩
      refine vg rfl ?_
      refine vo ?_
      refine xcall e63 (pRank _ htra (by omega) (by omega) (by omega) (pow_room (by omega) (by omega))) rfl rfl ?_
      rintro _ W337 ⟨rfl, x338⟩
      have s339 := x338.sz
      have z340 := z331.trans x338
      refine ⟨_, rfl, ?_⟩
      refine vg rfl ?_
      refine mvs rfl ?_
      refine vg rfl ?_
      refine vv (rlen sl22 rfl) ?_
      refine vg rfl ?_
      refine veq rfl rfl ?_ ?_
      ·intro c34
       refine vv (rpk (v := .bool true) rfl rfl) ?_
       refine mvb rfl ?_
       refine vg rfl ?_
       refine vo ?_
       refine xcall e50 (law5_ok _) rfl rfl ?_
       rintro _ W346 ⟨rfl, x347⟩
       have s348 := x347.sz
       have z349 := z340.trans x347
       refine ⟨_, rfl, ?_⟩
       refine vv (rpk (v := .bool true) rfl rfl) ?_
       refine asb rfl ?_
       refine vnil ?_
       refine V.ret ?_
       refine ⟨[.bool true], ⟨rfl, trivial⟩, ?_⟩
       exact ⟨rfl, z349⟩
      ·intro c34
       rw [← hlrss, turn_law] at c34; have hrk9 : rank (padm rss) (colsN rss) = np := hpl; omega
     ·intro c33
      rw [hbc.1, hbc.2] at c33; have hrk9 : rank (padm rss) (colsN rss) = np := hpl; omega
 ·skip
  have s355 := xb1.sz
  have z356 := xb1
  refine vnil ?_
  refine V.condT rfl ?_
  refine V.seq (V.reg rfl ?_)
  refine vo ?_
  refine xcall e50 (law5_ok _) rfl rfl ?_
  rintro _ W357 ⟨rfl, x358⟩
  have s359 := x358.sz
  have z360 := z356.trans x358
  refine ⟨_, rfl, ?_⟩
  refine asb rfl ?_
  refine vnil ?_
  refine V.ret ?_
  refine ⟨[.bool true], ⟨rfl, trivial⟩, ?_⟩
  exact ⟨rfl, z360⟩
end Go.Proofs.YtknbjfefeeojlaaGreat

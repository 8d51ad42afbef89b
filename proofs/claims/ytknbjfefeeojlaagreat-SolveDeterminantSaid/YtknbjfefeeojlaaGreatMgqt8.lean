/- Package pylonlaw05: the sizes that the laws speak of, and the examples. -/
import Derived.Test.YtknbjfefeeojlaaGreatMgqt7
namespace Go.Proofs.YtknbjfefeeojlaaGreat
open Go.RowKit
attribute [local irreducible] RV VH V OpF Calls

set_option maxHeartbeats 400000 in
theorem tall_ok (a1 : Option Addr) (n c : Nat) (rss : List (List RawQ)) (S1 : Nat → Prop) (w : World) (hx : MX S1 w a1 n c rss) :
    Calls Tryz.prog 120 #[.slice a1 n c] w (fun e w' => ∃ q, e = .returned (.bool q) ∧ w = w') := by
 have z0 := Ext.refl w; have hLX : LX = 17592186044416 := rfl; have hLY : LY = 8796093022208 := rfl
 have l1 := hx.len; have l2 := hx.max
 refine enter (args := [.slice a1 n c]) Tryz.func120 rfl rfl (Nat.le_of_ble_eq_true rfl) ?_
 refine V.seq (V.reg rfl ?_)
 refine asb rfl ?_
 refine vnil ?_
 refine V.seq ?_
 refine V.seq (V.reg rfl ?_)
 refine asi rfl ?_
 refine vnil ?_
 refine V.block ?_
 refine V.loopK (ι := Nat) [(0, .slice _ _ _)] (fun k => [(3, .int .i64 (k : Int))]) (fun k W => w = W ∧ k ≤ n) (fun k => n - k) (0) ⟨rfl, trivial⟩ ⟨rfl, trivial⟩ ⟨rfl, Nat.zero_le _⟩ ?_
 intro k E2 W1 h3
 obtain ⟨rfl, hk⟩ := h3
 refine V.seq ?_
 refine V.seq (V.reg rfl ?_)
 refine mvi rfl ?_
 refine mvs rfl ?_
 refine vv (rlen sl22 rfl) ?_
 refine vlt rfl rfl ?_ ?_
 ·intro c4
  refine vnil ?_
  refine V.condT rfl ?_
  refine V.skip ?_
  refine V.seq ?_
  refine V.block ?_
  refine V.seq (V.reg rfl ?_)
  refine asi rfl ?_
  refine vnil ?_
  refine V.block ?_
  refine V.loopK (ι := Nat) [(0, .slice _ _ _), (3, .int _ _), (5, .int _ _), (6, .slice _ _ _), (7, .int _ _), (8, .bool true)] (fun j => [(4, .int .i64 (j : Int))]) (fun j W => w = W ∧ j ≤ (rowat rss ((k : Int)).toNat).length) (fun j => (rowat rss ((k : Int)).toNat).length - j) (0) ⟨rfl, rfl, rfl, rfl, rfl, rfl, trivial⟩ ⟨rfl, trivial⟩ ⟨rfl, Nat.zero_le _⟩ ?_
  intro j E6 W5 h7
  obtain ⟨rfl, hj⟩ := h7
  refine V.seq ?_
  refine V.seq (V.reg rfl ?_)
  refine mvi rfl ?_
  refine mvs rfl ?_
  refine mvi rfl ?_
  refine vv (rix sl22 sz23 rfl rfl (by omega) (by omega) (hx.isS (i := 0) (by omega) (by omega))) ?_
  refine vldRow hx rfl sc23 (by omega) (by omega) ?_
  intro a8 n9 c10 hg11
  have hg11l := hg11.len; have hg11m := hg11.max
  refine vv (rlen sl23 rfl) ?_
  refine vlt rfl rfl ?_ ?_
  ·intro c12
   refine vnil ?_
   refine V.condT rfl ?_
   refine V.skip ?_
   refine V.seq ?_
   refine V.block ?_
   refine V.seq (V.reg rfl ?_)
   refine mvs rfl ?_
   refine mvi rfl ?_
   refine vv (rix sl22 sz23 rfl rfl (by omega) (by omega) (hx.isS (i := 0) (by omega) (by omega))) ?_
   refine vldRow hx rfl sc23 (by omega) (by omega) ?_
   intro a13 n14 c15 hg16
   have hg16l := hg16.len; have hg16m := hg16.max
   refine mvi rfl ?_
   obtain ⟨en0, ea0, el0, ec0, em0, eb0, ek0, ed0, hq0, hc0⟩ := hg16.el (i := (j : Int)) (by omega) (by omega)
   have ce0 : CE w _ _ := hc0
   refine vv (rix sl23 sz48 rfl rfl (by omega) (by omega) (GX.isS (i := 0) hg16 (by omega) (by omega))) ?_
   refine vv (rfaG rfl fd48_0) ?_
   refine vv (rfaG rfl fd46_1) ?_
   refine vv (rld1 (v := .slice _ _ _) rfl sc44 ((ce0.part (l' := [.bool _, .slice _ _ _]) 0 rfl) 1 _ rfl)) ?_
   refine vv (rlen sl44 rfl) ?_
   refine vgt rfl rfl ?_ ?_
   ·intro c17
    refine mvb rfl ?_
    refine vgn (b := true) rfl rfl ?_
    refine vgn (b := true) rfl rfl ?_
    refine vgn (b := true) rfl rfl ?_
    refine vgn (b := true) rfl rfl ?_
    refine vgn (b := true) rfl rfl ?_
    refine vgn (b := true) rfl rfl ?_
    refine vgn (b := true) rfl rfl ?_
    refine vgn (b := true) rfl rfl ?_
    refine vgn (b := true) rfl rfl ?_
    refine vgn (b := true) rfl rfl ?_
    refine vgn (b := true) rfl rfl ?_
    refine vv (rpk (v := .bool true) rfl rfl) ?_
    refine vnil ?_
    refine V.condT rfl ?_
    refine V.seq (V.reg rfl ?_)
    refine asb rfl ?_
    refine vnil ?_
    refine V.ret ?_
    refine ⟨[.bool true], ⟨rfl, trivial⟩, ?_⟩
    exact ⟨_, rfl, rfl⟩
   ·intro c17
    refine mvb rfl ?_
    refine vg rfl ?_
    refine mvs rfl ?_
    refine vg rfl ?_
    refine mvi rfl ?_
    refine vg rfl ?_
    refine vv (rix sl22 sz23 rfl rfl (by omega) (by omega) (hx.isS (i := 0) (by omega) (by omega))) ?_
    refine vg rfl ?_
    refine vldRow hx rfl sc23 (by omega) (by omega) ?_
    intro a18 n19 c20 hg21
    have hg21l := hg21.len; have hg21m := hg21.max
    refine vg rfl ?_
    refine mvi rfl ?_
    refine vg rfl ?_
    obtain ⟨en1, ea1, el1, ec1, em1, eb1, ek1, ed1, hq1, hc1⟩ := hg21.el (i := (j : Int)) (by omega) (by omega)
    have ce1 : CE w _ _ := hc1
    refine vv (rix sl23 sz48 rfl rfl (by omega) (by omega) (GX.isS (i := 0) hg21 (by omega) (by omega))) ?_
    refine vg rfl ?_
    refine vv (rfaG rfl fd48_1) ?_
    refine vg rfl ?_
    refine vv (rfaG rfl fd46_1) ?_
    refine vg rfl ?_
    refine vv (rld1 (v := .slice _ _ _) rfl sc44 ((ce1.part (l' := [.bool _, .slice _ _ _]) 2 rfl) 1 _ rfl)) ?_
    refine vg rfl ?_
    refine vv (rlen sl44 rfl) ?_
    refine vg rfl ?_
    refine vgt rfl rfl ?_ ?_
    ·intro c22
     refine vv (rpk (v := .bool true) rfl rfl) ?_
     refine vnil ?_
     refine V.condT rfl ?_
     refine V.seq (V.reg rfl ?_)
     refine asb rfl ?_
     refine vnil ?_
     refine V.ret ?_
     refine ⟨[.bool true], ⟨rfl, trivial⟩, ?_⟩
     exact ⟨_, rfl, rfl⟩
    ·intro c22
     refine vv (rpk (v := .bool false) rfl rfl) ?_
     refine vnil ?_
     refine V.condF rfl ?_
     refine V.skip ?_
     refine V.reg rfl ?_
     refine mvi rfl ?_
     refine vv (rbin (bAdd (wi (by omega))) rfl rfl) ?_
     refine asi rfl ?_
     refine vnil ?_
     refine ⟨rfl, j + 1, ⟨rfl, rfl, rfl, rfl, rfl, rfl, trivial⟩, ⟨rfl, trivial⟩, ⟨rfl, by omega⟩, ?_⟩
     show (rowat rss ((k : Int)).toNat).length - (j + 1) < (rowat rss ((k : Int)).toNat).length - j
     omega
  ·intro c12
   refine vnil ?_
   refine V.condF rfl ?_
   refine V.exit ?_
   refine V.reg rfl ?_
   refine mvi rfl ?_
   refine vv (rbin (bAdd (wi (by omega))) rfl rfl) ?_
   refine asi rfl ?_
   refine vnil ?_
   refine ⟨rfl, k + 1, ⟨rfl, trivial⟩, ⟨rfl, trivial⟩, ⟨rfl, by omega⟩, ?_⟩
   show n - (k + 1) < n - k
   omega
 ·intro c4
  refine vnil ?_
  refine V.condF rfl ?_
  refine V.exit ?_
  refine V.seq (V.reg rfl ?_)
  refine asb rfl ?_
  refine vnil ?_
  refine V.ret ?_
  refine ⟨[.bool false], ⟨rfl, trivial⟩, ?_⟩
  exact ⟨_, rfl, rfl⟩
set_option maxHeartbeats 400000 in
theorem long5_ok (a1 a2 : Option Addr) (n c m d : Nat) (A B : List (List RawQ)) (S2 : Nat → Prop) (w : World) (hx : MX TT w a1 n c A) (hy : MX S2 w a2 m d B) :
    Calls Tryz.prog 49 #[.slice a1 n c, .slice a2 m d] w (fun e w' => ∃ q, e = .returned (.bool q) ∧ Ext w w' ∧ (q = false → (smallM A ∧ A.length ≤ 6 ∧ colsG A ≤ 6) ∧ ∀ r ∈ B, r.length ≤ 20 ∧ smallV r)) := by
 have z0 := Ext.refl w; have hLX : LX = 17592186044416 := rfl; have hLY : LY = 8796093022208 := rfl
 have l1 := hx.len; have l2 := hx.max; have l3 := hy.len; have l4 := hy.max
 refine enter (args := [.slice a1 n c, .slice a2 m d]) Tryz.func49 rfl rfl (Nat.le_of_ble_eq_true rfl) ?_
 refine V.seq (V.reg rfl ?_)
 refine asb rfl ?_
 refine vnil ?_
 refine V.seq ?_
 refine V.seq (V.reg rfl ?_)
 refine mvs rfl ?_
 refine vo ?_
 refine xbs (ps := [(0, .slice _ _ _)]) (cs := [.slice _ _ _]) sl115 zr22 sz22 rfl rfl rfl rfl rfl rfl ?_
 intro W1 x2 b3 nn4
 have s5 := x2.sz
 have z6 := x2
 refine vo ?_
 have hm7 : MXX TT W1 (some ⟨w.heap.size, 0, none⟩) 1 1 [_] := ⟨[[.slice _ _ _]], RS.lit (s := 1) (S := TT) (n := 1) _ b3 rfl (by simp) trivial rfl (by omega), ⟨_, _, _, rfl, (hx.ext z6)⟩, trivial⟩
 refine xcall e32 (long4_ok _ _ _ _ _ _ hm7) rfl rfl ?_
 rintro _ Wb1 ⟨bb1, rfl, xb1, hb1⟩
 refine ⟨_, rfl, ?_⟩
 cases bb1
 ·skip
  have s8 := xb1.sz
  have z9 := z6.trans xb1
  refine mvb rfl ?_
  refine vg rfl ?_
  refine mvs rfl ?_
  refine vg rfl ?_
  refine vv (rlen sl22 rfl) ?_
  refine vg rfl ?_
  refine vgt rfl rfl ?_ ?_
  ·intro c10
   refine vv (rpk (v := .bool true) rfl rfl) ?_
   refine mvb rfl ?_
   refine vgn (b := true) rfl rfl ?_
   refine vgn (b := true) rfl rfl ?_
   refine vgn (b := true) rfl rfl ?_
   refine vv (rpk (v := .bool true) rfl rfl) ?_
   refine mvb rfl ?_
   refine vgn (b := true) rfl rfl ?_
   refine vgn (b := true) rfl rfl ?_
   refine vv (rpk (v := .bool true) rfl rfl) ?_
   refine vnil ?_
   refine V.condT rfl ?_
   refine V.seq (V.reg rfl ?_)
   refine asb rfl ?_
   refine vnil ?_
   refine V.ret ?_
   refine ⟨[.bool true], ⟨rfl, trivial⟩, ?_⟩
   exact ⟨_, rfl, z9, fun h => (by cases h)⟩
  ·intro c10
   refine vv (rpk (v := .bool false) rfl rfl) ?_
   refine mvb rfl ?_
   refine vg rfl ?_
   refine mvs rfl ?_
   refine vg rfl ?_
   refine vo ?_
   refine xcall e36 (rCols_ok _ _ _ _ _ _ (hx.ext z9)) rfl rfl ?_
   rintro _ _ ⟨rfl, rfl⟩
   refine ⟨_, rfl, ?_⟩
   refine vg rfl ?_
   refine vgt rfl rfl ?_ ?_
   ·intro c12
    refine vv (rpk (v := .bool true) rfl rfl) ?_
    refine mvb rfl ?_
    refine vgn (b := true) rfl rfl ?_
    refine vgn (b := true) rfl rfl ?_
    refine vv (rpk (v := .bool true) rfl rfl) ?_
    refine vnil ?_
    refine V.condT rfl ?_
    refine V.seq (V.reg rfl ?_)
    refine asb rfl ?_
    refine vnil ?_
    refine V.ret ?_
    refine ⟨[.bool true], ⟨rfl, trivial⟩, ?_⟩
    exact ⟨_, rfl, z9, fun h => (by cases h)⟩
   ·intro c12
    refine vv (rpk (v := .bool false) rfl rfl) ?_
    refine mvb rfl ?_
    refine vg rfl ?_
    refine mvs rfl ?_
    refine vg rfl ?_
    refine vo ?_
    refine xcall e14 (long3_ok _ _ _ _ _ _ (hy.ext z9)) rfl rfl ?_
    rintro _ Wb2 ⟨bb2, rfl, xb2, hb2⟩
    refine ⟨_, rfl, ?_⟩
    cases bb2
    ·skip
     have s13 := xb2.sz
     have z14 := z9.trans xb2
     refine vv (rpk (v := .bool false) rfl rfl) ?_
     refine vnil ?_
     refine V.condF rfl ?_
     refine V.skip ?_
     refine V.seq ?_
     refine V.seq (V.reg rfl ?_)
     refine asi rfl ?_
     refine vnil ?_
     refine V.block ?_
     refine V.loopK (ι := Nat) [(0, .slice _ _ _), (1, .slice _ _ _)] (fun k => [(5, .int .i64 (k : Int))]) (fun k W => Ext Wb2 W ∧ k ≤ m) (fun k => m - k) (0) ⟨rfl, rfl, trivial⟩ ⟨rfl, trivial⟩ ⟨Ext.refl _, Nat.zero_le _⟩ ?_
     intro k E16 W15 h17
     obtain ⟨x18, hk⟩ := h17
     have s19 := x18.sz
     have z20 := z14.trans x18
     have z21 := x18
     refine V.seq ?_
     refine V.seq (V.reg rfl ?_)
     refine mvi rfl ?_
     refine mvs rfl ?_
     refine vv (rlen sl22 rfl) ?_
     refine vlt rfl rfl ?_ ?_
     ·intro c22
      refine vnil ?_
      refine V.condT rfl ?_
      refine V.skip ?_
      refine V.seq ?_
      refine V.block ?_
      refine V.seq (V.reg rfl ?_)
      refine mvs rfl ?_
      refine mvi rfl ?_
      refine vv (rix sl22 sz23 rfl rfl (by omega) (by omega) ((hy.ext z20).isS (i := 0) (by omega) (by omega))) ?_
      refine vldRow (hy.ext z20) rfl sc23 (by omega) (by omega) ?_
      intro a23 n24 c25 hg26
      have hg26l := hg26.len; have hg26m := hg26.max
      refine vv (rlen sl23 rfl) ?_
      refine vgt rfl rfl ?_ ?_
      ·intro c27
       refine vnil ?_
       refine V.condT rfl ?_
       refine V.seq (V.reg rfl ?_)
       refine asb rfl ?_
       refine vnil ?_
       refine V.ret ?_
       refine ⟨[.bool true], ⟨rfl, trivial⟩, ?_⟩
       exact ⟨_, rfl, z20, fun h => (by cases h)⟩
      ·intro c27
       refine vnil ?_
       refine V.condF rfl ?_
       refine V.skip ?_
       refine V.reg rfl ?_
       refine mvi rfl ?_
       refine vv (rbin (bAdd (wi (by omega))) rfl rfl) ?_
       refine asi rfl ?_
       refine vnil ?_
       refine ⟨rfl, k + 1, ⟨rfl, rfl, trivial⟩, ⟨rfl, trivial⟩, ⟨z21, by omega⟩, ?_⟩
       show m - (k + 1) < m - k
       omega
     ·intro c22
      refine vnil ?_
      refine V.condF rfl ?_
      refine V.exit ?_
      refine V.seq (V.reg rfl ?_)
      refine mvs rfl ?_
      refine vo ?_
      refine xcall e120 (tall_ok _ _ _ _ _ _ (hx.ext z20)) rfl rfl ?_
      rintro _ _ ⟨bb3, rfl, rfl⟩
      refine ⟨_, rfl, ?_⟩
      cases bb3
      ·skip
       refine mvb rfl ?_
       refine vg rfl ?_
       refine mvs rfl ?_
       refine vg rfl ?_
       refine vo ?_
       refine xcall e120 (tall_ok _ _ _ _ _ _ (hy.ext z20)) rfl rfl ?_
       rintro _ _ ⟨bb4, rfl, rfl⟩
       refine ⟨_, rfl, ?_⟩
       cases bb4
       ·skip
        refine vv (rpk (v := .bool false) rfl rfl) ?_
        refine asb rfl ?_
        refine vnil ?_
        refine V.ret ?_
        refine ⟨[.bool false], ⟨rfl, trivial⟩, ?_⟩
        exact ⟨_, rfl, z20, fun _ => ⟨⟨(hb1 rfl) A (by simp), by omega, by omega⟩, hb2 rfl⟩⟩
       ·skip
        refine vv (rpk (v := .bool true) rfl rfl) ?_
        refine asb rfl ?_
        refine vnil ?_
        refine V.ret ?_
        refine ⟨[.bool true], ⟨rfl, trivial⟩, ?_⟩
        exact ⟨_, rfl, z20, fun h => (by cases h)⟩
      ·skip
       refine mvb rfl ?_
       refine vgn (b := true) rfl rfl ?_
       refine vgn (b := true) rfl rfl ?_
       refine vv (rpk (v := .bool true) rfl rfl) ?_
       refine asb rfl ?_
       refine vnil ?_
       refine V.ret ?_
       refine ⟨[.bool true], ⟨rfl, trivial⟩, ?_⟩
       exact ⟨_, rfl, z20, fun h => (by cases h)⟩
    ·skip
     have s28 := xb2.sz
     have z29 := z9.trans xb2
     refine vv (rpk (v := .bool true) rfl rfl) ?_
     refine vnil ?_
     refine V.condT rfl ?_
     refine V.seq (V.reg rfl ?_)
     refine asb rfl ?_
     refine vnil ?_
     refine V.ret ?_
     refine ⟨[.bool true], ⟨rfl, trivial⟩, ?_⟩
     exact ⟨_, rfl, z29, fun h => (by cases h)⟩
 ·skip
  have s30 := xb1.sz
  have z31 := z6.trans xb1
  refine mvb rfl ?_
  refine vgn (b := true) rfl rfl ?_
  refine vgn (b := true) rfl rfl ?_
  refine vgn (b := true) rfl rfl ?_
  refine vv (rpk (v := .bool true) rfl rfl) ?_
  refine mvb rfl ?_
  refine vgn (b := true) rfl rfl ?_
  refine vgn (b := true) rfl rfl ?_
  refine vgn (b := true) rfl rfl ?_
  refine vv (rpk (v := .bool true) rfl rfl) ?_
  refine mvb rfl ?_
  refine vgn (b := true) rfl rfl ?_
  refine vgn (b := true) rfl rfl ?_
  refine vv (rpk (v := .bool true) rfl rfl) ?_
  refine vnil ?_
  refine V.condT rfl ?_
  refine V.seq (V.reg rfl ?_)
  refine asb rfl ?_
  refine vnil ?_
  refine V.ret ?_
  refine ⟨[.bool true], ⟨rfl, trivial⟩, ?_⟩
  exact ⟨_, rfl, z31, fun h => (by cases h)⟩

section
variable {L : Nat} {S S1 S2 : Nat → Prop} {a1 a2 : Option Addr} {n c m d : Nat} {rss : List (List Rat)} {bs : List Rat}
theorem sReduce_at (w : World) (p : List Int) (r : List (List Rat)) (np nr : Nat) (hx : MA L S1 w a1 n c rss) (hl1 : 1 ≤ L) (hn : n ≤ 1024) (hc : colsN rss ≤ 1024) (hL5 : 15 * (L * 5 ^ colsN rss) + 2 < LY) (hu : Up S w) (e1 : (redS (gridm (matI rss) n (colsN rss)) (colsN rss)).2.1 = p) (e2 : (redS (gridm (matI rss) n (colsN rss)) (colsN rss)).1.take p.length = r) (e3 : p.length = np) :
    Calls Tryz.prog 60 #[.slice a1 n c] w fun e w' => ∃ ar cr ap cp, e = .returned (.tuple #[.slice ar np cr, .slice ap np cp]) ∧ Ext w w' ∧ MC S w' ar np cr r ∧ RN .i64 S w' ap np cp p := by
  have h := sReduce_ok a1 n c L rss S S1 w hx hl1 hn hc hL5 hu
  rw [e1, e2, e3] at h; exact h
theorem sDet_at (w : World) (er : Int) (r : Rat) (hx : MA L S1 w a1 n c rss) (hl1 : 1 ≤ L) (hn : n ≤ 1024) (hc : colsN rss ≤ 1024) (hL5 : 15 * (L * 5 ^ colsN rss) + 2 < LY) (hu : Up S w) (e1 : (if n = colsN rss then (0 : Int) else 13) = er) (e2 : (if n = colsN rss then detS (gridm (matI rss) n (colsN rss)) (colsN rss) else 0) = r) :
    Calls Tryz.prog 55 #[.slice a1 n c] w fun e w' => ∃ q, e = .returned (.tuple #[.agg q.toArray, .int .i64 er]) ∧ Ext w w' ∧ QC S w' q r := by
  have h := sDet_ok a1 n c L rss S S1 w hx hl1 hn hc hL5 hu
  rw [e1, e2] at h; exact h
theorem sInv_at (w : World) (er : Int) (r : List (List Rat)) (nr : Nat) (hx : MA L S1 w a1 n c rss) (hl1 : 1 ≤ L) (hn : n ≤ 512) (hc : colsN rss ≤ 1024) (hL5 : 15 * (L * 5 ^ n) + 2 < LY) (hu : Up S w) (e1 : (invS rss n).2 = er) (e2 : (invS rss n).1 = r) (e3 : r.length = nr) :
    Calls Tryz.prog 54 #[.slice a1 n c] w fun e w' => ∃ ar cr, e = .returned (.tuple #[.slice ar nr cr, .int .i64 er]) ∧ Ext w w' ∧ MC S w' ar nr cr r := by
  refine (sInverse_ok a1 n c L rss S S1 w hx hl1 hn hc hL5 hu).mono ?_
  rintro _ w' ⟨ar, nr, cr, rfl, x, h⟩
  rw [e2] at h; subst e1 e3
  obtain rfl := h.len
  exact ⟨ar, cr, rfl, x, h⟩
theorem sSolve_at (w : World) (er : Int) (x : List Rat) (fr : List (List Rat)) (nx nf : Nat) (hx : MA L S1 w a1 n c rss) (hy : GA L S2 w a2 m d bs) (hl1 : 1 ≤ L) (hn : n ≤ 1000) (hm : m ≤ 1000) (hc : colsN rss ≤ 1000) (hL5 : 15 * (L * 5 ^ (colsN rss + 1)) + 2 < LY) (hu : Up S w) (e1 : solX rss bs (max n m) = x) (e2 : solF rss bs n (max n m) = fr) (e3 : solE rss bs (max n m) = er) (e4 : x.length = nx) (e5 : fr.length = nf) :
    Calls Tryz.prog 51 #[.slice a1 n c, .slice a2 m d] w fun e w' => ∃ ax cx af cf, e = .returned (.tuple #[.slice ax nx cx, .slice af nf cf, .int .i64 er]) ∧ Ext w w' ∧ GC S w' ax nx cx x ∧ MC S w' af nf cf fr := by
  refine (sSolve_ok a1 a2 n c m d L rss bs S S1 S2 w hx hy hl1 hn hm hc hL5 hu).mono ?_
  rintro _ w' ⟨ax, nx, cx, af, nf, cf, er', rfl, x, h1, h2, h3⟩
  subst e4 e5
  rw [e1] at h1; rw [e2] at h2; rw [e3] at h3; subst h3
  obtain rfl := h1.len
  obtain rfl := h2.len
  exact ⟨ax, cx, af, cf, rfl, x, h1, h2⟩
end

set_option maxHeartbeats 400000 in
theorem rInts5_ok (a1 a2 : Option Addr) (n c m d : Nat) (xs ys : List Int) (S1 S2 : Nat → Prop) (w : World) (hx : RN .i64 S1 w a1 n c xs) (hy : RN .i64 S2 w a2 m d ys) :
    Calls Tryz.prog 62 #[.slice a1 n c, .slice a2 m d] w (fun e w' => ∃ q, e = .returned (.bool q) ∧ Ext w w' ∧ (q = true ↔ xs = ys)) := by
 have z0 := Ext.refl w; have hLX : LX = 17592186044416 := rfl; have hLY : LY = 8796093022208 := rfl
 have l1 := hx.len; have l2 := hx.cap; have l3 := hx.max; have l4 := hy.len; have l5 := hy.cap; have l6 := hy.max
 refine enter (args := [.slice a1 n c, .slice a2 m d]) Tryz.func62 rfl rfl (Nat.le_of_ble_eq_true rfl) ?_
 refine V.seq (V.reg rfl ?_)
 refine asb rfl ?_
 refine vnil ?_
 refine V.seq ?_
 refine V.seq (V.reg rfl ?_)
 refine mvs rfl ?_
 refine vv (rlen sl73 rfl) ?_
 refine mvs rfl ?_
 refine vv (rlen sl73 rfl) ?_
 refine vne rfl rfl ?_ ?_
 ·intro c1
  refine vnil ?_
  refine V.condT rfl ?_
  refine V.seq (V.reg rfl ?_)
  refine asb rfl ?_
  refine vnil ?_
  refine V.ret ?_
  refine ⟨[.bool false], ⟨rfl, trivial⟩, ?_⟩
  exact ⟨_, rfl, (Ext.refl w), ⟨fun h => (by cases h), fun h => by subst h; omega⟩⟩
 ·intro c1
  refine vnil ?_
  refine V.condF rfl ?_
  refine V.skip ?_
  refine V.seq ?_
  refine V.seq (V.reg rfl ?_)
  refine asi rfl ?_
  refine vnil ?_
  refine V.block ?_
  refine V.loopK (ι := Nat) [(0, .slice _ _ _), (1, .slice _ _ _)] (fun k => [(5, .int .i64 (k : Int))]) (fun k W => Ext w W ∧ k ≤ n ∧ xs.take k = ys.take k) (fun k => n - k) (0) ⟨rfl, rfl, trivial⟩ ⟨rfl, trivial⟩ ⟨Ext.refl _, Nat.zero_le _, rfl⟩ ?_
  intro k E3 W2 h4
  obtain ⟨x5, hk, ht⟩ := h4
  have s6 := x5.sz
  have z7 := x5
  refine V.seq ?_
  refine V.seq (V.reg rfl ?_)
  refine mvi rfl ?_
  refine mvs rfl ?_
  refine vv (rlen sl73 rfl) ?_
  refine vlt rfl rfl ?_ ?_
  ·intro c8
   refine vnil ?_
   refine V.condT rfl ?_
   refine V.skip ?_
   refine V.seq ?_
   refine V.block ?_
   refine V.seq (V.regD mixed rfl ?_)
   intro W9 x10
   have s11 := x10.sz
   have z12 := z7.trans x10
   have q13 := Ext.refl W9
   refine tk 0 rfl (by kernel_rfl) q13 (pv (fun _ y14 => rmv (v := .slice _ _ _) rfl)) ?_
   refine tk 1 rfl (by kernel_rfl) q13 (pv (fun _ y15 => rmv (v := .int _ _) rfl)) ?_
   refine tk 2 rfl (by kernel_rfl) q13 (pv (fun _ y16 => rixn ((hx.ext z12).ext y16) sl73 sz3 rfl rfl (by omega) (by omega))) ?_
   refine tk 3 rfl (by kernel_rfl) q13 (pv (fun _ y17 => rldN ((hx.ext z12).ext y17) rfl sc3 (by omega) (by omega))) ?_
   refine tk 4 rfl (by kernel_rfl) q13 (pv (fun _ y18 => rmv (v := .slice _ _ _) rfl)) ?_
   refine tk 5 rfl (by kernel_rfl) q13 (pv (fun _ y19 => rmv (v := .int _ _) rfl)) ?_
   refine tk 6 rfl (by kernel_rfl) q13 (pv (fun _ y20 => rixn ((hy.ext z12).ext y20) sl73 sz3 rfl rfl (by omega) (by omega))) ?_
   refine tk 7 rfl (by kernel_rfl) q13 (pv (fun _ y21 => rldN ((hy.ext z12).ext y21) rfl sc3 (by omega) (by omega))) ?_
   refine tkNe 8 rfl (by kernel_rfl) q13 rfl rfl (fun _ h => pv h) ?_ ?_
   ·intro cz
    refine dn (by kernel_rfl) ?_
    refine V.condT rfl ?_
    refine V.seq (V.reg rfl ?_)
    refine asb rfl ?_
    refine vnil ?_
    refine V.ret ?_
    refine ⟨[.bool false], ⟨rfl, trivial⟩, ?_⟩
    exact ⟨_, rfl, z12, ⟨fun h => (by cases h), fun h => absurd (by rw [h]) cz⟩⟩
   ·intro cz
    refine dn (by kernel_rfl) ?_
    refine V.condF rfl ?_
    refine V.skip ?_
    refine V.reg rfl ?_
    refine mvi rfl ?_
    refine vv (rbin (bAdd (wi (by omega))) rfl rfl) ?_
    refine asi rfl ?_
    refine vnil ?_
    refine ⟨rfl, k + 1, ⟨rfl, rfl, trivial⟩, ⟨rfl, trivial⟩, ⟨z12, by omega, by rw [take_getD 0 xs k (by omega), take_getD 0 ys k (by omega), ht]; simp only [wd, Int.toNat_natCast] at cz; rw [cz]⟩, ?_⟩
    show n - (k + 1) < n - k
    omega
  ·intro c8
   refine vnil ?_
   refine V.condF rfl ?_
   refine V.exit ?_
   refine V.seq (V.reg rfl ?_)
   refine asb rfl ?_
   refine vnil ?_
   refine V.ret ?_
   refine ⟨[.bool true], ⟨rfl, trivial⟩, ?_⟩
   refine ⟨_, rfl, z7, ?_⟩
   rw [List.take_of_length_le (by omega), List.take_of_length_le (by omega)] at ht
   exact ⟨fun _ => ht, fun _ => rfl⟩

theorem QC.to {S : Nat → Prop} {W : World} {q : List Value} {r r' : Rat} (h : QC S W q r) (e : r = r') : QC S W q r' := e ▸ h
theorem rInts5_true {S1 S2 : Nat → Prop} {a1 a2 : Option Addr} {n c m d : Nat} {xs ys : List Int} (w : World) (hx : RN .i64 S1 w a1 n c xs) (hy : RN .i64 S2 w a2 m d ys) (e : xs = ys) : Calls Tryz.prog 62 #[.slice a1 n c, .slice a2 m d] w fun e w' => e = .returned (.bool true) ∧ Ext w w' := by
  refine (rInts5_ok _ _ _ _ _ _ _ _ _ _ w hx hy).mono ?_
  rintro _ _ ⟨q, h1, h2, h3⟩
  exact ⟨by rw [h1, h3.2 e], h2⟩


theorem qIs5_true {S1 S2 : Nat → Prop} {q1 q2 : List Value} {r s : Rat} (w : World) (h1 : QC S1 w q1 r) (h2 : QC S2 w q2 s) (e : r = s) : Calls Tryz.prog 37 #[.agg q1.toArray, .agg q2.toArray] w fun e w' => e = .returned (.bool true) ∧ Ext w w' := by
  refine (qIs_ok _ _ _ _ _ _ w h1 h2).mono ?_
  rintro _ _ ⟨q, h1, h2, h3⟩
  exact ⟨by rw [h1, h3.2 (by rw [e])], h2⟩

set_option maxHeartbeats 2000000 in
theorem law5_ok (w : World) :
    Calls Tryz.prog 50 #[] w (fun e w' => e = .returned (.bool true) ∧ Ext w w') := by
 have z0 := Ext.refl w; have hLX : LX = 17592186044416 := rfl; have hLY : LY = 8796093022208 := rfl
 have hLV : LV = 1099511627776 := rfl
 refine enter (args := []) Tryz.func50 rfl rfl (Nat.le_of_ble_eq_true rfl) ?_
 refine V.seq (V.reg rfl ?_)
 refine asb rfl ?_
 refine vnil ?_
 refine V.seq (V.reg rfl ?_)
 refine asf rfl ?_
 refine vnil ?_
 refine V.seq (V.reg rfl ?_)
 refine mvf rfl ?_
 refine vo ?_
 refine xbs (ps := [(0, .int _ _), (1, .int _ _)]) (cs := [.int _ _, .int _ _]) sl118 zr2 sz2 rfl rfl rfl rfl rfl rfl ?_
 intro W1 x2 b3 nn4
 have s5 := x2.sz
 have z6 := x2
 refine vo ?_
 refine xbs (ps := [(0, .int _ _), (1, .int _ _)]) (cs := [.int _ _, .int _ _]) sl118 zr2 sz2 rfl rfl rfl rfl rfl rfl ?_
 intro W7 x8 b9 nn10
 have s11 := x8.sz
 have z12 := z6.trans x8
 replace b3 := b3.ext x8
 refine vo ?_
 refine xbs (ps := [(0, .slice _ _ _), (1, .slice _ _ _)]) (cs := [.slice _ _ _, .slice _ _ _]) sl119 zr118 sz118 rfl rfl rfl rfl rfl rfl ?_
 intro W13 x14 b15 nn16
 have s17 := x14.sz
 have z18 := z12.trans x14
 replace b3 := b3.ext x14
 replace b9 := b9.ext x14
 refine vo ?_
 have hl19 := RN.lit (k := .i64) (xs := [_, _]) 2 b3 (by intro q hq; simp only [List.mem_cons, List.not_mem_nil, or_false] at hq; simp only [kb]; omega) (TT.up w _ (Nat.le_refl _))
 have hl20 := RN.lit (k := .i64) (xs := [_, _]) 2 b9 (by intro q hq; simp only [List.mem_cons, List.not_mem_nil, or_false] at hq; simp only [kb]; omega) (TT.up W1 _ (Nat.le_refl _))
 have hm21 : MI TT W13 (some ⟨W7.heap.size, 0, none⟩) 2 2 [[2, 4], [1, 3]] := ⟨[[.slice _ _ _], [.slice _ _ _]], RS.lit (S := TT) _ b15 rfl (by simp) trivial rfl (by omega), ⟨_, _, _, rfl, hl19⟩, ⟨_, _, _, rfl, hl20⟩, trivial⟩
 refine xcall e103 (rmInts_ok _ _ _ [[2, 4], [1, 3]] TT TT _ hm21 (by omega) (by intro r hr; simp at hr; rcases hr with rfl | rfl <;> simp <;> omega) (TT.up _)) rfl rfl ?_
 rintro _ W24 ⟨_, rn23, _, rfl, x25, hv22⟩
 have s26 := x25.sz
 have z27 := z18.trans x25
 replace b3 := b3.ext x25
 replace b9 := b9.ext x25
 replace b15 := b15.ext x25
 obtain rfl : rn23 = 2 := by have := hv22.len; simpa using this.symm
 replace hv22 := hv22.cast (rss' := ([[2, 4], [1, 3]] : List (List Rat))) (by rfl)
 refine ⟨_, rfl, ?_⟩
 refine mvf rfl ?_
 refine vo ?_
 refine xbs (ps := [(0, .int _ _), (1, .int _ _)]) (cs := [.int _ _, .int _ _]) sl118 zr2 sz2 rfl rfl rfl rfl rfl rfl ?_
 intro W28 x29 b30 nn31
 have s32 := x29.sz
 have z33 := z27.trans x29
 replace b3 := b3.ext x29
 replace b9 := b9.ext x29
 replace b15 := b15.ext x29
 refine vo ?_
 refine xbs (ps := [(0, .int _ _), (1, .int _ _)]) (cs := [.int _ _, .int _ _]) sl118 zr2 sz2 rfl rfl rfl rfl rfl rfl ?_
 intro W34 x35 b36 nn37
 have s38 := x35.sz
 have z39 := z33.trans x35
 replace b3 := b3.ext x35
 replace b9 := b9.ext x35
 replace b15 := b15.ext x35
 replace b30 := b30.ext x35
 refine vo ?_
 refine xbs (ps := [(0, .slice _ _ _), (1, .slice _ _ _)]) (cs := [.slice _ _ _, .slice _ _ _]) sl119 zr118 sz118 rfl rfl rfl rfl rfl rfl ?_
 intro W40 x41 b42 nn43
 have s44 := x41.sz
 have z45 := z39.trans x41
 replace b3 := b3.ext x41
 replace b9 := b9.ext x41
 replace b15 := b15.ext x41
 replace b30 := b30.ext x41
 replace b36 := b36.ext x41
 refine vo ?_
 have hl46 := RN.lit (k := .i64) (xs := [_, _]) 2 b30 (by intro q hq; simp only [List.mem_cons, List.not_mem_nil, or_false] at hq; simp only [kb]; omega) (TT.up W24 _ (Nat.le_refl _))
 have hl47 := RN.lit (k := .i64) (xs := [_, _]) 2 b36 (by intro q hq; simp only [List.mem_cons, List.not_mem_nil, or_false] at hq; simp only [kb]; omega) (TT.up W28 _ (Nat.le_refl _))
 have hm48 : MI TT W40 (some ⟨W34.heap.size, 0, none⟩) 2 2 [[1, 2], [2, 4]] := ⟨[[.slice _ _ _], [.slice _ _ _]], RS.lit (S := TT) _ b42 rfl (by simp) trivial rfl (by omega), ⟨_, _, _, rfl, hl46⟩, ⟨_, _, _, rfl, hl47⟩, trivial⟩
 refine xcall e103 (rmInts_ok _ _ _ [[1, 2], [2, 4]] TT TT _ hm48 (by omega) (by intro r hr; simp at hr; rcases hr with rfl | rfl <;> simp <;> omega) (TT.up _)) rfl rfl ?_
 rintro _ W51 ⟨_, rn50, _, rfl, x52, hv49⟩
 have s53 := x52.sz
 have z54 := z45.trans x52
 replace b3 := b3.ext x52
 replace b9 := b9.ext x52
 replace b15 := b15.ext x52
 replace b30 := b30.ext x52
 replace b36 := b36.ext x52
 replace b42 := b42.ext x52
 obtain rfl : rn50 = 2 := by have := hv49.len; simpa using this.symm
 replace hv49 := hv49.cast (rss' := ([[1, 2], [2, 4]] : List (List Rat))) (by rfl)
 refine ⟨_, rfl, ?_⟩
 refine ass rfl ?_
 refine ass rfl ?_
 refine vnil ?_
 refine V.seq (V.reg rfl ?_)
 refine mvs rfl ?_
 refine vo ?_
 refine xbs (ps := [(0, .int _ _), (1, .int _ _)]) (cs := [.int _ _, .int _ _]) sl118 zr2 sz2 rfl rfl rfl rfl rfl rfl ?_
 intro W55 x56 b57 nn58
 have s59 := x56.sz
 have z60 := z54.trans x56
 replace b3 := b3.ext x56
 replace b9 := b9.ext x56
 replace b15 := b15.ext x56
 replace b30 := b30.ext x56
 replace b36 := b36.ext x56
 replace b42 := b42.ext x56
 refine vo ?_
 have hl61 := RN.lit (k := .i64) (xs := [_, _]) 2 b57 (by intro q hq; simp only [List.mem_cons, List.not_mem_nil, or_false] at hq; simp only [kb]; omega) (TT.up W51 _ (Nat.le_refl _))
 refine xcall e82 (vFrom_ok _ _ _ [6, 4] TT TT _ hl61 (by omega) (TT.up _)) rfl rfl ?_
 rintro _ W64 ⟨_, rn63, _, rfl, x65, hv62⟩
 have s66 := x65.sz
 have z67 := z60.trans x65
 replace b3 := b3.ext x65
 replace b9 := b9.ext x65
 replace b15 := b15.ext x65
 replace b30 := b30.ext x65
 replace b36 := b36.ext x65
 replace b42 := b42.ext x65
 replace b57 := b57.ext x65
 obtain rfl : rn63 = 2 := by have := hv62.len; simpa using this.symm
 replace hv62 := hv62.cast (rs' := ([6, 4] : List Rat)) (by rfl)
 refine ⟨_, rfl, ?_⟩
 refine vo ?_
 refine xcall e51 (sSolve_at _ (0) ([1, 1] : List Rat) ([] : List (List Rat)) 2 0 (((hv22.ext (((((x29.trans x35).trans x41).trans x52).trans x56).trans x65))).ma (L := 1) (szM_B (by decide +kernel))) ((hv62).va (L := 1) (szV_B (by decide +kernel))) (by omega) (by omega) (by omega) (by decide +kernel) (by decide +kernel) (TT.up _) (by decide +kernel) (by decide +kernel) (by decide +kernel) rfl rfl) rfl rfl ?_
 rintro _ W70 ⟨_, _, _, _, rfl, x71, hv68, hv69⟩
 have s72 := x71.sz
 have z73 := z67.trans x71
 replace b3 := b3.ext x71
 replace b9 := b9.ext x71
 replace b15 := b15.ext x71
 replace b30 := b30.ext x71
 replace b36 := b36.ext x71
 replace b42 := b42.ext x71
 replace b57 := b57.ext x71
 refine ⟨_, rfl, ?_⟩
 refine mvt rfl ?_
 refine vv (rext (v := .slice _ _ _) rfl rfl) ?_
 refine vv (rext (v := .slice _ _ _) rfl rfl) ?_
 refine vv (rext (v := .int _ _) rfl rfl) ?_
 refine ass rfl ?_
 refine ass rfl ?_
 refine asi rfl ?_
 refine vnil ?_
 refine V.seq (V.reg rfl ?_)
 refine mvs rfl ?_
 refine vo ?_
 refine xcall e60 (sReduce_at _ [0] ([[1, 2]] : List (List Rat)) 1 1 (((hv49.ext ((x56.trans x65).trans x71))).ma (L := 1) (szM_B (by decide +kernel))) (by omega) (by omega) (by decide +kernel) (by decide +kernel) (TT.up _) (by decide +kernel) (by decide +kernel) (by decide +kernel)) rfl rfl ?_
 rintro _ W76 ⟨_, _, _, _, rfl, x77, hv74, hv75⟩
 have s78 := x77.sz
 have z79 := z73.trans x77
 replace b3 := b3.ext x77
 replace b9 := b9.ext x77
 replace b15 := b15.ext x77
 replace b30 := b30.ext x77
 replace b36 := b36.ext x77
 replace b42 := b42.ext x77
 replace b57 := b57.ext x77
 refine ⟨_, rfl, ?_⟩
 refine mvt rfl ?_
 refine vv (rext (v := .slice _ _ _) rfl rfl) ?_
 refine vv (rext (v := .slice _ _ _) rfl rfl) ?_
 refine ass rfl ?_
 refine ass rfl ?_
 refine vnil ?_
 refine V.seq (V.reg rfl ?_)
 refine mvs rfl ?_
 refine vo ?_
 refine xcall e64 (sNull_ok _ _ _ 1 _ TT TT _ (((hv49.ext (((x56.trans x65).trans x71).trans x77))).ma (L := 1) (szM_B (by decide +kernel))) (by omega) (by omega) (by decide +kernel) (by decide +kernel) (TT.up _)) rfl rfl ?_
 rintro _ W82 ⟨_, rn81, _, rfl, x83, hv80⟩
 have s84 := x83.sz
 have z85 := z79.trans x83
 replace b3 := b3.ext x83
 replace b9 := b9.ext x83
 replace b15 := b15.ext x83
 replace b30 := b30.ext x83
 replace b36 := b36.ext x83
 replace b42 := b42.ext x83
 replace b57 := b57.ext x83
 replace hv80 := hv80.cast (rss' := ([[-2, 1]] : List (List Rat))) (by decide +kernel)
 obtain rfl : rn81 = 1 := by have := hv80.len; exact this.symm.trans rfl
 refine ⟨_, rfl, ?_⟩
 refine ass rfl ?_
 refine vnil ?_
 refine V.seq (V.reg rfl ?_)
 refine mvs rfl ?_
 refine vo ?_
 refine xbs (ps := [(0, .int _ _), (1, .int _ _)]) (cs := [.int _ _, .int _ _]) sl118 zr2 sz2 rfl rfl rfl rfl rfl rfl ?_
 intro W86 x87 b88 nn89
 have s90 := x87.sz
 have z91 := z85.trans x87
 replace b3 := b3.ext x87
 replace b9 := b9.ext x87
 replace b15 := b15.ext x87
 replace b30 := b30.ext x87
 replace b36 := b36.ext x87
 replace b42 := b42.ext x87
 replace b57 := b57.ext x87
 refine vo ?_
 have hl92 := RN.lit (k := .i64) (xs := [_, _]) 2 b88 (by intro q hq; simp only [List.mem_cons, List.not_mem_nil, or_false] at hq; simp only [kb]; omega) (TT.up W82 _ (Nat.le_refl _))
 refine xcall e82 (vFrom_ok _ _ _ [1, 3] TT TT _ hl92 (by omega) (TT.up _)) rfl rfl ?_
 rintro _ W95 ⟨_, rn94, _, rfl, x96, hv93⟩
 have s97 := x96.sz
 have z98 := z91.trans x96
 replace b3 := b3.ext x96
 replace b9 := b9.ext x96
 replace b15 := b15.ext x96
 replace b30 := b30.ext x96
 replace b36 := b36.ext x96
 replace b42 := b42.ext x96
 replace b57 := b57.ext x96
 replace b88 := b88.ext x96
 obtain rfl : rn94 = 2 := by have := hv93.len; simpa using this.symm
 replace hv93 := hv93.cast (rs' := ([1, 3] : List Rat)) (by rfl)
 refine ⟨_, rfl, ?_⟩
 refine vo ?_
 refine xcall e51 (sSolve_at _ (8) ([] : List Rat) ([] : List (List Rat)) 0 0 (((hv49.ext ((((((x56.trans x65).trans x71).trans x77).trans x83).trans x87).trans x96))).ma (L := 1) (szM_B (by decide +kernel))) ((hv93).va (L := 1) (szV_B (by decide +kernel))) (by omega) (by omega) (by omega) (by decide +kernel) (by decide +kernel) (TT.up _) (by decide +kernel) (by decide +kernel) (by decide +kernel) rfl rfl) rfl rfl ?_
 rintro _ W101 ⟨_, _, _, _, rfl, x102, hv99, hv100⟩
 have s103 := x102.sz
 have z104 := z98.trans x102
 replace b3 := b3.ext x102
 replace b9 := b9.ext x102
 replace b15 := b15.ext x102
 replace b30 := b30.ext x102
 replace b36 := b36.ext x102
 replace b42 := b42.ext x102
 replace b57 := b57.ext x102
 replace b88 := b88.ext x102
 refine ⟨_, rfl, ?_⟩
 refine mvt rfl ?_
 refine vv (rext (v := .slice _ _ _) rfl rfl) ?_
 refine vv (rext (v := .slice _ _ _) rfl rfl) ?_
 refine vv (rext (v := .int _ _) rfl rfl) ?_
 refine ass rfl ?_
 refine ass rfl ?_
 refine asi rfl ?_
 refine vnil ?_
 refine V.seq (V.reg rfl ?_)
 refine mvs rfl ?_
 refine vo ?_
 refine xbs (ps := [(0, .int _ _), (1, .int _ _)]) (cs := [.int _ _, .int _ _]) sl118 zr2 sz2 rfl rfl rfl rfl rfl rfl ?_
 intro W105 x106 b107 nn108
 have s109 := x106.sz
 have z110 := z104.trans x106
 replace b3 := b3.ext x106
 replace b9 := b9.ext x106
 replace b15 := b15.ext x106
 replace b30 := b30.ext x106
 replace b36 := b36.ext x106
 replace b42 := b42.ext x106
 replace b57 := b57.ext x106
 replace b88 := b88.ext x106
 refine vo ?_
 have hl111 := RN.lit (k := .i64) (xs := [_, _]) 2 b107 (by intro q hq; simp only [List.mem_cons, List.not_mem_nil, or_false] at hq; simp only [kb]; omega) (TT.up W101 _ (Nat.le_refl _))
 refine xcall e82 (vFrom_ok _ _ _ [1, 2] TT TT _ hl111 (by omega) (TT.up _)) rfl rfl ?_
 rintro _ W114 ⟨_, rn113, _, rfl, x115, hv112⟩
 have s116 := x115.sz
 have z117 := z110.trans x115
 replace b3 := b3.ext x115
 replace b9 := b9.ext x115
 replace b15 := b15.ext x115
 replace b30 := b30.ext x115
 replace b36 := b36.ext x115
 replace b42 := b42.ext x115
 replace b57 := b57.ext x115
 replace b88 := b88.ext x115
 replace b107 := b107.ext x115
 obtain rfl : rn113 = 2 := by have := hv112.len; simpa using this.symm
 replace hv112 := hv112.cast (rs' := ([1, 2] : List Rat)) (by rfl)
 refine ⟨_, rfl, ?_⟩
 refine vo ?_
 refine xcall e51 (sSolve_at _ (0) ([1, 0] : List Rat) ([[-2, 1]] : List (List Rat)) 2 1 (((hv49.ext (((((((((x56.trans x65).trans x71).trans x77).trans x83).trans x87).trans x96).trans x102).trans x106).trans x115))).ma (L := 1) (szM_B (by decide +kernel))) ((hv112).va (L := 1) (szV_B (by decide +kernel))) (by omega) (by omega) (by omega) (by decide +kernel) (by decide +kernel) (TT.up _) (by decide +kernel) (by decide +kernel) (by decide +kernel) rfl rfl) rfl rfl ?_
 rintro _ W120 ⟨_, _, _, _, rfl, x121, hv118, hv119⟩
 have s122 := x121.sz
 have z123 := z117.trans x121
 replace b3 := b3.ext x121
 replace b9 := b9.ext x121
 replace b15 := b15.ext x121
 replace b30 := b30.ext x121
 replace b36 := b36.ext x121
 replace b42 := b42.ext x121
 replace b57 := b57.ext x121
 replace b88 := b88.ext x121
 replace b107 := b107.ext x121
 refine ⟨_, rfl, ?_⟩
 refine mvt rfl ?_
 refine vv (rext (v := .slice _ _ _) rfl rfl) ?_
 refine vv (rext (v := .slice _ _ _) rfl rfl) ?_
 refine vv (rext (v := .int _ _) rfl rfl) ?_
 refine ass rfl ?_
 refine ass rfl ?_
 refine asi rfl ?_
 refine vnil ?_
 refine V.seq (V.reg rfl ?_)
 refine mvs rfl ?_
 refine vo ?_
 refine xcall e55 (sDet_at _ (0) (2 : Rat) (((hv22.ext ((((((((((((((x29.trans x35).trans x41).trans x52).trans x56).trans x65).trans x71).trans x77).trans x83).trans x87).trans x96).trans x102).trans x106).trans x115).trans x121))).ma (L := 1) (szM_B (by decide +kernel))) (by omega) (by omega) (by decide +kernel) (by decide +kernel) (TT.up _) (by decide +kernel) (by decide +kernel)) rfl rfl ?_
 rintro _ W125 ⟨_, rfl, x126, hv124⟩
 have s127 := x126.sz
 have z128 := z123.trans x126
 replace b3 := b3.ext x126
 replace b9 := b9.ext x126
 replace b15 := b15.ext x126
 replace b30 := b30.ext x126
 replace b36 := b36.ext x126
 replace b42 := b42.ext x126
 replace b57 := b57.ext x126
 replace b88 := b88.ext x126
 replace b107 := b107.ext x126
 obtain ⟨_, _, _, _, _, _, _, _, rfl⟩ := hv124.form
 refine ⟨_, rfl, ?_⟩
 refine mvt rfl ?_
 refine vv (rext (v := .agg #[_, _, _, _]) rfl rfl) ?_
 refine vv (rext (v := .int _ _) rfl rfl) ?_
 refine vo ?_
 refine xal zc48 ?_
 intro W130 x131 b132 nn133
 have s134 := x131.sz
 have z135 := z128.trans x131
 have z136 := x131
 replace b3 := b3.ext x131
 replace b9 := b9.ext x131
 replace b15 := b15.ext x131
 replace b30 := b30.ext x131
 replace b36 := b36.ext x131
 replace b42 := b42.ext x131
 replace b57 := b57.ext x131
 replace b88 := b88.ext x131
 replace b107 := b107.ext x131
 refine vo ?_
 refine sta (cs' := [_, _, _, _]) b132 rfl rfl sz48 rfl rfl rfl ?_
 intro W137 y138 b132
 have z139 := z135.below (y138.below (by omega))
 have z140 := z136.below (y138.below (by omega))
 replace b3 := b3.wr y138 (by omega)
 replace b9 := b9.wr y138 (by omega)
 replace b15 := b15.wr y138 (by omega)
 replace b30 := b30.wr y138 (by omega)
 replace b36 := b36.wr y138 (by omega)
 replace b42 := b42.wr y138 (by omega)
 replace b57 := b57.wr y138 (by omega)
 replace b88 := b88.wr y138 (by omega)
 replace b107 := b107.wr y138 (by omega)
 have s141 := y138.size
 refine asi rfl ?_
 refine vnil ?_
 refine V.seq (V.reg rfl ?_)
 refine mvs rfl ?_
 refine vo ?_
 refine xcall e54 (sInv_at _ (0) ([[3/2, -2], [-1/2, 1]] : List (List Rat)) 2 ((((hv22.ext (((((((((((((((x29.trans x35).trans x41).trans x52).trans x56).trans x65).trans x71).trans x77).trans x83).trans x87).trans x96).trans x102).trans x106).trans x115).trans x121).trans x126)).ext z140)).ma (L := 1) (szM_B (by decide +kernel))) (by omega) (by omega) (by decide +kernel) (by decide +kernel) (TT.up _) (by decide +kernel) (by decide +kernel) rfl) rfl rfl ?_
 rintro _ W143 ⟨_, _, rfl, x144, hv142⟩
 have s145 := x144.sz
 have z146 := z139.trans x144
 have z147 := z140.trans x144
 replace b3 := b3.ext x144
 replace b9 := b9.ext x144
 replace b15 := b15.ext x144
 replace b30 := b30.ext x144
 replace b36 := b36.ext x144
 replace b42 := b42.ext x144
 replace b57 := b57.ext x144
 replace b88 := b88.ext x144
 replace b107 := b107.ext x144
 replace b132 := b132.ext x144
 refine ⟨_, rfl, ?_⟩
 refine mvt rfl ?_
 refine vv (rext (v := .slice _ _ _) rfl rfl) ?_
 refine vv (rext (v := .int _ _) rfl rfl) ?_
 refine ass rfl ?_
 refine asi rfl ?_
 refine vnil ?_
 refine V.seq ?_
 refine V.seq (V.reg rfl ?_)
 refine mvs rfl ?_
 refine vo ?_
 refine xbs (ps := [(0, .int _ _), (1, .int _ _)]) (cs := [.int _ _, .int _ _]) sl118 zr2 sz2 rfl rfl rfl rfl rfl rfl ?_
 intro W148 x149 b150 nn151
 have s152 := x149.sz
 have z153 := z146.trans x149
 have z154 := z147.trans x149
 replace b3 := b3.ext x149
 replace b9 := b9.ext x149
 replace b15 := b15.ext x149
 replace b30 := b30.ext x149
 replace b36 := b36.ext x149
 replace b42 := b42.ext x149
 replace b57 := b57.ext x149
 replace b88 := b88.ext x149
 replace b107 := b107.ext x149
 replace b132 := b132.ext x149
 refine vo ?_
 have hl155 := RN.lit (k := .i64) (xs := [_, _]) 2 b150 (by intro q hq; simp only [List.mem_cons, List.not_mem_nil, or_false] at hq; simp only [kb]; omega) (TT.up W143 _ (Nat.le_refl _))
 refine xcall e82 (vFrom_ok _ _ _ [1, 1] TT TT _ hl155 (by omega) (TT.up _)) rfl rfl ?_
 rintro _ W158 ⟨_, rn157, _, rfl, x159, hv156⟩
 have s160 := x159.sz
 have z161 := z153.trans x159
 have z162 := z154.trans x159
 replace b3 := b3.ext x159
 replace b9 := b9.ext x159
 replace b15 := b15.ext x159
 replace b30 := b30.ext x159
 replace b36 := b36.ext x159
 replace b42 := b42.ext x159
 replace b57 := b57.ext x159
 replace b88 := b88.ext x159
 replace b107 := b107.ext x159
 replace b132 := b132.ext x159
 replace b150 := b150.ext x159
 obtain rfl : rn157 = 2 := by have := hv156.len; simpa using this.symm
 replace hv156 := hv156.cast (rs' := ([1, 1] : List Rat)) (by rfl)
 refine ⟨_, rfl, ?_⟩
 refine vo ?_
 refine xcall e56 (vIs_true _ ((hv68.ext ((((((((x77.trans x83).trans x87).trans x96).trans x102).trans x106).trans x115).trans x121).trans x126)).ext z162) hv156 rfl) rfl rfl ?_
 rintro _ W163 ⟨rfl, x164⟩
 have s165 := x164.sz
 have z166 := z161.trans x164
 have z167 := z162.trans x164
 replace b3 := b3.ext x164
 replace b9 := b9.ext x164
 replace b15 := b15.ext x164
 replace b30 := b30.ext x164
 replace b36 := b36.ext x164
 replace b42 := b42.ext x164
 replace b57 := b57.ext x164
 replace b88 := b88.ext x164
 replace b107 := b107.ext x164
 replace b132 := b132.ext x164
 replace b150 := b150.ext x164
 refine ⟨_, rfl, ?_⟩
 refine vv (rnot (q := false) rfl rfl) ?_
 refine mvb rfl ?_
 refine vg rfl ?_
 refine mvs rfl ?_
 refine vg rfl ?_
 refine vv (rlen sl22 rfl) ?_
 refine vg rfl ?_
 refine vne rfl rfl ?_ ?_
 ·intro c168
  omega
 ·intro c168
  refine vv (rpk (v := .bool false) rfl rfl) ?_
  refine mvb rfl ?_
  refine vg rfl ?_
  refine mvi rfl ?_
  refine vg rfl ?_
  refine vne rfl rfl ?_ ?_
  ·intro c169
   omega
  ·intro c169
   refine vv (rpk (v := .bool false) rfl rfl) ?_
   refine mvb rfl ?_
   refine vg rfl ?_
   refine mvs rfl ?_
   refine vg rfl ?_
   refine mvf rfl ?_
   refine vg rfl ?_
   refine vo ?_
   refine xbs (ps := [(0, .int _ _), (1, .int _ _)]) (cs := [.int _ _, .int _ _]) sl118 zr2 sz2 rfl rfl rfl rfl rfl rfl ?_
   intro W170 x171 b172 nn173
   have s174 := x171.sz
   have z175 := z166.trans x171
   have z176 := z167.trans x171
   replace b3 := b3.ext x171
   replace b9 := b9.ext x171
   replace b15 := b15.ext x171
   replace b30 := b30.ext x171
   replace b36 := b36.ext x171
   replace b42 := b42.ext x171
   replace b57 := b57.ext x171
   replace b88 := b88.ext x171
   replace b107 := b107.ext x171
   replace b132 := b132.ext x171
   replace b150 := b150.ext x171
   refine vg rfl ?_
   refine vo ?_
   refine xbs (ps := [(0, .slice _ _ _)]) (cs := [.slice _ _ _]) sl119 zr118 sz118 rfl rfl rfl rfl rfl rfl ?_
   intro W177 x178 b179 nn180
   have s181 := x178.sz
   have z182 := z175.trans x178
   have z183 := z176.trans x178
   replace b3 := b3.ext x178
   replace b9 := b9.ext x178
   replace b15 := b15.ext x178
   replace b30 := b30.ext x178
   replace b36 := b36.ext x178
   replace b42 := b42.ext x178
   replace b57 := b57.ext x178
   replace b88 := b88.ext x178
   replace b107 := b107.ext x178
   replace b132 := b132.ext x178
   replace b150 := b150.ext x178
   replace b172 := b172.ext x178
   refine vg rfl ?_
   refine vo ?_
   have hl184 := RN.lit (k := .i64) (xs := [_, _]) 2 b172 (by intro q hq; simp only [List.mem_cons, List.not_mem_nil, or_false] at hq; simp only [kb]; omega) (TT.up W163 _ (Nat.le_refl _))
   have hm185 : MI TT W177 (some ⟨W170.heap.size, 0, none⟩) 1 1 [[1, 2]] := ⟨[[.slice _ _ _]], RS.lit (S := TT) _ b179 rfl (by simp) trivial rfl (by omega), ⟨_, _, _, rfl, hl184⟩, trivial⟩
   refine xcall e103 (rmInts_ok _ _ _ [[1, 2]] TT TT _ hm185 (by omega) (by intro r hr; simp at hr; rcases hr with rfl <;> simp <;> omega) (TT.up _)) rfl rfl ?_
   rintro _ W188 ⟨_, rn187, _, rfl, x189, hv186⟩
   have s190 := x189.sz
   have z191 := z182.trans x189
   have z192 := z183.trans x189
   replace b3 := b3.ext x189
   replace b9 := b9.ext x189
   replace b15 := b15.ext x189
   replace b30 := b30.ext x189
   replace b36 := b36.ext x189
   replace b42 := b42.ext x189
   replace b57 := b57.ext x189
   replace b88 := b88.ext x189
   replace b107 := b107.ext x189
   replace b132 := b132.ext x189
   replace b150 := b150.ext x189
   replace b172 := b172.ext x189
   replace b179 := b179.ext x189
   obtain rfl : rn187 = 1 := by have := hv186.len; simpa using this.symm
   replace hv186 := hv186.cast (rss' := ([[1, 2]] : List (List Rat))) (by rfl)
   refine ⟨_, rfl, ?_⟩
   refine vg rfl ?_
   refine vo ?_
   refine xcall e42 (mIs_true _ ((hv74.ext (((((((x83.trans x87).trans x96).trans x102).trans x106).trans x115).trans x121).trans x126)).ext z192) hv186 rfl) rfl rfl ?_
   rintro _ W193 ⟨rfl, x194⟩
   have s195 := x194.sz
   have z196 := z191.trans x194
   have z197 := z192.trans x194
   replace b3 := b3.ext x194
   replace b9 := b9.ext x194
   replace b15 := b15.ext x194
   replace b30 := b30.ext x194
   replace b36 := b36.ext x194
   replace b42 := b42.ext x194
   replace b57 := b57.ext x194
   replace b88 := b88.ext x194
   replace b107 := b107.ext x194
   replace b132 := b132.ext x194
   replace b150 := b150.ext x194
   replace b172 := b172.ext x194
   replace b179 := b179.ext x194
   refine ⟨_, rfl, ?_⟩
   refine vg rfl ?_
   refine vv (rnot (q := false) rfl rfl) ?_
   refine vv (rpk (v := .bool false) rfl rfl) ?_
   refine mvb rfl ?_
   refine vg rfl ?_
   refine mvs rfl ?_
   refine vg rfl ?_
   refine vo ?_
   refine xbs (ps := [(0, .int _ _)]) (cs := [.int _ _]) sl73 zr3 sz3 rfl rfl rfl rfl rfl rfl ?_
   intro W198 x199 b200 nn201
   have s202 := x199.sz
   have z203 := z196.trans x199
   have z204 := z197.trans x199
   replace b3 := b3.ext x199
   replace b9 := b9.ext x199
   replace b15 := b15.ext x199
   replace b30 := b30.ext x199
   replace b36 := b36.ext x199
   replace b42 := b42.ext x199
   replace b57 := b57.ext x199
   replace b88 := b88.ext x199
   replace b107 := b107.ext x199
   replace b132 := b132.ext x199
   replace b150 := b150.ext x199
   replace b172 := b172.ext x199
   replace b179 := b179.ext x199
   refine vg rfl ?_
   refine vo ?_
   have hl205 := RN.lit (k := .i64) (xs := [_]) 1 b200 (by intro q hq; simp only [List.mem_cons, List.not_mem_nil, or_false] at hq; simp only [kb]; omega) (TT.up W193 _ (Nat.le_refl _))
   refine xcall e62 (rInts5_true _ ((hv75.ext (((((((x83.trans x87).trans x96).trans x102).trans x106).trans x115).trans x121).trans x126)).ext z204) hl205 rfl) rfl rfl ?_
   rintro _ W206 ⟨rfl, x207⟩
   have s208 := x207.sz
   have z209 := z203.trans x207
   have z210 := z204.trans x207
   replace b3 := b3.ext x207
   replace b9 := b9.ext x207
   replace b15 := b15.ext x207
   replace b30 := b30.ext x207
   replace b36 := b36.ext x207
   replace b42 := b42.ext x207
   replace b57 := b57.ext x207
   replace b88 := b88.ext x207
   replace b107 := b107.ext x207
   replace b132 := b132.ext x207
   replace b150 := b150.ext x207
   replace b172 := b172.ext x207
   replace b179 := b179.ext x207
   replace b200 := b200.ext x207
   refine ⟨_, rfl, ?_⟩
   refine vg rfl ?_
   refine vv (rnot (q := false) rfl rfl) ?_
   refine vv (rpk (v := .bool false) rfl rfl) ?_
   refine mvb rfl ?_
   refine vg rfl ?_
   refine mvs rfl ?_
   refine vg rfl ?_
   refine mvf rfl ?_
   refine vg rfl ?_
   refine vo ?_
   refine xbs (ps := [(0, .int _ _), (1, .int _ _)]) (cs := [.int _ _, .int _ _]) sl118 zr2 sz2 rfl rfl rfl rfl rfl rfl ?_
   intro W211 x212 b213 nn214
   have s215 := x212.sz
   have z216 := z209.trans x212
   have z217 := z210.trans x212
   replace b3 := b3.ext x212
   replace b9 := b9.ext x212
   replace b15 := b15.ext x212
   replace b30 := b30.ext x212
   replace b36 := b36.ext x212
   replace b42 := b42.ext x212
   replace b57 := b57.ext x212
   replace b88 := b88.ext x212
   replace b107 := b107.ext x212
   replace b132 := b132.ext x212
   replace b150 := b150.ext x212
   replace b172 := b172.ext x212
   replace b179 := b179.ext x212
   replace b200 := b200.ext x212
   refine vg rfl ?_
   refine vo ?_
   refine xbs (ps := [(0, .slice _ _ _)]) (cs := [.slice _ _ _]) sl119 zr118 sz118 rfl rfl rfl rfl rfl rfl ?_
   intro W218 x219 b220 nn221
   have s222 := x219.sz
   have z223 := z216.trans x219
   have z224 := z217.trans x219
   replace b3 := b3.ext x219
   replace b9 := b9.ext x219
   replace b15 := b15.ext x219
   replace b30 := b30.ext x219
   replace b36 := b36.ext x219
   replace b42 := b42.ext x219
   replace b57 := b57.ext x219
   replace b88 := b88.ext x219
   replace b107 := b107.ext x219
   replace b132 := b132.ext x219
   replace b150 := b150.ext x219
   replace b172 := b172.ext x219
   replace b179 := b179.ext x219
   replace b200 := b200.ext x219
   replace b213 := b213.ext x219
   refine vg rfl ?_
   refine vo ?_
   have hl225 := RN.lit (k := .i64) (xs := [_, _]) 2 b213 (by intro q hq; simp only [List.mem_cons, List.not_mem_nil, or_false] at hq; simp only [kb]; omega) (TT.up W206 _ (Nat.le_refl _))
   have hm226 : MI TT W218 (some ⟨W211.heap.size, 0, none⟩) 1 1 [[-2, 1]] := ⟨[[.slice _ _ _]], RS.lit (S := TT) _ b220 rfl (by simp) trivial rfl (by omega), ⟨_, _, _, rfl, hl225⟩, trivial⟩
   refine xcall e103 (rmInts_ok _ _ _ [[-2, 1]] TT TT _ hm226 (by omega) (by intro r hr; simp at hr; rcases hr with rfl <;> simp <;> omega) (TT.up _)) rfl rfl ?_
   rintro _ W229 ⟨_, rn228, _, rfl, x230, hv227⟩
   have s231 := x230.sz
   have z232 := z223.trans x230
   have z233 := z224.trans x230
   replace b3 := b3.ext x230
   replace b9 := b9.ext x230
   replace b15 := b15.ext x230
   replace b30 := b30.ext x230
   replace b36 := b36.ext x230
   replace b42 := b42.ext x230
   replace b57 := b57.ext x230
   replace b88 := b88.ext x230
   replace b107 := b107.ext x230
   replace b132 := b132.ext x230
   replace b150 := b150.ext x230
   replace b172 := b172.ext x230
   replace b179 := b179.ext x230
   replace b200 := b200.ext x230
   replace b213 := b213.ext x230
   replace b220 := b220.ext x230
   obtain rfl : rn228 = 1 := by have := hv227.len; simpa using this.symm
   replace hv227 := hv227.cast (rss' := ([[-2, 1]] : List (List Rat))) (by rfl)
   refine ⟨_, rfl, ?_⟩
   refine vg rfl ?_
   refine vo ?_
   refine xcall e42 (mIs_true _ ((hv80.ext ((((((x87.trans x96).trans x102).trans x106).trans x115).trans x121).trans x126)).ext z233) hv227 rfl) rfl rfl ?_
   rintro _ W234 ⟨rfl, x235⟩
   have s236 := x235.sz
   have z237 := z232.trans x235
   have z238 := z233.trans x235
   replace b3 := b3.ext x235
   replace b9 := b9.ext x235
   replace b15 := b15.ext x235
   replace b30 := b30.ext x235
   replace b36 := b36.ext x235
   replace b42 := b42.ext x235
   replace b57 := b57.ext x235
   replace b88 := b88.ext x235
   replace b107 := b107.ext x235
   replace b132 := b132.ext x235
   replace b150 := b150.ext x235
   replace b172 := b172.ext x235
   replace b179 := b179.ext x235
   replace b200 := b200.ext x235
   replace b213 := b213.ext x235
   replace b220 := b220.ext x235
   refine ⟨_, rfl, ?_⟩
   refine vg rfl ?_
   refine vv (rnot (q := false) rfl rfl) ?_
   refine vv (rpk (v := .bool false) rfl rfl) ?_
   refine mvb rfl ?_
   refine vg rfl ?_
   refine mvi rfl ?_
   refine vg rfl ?_
   refine vne rfl rfl ?_ ?_
   ·intro c239
    omega
   ·intro c239
    refine vv (rpk (v := .bool false) rfl rfl) ?_
    refine vnil ?_
    refine V.condF rfl ?_
    refine V.skip ?_
    refine V.seq (V.reg rfl ?_)
    refine vo ?_
    refine xcall e121 (rOf_ok (1) (2) TT _ (by omega) (by omega) (TT.up _)) rfl rfl ?_
    rintro _ W241 ⟨_, rfl, x242, hv240⟩
    have s243 := x242.sz
    have z244 := z237.trans x242
    have z245 := z238.trans x242
    replace b3 := b3.ext x242
    replace b9 := b9.ext x242
    replace b15 := b15.ext x242
    replace b30 := b30.ext x242
    replace b36 := b36.ext x242
    replace b42 := b42.ext x242
    replace b57 := b57.ext x242
    replace b88 := b88.ext x242
    replace b107 := b107.ext x242
    replace b132 := b132.ext x242
    replace b150 := b150.ext x242
    replace b172 := b172.ext x242
    replace b179 := b179.ext x242
    replace b200 := b200.ext x242
    replace b213 := b213.ext x242
    replace b220 := b220.ext x242
    replace hv240 := QC.to hv240 (r' := (1/2 : Rat)) (by decide +kernel)
    obtain ⟨_, _, _, _, _, _, _, _, rfl⟩ := hv240.form
    refine ⟨_, rfl, ?_⟩
    refine vo ?_
    refine xal zc48 ?_
    intro W247 x248 b249 nn250
    have s251 := x248.sz
    have z252 := z244.trans x248
    have z253 := z245.trans x248
    have z254 := x248
    replace b3 := b3.ext x248
    replace b9 := b9.ext x248
    replace b15 := b15.ext x248
    replace b30 := b30.ext x248
    replace b36 := b36.ext x248
    replace b42 := b42.ext x248
    replace b57 := b57.ext x248
    replace b88 := b88.ext x248
    replace b107 := b107.ext x248
    replace b132 := b132.ext x248
    replace b150 := b150.ext x248
    replace b172 := b172.ext x248
    replace b179 := b179.ext x248
    replace b200 := b200.ext x248
    replace b213 := b213.ext x248
    replace b220 := b220.ext x248
    refine vo ?_
    refine sta (cs' := [_, _, _, _]) b249 rfl rfl sz48 rfl rfl rfl ?_
    intro W255 y256 b249
    have z257 := z252.below (y256.below (by omega))
    have z258 := z253.below (y256.below (by omega))
    have z259 := z254.below (y256.below (by omega))
    replace b3 := b3.wr y256 (by omega)
    replace b9 := b9.wr y256 (by omega)
    replace b15 := b15.wr y256 (by omega)
    replace b30 := b30.wr y256 (by omega)
    replace b36 := b36.wr y256 (by omega)
    replace b42 := b42.wr y256 (by omega)
    replace b57 := b57.wr y256 (by omega)
    replace b88 := b88.wr y256 (by omega)
    replace b107 := b107.wr y256 (by omega)
    replace b132 := b132.wr y256 (by omega)
    replace b150 := b150.wr y256 (by omega)
    replace b172 := b172.wr y256 (by omega)
    replace b179 := b179.wr y256 (by omega)
    replace b200 := b200.wr y256 (by omega)
    replace b213 := b213.wr y256 (by omega)
    replace b220 := b220.wr y256 (by omega)
    have s260 := y256.size
    refine vnil ?_
    refine V.seq (V.regJ (ι := Nat × Nat) [(0, .bool false), (13, .slice _ _ _), (15, .int _ _), (16, .pointer (some ⟨_, _, none⟩)), (17, .int _ _), (18, .slice _ _ _), (19, .int _ _), (20, .pointer (some ⟨_, _, none⟩))] (fun ⟨nb, nb2⟩ => [(21, .slice (some ⟨nb, 0, none⟩) 2 2)]) (fun ⟨nb, nb2⟩ W => Ext W255 W ∧ MC TT W (some ⟨nb, 0, none⟩) 2 2 [[(3/2 : Rat), -2], [-1/2, 1]]) mixed rfl ⟨rfl, rfl, rfl, rfl, rfl, rfl, rfl, rfl, trivial⟩ ?_ ?_)
    ·skip
     intro W262 x263
     have s264 := x263.sz
     have z267 := z259.trans x263
     have z268 := x263
     replace b3 := b3.ext x263
     replace b9 := b9.ext x263
     replace b15 := b15.ext x263
     replace b30 := b30.ext x263
     replace b36 := b36.ext x263
     replace b42 := b42.ext x263
     replace b57 := b57.ext x263
     replace b88 := b88.ext x263
     replace b107 := b107.ext x263
     replace b132 := b132.ext x263
     replace b150 := b150.ext x263
     replace b172 := b172.ext x263
     replace b179 := b179.ext x263
     replace b200 := b200.ext x263
     replace b213 := b213.ext x263
     replace b220 := b220.ext x263
     replace b249 := b249.ext x263
     have q269 := Ext.refl W262
     have r270 := b3
     have r271 := b9
     have r272 := b15
     have r273 := b30
     have r274 := b36
     have r275 := b42
     have r276 := b57
     have r277 := b88
     have r278 := b107
     have r279 := b132
     have r280 := b150
     have r281 := b172
     have r282 := b179
     have r283 := b200
     have r284 := b213
     have r285 := b220
     have r286 := b249
     refine tk 3 rfl (by kernel_rfl) q269 (pv (fun _ y287 => rldb4 rfl ag48 (r286.ext y287) rfl rfl rfl rfl )) ?_
     refine ef 0 (by kernel_rfl) rfl ?_
     refine xcall e121 (rOf_ok (3) (2) TT _ (by omega) (by omega) (TT.up _)) rfl rfl ?_
     rintro _ W289 ⟨_, rfl, x290, hv288⟩
     have s291 := x290.sz
     have z294 := z267.trans x290
     have z295 := z268.trans x290
     have q296 := q269.trans x290
     replace hv288 := QC.to hv288 (r' := (3/2 : Rat)) (by decide +kernel)
     obtain ⟨_, _, _, _, _, _, _, _, rfl⟩ := hv288.form
     refine ⟨_, rfl, ?_⟩
     refine ⟨fun _ => q296, ?_⟩
     refine ef 1 (by kernel_rfl) rfl ?_
     refine xcall e116 (rInt_ok (-2) TT _ (by omega) (TT.up _)) rfl rfl ?_
     rintro _ W298 ⟨_, rfl, x299, hv297⟩
     have s300 := x299.sz
     have z303 := z294.trans x299
     have z304 := z295.trans x299
     have q305 := q296.trans x299
     replace hv297 := QC.to hv297 (r' := (-2 : Rat)) (by decide +kernel)
     obtain ⟨_, _, _, _, _, _, _, _, rfl⟩ := hv297.form
     refine ⟨_, rfl, ?_⟩
     refine ⟨fun _ => q305, ?_⟩
     refine efs 2 [4] (by kernel_rfl) ⟨?_, ?_, trivial⟩
     ·skip
      refine efI rfl ?_
      refine xbs (zs := [.bool false, .slice _ _ _, .bool false, .slice _ _ _]) (ps := [(0, .agg #[_, _, _, _]), (1, .agg #[_, _, _, _])]) (cs := [.bool _, .slice _ _ _, .bool _, .slice _ _ _, .bool _, .slice _ _ _, .bool _, .slice _ _ _]) sl23 zr48 sz48 rfl rfl rfl rfl rfl (fillS2 _ _ _ _ _ _ _ _ _ _ _ _) ?_
      intro W306 x307 b308 nn309
      have s310 := x307.sz
      have z313 := z303.trans x307
      have z314 := z304.trans x307
      have q315 := q305.trans x307
      refine ⟨fun _ => q315, ?_⟩
      refine ef 4 (by kernel_rfl) rfl ?_
      refine xcall e122 (rNegQ_ok [_, _, _, _] _ 1 TT _ _ (((hv240.ext z313)).qa (szB_sz (by decide +kernel))) (by omega) (by omega) (TT.up _)) rfl rfl ?_
      rintro _ W317 ⟨_, rfl, x318, hv316⟩
      have s319 := x318.sz
      have z323 := z314.trans x318
      replace b308 := b308.ext x318
      have q324 := q315.trans x318
      replace hv316 := QC.to hv316 (r' := (-1/2 : Rat)) (by decide +kernel)
      obtain ⟨_, _, _, _, _, _, _, _, rfl⟩ := hv316.form
      refine ⟨_, rfl, ?_⟩
      refine ⟨fun _ => q324, ?_⟩
      refine ef 5 (by kernel_rfl) rfl ?_
      refine xcall e116 (rInt_ok (1) TT _ (by omega) (TT.up _)) rfl rfl ?_
      rintro _ W326 ⟨_, rfl, x327, hv325⟩
      have s328 := x327.sz
      have z332 := z323.trans x327
      replace b308 := b308.ext x327
      have q333 := q324.trans x327
      replace hv325 := QC.to hv325 (r' := (1 : Rat)) (by decide +kernel)
      obtain ⟨_, _, _, _, _, _, _, _, rfl⟩ := hv325.form
      refine ⟨_, rfl, ?_⟩
      refine ⟨fun _ => q333, ?_⟩
      refine ef 6 (by kernel_rfl) rfl ?_
      refine xbs (zs := [.bool false, .slice _ _ _, .bool false, .slice _ _ _]) (ps := [(0, .agg #[_, _, _, _]), (1, .agg #[_, _, _, _])]) (cs := [.bool _, .slice _ _ _, .bool _, .slice _ _ _, .bool _, .slice _ _ _, .bool _, .slice _ _ _]) sl23 zr48 sz48 rfl rfl rfl rfl rfl (fillS2 _ _ _ _ _ _ _ _ _ _ _ _) ?_
      intro W334 x335 b336 nn337
      have s338 := x335.sz
      have z342 := z332.trans x335
      replace b308 := b308.ext x335
      have q343 := q333.trans x335
      refine ⟨fun _ => q343, ?_⟩
      refine ef 7 (by kernel_rfl) rfl ?_
      refine xbs (ps := [(0, .slice _ _ _), (1, .slice _ _ _)]) (cs := [.slice _ _ _, .slice _ _ _]) sl22 zr23 sz23 rfl rfl rfl rfl rfl rfl ?_
      intro W344 x345 b346 nn347
      have s348 := x345.sz
      have z352 := z342.trans x345
      replace b308 := b308.ext x345
      replace b336 := b336.ext x345
      have q353 := q343.trans x345
      refine ⟨fun _ => q353, ?_⟩
      refine tk 8 rfl (by kernel_rfl) q353 (pv (fun _ y354 => ras (v := .slice _ _ _) rfl)) ?_
      refine dn (by kernel_rfl) ?_
      have hv355 : GC TT W344 (some ⟨W298.heap.size, 0, none⟩) 2 2 [_, _] := ⟨[[.bool _, .slice _ _ _, .bool _, .slice _ _ _], [.bool _, .slice _ _ _, .bool _, .slice _ _ _]], RS.lit (s := 4) (S := TT) (n := 2) _ b308 rfl (by simp) trivial rfl (by omega), (hv288.ext (((((x299.trans x307).trans x318).trans x327).trans x335).trans x345)), (hv297.ext ((((x307.trans x318).trans x327).trans x335).trans x345)), trivial⟩
      have hv356 : GC TT W344 (some ⟨W326.heap.size, 0, none⟩) 2 2 [_, _] := ⟨[[.bool _, .slice _ _ _, .bool _, .slice _ _ _], [.bool _, .slice _ _ _, .bool _, .slice _ _ _]], RS.lit (s := 4) (S := TT) (n := 2) _ b336 rfl (by simp) trivial rfl (by omega), (hv316.ext ((x327.trans x335).trans x345)), (hv325.ext (x335.trans x345)), trivial⟩
      have hwant : MC TT W344 (some ⟨W334.heap.size, 0, none⟩) 2 2 [_, _] := ⟨[[.slice _ _ _], [.slice _ _ _]], RS.lit (s := 1) (S := TT) (n := 2) _ b346 rfl (by simp) trivial rfl (by omega), ⟨_, _, _, rfl, hv355⟩, ⟨_, _, _, rfl, hv356⟩, trivial⟩
      exact ⟨(W334.heap.size, 0), ⟨rfl, rfl, rfl, rfl, rfl, rfl, rfl, rfl, trivial⟩, ⟨rfl, trivial⟩, z352, hwant⟩
     ·skip
      refine efI rfl ?_
      refine xcall e122 (rNegQ_ok [_, _, _, _] _ 1 TT _ _ (((hv240.ext z303)).qa (szB_sz (by decide +kernel))) (by omega) (by omega) (TT.up _)) rfl rfl ?_
      rintro _ W358 ⟨_, rfl, x359, hv357⟩
      have s360 := x359.sz
      have z364 := z304.trans x359
      have q365 := q305.trans x359
      replace hv357 := QC.to hv357 (r' := (-1/2 : Rat)) (by decide +kernel)
      obtain ⟨_, _, _, _, _, _, _, _, rfl⟩ := hv357.form
      refine ⟨_, rfl, ?_⟩
      refine ⟨fun _ => q365, ?_⟩
      refine efs 2 [5] (by kernel_rfl) ⟨?_, ?_, trivial⟩
      ·skip
       refine efI rfl ?_
       refine xbs (zs := [.bool false, .slice _ _ _, .bool false, .slice _ _ _]) (ps := [(0, .agg #[_, _, _, _]), (1, .agg #[_, _, _, _])]) (cs := [.bool _, .slice _ _ _, .bool _, .slice _ _ _, .bool _, .slice _ _ _, .bool _, .slice _ _ _]) sl23 zr48 sz48 rfl rfl rfl rfl rfl (fillS2 _ _ _ _ _ _ _ _ _ _ _ _) ?_
       intro W366 x367 b368 nn369
       have s370 := x367.sz
       have z374 := z364.trans x367
       have q375 := q365.trans x367
       refine ⟨fun _ => q375, ?_⟩
       refine ef 5 (by kernel_rfl) rfl ?_
       refine xcall e116 (rInt_ok (1) TT _ (by omega) (TT.up _)) rfl rfl ?_
       rintro _ W377 ⟨_, rfl, x378, hv376⟩
       have s379 := x378.sz
       have z383 := z374.trans x378
       replace b368 := b368.ext x378
       have q384 := q375.trans x378
       replace hv376 := QC.to hv376 (r' := (1 : Rat)) (by decide +kernel)
       obtain ⟨_, _, _, _, _, _, _, _, rfl⟩ := hv376.form
       refine ⟨_, rfl, ?_⟩
       refine ⟨fun _ => q384, ?_⟩
       refine ef 6 (by kernel_rfl) rfl ?_
       refine xbs (zs := [.bool false, .slice _ _ _, .bool false, .slice _ _ _]) (ps := [(0, .agg #[_, _, _, _]), (1, .agg #[_, _, _, _])]) (cs := [.bool _, .slice _ _ _, .bool _, .slice _ _ _, .bool _, .slice _ _ _, .bool _, .slice _ _ _]) sl23 zr48 sz48 rfl rfl rfl rfl rfl (fillS2 _ _ _ _ _ _ _ _ _ _ _ _) ?_
       intro W385 x386 b387 nn388
       have s389 := x386.sz
       have z393 := z383.trans x386
       replace b368 := b368.ext x386
       have q394 := q384.trans x386
       refine ⟨fun _ => q394, ?_⟩
       refine ef 7 (by kernel_rfl) rfl ?_
       refine xbs (ps := [(0, .slice _ _ _), (1, .slice _ _ _)]) (cs := [.slice _ _ _, .slice _ _ _]) sl22 zr23 sz23 rfl rfl rfl rfl rfl rfl ?_
       intro W395 x396 b397 nn398
       have s399 := x396.sz
       have z403 := z393.trans x396
       replace b368 := b368.ext x396
       replace b387 := b387.ext x396
       have q404 := q394.trans x396
       refine ⟨fun _ => q404, ?_⟩
       refine tk 8 rfl (by kernel_rfl) q404 (pv (fun _ y405 => ras (v := .slice _ _ _) rfl)) ?_
       refine dn (by kernel_rfl) ?_
       have hv406 : GC TT W395 (some ⟨W358.heap.size, 0, none⟩) 2 2 [_, _] := ⟨[[.bool _, .slice _ _ _, .bool _, .slice _ _ _], [.bool _, .slice _ _ _, .bool _, .slice _ _ _]], RS.lit (s := 4) (S := TT) (n := 2) _ b368 rfl (by simp) trivial rfl (by omega), (hv288.ext (((((x299.trans x359).trans x367).trans x378).trans x386).trans x396)), (hv297.ext ((((x359.trans x367).trans x378).trans x386).trans x396)), trivial⟩
       have hv407 : GC TT W395 (some ⟨W377.heap.size, 0, none⟩) 2 2 [_, _] := ⟨[[.bool _, .slice _ _ _, .bool _, .slice _ _ _], [.bool _, .slice _ _ _, .bool _, .slice _ _ _]], RS.lit (s := 4) (S := TT) (n := 2) _ b387 rfl (by simp) trivial rfl (by omega), (hv357.ext (((x367.trans x378).trans x386).trans x396)), (hv376.ext (x386.trans x396)), trivial⟩
       have hwant : MC TT W395 (some ⟨W385.heap.size, 0, none⟩) 2 2 [_, _] := ⟨[[.slice _ _ _], [.slice _ _ _]], RS.lit (s := 1) (S := TT) (n := 2) _ b397 rfl (by simp) trivial rfl (by omega), ⟨_, _, _, rfl, hv406⟩, ⟨_, _, _, rfl, hv407⟩, trivial⟩
       exact ⟨(W385.heap.size, 0), ⟨rfl, rfl, rfl, rfl, rfl, rfl, rfl, rfl, trivial⟩, ⟨rfl, trivial⟩, z403, hwant⟩
      ·skip
       refine efI rfl ?_
       refine xcall e116 (rInt_ok (1) TT _ (by omega) (TT.up _)) rfl rfl ?_
       rintro _ W409 ⟨_, rfl, x410, hv408⟩
       have s411 := x410.sz
       have z415 := z364.trans x410
       have q416 := q365.trans x410
       replace hv408 := QC.to hv408 (r' := (1 : Rat)) (by decide +kernel)
       obtain ⟨_, _, _, _, _, _, _, _, rfl⟩ := hv408.form
       refine ⟨_, rfl, ?_⟩
       refine ⟨fun _ => q416, ?_⟩
       refine efs 2 [6] (by kernel_rfl) ⟨?_, ?_, trivial⟩
       ·skip
        refine efI rfl ?_
        refine xbs (zs := [.bool false, .slice _ _ _, .bool false, .slice _ _ _]) (ps := [(0, .agg #[_, _, _, _]), (1, .agg #[_, _, _, _])]) (cs := [.bool _, .slice _ _ _, .bool _, .slice _ _ _, .bool _, .slice _ _ _, .bool _, .slice _ _ _]) sl23 zr48 sz48 rfl rfl rfl rfl rfl (fillS2 _ _ _ _ _ _ _ _ _ _ _ _) ?_
        intro W417 x418 b419 nn420
        have s421 := x418.sz
        have z425 := z415.trans x418
        have q426 := q416.trans x418
        refine ⟨fun _ => q426, ?_⟩
        refine ef 6 (by kernel_rfl) rfl ?_
        refine xbs (zs := [.bool false, .slice _ _ _, .bool false, .slice _ _ _]) (ps := [(0, .agg #[_, _, _, _]), (1, .agg #[_, _, _, _])]) (cs := [.bool _, .slice _ _ _, .bool _, .slice _ _ _, .bool _, .slice _ _ _, .bool _, .slice _ _ _]) sl23 zr48 sz48 rfl rfl rfl rfl rfl (fillS2 _ _ _ _ _ _ _ _ _ _ _ _) ?_
        intro W427 x428 b429 nn430
        have s431 := x428.sz
        have z435 := z425.trans x428
        replace b419 := b419.ext x428
        have q436 := q426.trans x428
        refine ⟨fun _ => q436, ?_⟩
        refine ef 7 (by kernel_rfl) rfl ?_
        refine xbs (ps := [(0, .slice _ _ _), (1, .slice _ _ _)]) (cs := [.slice _ _ _, .slice _ _ _]) sl22 zr23 sz23 rfl rfl rfl rfl rfl rfl ?_
        intro W437 x438 b439 nn440
        have s441 := x438.sz
        have z445 := z435.trans x438
        replace b419 := b419.ext x438
        replace b429 := b429.ext x438
        have q446 := q436.trans x438
        refine ⟨fun _ => q446, ?_⟩
        refine tk 8 rfl (by kernel_rfl) q446 (pv (fun _ y447 => ras (v := .slice _ _ _) rfl)) ?_
        refine dn (by kernel_rfl) ?_
        have hv448 : GC TT W437 (some ⟨W409.heap.size, 0, none⟩) 2 2 [_, _] := ⟨[[.bool _, .slice _ _ _, .bool _, .slice _ _ _], [.bool _, .slice _ _ _, .bool _, .slice _ _ _]], RS.lit (s := 4) (S := TT) (n := 2) _ b419 rfl (by simp) trivial rfl (by omega), (hv288.ext (((((x299.trans x359).trans x410).trans x418).trans x428).trans x438)), (hv297.ext ((((x359.trans x410).trans x418).trans x428).trans x438)), trivial⟩
        have hv449 : GC TT W437 (some ⟨W417.heap.size, 0, none⟩) 2 2 [_, _] := ⟨[[.bool _, .slice _ _ _, .bool _, .slice _ _ _], [.bool _, .slice _ _ _, .bool _, .slice _ _ _]], RS.lit (s := 4) (S := TT) (n := 2) _ b429 rfl (by simp) trivial rfl (by omega), (hv357.ext (((x410.trans x418).trans x428).trans x438)), (hv408.ext ((x418.trans x428).trans x438)), trivial⟩
        have hwant : MC TT W437 (some ⟨W427.heap.size, 0, none⟩) 2 2 [_, _] := ⟨[[.slice _ _ _], [.slice _ _ _]], RS.lit (s := 1) (S := TT) (n := 2) _ b439 rfl (by simp) trivial rfl (by omega), ⟨_, _, _, rfl, hv448⟩, ⟨_, _, _, rfl, hv449⟩, trivial⟩
        exact ⟨(W427.heap.size, 0), ⟨rfl, rfl, rfl, rfl, rfl, rfl, rfl, rfl, trivial⟩, ⟨rfl, trivial⟩, z445, hwant⟩
       ·skip
        refine efI rfl ?_
        refine xbs (zs := [.bool false, .slice _ _ _, .bool false, .slice _ _ _]) (ps := [(0, .agg #[_, _, _, _]), (1, .agg #[_, _, _, _])]) (cs := [.bool _, .slice _ _ _, .bool _, .slice _ _ _, .bool _, .slice _ _ _, .bool _, .slice _ _ _]) sl23 zr48 sz48 rfl rfl rfl rfl rfl (fillS2 _ _ _ _ _ _ _ _ _ _ _ _) ?_
        intro W450 x451 b452 nn453
        have s454 := x451.sz
        have z458 := z415.trans x451
        have q459 := q416.trans x451
        refine ⟨fun _ => q459, ?_⟩
        refine ef 2 (by kernel_rfl) rfl ?_
        refine xbs (zs := [.bool false, .slice _ _ _, .bool false, .slice _ _ _]) (ps := [(0, .agg #[_, _, _, _]), (1, .agg #[_, _, _, _])]) (cs := [.bool _, .slice _ _ _, .bool _, .slice _ _ _, .bool _, .slice _ _ _, .bool _, .slice _ _ _]) sl23 zr48 sz48 rfl rfl rfl rfl rfl (fillS2 _ _ _ _ _ _ _ _ _ _ _ _) ?_
        intro W460 x461 b462 nn463
        have s464 := x461.sz
        have z468 := z458.trans x461
        replace b452 := b452.ext x461
        have q469 := q459.trans x461
        refine ⟨fun _ => q469, ?_⟩
        refine ef 7 (by kernel_rfl) rfl ?_
        refine xbs (ps := [(0, .slice _ _ _), (1, .slice _ _ _)]) (cs := [.slice _ _ _, .slice _ _ _]) sl22 zr23 sz23 rfl rfl rfl rfl rfl rfl ?_
        intro W470 x471 b472 nn473
        have s474 := x471.sz
        have z478 := z468.trans x471
        replace b452 := b452.ext x471
        replace b462 := b462.ext x471
        have q479 := q469.trans x471
        refine ⟨fun _ => q479, ?_⟩
        refine tk 8 rfl (by kernel_rfl) q479 (pv (fun _ y480 => ras (v := .slice _ _ _) rfl)) ?_
        refine dn (by kernel_rfl) ?_
        have hv481 : GC TT W470 (some ⟨W450.heap.size, 0, none⟩) 2 2 [_, _] := ⟨[[.bool _, .slice _ _ _, .bool _, .slice _ _ _], [.bool _, .slice _ _ _, .bool _, .slice _ _ _]], RS.lit (s := 4) (S := TT) (n := 2) _ b462 rfl (by simp) trivial rfl (by omega), (hv288.ext (((((x299.trans x359).trans x410).trans x451).trans x461).trans x471)), (hv297.ext ((((x359.trans x410).trans x451).trans x461).trans x471)), trivial⟩
        have hv482 : GC TT W470 (some ⟨W409.heap.size, 0, none⟩) 2 2 [_, _] := ⟨[[.bool _, .slice _ _ _, .bool _, .slice _ _ _], [.bool _, .slice _ _ _, .bool _, .slice _ _ _]], RS.lit (s := 4) (S := TT) (n := 2) _ b452 rfl (by simp) trivial rfl (by omega), (hv357.ext (((x410.trans x451).trans x461).trans x471)), (hv408.ext ((x451.trans x461).trans x471)), trivial⟩
        have hwant : MC TT W470 (some ⟨W460.heap.size, 0, none⟩) 2 2 [_, _] := ⟨[[.slice _ _ _], [.slice _ _ _]], RS.lit (s := 1) (S := TT) (n := 2) _ b472 rfl (by simp) trivial rfl (by omega), ⟨_, _, _, rfl, hv481⟩, ⟨_, _, _, rfl, hv482⟩, trivial⟩
        exact ⟨(W460.heap.size, 0), ⟨rfl, rfl, rfl, rfl, rfl, rfl, rfl, rfl, trivial⟩, ⟨rfl, trivial⟩, z478, hwant⟩
    ·skip
     intro i485 E486 W484 h487
     obtain ⟨nb, nb2⟩ := i485
     simp only at h487
     show thenV _ _ .normal (ups (ups _ _) [(21, .slice (some ⟨nb, 0, none⟩) 2 2)]) _ _
     obtain ⟨x488, hwant⟩ := h487
     have s489 := x488.sz
     have z490 := z257.trans x488
     have z491 := z258.trans x488
     have z492 := z259.trans x488
     replace b3 := b3.ext x488
     replace b9 := b9.ext x488
     replace b15 := b15.ext x488
     replace b30 := b30.ext x488
     replace b36 := b36.ext x488
     replace b42 := b42.ext x488
     replace b57 := b57.ext x488
     replace b88 := b88.ext x488
     replace b107 := b107.ext x488
     replace b132 := b132.ext x488
     replace b150 := b150.ext x488
     replace b172 := b172.ext x488
     replace b179 := b179.ext x488
     replace b200 := b200.ext x488
     replace b213 := b213.ext x488
     replace b220 := b220.ext x488
     replace b249 := b249.ext x488
     refine V.seq (V.regD mixed rfl ?_)
     intro W494 x495
     have s496 := x495.sz
     have z497 := z490.trans x495
     have z498 := z491.trans x495
     have z499 := z492.trans x495
     replace b3 := b3.ext x495
     replace b9 := b9.ext x495
     replace b15 := b15.ext x495
     replace b30 := b30.ext x495
     replace b36 := b36.ext x495
     replace b42 := b42.ext x495
     replace b57 := b57.ext x495
     replace b88 := b88.ext x495
     replace b107 := b107.ext x495
     replace b132 := b132.ext x495
     replace b150 := b150.ext x495
     replace b172 := b172.ext x495
     replace b179 := b179.ext x495
     replace b200 := b200.ext x495
     replace b213 := b213.ext x495
     replace b220 := b220.ext x495
     replace b249 := b249.ext x495
     have q501 := Ext.refl W494
     have r502 := b3
     have r503 := b9
     have r504 := b15
     have r505 := b30
     have r506 := b36
     have r507 := b42
     have r508 := b57
     have r509 := b88
     have r510 := b107
     have r511 := b132
     have r512 := b150
     have r513 := b172
     have r514 := b179
     have r515 := b200
     have r516 := b213
     have r517 := b220
     have r518 := b249
     refine tk 0 rfl (by kernel_rfl) q501 (pv (fun _ y519 => rmv (v := .slice _ _ _) rfl)) ?_
     refine ef 1 (by kernel_rfl) rfl ?_
     refine xbs (ps := [(0, .int _ _), (1, .int _ _)]) (cs := [.int _ _, .int _ _]) sl118 zr2 sz2 rfl rfl rfl rfl rfl rfl ?_
     intro W520 x521 b522 nn523
     have s524 := x521.sz
     have z525 := z497.trans x521
     have z526 := z498.trans x521
     have z527 := z499.trans x521
     have q529 := q501.trans x521
     refine ⟨fun _ => q529, ?_⟩
     refine ef 2 (by kernel_rfl) rfl ?_
     have hl530 := RN.lit (k := .i64) (xs := [_, _]) 2 b522 (by intro q hq; simp only [List.mem_cons, List.not_mem_nil, or_false] at hq; simp only [kb]; omega) (TT.up W494 _ (Nat.le_refl _))
     refine xcall e82 (vFrom_ok _ _ _ [1, 0] TT TT _ hl530 (by omega) (TT.up _)) rfl rfl ?_
     rintro _ W533 ⟨_, rn532, _, rfl, x534, hv531⟩
     have s535 := x534.sz
     have z536 := z525.trans x534
     have z537 := z526.trans x534
     have z538 := z527.trans x534
     have q540 := q529.trans x534
     obtain rfl : rn532 = 2 := by have := hv531.len; simpa using this.symm
     replace hv531 := hv531.cast (rs' := ([1, 0] : List Rat)) (by rfl)
     refine ⟨_, rfl, ?_⟩
     refine ⟨fun _ => q540, ?_⟩
     refine ef 3 (by kernel_rfl) rfl ?_
     refine xcall e56 (vIs_true _ ((hv118.ext x126).ext z537) hv531 rfl) rfl rfl ?_
     rintro _ W541 ⟨rfl, x542⟩
     have s543 := x542.sz
     have z544 := z536.trans x542
     have z545 := z537.trans x542
     have z546 := z538.trans x542
     have q548 := q540.trans x542
     refine ⟨_, rfl, ?_⟩
     refine ⟨fun _ => q548, ?_⟩
     refine tk 4 rfl (by kernel_rfl) q548 (pv (fun _ y549 => rmv (v := .bool true) rfl)) ?_
     refine tk 5 rfl (by kernel_rfl) q548 (pg rfl (fun _ y550 => rmv (v := .int _ _) rfl)) ?_
     refine tk 6 rfl (by kernel_rfl) q548 (pg rfl (fun _ y551 => rcmp (cEq (t := true) rfl) rfl rfl rfl)) ?_
     refine tk 7 rfl (by kernel_rfl) q548 (pv (fun _ y552 => rpk (v := .bool true) rfl rfl)) ?_
     refine tk 8 rfl (by kernel_rfl) q548 (pv (fun _ y553 => rmv (v := .bool true) rfl)) ?_
     refine tk 9 rfl (by kernel_rfl) q548 (pg rfl (fun _ y554 => rldb4 rfl ag48 (r511.ext y554) rfl rfl rfl rfl )) ?_
     refine efg 10 (by kernel_rfl) rfl rfl ?_
     refine xcall e116 (rInt_ok (2) TT _ (by omega) (TT.up _)) rfl rfl ?_
     rintro _ W556 ⟨_, rfl, x557, hv555⟩
     have s558 := x557.sz
     have z559 := z544.trans x557
     have z560 := z545.trans x557
     have z561 := z546.trans x557
     have q563 := q548.trans x557
     replace hv555 := QC.to hv555 (r' := (2 : Rat)) (by decide +kernel)
     obtain ⟨_, _, _, _, _, _, _, _, rfl⟩ := hv555.form
     refine ⟨_, rfl, ?_⟩
     refine ⟨fun _ => q563, ?_⟩
     refine efg 11 (by kernel_rfl) rfl rfl ?_
     refine xcall e37 (qIs5_true _ (q1 := [_, _, _, _]) (q2 := [_, _, _, _]) (hv124.ext z560) hv555 rfl) rfl rfl ?_
     rintro _ W564 ⟨rfl, x565⟩
     have s566 := x565.sz
     have z567 := z559.trans x565
     have z569 := z561.trans x565
     have q571 := q563.trans x565
     refine ⟨_, rfl, ?_⟩
     refine ⟨fun _ => q571, ?_⟩
     refine tk 12 rfl (by kernel_rfl) q571 (pv (fun _ y572 => rpk (v := .bool true) rfl rfl)) ?_
     refine tk 13 rfl (by kernel_rfl) q571 (pv (fun _ y573 => rmv (v := .bool true) rfl)) ?_
     refine tk 14 rfl (by kernel_rfl) q571 (pg rfl (fun _ y574 => rmv (v := .int _ _) rfl)) ?_
     refine tk 15 rfl (by kernel_rfl) q571 (pg rfl (fun _ y575 => rcmp (cEq (t := true) rfl) rfl rfl rfl)) ?_
     refine tk 16 rfl (by kernel_rfl) q571 (pv (fun _ y576 => rpk (v := .bool true) rfl rfl)) ?_
     refine tk 17 rfl (by kernel_rfl) q571 (pv (fun _ y577 => rmv (v := .bool true) rfl)) ?_
     refine tk 18 rfl (by kernel_rfl) q571 (pg rfl (fun _ y578 => rmv (v := .slice _ _ _) rfl)) ?_
     refine tk 19 rfl (by kernel_rfl) q571 (pg rfl (fun _ y579 => rmv (v := .slice _ _ _) rfl)) ?_
     refine efg 20 (by kernel_rfl) rfl rfl ?_
     refine xcall e42 (mIs_true _ ((hv142.ext (((((((((((((x149.trans x159).trans x164).trans x171).trans x178).trans x189).trans x194).trans x199).trans x207).trans x212).trans x219).trans x230).trans x235).trans x242)).ext z569) (hwant.ext (((((x495.trans x521).trans x534).trans x542).trans x557).trans x565)) rfl) rfl rfl ?_
     rintro _ W580 ⟨rfl, x581⟩
     have s582 := x581.sz
     have z583 := z567.trans x581
     have q587 := q571.trans x581
     refine ⟨_, rfl, ?_⟩
     refine ⟨fun _ => q587, ?_⟩
     refine tk 21 rfl (by kernel_rfl) q587 (pv (fun _ y588 => rpk (v := .bool true) rfl rfl)) ?_
     refine tk 22 rfl (by kernel_rfl) q587 (pv (fun _ y589 => rmv (v := .bool true) rfl)) ?_
     refine tk 23 rfl (by kernel_rfl) q587 (pg rfl (fun _ y590 => rmv (v := .int _ _) rfl)) ?_
     refine tk 24 rfl (by kernel_rfl) q587 (pg rfl (fun _ y591 => rcmp (cEq (t := true) rfl) rfl rfl rfl)) ?_
     refine tk 25 rfl (by kernel_rfl) q587 (pv (fun _ y592 => rpk (v := .bool true) rfl rfl)) ?_
     refine tk 26 rfl (by kernel_rfl) q587 (pv (fun _ y593 => ras (v := .bool true) rfl)) ?_
     refine dn (by kernel_rfl) ?_
     refine V.ret ?_
     refine ⟨[.bool true], ⟨rfl, trivial⟩, ?_⟩
     exact ⟨rfl, z583⟩
end Go.Proofs.YtknbjfefeeojlaaGreat
/- What the laws of layer 5 ask of package solve's functions: the reduced form of a matrix, sizes. -/
namespace Go.Proofs.YtknbjfefeeojlaaGreat
open Go.RowKit
attribute [local irreducible] RV VH V OpF Calls
theorem pow5_le {k m : Nat} (h : k ≤ m) : 5 ^ k ≤ 5 ^ m := Nat.pow_le_pow_right (by omega) h
theorem szV.set {L : Nat} {xs : List Rat} (h : szV L xs) {i : Nat} {r : Rat} (hr : sz L r) : szV L (xs.set i r) := fun x hx => by
  rcases List.mem_or_eq_of_mem_set hx with h' | rfl
  · exact h x h'
  · exact hr
theorem padm_sz {L : Nat} {rss : List (List Rat)} (h : szR L rss) (hL : 1 ≤ L) : szR L (padm rss) := gridm_sz fun i k => h.matI hL _ _
theorem rect.row_le {N : Nat} {rows : List (List Rat)} (h : rect N rows) (i : Nat) : (rowat rows i).length ≤ N := Proofs.YtknbjfefeeojlaaGreat.row_le (fun r hr => Nat.le_of_eq (h r hr)) i
theorem pow_room {L k : Nat} (h : k ≤ 9) (hL : L ≤ 100000) : 15 * (L * 5 ^ k) + 2 < LY := by
  have h1 := Nat.mul_le_mul hL (pow5_le h)
  have h2 : LY = 8796093022208 := rfl
  have h3 : (5 : Nat) ^ 9 = 1953125 := by decide
  omega
theorem pow_le {L k M B : Nat} (h : k ≤ M) (hB : L * 5 ^ M ≤ B) : L * 5 ^ k ≤ B := Nat.le_trans (Nat.mul_le_mul_left _ (pow5_le h)) hB
section
variable {L : Nat} {S S1 S2 : Nat → Prop} {a1 a2 : Option Addr} {n c m d : Nat} {rss : List (List Rat)} {bs : List Rat}
theorem MA.mono {L' : Nat} {S : Nat → Prop} {W : World} (h : MA L S W a1 n c rss) (hL : L ≤ L') : MA L' S W a1 n c rss := by
  obtain ⟨qs, h1, h2⟩ := h
  exact ⟨qs, h1, h2.imp fun _ _ ⟨a, n, c, e, hr⟩ => ⟨a, n, c, e, hr.mono hL⟩⟩
end
end Go.Proofs.YtknbjfefeeojlaaGreat
/- append(v, l...) of elements of any size. -/
namespace Go.Proofs.YtknbjfefeeojlaaGreat
open Go.RowKit
theorem All2.app {α β : Type} {p : α → β → Prop} : ∀ {xs : List α} {ys : List β} {xs2 : List α} {ys2 : List β}, All2 p xs ys → All2 p xs2 ys2 → All2 p (xs ++ xs2) (ys ++ ys2)
  | [], [], _, _, _, h => h
  | _ :: _, _ :: _, _, _, ⟨h1, h2⟩, h => ⟨h1, All2.app h2 h⟩
section
variable {r : Option Nat} {P : Program} {ρ : Operand → Value} {W : World} {d : Option Tmp} {ty e : TypeId} {pos : String} {af : Array Edge} {g : Option (Nat × Bool)} {x y : Operand} {v : Value} {K : Value → World → Prop} {s B : Nat} {ρt : Type} {El : (Nat → Prop) → World → List Value → ρt → Prop} {S S' : Nat → Prop} {rs rs2 : List ρt}
end
end Go.Proofs.YtknbjfefeeojlaaGreat
/- The reduced form, row by row, as the law of the echelon form asks. -/
namespace Go.Proofs.YtknbjfefeeojlaaGreat
open Go.RowKit
attribute [local irreducible] RV VH V OpF Calls
theorem MA.two {L : Nat} {W : World} {a : Option Addr} {n c : Nat} {rss : List (List Rat)} (h : MA L TT W a n c rss) : ∃ qs, RS 1 (fun b => b < W.heap.size) W a n c qs ∧ All2 (RowOf (GA L) (fun b => b < W.heap.size) W) qs rss ∧ ∀ q ∈ qs, ∀ u ∈ q, Value.oneCell' u = true := by
  obtain ⟨qs, h1, h2⟩ := MG.sub (okRowA L) h (S' := fun b => b < W.heap.size) fun b hb _ => hb
  refine ⟨qs, h1, h2, fun q hq u hu => ?_⟩
  obtain ⟨i, hi⟩ := List.getElem?_of_mem hq
  obtain ⟨r, _, a', n', c', rfl, _⟩ := h2.get hi
  rw [List.mem_singleton.1 hu]; rfl
end Go.Proofs.YtknbjfefeeojlaaGreat
/- Inverses and determinants: what the laws of layer 5 ask. -/
namespace Go.Proofs.YtknbjfefeeojlaaGreat
attribute [local irreducible] RV VH V OpF Calls
section
variable {rss : List (List Rat)} (hsq : rss.length = colsN rss)
include hsq
theorem detS_det : detS (padm rss) (colsN rss) = det rss.length fun i j => mat rss i j := by
  have h := detR_det (rows := padm rss) (n := colsN rss) (by rw [padm, len_gridm]; exact hsq)
  rw [show detS (padm rss) (colsN rss) = detR (padm rss) (colsN rss) from rfl, h, ← hsq]
  exact det_congr _ _ _ fun i j _ _ => by rw [padm, mat_pad _ _ _ (Nat.le_refl _)]
section
variable (hrk : rank (padm rss) (colsN rss) = rss.length)
include hrk
end
end
theorem detS_sz {L N : Nat} {rows : List (List Rat)} (hr : rect N rows) (hz : szR L rows) (hL : 1 ≤ L) (n : Nat) : sz (1 + L * 5 ^ n) (detS rows n) := by
  have key : ∀ k, sz (1 + L * 5 ^ k) (redS rows k).2.2 := by
    intro k
    induction k with
    | zero => exact (szOne).mono (by omega)
    | succ k ih =>
      obtain ⟨h1, h2, h3, h4⟩ := redS_all hr hz hL k
      have e : L * 5 ^ (k + 1) = L * 5 ^ k * 5 := by rw [Nat.pow_succ, Nat.mul_assoc]
      have hp : 1 ≤ L * 5 ^ k := Nat.mul_pos hL (Nat.pow_pos (by omega))
      rw [redS, show redS rows k = ((redS rows k).1, (redS rows k).2.1, (redS rows k).2.2) from rfl]
      unfold colS
      split
      · refine (sz_mul (a := 1 + L * 5 ^ k) (b := L * 5 ^ k) ?_ ((h4.swap _ _).at hp _ _)).mono (by omega)
        simp only
        split
        · exact ih
        · exact sz_neg ih
      · exact ih.mono (by omega)
  unfold detS
  split
  · exact sz_zero.mono (by omega)
  · exact key n
end Go.Proofs.YtknbjfefeeojlaaGreat
/- Package solve: Inverse and Det, as the laws ask of them. -/
namespace Go.Proofs.YtknbjfefeeojlaaGreat
open Go.RowKit
attribute [local irreducible] RV VH V OpF Calls
section
variable {L : Nat} {S S1 : Nat → Prop} {a1 : Option Addr} {n c : Nat} {rss : List (List Rat)}
theorem pDet (w : World) (hx : MA L S1 w a1 n c rss) (hsq : rss.length = colsN rss) (hl1 : 1 ≤ L) (hn : n ≤ 1024) (hc : colsN rss ≤ 1024) (hL5 : 15 * (L * 5 ^ colsN rss) + 2 < LY) (hu : Up S w) :
    Calls Tryz.prog 55 #[.slice a1 n c] w fun e w' => ∃ q, e = .returned (.tuple #[.agg q.toArray, .int .i64 0]) ∧ Ext w w' ∧ QC S w' q (detS (padm rss) (colsN rss)) := by
  have hl := hx.len
  subst hl
  exact sDet_at w 0 _ hx hl1 hn hc hL5 hu (if_pos hsq) (if_pos hsq)
end
theorem det_sz {L B : Nat} {rss : List (List Rat)} (hz : szR L rss) (hL : 1 ≤ L) (h : 1 + L * 5 ^ colsN rss ≤ B) : sz B (detS (padm rss) (colsN rss)) := (detS_sz (padm_rect rss) (padm_sz hz hL) hL _).mono h
end Go.Proofs.YtknbjfefeeojlaaGreat
/- A matrix of the call's own: its rows, and what keeps it. The laws of determinants under operations on rows. -/
namespace Go.Proofs.YtknbjfefeeojlaaGreat
open Go.RowKit
attribute [local irreducible] RV VH V OpF Calls
theorem V.cut {r : Option Nat} {P : Program} {N : Nat} {ds : List Deferred} {c : Code} {Q : EQ} {E : Env} {W : World} (L : List (Nat × Value)) (hL : agree E L) (h : ∀ E0, V r P N ds c Q (ups E0 L) W) : V r P N ds c Q E W := by
  have := h E
  rwa [ups_agree hL] at this
theorem fillS1 (z0 z1 z2 z3 u0 u1 u2 u3 : Value) : Instr.fill (fun i => some (i * 4, 4)) (List.replicate 1 [z0, z1, z2, z3]).flatten.toArray [(0, .agg #[u0, u1, u2, u3])] = some [u0, u1, u2, u3].toArray := by
  simp [Instr.fill, Value.cells]
theorem OS.rsO {s B n c : Nat} {W : World} {e : TypeId} {qs : List (List Value)} {S : Nat → Prop} {a : Option Addr} (h : OS s B W e (.slice a n c) qs) (hS : ∀ b, (Value.slice a n c).ownBlock = some b → S b) : RS s S W a n c qs := by
  rcases h.row.2 with ⟨h1, h0⟩ | ⟨b, cap, cur, h1, hb, hh, hn, hm, hs, ht⟩
  · injection h1 with h1 h2 h3
    subst h1 h2 h3
    have : qs = [] := List.eq_nil_of_length_eq_zero h0
    subst this
    exact RS.nil _ _ _ _ _ (by omega)
  · injection h1 with h1 h2 h3
    subst h1 h2 h3
    refine ⟨rfl, hn, by simp only [maxLen] at hm; omega, h.wd, fun h0 => ⟨b, 0, cur, e, (0,0), rfl, hS b rfl, hh, fun k q hk j u hj => ?_⟩⟩
    have hq := h.wd q (List.mem_of_getElem? hk)
    have hj2 : j < s := by rw [← hq]; exact (List.getElem?_eq_some_iff.1 hj).1
    have h5 := flat_get h.wd hk hj2
    rw [← ht, hj, List.getElem?_take] at h5
    split at h5
    · simpa using h5
    · cases h5
section
variable {ρt : Type} {El : (Nat → Prop) → World → List Value → ρt → Prop} {S S' : Nat → Prop} {s B : Nat} {W W' : World} {e : TypeId} {v : Value} {rs : List ρt}
theorem GO.low (h : GO s El S B W e v rs) : ∀ b, v.ownBlock = some b → B ≤ b ∧ b < W.heap.size := by
  obtain ⟨qs, h1, _⟩ := h; exact h1.low
theorem GO.keep (ok : ElOK El) (h : GO s El S B W e v rs) (k : CK S' W W') (hS : ∀ b, S b → S' b) (hB : ∀ b, B ≤ b → b < W.heap.size → S' b) : GO s El S B W' e v rs := by
  obtain ⟨qs, h1, h2⟩ := h
  exact ⟨qs, h1.ck k fun b e => hB b (h1.low b e).1 (h1.low b e).2, h2.imp fun _ _ hq => ok.ck hq (k.sub fun b hs => hS b hs.1)⟩
theorem GO.finO {n c : Nat} {a : Option Addr} (ok : ElOK El) (h : GO s El S B W e (.slice a n c) rs) (hS : ∀ b, b < W.heap.size → S b → S' b) (hb : ∀ b, (Value.slice a n c).ownBlock = some b → S' b) : ∃ qs, RS s S' W a n c qs ∧ All2 (El S' W) qs rs := by
  obtain ⟨qs, h1, h2⟩ := h
  exact ⟨qs, h1.rsO hb, h2.imp fun _ _ hq => ok.sub hq fun b hb hs => hS b hb hs.1⟩
end
theorem GO.row {S : Nat → Prop} {B n c : Nat} {W : World} {e : TypeId} {v : Value} {rows : List (List Rat)} {a : Option Addr} (h : GO 1 (RowOf GC) S B W e v rows) (hv : v = .slice a n c) {i : Int} (h0 : 0 ≤ i) (h1 : i < n) : ∃ a' n' c', W.cell? (adr a i 1) = some (.slice a' n' c') ∧ GC (SO S v) W a' n' c' (rowat rows i.toNat) := by
  obtain ⟨qs, h2, h3⟩ := h
  have h2' := h2
  rw [hv] at h2'
  have hr : RS 1 TT W a n c qs := h2'.rs fun _ _ _ => trivial
  obtain ⟨q, h4, h5, h6⟩ := hr.el h0 h1
  obtain ⟨r, h7, a', n', c', rfl, h8⟩ := h3.get h4
  have e : rowat rows i.toNat = r := by unfold rowat; rw [List.getD_eq_getElem?_getD, h7]; rfl
  refine ⟨a', n', c', ?_, e ▸ h8⟩
  have := h6 0 _ rfl
  rwa [add0] at this
theorem QX.qa6 {S : Nat → Prop} {W : World} {q : List Value} {ρ : RawQ} (h : QX S W q ρ) (hs : szQ 6 ρ) : QA 6 S W q (qval ρ) := ⟨ρ, h, hs, rfl⟩
/-! ### Determinants under operations on rows -/
theorem detS_rect {R : List (List Rat)} {n : Nat} (hr : rect n R) (hl : R.length = n) : detS (padm R) (colsN R) = det n fun i j => mat R i j := by
  rcases colsN_rect hr with h | h
  · rw [detS_det (by omega), hl]
  · have h0 : n = 0 := by rw [← hl, h]; rfl
    subst h; subst h0; rfl
theorem colsN_sq {R : List (List Rat)} {n : Nat} (hr : rect n R) (hl : R.length = n) : R.length = colsN R := by
  rcases colsN_rect hr with h | h
  · omega
  · subst h; rfl
section
variable {rss : List (List Rat)} {n : Nat}
theorem grid_rect (hn : rss.length = n) : rect n (gridm (matI rss) n n) ∧ (gridm (matI rss) n n).length = n := ⟨gridm_rect _ _ _, len_gridm _ _ _⟩
theorem mat_grid {i j : Nat} (hi : i < n) (hj : j < n) : mat (gridm (matI rss) n n) i j = mat rss i j := by rw [mat_gridm, if_pos ⟨hi, hj⟩, matI_nat]
theorem det_of (hsq : rss.length = colsN rss) (hn : rss.length = n) : detS (padm rss) (colsN rss) = det n fun i j => mat rss i j := by rw [detS_det hsq, hn]
theorem det_prod {mss : List (List Rat)} (hsq : rss.length = colsN rss) (hn : rss.length = n) (hm : mss.length = n) (hmc : colsN mss = n) :
    detS (padm (gridm (matI (mulm rss mss)) n n)) (colsN (gridm (matI (mulm rss mss)) n n)) = detS (padm rss) (colsN rss) * detS (padm mss) (colsN mss) := by
  rw [detS_rect (gridm_rect _ _ _) (len_gridm _ _ _), det_of hsq hn, det_of (rss := mss) (by omega) hm, ← det_mul]
  refine det_congr _ _ _ fun i j hi hj => ?_
  rw [mat_grid hi hj, mat_mulm, hm]; rfl
theorem det_turn (hsq : rss.length = colsN rss) (hn : rss.length = n) : detS (padm (gridm (fun i k => matI rss k i) (colsN rss) n)) (colsN (gridm (fun i k => matI rss k i) (colsN rss) n)) = detS (padm rss) (colsN rss) := by
  rw [detS_rect (n := n) (by have h := gridm_rect (fun i k => matI rss k i) (colsN rss) n; exact h) (by rw [len_gridm]; omega), det_of hsq hn, ← det_tr]
  refine det_congr _ _ _ fun i j hi hj => ?_
  rw [mat_gridm, if_pos ⟨by omega, hi⟩, matI_nat]
theorem det_swapped (hsq : rss.length = colsN rss) (hn : rss.length = n) {x y : Nat} (hx : x < n) (hy : y < n) (hxy : x ≠ y) {R : List (List Rat)} (hR : R = ((gridm (matI rss) n n).set x (rowat (gridm (matI rss) n n) y)).set y (rowat (gridm (matI rss) n n) x)) :
    R.length = n ∧ rect n R ∧ detS (padm R) (colsN R) = - detS (padm rss) (colsN rss) := by
  have hr := gridm_rect (matI rss) n n
  have hl := len_gridm (matI rss) n n
  have hRl : R.length = n := by rw [hR]; simp [hl]
  have hRr : rect n R := by rw [hR]; exact (hr.set (hr.row (by omega))).set (hr.row (by omega))
  refine ⟨hRl, hRr, ?_⟩
  rw [detS_rect hRr hRl, det_of hsq hn, ← (det_row n).swap (fun i j => mat rss j i) x y hx hy hxy]
  refine det_congr _ _ _ fun i j hi hj => ?_
  show _ = mat rss (if i = x then y else if i = y then x else i) j
  rw [hR]
  unfold mat
  rw [rowat_set (by simp [hl]; exact hy)]
  by_cases e1 : i = y
  · rw [if_pos e1]
    have e2 : i ≠ x := by omega
    rw [if_neg e2, if_pos e1]; exact mat_grid hx hj
  · rw [if_neg e1, rowat_set (by rw [hl]; exact hx)]
    by_cases e2 : i = x
    · rw [if_pos e2, if_pos e2]; exact mat_grid hy hj
    · rw [if_neg e2, if_neg e2, if_neg e1]; exact mat_grid hi hj
theorem det_added (hsq : rss.length = colsN rss) (hn : rss.length = n) {x y : Nat} (hx : x < n) (hy : y < n) (hxy : x ≠ y) (k : Rat) {R : List (List Rat)} (hR : R = (gridm (matI rss) n n).set x (axR k (rowat (gridm (matI rss) n n) y) (rowat (gridm (matI rss) n n) x))) :
    R.length = n ∧ rect n R ∧ detS (padm R) (colsN R) = detS (padm rss) (colsN rss) := by
  have hr := gridm_rect (matI rss) n n
  have hl := len_gridm (matI rss) n n
  have hRl : R.length = n := by rw [hR]; simp [hl]
  have hRr : rect n R := by rw [hR]; exact hr.set (by rw [axR_len, hr.row (by omega), hr.row (by omega)]; omega)
  refine ⟨hRl, hRr, ?_⟩
  rw [detS_rect hRr hRl, det_of hsq hn, ← (det_row n).add (fun i j => mat rss j i) x y k hx hy hxy]
  refine det_congr _ _ _ fun i j hi hj => ?_
  show _ = if i = x then mat rss x j + k * mat rss y j else mat rss i j
  rw [hR]
  unfold mat
  rw [rowat_set (by rw [hl]; exact hx)]
  by_cases e2 : i = x
  · rw [if_pos e2, if_pos e2, vat_axR]
    have h1 : vat (rowat (gridm (matI rss) n n) y) j = mat rss y j := mat_grid hy hj
    have h2 : vat (rowat (gridm (matI rss) n n) x) j = mat rss x j := mat_grid hx hj
    rw [h1, h2, Rat.add_comm]; rfl
  · rw [if_neg e2, if_neg e2]; exact mat_grid hi hj
end
end Go.Proofs.YtknbjfefeeojlaaGreat
/- Package pylonlaw05: SolveDeterminant. -/
namespace Go.Proofs.YtknbjfefeeojlaaGreat
open Go.RowKit
attribute [local irreducible] RV VH V OpF Calls

set_option maxHeartbeats 8000000 in
set_option maxRecDepth 4000 in
theorem solveDet_ok (a1 a2 : Option Addr) (n c m d : Nat) (z2 z3 : Int) (A B : List (List RawQ)) (q : List Value) (ρ : RawQ) (w : World) (h0 : MX TT w a1 n c A) (h1 : MX TT w a2 m d B) (h2 : 0 ≤ z2 ∧ z2 ≤ 255) (h3 : 0 ≤ z3 ∧ z3 ≤ 255) (h4 : QX TT w q ρ) :
    Calls Tryz.prog 9 #[.slice a1 n c, .slice a2 m d, .int .u8 z2, .int .u8 z3, .agg q.toArray] w (fun e w' => e = .returned (.bool true) ∧ Ext w w') := by
 have z0 := Ext.refl w; have hLX : LX = 17592186044416 := rfl; have hLY : LY = 8796093022208 := rfl
 have hLV : LV = 1099511627776 := rfl
 have hx := h0; have hy := h1; have hk := h4
 obtain ⟨n5, a5, l5, c5, n6, a6, l6, c6, rfl⟩ := h4.form
 refine enter (args := [.slice a1 n c, .slice a2 m d, .int .u8 z2, .int .u8 z3, .agg #[.bool n5, .slice a5 l5 c5, .bool n6, .slice a6 l6 c6]]) Tryz.func9 rfl rfl (Nat.le_of_ble_eq_true rfl) ?_
 refine V.seq (V.reg rfl ?_)
 refine vo ?_
 refine bxa rfl ?_
 intro W1 x2 b3 nn4
 have s5 := x2.sz
 have z6 := x2
 refine asb rfl ?_
 refine vnil ?_
 refine V.seq ?_
 refine V.seq (V.reg rfl ?_)
 refine mvs rfl ?_
 refine vo ?_
 have hm7 : MX TT W1 none 0 0 [] := ⟨[], RS.nil _ _ _ _ _ (by omega), trivial⟩
 refine xcall e49 (long5_ok _ _ _ _ _ _ A [] _ _ (hx.ext z6) hm7) rfl rfl ?_
 rintro _ Wb1 ⟨bb1, rfl, xb1, hb1⟩
 refine ⟨_, rfl, ?_⟩
 cases bb1
 ·skip
  have s8 := xb1.sz
  have z9 := z6.trans xb1
  replace b3 := b3.ext xb1
  refine mvb rfl ?_
  refine vg rfl ?_
  refine mvs rfl ?_
  refine vg rfl ?_
  refine vo ?_
  have hm10 : MX TT Wb1 none 0 0 [] := ⟨[], RS.nil _ _ _ _ _ (by omega), trivial⟩
  refine xcall e49 (long5_ok _ _ _ _ _ _ B [] _ _ (hy.ext z9) hm10) rfl rfl ?_
  rintro _ Wb2 ⟨bb2, rfl, xb2, hb2⟩
  refine ⟨_, rfl, ?_⟩
  cases bb2
  ·skip
   have s11 := xb2.sz
   have z12 := z9.trans xb2
   replace b3 := b3.ext xb2
   refine vv (rpk (v := .bool false) rfl rfl) ?_
   refine mvb rfl ?_
   refine vg rfl ?_
   refine vv (rldb4 rfl ag48 b3 rfl rfl rfl rfl ) ?_
   refine vg rfl ?_
   refine vo ?_
   refine xbs (zs := [.bool false, .slice _ _ _, .bool false, .slice _ _ _]) (ps := [(0, .agg #[_, _, _, _])]) (cs := [.bool _, .slice _ _ _, .bool _, .slice _ _ _]) sl23 zr48 sz48 rfl rfl rfl rfl rfl (fillS1 _ _ _ _ _ _ _ _) ?_
   intro W13 x14 b15 nn16
   have s17 := x14.sz
   have z18 := z12.trans x14
   replace b3 := b3.ext x14
   refine vg rfl ?_
   refine vo ?_
   have hlk : GX TT W13 (some ⟨Wb2.heap.size, 0, none⟩) 1 1 [ρ] := ⟨[[.bool _, .slice _ _ _, .bool _, .slice _ _ _]], RS.lit (s := 4) (S := TT) (n := 1) _ b15 rfl (by simp) trivial rfl (by omega), (hk.ext z18), trivial⟩
   refine xcall e69 (long2_ok _ _ _ _ _ _ hlk) rfl rfl ?_
   rintro _ Wb3 ⟨bb3, rfl, xb3, hb3⟩
   refine ⟨_, rfl, ?_⟩
   cases bb3
   ·skip
    have s19 := xb3.sz
    have z20 := z18.trans xb3
    replace b3 := b3.ext xb3
    replace b15 := b15.ext xb3
    refine vv (rpk (v := .bool false) rfl rfl) ?_
    refine mvb rfl ?_
    refine vg rfl ?_
    have hA := (hb1 rfl).1.1; have h6A := (hb1 rfl).1.2
    obtain ⟨rss, hrss⟩ : ∃ rss, rss = A.map (·.map qval) := ⟨_, rfl⟩
    have marss : MA 6 TT _ a1 n c rss := hrss ▸ ((hx.ext z20)).ma (fun r hr => (hA.2.2 r hr).2)
    have hcrss : colsN rss ≤ 8 := by rw [hrss, colsN_raw]; exact hA.2.1
    have hlrss := marss.len
    have hnrss : n ≤ 8 := by have := hA.1; rw [hrss, List.length_map] at hlrss; omega
    have hszrss : szR 6 rss := marss.rowsz (by omega)
    have hrrss : ∀ r ∈ rss, r.length ≤ 20 := fun r hr => by have := cols_ge r hr; omega
    have hc6rss : colsN rss ≤ 6 := by rw [hrss, colsN_raw]; exact h6A.2
    have hn6rss : n ≤ 6 := by have := h6A.1; have := hlrss; rw [hrss, List.length_map] at this; omega
    have hB := (hb2 rfl).1.1; have h6B := (hb2 rfl).1.2
    obtain ⟨mss, hmss⟩ : ∃ rss, rss = B.map (·.map qval) := ⟨_, rfl⟩
    have mamss : MA 6 TT _ a2 m d mss := hmss ▸ ((hy.ext z20)).ma (fun r hr => (hB.2.2 r hr).2)
    have hcmss : colsN mss ≤ 8 := by rw [hmss, colsN_raw]; exact hB.2.1
    have hlmss := mamss.len
    have hnmss : m ≤ 8 := by have := hB.1; rw [hmss, List.length_map] at hlmss; omega
    have hszmss : szR 6 mss := mamss.rowsz (by omega)
    have hrmss : ∀ r ∈ mss, r.length ≤ 20 := fun r hr => by have := cols_ge r hr; omega
    have hc6mss : colsN mss ≤ 6 := by rw [hmss, colsN_raw]; exact h6B.2
    have hn6mss : m ≤ 6 := by have := h6B.1; have := hlmss; rw [hmss, List.length_map] at this; omega
    have hkq := ((hk.ext z20)).qa6 ((hb3 rfl) ρ (by simp))
    refine mvs rfl ?_
    refine vg rfl ?_
    refine vv (rlen sl22 rfl) ?_
    refine vg rfl ?_
    refine mvs rfl ?_
    refine vg rfl ?_
    refine vo ?_
    refine xcall e35 (mCols_ok _ _ _ _ _ _ _ marss) rfl rfl ?_
    rintro _ W22 ⟨rfl, x23⟩
    have s24 := x23.sz
    have z25 := z20.trans x23
    have z26 := x23
    replace b3 := b3.ext x23
    replace b15 := b15.ext x23
    refine ⟨_, rfl, ?_⟩
    refine vg rfl ?_
    refine vne rfl rfl ?_ ?_
    ·intro c27
     refine vv (rpk (v := .bool true) rfl rfl) ?_
     refine mvb rfl ?_
     refine vgn (b := true) rfl rfl ?_
     refine vgn (b := true) rfl rfl ?_
     refine vgn (b := true) rfl rfl ?_
     refine vgn (b := true) rfl rfl ?_
     refine vgn (b := true) rfl rfl ?_
     refine vv (rpk (v := .bool true) rfl rfl) ?_
     refine mvb rfl ?_
     refine vgn (b := true) rfl rfl ?_
     refine vgn (b := true) rfl rfl ?_
     refine vgn (b := true) rfl rfl ?_
     refine vgn (b := true) rfl rfl ?_
     refine vgn (b := true) rfl rfl ?_
     refine vv (rpk (v := .bool true) rfl rfl) ?_
     refine mvb rfl ?_
     refine vgn (b := true) rfl rfl ?_
     refine vgn (b := true) rfl rfl ?_
     refine vgn (b := true) rfl rfl ?_
     refine vv (rpk (v := .bool true) rfl rfl) ?_
     refine vnil ?_
     refine V.condT rfl ?_
     refine V.seq (V.reg rfl ?_)
     refine vo ?_
     refine xcall e50 (law5_ok _) rfl rfl ?_
     rintro _ W28 ⟨rfl, x29⟩
     have s30 := x29.sz
     have z31 := z25.trans x29
     refine ⟨_, rfl, ?_⟩
     refine asb rfl ?_
     refine vnil ?_
     refine V.ret ?_
     refine ⟨[.bool true], ⟨rfl, trivial⟩, ?_⟩
     exact ⟨rfl, z31⟩
    ·intro c27
     refine vv (rpk (v := .bool false) rfl rfl) ?_
     refine mvb rfl ?_
     refine vg rfl ?_
     refine mvs rfl ?_
     refine vg rfl ?_
     refine vv (rlen sl22 rfl) ?_
     refine vg rfl ?_
     refine mvs rfl ?_
     refine vg rfl ?_
     refine vv (rlen sl22 rfl) ?_
     refine vg rfl ?_
     refine vne rfl rfl ?_ ?_
     ·intro c33
      refine vv (rpk (v := .bool true) rfl rfl) ?_
      refine mvb rfl ?_
      refine vgn (b := true) rfl rfl ?_
      refine vgn (b := true) rfl rfl ?_
      refine vgn (b := true) rfl rfl ?_
      refine vgn (b := true) rfl rfl ?_
      refine vgn (b := true) rfl rfl ?_
      refine vv (rpk (v := .bool true) rfl rfl) ?_
      refine mvb rfl ?_
      refine vgn (b := true) rfl rfl ?_
      refine vgn (b := true) rfl rfl ?_
      refine vgn (b := true) rfl rfl ?_
      refine vv (rpk (v := .bool true) rfl rfl) ?_
      refine vnil ?_
      refine V.condT rfl ?_
      refine V.seq (V.reg rfl ?_)
      refine vo ?_
      refine xcall e50 (law5_ok _) rfl rfl ?_
      rintro _ W34 ⟨rfl, x35⟩
      have s36 := x35.sz
      have z37 := z25.trans x35
      refine ⟨_, rfl, ?_⟩
      refine asb rfl ?_
      refine vnil ?_
      refine V.ret ?_
      refine ⟨[.bool true], ⟨rfl, trivial⟩, ?_⟩
      exact ⟨rfl, z37⟩
     ·intro c33
      refine vv (rpk (v := .bool false) rfl rfl) ?_
      refine mvb rfl ?_
      refine vg rfl ?_
      refine mvs rfl ?_
      refine vg rfl ?_
      refine vo ?_
      refine xcall e35 (mCols_ok _ _ _ _ _ _ _ (mamss.ext z26)) rfl rfl ?_
      rintro _ W39 ⟨rfl, x40⟩
      have s41 := x40.sz
      have z42 := z25.trans x40
      have z43 := z26.trans x40
      replace b3 := b3.ext x40
      replace b15 := b15.ext x40
      refine ⟨_, rfl, ?_⟩
      refine vg rfl ?_
      refine mvs rfl ?_
      refine vg rfl ?_
      refine vv (rlen sl22 rfl) ?_
      refine vg rfl ?_
      refine vne rfl rfl ?_ ?_
      ·intro c44
       refine vv (rpk (v := .bool true) rfl rfl) ?_
       refine mvb rfl ?_
       refine vgn (b := true) rfl rfl ?_
       refine vgn (b := true) rfl rfl ?_
       refine vgn (b := true) rfl rfl ?_
       refine vv (rpk (v := .bool true) rfl rfl) ?_
       refine vnil ?_
       refine V.condT rfl ?_
       refine V.seq (V.reg rfl ?_)
       refine vo ?_
       refine xcall e50 (law5_ok _) rfl rfl ?_
       rintro _ W45 ⟨rfl, x46⟩
       have s47 := x46.sz
       have z48 := z42.trans x46
       refine ⟨_, rfl, ?_⟩
       refine asb rfl ?_
       refine vnil ?_
       refine V.ret ?_
       refine ⟨[.bool true], ⟨rfl, trivial⟩, ?_⟩
       exact ⟨rfl, z48⟩
      ·intro c44
       refine vv (rpk (v := .bool false) rfl rfl) ?_
       refine mvb rfl ?_
       refine vg rfl ?_
       refine mvs rfl ?_
       refine vg rfl ?_
       refine vv (rlen sl22 rfl) ?_
       refine vg rfl ?_
       refine vlt rfl rfl ?_ ?_
       ·intro c50
        refine vv (rpk (v := .bool true) rfl rfl) ?_
        refine vnil ?_
        refine V.condT rfl ?_
        refine V.seq (V.reg rfl ?_)
        refine vo ?_
        refine xcall e50 (law5_ok _) rfl rfl ?_
        rintro _ W51 ⟨rfl, x52⟩
        have s53 := x52.sz
        have z54 := z42.trans x52
        refine ⟨_, rfl, ?_⟩
        refine asb rfl ?_
        refine vnil ?_
        refine V.ret ?_
        refine ⟨[.bool true], ⟨rfl, trivial⟩, ?_⟩
        exact ⟨rfl, z54⟩
       ·intro c50
        have hsq : rss.length = colsN rss := by omega
        have hmsq : mss.length = colsN mss := by omega
        have hnn : rss.length = n := by omega
        have hmn : mss.length = n := by omega
        have hmc : colsN mss = n := by omega
        have hgr := grid_rect (rss := rss) (n := n) hnn
        obtain ⟨x, hxe⟩ : ∃ x : Nat, z2 % (n : Int) = (x : Int) := ⟨(z2 % (n : Int)).toNat, by have := Int.emod_nonneg z2 (show (n : Int) ≠ 0 by omega); omega⟩
        obtain ⟨y, hye⟩ : ∃ y : Nat, z3 % (n : Int) = (y : Int) := ⟨(z3 % (n : Int)).toNat, by have := Int.emod_nonneg z3 (show (n : Int) ≠ 0 by omega); omega⟩
        have hxn : x < n := by have := Int.emod_lt_of_pos z2 (show (0 : Int) < n by omega); omega
        have hyn : y < n := by have := Int.emod_lt_of_pos z3 (show (0 : Int) < n by omega); omega
        refine vv (rpk (v := .bool false) rfl rfl) ?_
        refine vnil ?_
        refine V.condF rfl ?_
        refine V.skip ?_
        refine V.cut [(0, .slice _ _ _), (1, .slice _ _ _), (2, .int _ _), (3, .int _ _), (9, .pointer (some ⟨_, _, none⟩))] ⟨rfl, rfl, rfl, rfl, rfl, trivial⟩ ?_
        intro E56
        have lb57 := b3.lt
        have lb58 := b15.lt
        have sz59 := z42.sz
        have sz60 := z43.sz
        refine V.seq (V.reg rfl ?_)
        refine mvs rfl ?_
        refine vo ?_
        refine xcall e55 (pDet _ (marss.ext z43) (hsq) (by omega) (by omega) (by omega) (pow_room (by omega) (by omega)) (TT.up _)) rfl rfl ?_
        rintro _ W61 ⟨_, rfl, x62, hd⟩
        have s63 := x62.sz
        have z64 := z42.trans x62
        have z65 := z43.trans x62
        replace b3 := b3.ext x62
        replace b15 := b15.ext x62
        obtain ⟨_, _, _, _, _, _, _, _, rfl⟩ := hd.form
        have hda := hd.qa (det_sz hszrss (by omega) (by have := pow_le (L := 6) (k := colsN rss) (M := 6) (B := 93750) (by omega) (by decide); omega) (B := 93751))
        refine ⟨_, rfl, ?_⟩
        refine mvt rfl ?_
        refine vv (rext (v := .agg #[_, _, _, _]) rfl rfl) ?_
        refine vv (rext (v := .int _ _) rfl rfl) ?_
        refine vo ?_
        refine xal zc48 ?_
        intro W66 x67 b68 nn69
        have s70 := x67.sz
        have z71 := z64.trans x67
        have z72 := z65.trans x67
        replace b3 := b3.ext x67
        replace b15 := b15.ext x67
        refine vo ?_
        refine sta (cs' := [_, _, _, _]) b68 rfl rfl sz48 rfl rfl rfl ?_
        intro W73 y74 b68
        have z75 := z71.below (y74.below (by omega))
        have z76 := z72.below (y74.below (by omega))
        replace b3 := b3.wr y74 (by omega)
        replace b15 := b15.wr y74 (by omega)
        have s77 := y74.size
        refine asi rfl ?_
        refine vnil ?_
        refine V.seq (V.reg rfl ?_)
        refine mvs rfl ?_
        refine vo ?_
        refine xcall e55 (pDet _ (mamss.ext z76) (hmsq) (by omega) (by omega) (by omega) (pow_room (by omega) (by omega)) (TT.up _)) rfl rfl ?_
        rintro _ W78 ⟨_, rfl, x79, he⟩
        have s80 := x79.sz
        have z81 := z75.trans x79
        have z82 := z76.trans x79
        replace b3 := b3.ext x79
        replace b15 := b15.ext x79
        replace b68 := b68.ext x79
        obtain ⟨_, _, _, _, _, _, _, _, rfl⟩ := he.form
        have hea := he.qa (det_sz hszmss (by omega) (by have := pow_le (L := 6) (k := colsN mss) (M := 6) (B := 93750) (by omega) (by decide); omega) (B := 93751))
        refine ⟨_, rfl, ?_⟩
        refine mvt rfl ?_
        refine vv (rext (v := .agg #[_, _, _, _]) rfl rfl) ?_
        refine vv (rext (v := .int _ _) rfl rfl) ?_
        refine vo ?_
        refine xal zc48 ?_
        intro W83 x84 b85 nn86
        have s87 := x84.sz
        have z88 := z81.trans x84
        have z89 := z82.trans x84
        replace b3 := b3.ext x84
        replace b15 := b15.ext x84
        replace b68 := b68.ext x84
        refine vo ?_
        refine sta (cs' := [_, _, _, _]) b85 rfl rfl sz48 rfl rfl rfl ?_
        intro W90 y91 b85
        have z92 := z88.below (y91.below (by omega))
        have z93 := z89.below (y91.below (by omega))
        replace b3 := b3.wr y91 (by omega)
        replace b15 := b15.wr y91 (by omega)
        replace b68 := b68.wr y91 (by omega)
        have s94 := y91.size
        refine asi rfl ?_
        refine vnil ?_
        refine V.cut [(0, .slice _ _ _), (1, .slice _ _ _), (2, .int _ _), (3, .int _ _), (9, .pointer (some ⟨_, _, none⟩)), (11, .pointer (some ⟨_, _, none⟩)), (12, .int _ _), (13, .pointer (some ⟨_, _, none⟩)), (14, .int _ _)] ⟨rfl, rfl, rfl, rfl, rfl, rfl, rfl, rfl, rfl, trivial⟩ ?_
        intro E95
        have lb96 := b3.lt
        have lb97 := b15.lt
        have lb98 := b68.lt
        have lb99 := b85.lt
        have sz100 := z92.sz
        have sz101 := z93.sz
        refine V.seq (V.reg rfl ?_)
        refine mvs rfl ?_
        refine mvs rfl ?_
        refine vo ?_
        refine xcall e70 (mMul_ok _ _ _ _ _ _ _ _ 100 _ _ TT TT TT _ (marss.ext z93) (mamss.ext z93) (by omega) (by omega) (by omega) (by omega) (by omega) (by omega) (TT.up _)) rfl rfl ?_
        rintro _ W102 ⟨_, np, cp, rfl, x103, hp⟩
        have s104 := x103.sz
        have z105 := z92.trans x103
        have z106 := z93.trans x103
        replace b3 := b3.ext x103
        replace b15 := b15.ext x103
        replace b68 := b68.ext x103
        replace b85 := b85.ext x103
        have hpa := hp.ma (L := 100) (mulm_sz hszrss (fun i => GA.rows (mamss.ext z106) (by omega) i) (by omega) (by omega) (by omega))
        have hpl := hp.len; rw [len_mulm] at hpl
        refine ⟨_, rfl, ?_⟩
        refine mvs rfl ?_
        refine vv (rlen sl22 rfl) ?_
        refine mvs rfl ?_
        refine vv (rlen sl22 rfl) ?_
        refine vo ?_
        refine xcall e43 (mResize_ok _ _ _ _ _ n n 100 _ TT TT _ hpa (by omega) (by omega) (by omega) (by omega) (fun i k => szMI hpa (by omega) _ _) (TT.up _)) rfl rfl ?_
        rintro _ W107 ⟨_, nr, cr, rfl, x108, hr⟩
        have s109 := x108.sz
        have z110 := z105.trans x108
        have z111 := z106.trans x108
        replace b3 := b3.ext x108
        replace b15 := b15.ext x108
        replace b68 := b68.ext x108
        replace b85 := b85.ext x108
        have hra := hr.ma (L := 100) (gridm_sz fun i k => szMI (hpa.ext x108) (by omega) _ _)
        have hrl := hr.len; rw [len_gridm] at hrl
        have hrz := hra.rowsz (by omega)
        have hrsq := colsN_sq (gridm_rect (matI (mulm rss mss)) n n) (len_gridm _ _ _)
        have hrc := len_gridm (matI (mulm rss mss)) n n
        refine ⟨_, rfl, ?_⟩
        refine vo ?_
        refine xcall e55 (pDet _ hra (hrsq) (by omega) (by omega) (by omega) (pow_room (by omega) (by omega)) (TT.up _)) rfl rfl ?_
        rintro _ W112 ⟨_, rfl, x113, hf⟩
        have s114 := x113.sz
        have z115 := z110.trans x113
        have z116 := z111.trans x113
        replace b3 := b3.ext x113
        replace b15 := b15.ext x113
        replace b68 := b68.ext x113
        replace b85 := b85.ext x113
        obtain ⟨_, _, _, _, _, _, _, _, rfl⟩ := hf.form
        have hfa := hf.qa (det_sz hrz (by omega) (by have := pow_le (L := 100) (k := colsN (gridm (matI (mulm rss mss)) n n)) (M := 6) (B := 1562500) (by omega) (by decide); omega) (B := 1562501))
        refine ⟨_, rfl, ?_⟩
        refine mvt rfl ?_
        refine vv (rext (v := .agg #[_, _, _, _]) rfl rfl) ?_
        refine vv (rext (v := .int _ _) rfl rfl) ?_
        refine vo ?_
        refine xal zc48 ?_
        intro W117 x118 b119 nn120
        have s121 := x118.sz
        have z122 := z115.trans x118
        have z123 := z116.trans x118
        replace b3 := b3.ext x118
        replace b15 := b15.ext x118
        replace b68 := b68.ext x118
        replace b85 := b85.ext x118
        refine vo ?_
        refine sta (cs' := [_, _, _, _]) b119 rfl rfl sz48 rfl rfl rfl ?_
        intro W124 y125 b119
        have z126 := z122.below (y125.below (by omega))
        have z127 := z123.below (y125.below (by omega))
        replace b3 := b3.wr y125 (by omega)
        replace b15 := b15.wr y125 (by omega)
        replace b68 := b68.wr y125 (by omega)
        replace b85 := b85.wr y125 (by omega)
        have s128 := y125.size
        refine asi rfl ?_
        refine vnil ?_
        refine V.seq (V.reg rfl ?_)
        refine mvs rfl ?_
        refine vo ?_
        refine xcall e45 (mTr_ok _ _ _ 6 _ TT TT _ (marss.ext z127) (by omega) (by omega) (by omega) (by omega) (TT.up _)) rfl rfl ?_
        rintro _ W129 ⟨_, nt, _, rfl, x130, htr⟩
        have s131 := x130.sz
        have z132 := z126.trans x130
        have z133 := z127.trans x130
        replace b3 := b3.ext x130
        replace b15 := b15.ext x130
        replace b68 := b68.ext x130
        replace b85 := b85.ext x130
        replace b119 := b119.ext x130
        have hta := htr.ma (L := 6) (gridm_sz fun i k => hszrss.matI (by omega) _ _)
        have htl := htr.len; rw [len_gridm] at htl
        have htz := hta.rowsz (by omega)
        have htq := colsN_sq (n := n) (gridm_rect (fun i k => matI rss k i) (colsN rss) n) (by rw [len_gridm]; omega)
        have htc := len_gridm (fun i k => matI rss k i) (colsN rss) n
        refine ⟨_, rfl, ?_⟩
        refine vo ?_
        refine xcall e55 (pDet _ hta (htq) (by omega) (by omega) (by omega) (pow_room (by omega) (by omega)) (TT.up _)) rfl rfl ?_
        rintro _ W134 ⟨_, rfl, x135, ht⟩
        have s136 := x135.sz
        have z137 := z132.trans x135
        have z138 := z133.trans x135
        replace b3 := b3.ext x135
        replace b15 := b15.ext x135
        replace b68 := b68.ext x135
        replace b85 := b85.ext x135
        replace b119 := b119.ext x135
        obtain ⟨_, _, _, _, _, _, _, _, rfl⟩ := ht.form
        have hta := ht.qa (det_sz htz (by omega) (by have := pow_le (L := 6) (k := colsN (gridm (fun i k => matI rss k i) (colsN rss) n)) (M := 6) (B := 93750) (by omega) (by decide); omega) (B := 93751))
        refine ⟨_, rfl, ?_⟩
        refine mvt rfl ?_
        refine vv (rext (v := .agg #[_, _, _, _]) rfl rfl) ?_
        refine vv (rext (v := .int _ _) rfl rfl) ?_
        refine vo ?_
        refine xal zc48 ?_
        intro W139 x140 b141 nn142
        have s143 := x140.sz
        have z144 := z137.trans x140
        have z145 := z138.trans x140
        replace b3 := b3.ext x140
        replace b15 := b15.ext x140
        replace b68 := b68.ext x140
        replace b85 := b85.ext x140
        replace b119 := b119.ext x140
        refine vo ?_
        refine sta (cs' := [_, _, _, _]) b141 rfl rfl sz48 rfl rfl rfl ?_
        intro W146 y147 b141
        have z148 := z144.below (y147.below (by omega))
        have z149 := z145.below (y147.below (by omega))
        replace b3 := b3.wr y147 (by omega)
        replace b15 := b15.wr y147 (by omega)
        replace b68 := b68.wr y147 (by omega)
        replace b85 := b85.wr y147 (by omega)
        replace b119 := b119.wr y147 (by omega)
        have s150 := y147.size
        refine asi rfl ?_
        refine vnil ?_
        refine V.seq ?_
        refine V.cut [(0, .slice _ _ _), (2, .int _ _), (3, .int _ _), (9, .pointer (some ⟨_, _, none⟩)), (11, .pointer (some ⟨_, _, none⟩)), (12, .int _ _), (13, .pointer (some ⟨_, _, none⟩)), (14, .int _ _), (15, .pointer (some ⟨_, _, none⟩)), (16, .int _ _), (17, .pointer (some ⟨_, _, none⟩)), (18, .int _ _)] ⟨rfl, rfl, rfl, rfl, rfl, rfl, rfl, rfl, rfl, rfl, rfl, rfl, trivial⟩ ?_
        intro E151
        have lb152 := b3.lt
        have lb153 := b15.lt
        have lb154 := b68.lt
        have lb155 := b85.lt
        have lb156 := b119.lt
        have lb157 := b141.lt
        have sz158 := z148.sz
        have sz159 := z149.sz
        refine V.seq (V.regD mixed rfl ?_)
        intro W160 x161
        have s162 := x161.sz
        have z163 := z148.trans x161
        have z164 := z149.trans x161
        replace b3 := b3.ext x161
        replace b15 := b15.ext x161
        replace b68 := b68.ext x161
        replace b85 := b85.ext x161
        replace b119 := b119.ext x161
        replace b141 := b141.ext x161
        have q165 := Ext.refl W160
        have r166 := b3
        have r167 := b15
        have r168 := b68
        have r169 := b85
        have r170 := b119
        have r171 := b141
        refine tk 0 rfl (by kernel_rfl) q165 (pv (fun _ y172 => rmv (v := .int _ _) rfl)) ?_
        refine tk 1 rfl (by kernel_rfl) q165 (pv (fun _ y173 => rcmp (cNe (t := false) rfl) rfl rfl rfl)) ?_
        refine tk 2 rfl (by kernel_rfl) q165 (pv (fun _ y174 => rmv (v := .bool false) rfl)) ?_
        refine tk 3 rfl (by kernel_rfl) q165 (pg rfl (fun _ y175 => rmv (v := .int _ _) rfl)) ?_
        refine tk 4 rfl (by kernel_rfl) q165 (pg rfl (fun _ y176 => rcmp (cNe (t := false) rfl) rfl rfl rfl)) ?_
        refine tk 5 rfl (by kernel_rfl) q165 (pv (fun _ y177 => rpk (v := .bool false) rfl rfl)) ?_
        refine tk 6 rfl (by kernel_rfl) q165 (pv (fun _ y178 => rmv (v := .bool false) rfl)) ?_
        refine tk 7 rfl (by kernel_rfl) q165 (pg rfl (fun _ y179 => rmv (v := .int _ _) rfl)) ?_
        refine tk 8 rfl (by kernel_rfl) q165 (pg rfl (fun _ y180 => rcmp (cNe (t := false) rfl) rfl rfl rfl)) ?_
        refine tk 9 rfl (by kernel_rfl) q165 (pv (fun _ y181 => rpk (v := .bool false) rfl rfl)) ?_
        refine tk 10 rfl (by kernel_rfl) q165 (pv (fun _ y182 => rmv (v := .bool false) rfl)) ?_
        refine tk 11 rfl (by kernel_rfl) q165 (pg rfl (fun _ y183 => rmv (v := .int _ _) rfl)) ?_
        refine tk 12 rfl (by kernel_rfl) q165 (pg rfl (fun _ y184 => rcmp (cNe (t := false) rfl) rfl rfl rfl)) ?_
        refine tk 13 rfl (by kernel_rfl) q165 (pv (fun _ y185 => rpk (v := .bool false) rfl rfl)) ?_
        refine tk 14 rfl (by kernel_rfl) q165 (pv (fun _ y186 => rmv (v := .bool false) rfl)) ?_
        refine tk 15 rfl (by kernel_rfl) q165 (pg rfl (fun _ y187 => rldb4 rfl ag48 (r170.ext y187) rfl rfl rfl rfl )) ?_
        refine tk 16 rfl (by kernel_rfl) q165 (pg rfl (fun _ y188 => rldb4 rfl ag48 (r168.ext y188) rfl rfl rfl rfl )) ?_
        refine tk 17 rfl (by kernel_rfl) q165 (pg rfl (fun _ y189 => rldb4 rfl ag48 (r169.ext y189) rfl rfl rfl rfl )) ?_
        refine efg 18 (by kernel_rfl) rfl rfl ?_
        refine xcall e71 (fMul_ok [_, _, _, _] [_, _, _, _] _ _ _ _ _ _ _ _ ((hda.sub (S' := SX _ [W112.heap.size, W134.heap.size, W61.heap.size, W78.heap.size]) (SX.old (by simp <;> omega))).ck (((((((((((((((x67.ck _).trans (y74.ck (by intro hh; first | (simp [SX] at hh <;> omega) | omega))).trans (x79.ck _)).trans (x84.ck _)).trans (y91.ck (by intro hh; first | (simp [SX] at hh <;> omega) | omega))).trans (x103.ck _)).trans (x108.ck _)).trans (x113.ck _)).trans (x118.ck _)).trans (y125.ck (by intro hh; first | (simp [SX] at hh <;> omega) | omega))).trans (x130.ck _)).trans (x135.ck _)).trans (x140.ck _)).trans (y147.ck (by intro hh; first | (simp [SX] at hh <;> omega) | omega))).trans (x161.ck _))) ((hea.sub (S' := SX _ [W112.heap.size, W134.heap.size, W78.heap.size]) (SX.old (by simp <;> omega))).ck ((((((((((((x84.ck _).trans (y91.ck (by intro hh; first | (simp [SX] at hh <;> omega) | omega))).trans (x103.ck _)).trans (x108.ck _)).trans (x113.ck _)).trans (x118.ck _)).trans (y125.ck (by intro hh; first | (simp [SX] at hh <;> omega) | omega))).trans (x130.ck _)).trans (x135.ck _)).trans (x140.ck _)).trans (y147.ck (by intro hh; first | (simp [SX] at hh <;> omega) | omega))).trans (x161.ck _))) (by omega) (by omega) (by omega) (TT.up _)) rfl rfl ?_
        rintro _ W191 ⟨_, rfl, x192, hq190⟩
        have s193 := x192.sz
        have z194 := z163.trans x192
        have z195 := z164.trans x192
        replace b3 := b3.ext x192
        replace b15 := b15.ext x192
        replace b68 := b68.ext x192
        replace b85 := b85.ext x192
        replace b119 := b119.ext x192
        replace b141 := b141.ext x192
        have q196 := q165.trans x192
        obtain ⟨_, _, _, _, _, _, _, _, rfl⟩ := hq190.form
        refine ⟨_, rfl, ?_⟩
        refine ⟨fun _ => q196, ?_⟩
        refine efg 19 (by kernel_rfl) rfl rfl ?_
        refine xcall e67 (fEq_true _ (q1 := [_, _, _, _]) (q2 := [_, _, _, _]) ((hfa.sub (S' := SX _ [W112.heap.size, W134.heap.size]) (SX.old (by simp <;> omega))).ck ((((((((x118.ck _).trans (y125.ck (by intro hh; first | (simp [SX] at hh <;> omega) | omega))).trans (x130.ck _)).trans (x135.ck _)).trans (x140.ck _)).trans (y147.ck (by intro hh; first | (simp [SX] at hh <;> omega) | omega))).trans (x161.ck _)).trans (x192.ck _))) ((hq190).qa (sz_mul (((hda.sub (S' := SX _ [W112.heap.size, W134.heap.size, W61.heap.size, W78.heap.size]) (SX.old (by simp <;> omega))).ck ((((((((((((((((x67.ck _).trans (y74.ck (by intro hh; first | (simp [SX] at hh <;> omega) | omega))).trans (x79.ck _)).trans (x84.ck _)).trans (y91.ck (by intro hh; first | (simp [SX] at hh <;> omega) | omega))).trans (x103.ck _)).trans (x108.ck _)).trans (x113.ck _)).trans (x118.ck _)).trans (y125.ck (by intro hh; first | (simp [SX] at hh <;> omega) | omega))).trans (x130.ck _)).trans (x135.ck _)).trans (x140.ck _)).trans (y147.ck (by intro hh; first | (simp [SX] at hh <;> omega) | omega))).trans (x161.ck _)).trans (x192.ck _))).sz' (by omega)) (((hea.sub (S' := SX _ [W112.heap.size, W134.heap.size, W78.heap.size]) (SX.old (by simp <;> omega))).ck (((((((((((((x84.ck _).trans (y91.ck (by intro hh; first | (simp [SX] at hh <;> omega) | omega))).trans (x103.ck _)).trans (x108.ck _)).trans (x113.ck _)).trans (x118.ck _)).trans (y125.ck (by intro hh; first | (simp [SX] at hh <;> omega) | omega))).trans (x130.ck _)).trans (x135.ck _)).trans (x140.ck _)).trans (y147.ck (by intro hh; first | (simp [SX] at hh <;> omega) | omega))).trans (x161.ck _)).trans (x192.ck _))).sz' (by omega)))) (by omega) (by omega) (by omega) (det_prod hsq hnn hmn hmc)) rfl rfl ?_
        rintro _ W197 ⟨rfl, x198⟩
        have s199 := x198.sz
        have z200 := z194.trans x198
        have z201 := z195.trans x198
        replace b3 := b3.ext x198
        replace b15 := b15.ext x198
        replace b68 := b68.ext x198
        replace b85 := b85.ext x198
        replace b119 := b119.ext x198
        replace b141 := b141.ext x198
        have q202 := q196.trans x198
        refine ⟨_, rfl, ?_⟩
        refine ⟨fun _ => q202, ?_⟩
        refine tk 20 rfl (by kernel_rfl) q202 (pg rfl (fun _ y203 => rnot (q := false) rfl rfl)) ?_
        refine tk 21 rfl (by kernel_rfl) q202 (pv (fun _ y204 => rpk (v := .bool false) rfl rfl)) ?_
        refine tk 22 rfl (by kernel_rfl) q202 (pv (fun _ y205 => rmv (v := .bool false) rfl)) ?_
        refine tk 23 rfl (by kernel_rfl) q202 (pg rfl (fun _ y206 => rldb4 rfl ag48 (r171.ext y206) rfl rfl rfl rfl )) ?_
        refine tk 24 rfl (by kernel_rfl) q202 (pg rfl (fun _ y207 => rldb4 rfl ag48 (r168.ext y207) rfl rfl rfl rfl )) ?_
        refine efg 25 (by kernel_rfl) rfl rfl ?_
        refine xcall e67 (fEq_true _ (q1 := [_, _, _, _]) (q2 := [_, _, _, _]) ((hta.sub (S' := SX _ [W134.heap.size]) (SX.old (by simp <;> omega))).ck (((((x140.ck _).trans (y147.ck (by intro hh; first | (simp [SX] at hh <;> omega) | omega))).trans (x161.ck _)).trans (x192.ck _)).trans (x198.ck _))) ((hda.sub (S' := SX _ [W112.heap.size, W134.heap.size, W61.heap.size, W78.heap.size]) (SX.old (by simp <;> omega))).ck (((((((((((((((((x67.ck _).trans (y74.ck (by intro hh; first | (simp [SX] at hh <;> omega) | omega))).trans (x79.ck _)).trans (x84.ck _)).trans (y91.ck (by intro hh; first | (simp [SX] at hh <;> omega) | omega))).trans (x103.ck _)).trans (x108.ck _)).trans (x113.ck _)).trans (x118.ck _)).trans (y125.ck (by intro hh; first | (simp [SX] at hh <;> omega) | omega))).trans (x130.ck _)).trans (x135.ck _)).trans (x140.ck _)).trans (y147.ck (by intro hh; first | (simp [SX] at hh <;> omega) | omega))).trans (x161.ck _)).trans (x192.ck _)).trans (x198.ck _))) (by omega) (by omega) (by omega) (det_turn hsq hnn)) rfl rfl ?_
        rintro _ W208 ⟨rfl, x209⟩
        have s210 := x209.sz
        have z211 := z200.trans x209
        have z212 := z201.trans x209
        replace b3 := b3.ext x209
        replace b15 := b15.ext x209
        replace b68 := b68.ext x209
        replace b85 := b85.ext x209
        replace b119 := b119.ext x209
        replace b141 := b141.ext x209
        have q213 := q202.trans x209
        refine ⟨_, rfl, ?_⟩
        refine ⟨fun _ => q213, ?_⟩
        refine tk 26 rfl (by kernel_rfl) q213 (pg rfl (fun _ y214 => rnot (q := false) rfl rfl)) ?_
        refine tk 27 rfl (by kernel_rfl) q213 (pv (fun _ y215 => rpk (v := .bool false) rfl rfl)) ?_
        refine dn (by kernel_rfl) ?_
        refine V.condF rfl ?_
        refine V.skip ?_
        refine V.cut [(0, .slice _ _ _), (2, .int _ _), (3, .int _ _), (9, .pointer (some ⟨_, _, none⟩)), (11, .pointer (some ⟨_, _, none⟩))] ⟨rfl, rfl, rfl, rfl, rfl, trivial⟩ ?_
        intro E216
        have lb217 := b3.lt
        have lb218 := b15.lt
        have lb219 := b68.lt
        have lb220 := b85.lt
        have lb221 := b119.lt
        have lb222 := b141.lt
        have sz223 := z211.sz
        have sz224 := z212.sz
        refine V.seq (V.regD mixed rfl ?_)
        intro W225 x226
        have s227 := x226.sz
        have z228 := z211.trans x226
        have z229 := z212.trans x226
        replace b3 := b3.ext x226
        replace b15 := b15.ext x226
        replace b68 := b68.ext x226
        replace b85 := b85.ext x226
        replace b119 := b119.ext x226
        replace b141 := b141.ext x226
        have q230 := Ext.refl W225
        have r231 := b3
        have r232 := b15
        have r233 := b68
        have r234 := b85
        have r235 := b119
        have r236 := b141
        refine tk 0 rfl (by kernel_rfl) q230 (pv (fun _ y237 => rmv (v := .int _ _) rfl)) ?_
        refine tk 1 rfl (by kernel_rfl) q230 (pv (fun _ y238 => rcv Tryz.underlying5 Tryz.underlying3 rfl (wi (by omega)))) ?_
        refine tk 2 rfl (by kernel_rfl) q230 (pv (fun _ y239 => rmv (v := .slice _ _ _) rfl)) ?_
        refine tk 3 rfl (by kernel_rfl) q230 (pv (fun _ y240 => rlen sl22 rfl)) ?_
        refine tk 4 rfl (by kernel_rfl) q230 (pv (fun _ y241 => rbin (bRem (by omega) ((Int.tmod_eq_emod_of_nonneg (by omega)).trans hxe)) rfl rfl)) ?_
        refine tk 5 rfl (by kernel_rfl) q230 (pv (fun _ y242 => rmv (v := .int _ _) rfl)) ?_
        refine tk 6 rfl (by kernel_rfl) q230 (pv (fun _ y243 => rcv Tryz.underlying5 Tryz.underlying3 rfl (wi (by omega)))) ?_
        refine tk 7 rfl (by kernel_rfl) q230 (pv (fun _ y244 => rmv (v := .slice _ _ _) rfl)) ?_
        refine tk 8 rfl (by kernel_rfl) q230 (pv (fun _ y245 => rlen sl22 rfl)) ?_
        refine tk 9 rfl (by kernel_rfl) q230 (pv (fun _ y246 => rbin (bRem (by omega) ((Int.tmod_eq_emod_of_nonneg (by omega)).trans hye)) rfl rfl)) ?_
        refine tk 10 rfl (by kernel_rfl) q230 (pv (fun _ y247 => ras (v := .int _ _) rfl)) ?_
        refine tk 11 rfl (by kernel_rfl) q230 (pv (fun _ y248 => ras (v := .int _ _) rfl)) ?_
        refine dn (by kernel_rfl) ?_
        refine V.seq ?_
        refine V.seq (V.reg rfl ?_)
        refine mvi rfl ?_
        refine mvi rfl ?_
        refine veq rfl rfl ?_ ?_
        ·intro cxy
         refine vnil ?_
         refine V.condT rfl ?_
         refine V.seq (V.reg rfl ?_)
         refine vo ?_
         refine xcall e50 (law5_ok _) rfl rfl ?_
         rintro _ W249 ⟨rfl, x250⟩
         have s251 := x250.sz
         have z252 := z228.trans x250
         refine ⟨_, rfl, ?_⟩
         refine asb rfl ?_
         refine vnil ?_
         refine V.ret ?_
         refine ⟨[.bool true], ⟨rfl, trivial⟩, ?_⟩
         exact ⟨rfl, z252⟩
        ·intro cxy
         refine vnil ?_
         refine V.condF rfl ?_
         refine V.skip ?_
         refine V.cut [(0, .slice _ _ _), (9, .pointer (some ⟨_, _, none⟩)), (11, .pointer (some ⟨_, _, none⟩)), (19, .int _ _), (20, .int _ _)] ⟨rfl, rfl, rfl, rfl, rfl, trivial⟩ ?_
         intro E254
         have lb255 := b3.lt
         have lb256 := b15.lt
         have lb257 := b68.lt
         have lb258 := b85.lt
         have lb259 := b119.lt
         have lb260 := b141.lt
         have sz261 := z228.sz
         have sz262 := z229.sz
         refine V.seq (V.reg rfl ?_)
         refine mvs rfl ?_
         refine mvs rfl ?_
         refine vv (rlen sl22 rfl) ?_
         refine mvs rfl ?_
         refine vv (rlen sl22 rfl) ?_
         refine vo ?_
         refine xcall e43 (mResize_own _ _ _ _ _ n n 6 rss (fun b => W225.heap.size ≤ b) TT _ (marss.ext z229) (by omega) (by omega) (by omega) (by omega) (fun i k => szMI (marss.ext z229) (by omega) i k) (fun b hb => hb)) rfl rfl ?_
         rintro _ W264 ⟨vsm, rfl, x265, hgsm⟩
         have s266 := x265.sz
         have z267 := z228.trans x265
         have z268 := z229.trans x265
         have z269 := x265
         replace b3 := b3.ext x265
         replace b15 := b15.ext x265
         replace b68 := b68.ext x265
         replace b85 := b85.ext x265
         replace b119 := b119.ext x265
         replace b141 := b141.ext x265
         obtain ⟨asm, csm, rfl⟩ := hgsm.form
         refine ⟨_, rfl, ?_⟩
         refine mvs rfl ?_
         refine mvs rfl ?_
         refine vv (rlen sl22 rfl) ?_
         refine mvs rfl ?_
         refine vv (rlen sl22 rfl) ?_
         refine vo ?_
         refine xcall e43 (mResize_own _ _ _ _ _ n n 6 rss (fun b => W264.heap.size ≤ b) TT _ (marss.ext z268) (by omega) (by omega) (by omega) (by omega) (fun i k => szMI (marss.ext z268) (by omega) i k) (fun b hb => hb)) rfl rfl ?_
         rintro _ W271 ⟨vrm, rfl, x272, hgrm⟩
         have s273 := x272.sz
         have z274 := z267.trans x272
         have z275 := z268.trans x272
         have z276 := z269.trans x272
         have z277 := x272
         replace b3 := b3.ext x272
         replace b15 := b15.ext x272
         replace b68 := b68.ext x272
         replace b85 := b85.ext x272
         replace b119 := b119.ext x272
         replace b141 := b141.ext x272
         obtain ⟨arm, crm, rfl⟩ := hgrm.form
         refine ⟨_, rfl, ?_⟩
         refine vv (ras (v := .slice asm _ csm) rfl) ?_
         refine vv (ras (v := .slice arm _ crm) rfl) ?_
         refine vnil ?_
         refine V.seq ?_
         refine V.seq (V.reg rfl ?_)
         refine vv (rmv (v := .slice asm _ csm) rfl) ?_
         refine vv (rlen sl22 rfl) ?_
         refine mvs rfl ?_
         refine vv (rlen sl22 rfl) ?_
         refine vne rfl rfl ?_ ?_
         ·intro c278
          omega
         ·intro c278
          refine mvb rfl ?_
          refine vg rfl ?_
          refine vv (rmv (v := .slice arm _ crm) rfl) ?_
          refine vg rfl ?_
          refine vv (rlen sl22 rfl) ?_
          refine vg rfl ?_
          refine mvs rfl ?_
          refine vg rfl ?_
          refine vv (rlen sl22 rfl) ?_
          refine vg rfl ?_
          refine vne rfl rfl ?_ ?_
          ·intro c279
           omega
          ·intro c279
           have hxy : x ≠ y := by omega
           have hgl := len_gridm (matI rss) n n
           have hs1 := (hgsm.res okRowC (S' := fun b => W225.heap.size ≤ b ∧ b < W264.heap.size) (fun b hb hs => ⟨hs, by omega⟩)).ext okRowC x272
           have hr1 := hgrm.ext okRowC (Ext.refl _)
           obtain ⟨ra0, rk0, rc0, hc0, hg0⟩ := hs1.row rfl (i := (y : Int)) (by omega) (by omega)
           have ce0 : C1 W271 _ _ := hc0; have hgl0 : (rowat (gridm (matI rss) n n) y).length = rk0 := hg0.len
           obtain ⟨ra1, rk1, rc1, hc1, hg1⟩ := hs1.row rfl (i := (x : Int)) (by omega) (by omega)
           have ce1 : C1 W271 _ _ := hc1; have hgl1 : (rowat (gridm (matI rss) n n) x).length = rk1 := hg1.len
           have hMs : MC TT W271 _ _ _ (gridm (matI rss) n n) := GO.rd okRowC hs1
           refine vv (rpk (v := .bool false) rfl rfl) ?_
           refine vnil ?_
           refine V.condF rfl ?_
           refine V.skip ?_
           refine V.cut [(9, .pointer (some ⟨_, _, none⟩)), (11, .pointer (some ⟨_, _, none⟩)), (19, .int _ _), (20, .int _ _), (21, .slice asm _ csm), (22, .slice arm _ crm)] ⟨rfl, rfl, rfl, rfl, rfl, rfl, trivial⟩ ?_
           intro E280
           have lb281 := b3.lt
           have lb282 := b15.lt
           have lb283 := b68.lt
           have lb284 := b85.lt
           have lb285 := b119.lt
           have lb286 := b141.lt
           have sz287 := z274.sz
           have sz288 := z275.sz
           have sz289 := z276.sz
           have sz290 := z277.sz
           refine V.seq (V.regB [13, 15] mixed rfl ?_)
           intro W291 x292
           have s293 := x292.sz
           have z294 := z274.trans x292
           have z295 := z275.trans x292
           have z296 := z276.trans x292
           replace b3 := b3.ext x292
           replace b15 := b15.ext x292
           replace b68 := b68.ext x292
           replace b85 := b85.ext x292
           replace b119 := b119.ext x292
           replace b141 := b141.ext x292
           have q298 := Ext.refl W291
           have r299 := b3
           have r300 := b15
           have r301 := b68
           have r302 := b85
           have r303 := b119
           have r304 := b141
           refine tkP 0 rfl (by kernel_rfl) (by kernel_rfl) (fun _ => q298) (pv (fun _ _ => rmv (v := .slice asm _ csm) rfl)) ?_
           refine tkP 1 rfl (by kernel_rfl) (by kernel_rfl) (fun _ => q298) (pv (fun _ _ => rmv (v := .int _ _) rfl)) ?_
           refine tkP 2 rfl (by kernel_rfl) (by kernel_rfl) (fun _ => q298) (pv (fun _ _ => rmv (v := .slice asm _ csm) rfl)) ?_
           refine tkP 3 rfl (by kernel_rfl) (by kernel_rfl) (fun _ => q298) (pv (fun _ _ => rmv (v := .int _ _) rfl)) ?_
           refine tkP 4 rfl (by kernel_rfl) (by kernel_rfl) (fun _ => q298) (pv (fun _ _ => rmv (v := .slice asm _ csm) rfl)) ?_
           refine tkP 5 rfl (by kernel_rfl) (by kernel_rfl) (fun _ => q298) (pv (fun _ _ => rmv (v := .int _ _) rfl)) ?_
           refine tkP 6 rfl (by kernel_rfl) (by kernel_rfl) (fun _ => q298) (pv (fun _ _ => rix sl22 sz23 rfl rfl (by omega) (by omega) ((hMs.ext x292).isS (i := 0) (by omega) (by omega)))) ?_
           refine tkB 7 rfl (by kernel_rfl) q298 (pv (fun _ y312 => rld1 (v := .slice _ _ _) rfl sc23 ((ce0.ext x292).ext y312))) ?_
           refine tkP 8 rfl (by kernel_rfl) (by kernel_rfl) (fun _ => q298) (pv (fun _ _ => rmv (v := .slice asm _ csm) rfl)) ?_
           refine tkP 9 rfl (by kernel_rfl) (by kernel_rfl) (fun _ => q298) (pv (fun _ _ => rmv (v := .int _ _) rfl)) ?_
           refine tkP 10 rfl (by kernel_rfl) (by kernel_rfl) (fun _ => q298) (pv (fun _ _ => rix sl22 sz23 rfl rfl (by omega) (by omega) ((hMs.ext x292).isS (i := 0) (by omega) (by omega)))) ?_
           refine tkB 11 rfl (by kernel_rfl) q298 (pv (fun _ y316 => rld1 (v := .slice _ _ _) rfl sc23 ((ce1.ext x292).ext y316))) ?_
           refine tkP 12 rfl (by kernel_rfl) (by kernel_rfl) (fun _ => q298) (pv (fun _ _ => rix sl22 sz23 rfl rfl (by omega) (by omega) ((hMs.ext x292).isS (i := 0) (by omega) (by omega)))) ?_
           refine efB 13 (by kernel_rfl) rfl ?_
           refine xstG (q := [.slice _ _ _]) okRowC (hs1.ext okRowC x292) rfl rfl rfl rfl sz23 rfl rfl (by omega) (by omega) ⟨_, _, _, rfl, (hg0.ext x292)⟩ ?_
           intro bq0 Wq0 hbq0 yq0 hGq0
           have hlq0 := hGq0.low _ hbq0; have hlr0 := hgsm.low _ hbq0; have sq0 := yq0.size
           have hg1b := ((hg1.ext x292)).ck (yq0.ck (fun hh => hh.2 hbq0))
           have hr2 := (hr1.ext okRowC x292).keep okRowC (yq0.ck (S := fun b => W264.heap.size ≤ b) (by omega)) (fun b h => h) (fun b h _ => h)
           have z318 := z294.below (yq0.below (by omega))
           have z319 := z295.below (yq0.below (by omega))
           have z320 := z296.below (yq0.below (by omega))
           replace b3 := b3.wr yq0 (by omega)
           replace b15 := b15.wr yq0 (by omega)
           replace b68 := b68.wr yq0 (by omega)
           replace b85 := b85.wr yq0 (by omega)
           replace b119 := b119.wr yq0 (by omega)
           replace b141 := b141.wr yq0 (by omega)
           refine notW (by kernel_rfl) ?_
           refine tkP 14 rfl (by kernel_rfl) (by kernel_rfl) (notWf (by kernel_rfl)) (pv (fun _ _ => rix sl22 sz23 rfl rfl (by omega) (by omega) ((hMs.ext x292).isS (i := 0) (by omega) (by omega)))) ?_
           refine efB 15 (by kernel_rfl) rfl ?_
           refine xstG (q := [.slice _ _ _]) okRowC hGq0 rfl rfl rfl rfl sz23 rfl rfl (by omega) (by omega) ⟨_, _, _, rfl, hg1b⟩ ?_
           intro bq1 Wq1 hbq1 yq1 hGq1
           have hlq1 := hGq1.low _ hbq1; have hlr1 := hgsm.low _ hbq1; have sq1 := yq1.size
           have hr3 := (hr2.ext okRowC (Ext.refl _)).keep okRowC (yq1.ck (S := fun b => W264.heap.size ≤ b) (by omega)) (fun b h => h) (fun b h _ => h)
           have z322 := z318.below (yq1.below (by omega))
           have z323 := z319.below (yq1.below (by omega))
           have z324 := z320.below (yq1.below (by omega))
           replace b3 := b3.wr yq1 (by omega)
           replace b15 := b15.wr yq1 (by omega)
           replace b68 := b68.wr yq1 (by omega)
           replace b85 := b85.wr yq1 (by omega)
           replace b119 := b119.wr yq1 (by omega)
           replace b141 := b141.wr yq1 (by omega)
           have hsM : MC (fun b => b < W264.heap.size) Wq1 _ _ _ (((gridm (matI rss) n n).set x (rowat (gridm (matI rss) n n) y)).set y (rowat (gridm (matI rss) n n) x)) := hGq1.finO okRowC (fun b _ h => h.2) (fun b e => (hgsm.low b e).2)
           obtain ⟨ra2, rk2, rc2, hc2, hg2⟩ := hr3.row rfl (i := (y : Int)) (by omega) (by omega)
           have ce2 : C1 Wq1 _ _ := hc2; have hgl2 : (rowat (gridm (matI rss) n n) y).length = rk2 := hg2.len
           obtain ⟨ra3, rk3, rc3, hc3, hg3⟩ := hr3.row rfl (i := (x : Int)) (by omega) (by omega)
           have ce3 : C1 Wq1 _ _ := hc3; have hgl3 : (rowat (gridm (matI rss) n n) x).length = rk3 := hg3.len
           have hMr : MC TT Wq1 _ _ _ (gridm (matI rss) n n) := GO.rd okRowC hr3
           have hzR : szR 6 (gridm (matI rss) n n) := gridm_sz fun i k => hszrss.matI (by omega) _ _
           have hrw2 := (gridm_rect (matI rss) n n).row_le y; have hrw3 := (gridm_rect (matI rss) n n).row_le x
           refine notW (by kernel_rfl) ?_
           refine dnB (by kernel_rfl) ?_
           refine V.seq (V.regD mixed rfl ?_)
           intro W325 x326
           have s327 := x326.sz
           have z328 := z322.trans x326
           have z329 := z323.trans x326
           have z330 := z324.trans x326
           replace b3 := b3.ext x326
           replace b15 := b15.ext x326
           replace b68 := b68.ext x326
           replace b85 := b85.ext x326
           replace b119 := b119.ext x326
           replace b141 := b141.ext x326
           have q331 := Ext.refl W325
           have r332 := b3
           have r333 := b15
           have r334 := b68
           have r335 := b85
           have r336 := b119
           have r337 := b141
           refine tk 0 rfl (by kernel_rfl) q331 (pv (fun _ y338 => rmv (v := .slice arm _ crm) rfl)) ?_
           refine tk 1 rfl (by kernel_rfl) q331 (pv (fun _ y339 => rmv (v := .int _ _) rfl)) ?_
           refine tk 2 rfl (by kernel_rfl) q331 (pv (fun _ y340 => rldb4 rfl ag48 (r332.ext y340) rfl rfl rfl rfl )) ?_
           refine tk 3 rfl (by kernel_rfl) q331 (pv (fun _ y341 => rmv (v := .slice arm _ crm) rfl)) ?_
           refine tk 4 rfl (by kernel_rfl) q331 (pv (fun _ y342 => rmv (v := .int _ _) rfl)) ?_
           refine tk 5 rfl (by kernel_rfl) q331 (pv (fun _ y343 => rix sl22 sz23 rfl rfl (by omega) (by omega) (((hMr.ext x326).ext y343).isS (i := 0) (by omega) (by omega)))) ?_
           refine tk 6 rfl (by kernel_rfl) q331 (pv (fun _ y344 => rld1 (v := .slice _ _ _) rfl sc23 ((ce2.ext x326).ext y344))) ?_
           refine tk 7 rfl (by kernel_rfl) q331 (pv (fun _ y345 => rmv (v := .slice arm _ crm) rfl)) ?_
           refine tk 8 rfl (by kernel_rfl) q331 (pv (fun _ y346 => rmv (v := .int _ _) rfl)) ?_
           refine tk 9 rfl (by kernel_rfl) q331 (pv (fun _ y347 => rix sl22 sz23 rfl rfl (by omega) (by omega) (((hMr.ext x326).ext y347).isS (i := 0) (by omega) (by omega)))) ?_
           refine tk 10 rfl (by kernel_rfl) q331 (pv (fun _ y348 => rld1 (v := .slice _ _ _) rfl sc23 ((ce3.ext x326).ext y348))) ?_
           refine ef 11 (by kernel_rfl) rfl ?_
           refine xcall e68 (vScl_ok [_, _, _, _] _ _ _ _ _ _ _ _ _ _ _ _ _ _ _ _ _ (((hg2.ext x326)).va (L := 6) (hzR.row _)) (((hg3.ext x326)).va (L := 6) (hzR.row _)) (hkq.ext z329) (by omega) (by omega) (by omega) (by omega) (by omega) (by omega) ((hr3.ext okRowC x326).up (w := W264) (fun b hb => hb) (by omega))) rfl rfl ?_
           rintro _ W349 ⟨_, _, _, rfl, x350, hv⟩
           have s351 := x350.sz
           have z352 := z328.trans x350
           have z353 := z329.trans x350
           have z354 := z330.trans x350
           replace b3 := b3.ext x350
           replace b15 := b15.ext x350
           replace b68 := b68.ext x350
           replace b85 := b85.ext x350
           replace b119 := b119.ext x350
           replace b141 := b141.ext x350
           have q355 := q331.trans x350
           have hv2 : GC _ _ _ _ _ (axR (qval ρ) (rowat (gridm (matI rss) n n) y) (rowat (gridm (matI rss) n n) x)) := hv.cast (by unfold axR; rw [show (rowat (gridm (matI rss) n n) y).length = rk2 from hgl2, show (rowat (gridm (matI rss) n n) x).length = rk3 from hgl3]; rfl)
           refine ⟨_, rfl, ?_⟩
           refine ⟨fun _ => q355, ?_⟩
           refine tk 12 rfl (by kernel_rfl) q355 (pv (fun _ y356 => rix sl22 sz23 rfl rfl (by omega) (by omega) (((hMr.ext x326).ext y356).isS (i := 0) (by omega) (by omega)))) ?_
           refine ef 13 (by kernel_rfl) rfl ?_
           refine xstG (q := [.slice _ _ _]) okRowC (hr3.ext okRowC (x326.trans x350)) rfl rfl rfl rfl sz23 rfl rfl (by omega) (by omega) ⟨_, _, _, rfl, hv2⟩ ?_
           intro bq2 Wq2 hbq2 yq2 hGq2
           have hlq2 := hGq2.low _ hbq2; have hlr2 := hgrm.low _ hbq2; have sq2 := yq2.size
           have hsM2 : MC (fun b => b < W264.heap.size) Wq2 _ _ _ (((gridm (matI rss) n n).set x (rowat (gridm (matI rss) n n) y)).set y (rowat (gridm (matI rss) n n) x)) := MG.ck okRowC (MG.ck okRowC hsM (((x326.trans x350)).ck _)) (yq2.ck (S := fun b => b < W264.heap.size) (by omega))
           have z357 := z352.below (yq2.below (by omega))
           have z358 := z353.below (yq2.below (by omega))
           have z359 := z354.below (yq2.below (by omega))
           replace b3 := b3.wr yq2 (by omega)
           replace b15 := b15.wr yq2 (by omega)
           replace b68 := b68.wr yq2 (by omega)
           replace b85 := b85.wr yq2 (by omega)
           replace b119 := b119.wr yq2 (by omega)
           replace b141 := b141.wr yq2 (by omega)
           have hrM : MC TT Wq2 _ _ _ ((gridm (matI rss) n n).set x (axR (qval ρ) (rowat (gridm (matI rss) n n) y) (rowat (gridm (matI rss) n n) x))) := GO.rd okRowC hGq2
           obtain ⟨hu1, hu2, hu3⟩ := det_swapped hsq hnn hxn hyn hxy (R := (((gridm (matI rss) n n).set x (rowat (gridm (matI rss) n n) y)).set y (rowat (gridm (matI rss) n n) x))) rfl
           obtain ⟨hw1, hw2, hw3⟩ := det_added hsq hnn hxn hyn hxy (qval ρ) (R := ((gridm (matI rss) n n).set x (axR (qval ρ) (rowat (gridm (matI rss) n n) y) (rowat (gridm (matI rss) n n) x)))) rfl
           have hzS : szR 6 (((gridm (matI rss) n n).set x (rowat (gridm (matI rss) n n) y)).set y (rowat (gridm (matI rss) n n) x)) := (hzR.set (hzR.row _)).set (hzR.row _)
           have hzT : szR 19 ((gridm (matI rss) n n).set x (axR (qval ρ) (rowat (gridm (matI rss) n n) y) (rowat (gridm (matI rss) n n) x))) := (show szR 19 (gridm (matI rss) n n) from hzR.mono (by omega)).set (axR_sz (a := 6) (b := 6) (c := 6) (((hkq.ext z358)).sz' (by omega)) (hzR.row _) (hzR.row _) (by omega) (by omega) (by omega))
           have hsMa := hsM2.ma hzS; have hrMa := hrM.ma hzT
           have hus := colsN_sq hu2 hu1; have hws := colsN_sq hw2 hw1
           have z360 := Ext.refl Wq2
           refine lastT (by kernel_rfl) ?_
           refine dn (by kernel_rfl) ?_
           refine V.cut [(11, .pointer (some ⟨_, _, none⟩)), (21, .slice asm _ csm), (22, .slice arm _ crm)] ⟨rfl, rfl, rfl, trivial⟩ ?_
           intro E361
           have lb362 := b3.lt
           have lb363 := b15.lt
           have lb364 := b68.lt
           have lb365 := b85.lt
           have lb366 := b119.lt
           have lb367 := b141.lt
           have sz368 := z357.sz
           have sz369 := z358.sz
           have sz370 := z359.sz
           have sz371 := z360.sz
           refine V.seq (V.reg rfl ?_)
           refine vv (rmv (v := .slice asm _ csm) rfl) ?_
           refine vo ?_
           refine xcall e55 (pDet _ hsMa (hus) (by omega) (by omega) (by omega) (pow_room (by omega) (by omega)) (TT.up _)) rfl rfl ?_
           rintro _ W372 ⟨_, rfl, x373, hu⟩
           have s374 := x373.sz
           have z375 := z357.trans x373
           have z376 := z358.trans x373
           have z377 := z359.trans x373
           have z378 := x373
           replace b3 := b3.ext x373
           replace b15 := b15.ext x373
           replace b68 := b68.ext x373
           replace b85 := b85.ext x373
           replace b119 := b119.ext x373
           replace b141 := b141.ext x373
           obtain ⟨_, _, _, _, _, _, _, _, rfl⟩ := hu.form
           have hua := hu.qa (det_sz hzS (by omega) (by have := pow_le (L := 6) (k := colsN (((gridm (matI rss) n n).set x (rowat (gridm (matI rss) n n) y)).set y (rowat (gridm (matI rss) n n) x))) (M := 6) (B := 93750) (by omega) (by decide); omega) (B := 93751))
           refine ⟨_, rfl, ?_⟩
           refine mvt rfl ?_
           refine vv (rext (v := .agg #[_, _, _, _]) rfl rfl) ?_
           refine vv (rext (v := .int _ _) rfl rfl) ?_
           refine vo ?_
           refine xal zc48 ?_
           intro W379 x380 b381 nn382
           have s383 := x380.sz
           have z384 := z375.trans x380
           have z385 := z376.trans x380
           have z386 := z377.trans x380
           have z387 := z378.trans x380
           replace b3 := b3.ext x380
           replace b15 := b15.ext x380
           replace b68 := b68.ext x380
           replace b85 := b85.ext x380
           replace b119 := b119.ext x380
           replace b141 := b141.ext x380
           refine vo ?_
           refine sta (cs' := [_, _, _, _]) b381 rfl rfl sz48 rfl rfl rfl ?_
           intro W388 y389 b381
           have z390 := z384.below (y389.below (by omega))
           have z391 := z385.below (y389.below (by omega))
           have z392 := z386.below (y389.below (by omega))
           have z393 := z387.below (y389.below (by omega))
           replace b3 := b3.wr y389 (by omega)
           replace b15 := b15.wr y389 (by omega)
           replace b68 := b68.wr y389 (by omega)
           replace b85 := b85.wr y389 (by omega)
           replace b119 := b119.wr y389 (by omega)
           replace b141 := b141.wr y389 (by omega)
           have s394 := y389.size
           refine asi rfl ?_
           refine vnil ?_
           refine V.seq (V.reg rfl ?_)
           refine vv (rmv (v := .slice arm _ crm) rfl) ?_
           refine vo ?_
           refine xcall e55 (pDet _ (hrMa.ext z393) (hws) (by omega) (by omega) (by omega) (pow_room (by omega) (by omega)) (TT.up _)) rfl rfl ?_
           rintro _ W395 ⟨_, rfl, x396, hw⟩
           have s397 := x396.sz
           have z398 := z390.trans x396
           have z399 := z391.trans x396
           have z400 := z392.trans x396
           have z401 := z393.trans x396
           replace b3 := b3.ext x396
           replace b15 := b15.ext x396
           replace b68 := b68.ext x396
           replace b85 := b85.ext x396
           replace b119 := b119.ext x396
           replace b141 := b141.ext x396
           replace b381 := b381.ext x396
           obtain ⟨_, _, _, _, _, _, _, _, rfl⟩ := hw.form
           have hwa := hw.qa (det_sz hzT (by omega) (by have := pow_le (L := 19) (k := colsN ((gridm (matI rss) n n).set x (axR (qval ρ) (rowat (gridm (matI rss) n n) y) (rowat (gridm (matI rss) n n) x)))) (M := 6) (B := 296875) (by omega) (by decide); omega) (B := 296876))
           refine ⟨_, rfl, ?_⟩
           refine mvt rfl ?_
           refine vv (rext (v := .agg #[_, _, _, _]) rfl rfl) ?_
           refine vv (rext (v := .int _ _) rfl rfl) ?_
           refine vo ?_
           refine xal zc48 ?_
           intro W402 x403 b404 nn405
           have s406 := x403.sz
           have z407 := z398.trans x403
           have z408 := z399.trans x403
           have z409 := z400.trans x403
           have z410 := z401.trans x403
           replace b3 := b3.ext x403
           replace b15 := b15.ext x403
           replace b68 := b68.ext x403
           replace b85 := b85.ext x403
           replace b119 := b119.ext x403
           replace b141 := b141.ext x403
           replace b381 := b381.ext x403
           refine vo ?_
           refine sta (cs' := [_, _, _, _]) b404 rfl rfl sz48 rfl rfl rfl ?_
           intro W411 y412 b404
           have z413 := z407.below (y412.below (by omega))
           have z414 := z408.below (y412.below (by omega))
           have z415 := z409.below (y412.below (by omega))
           have z416 := z410.below (y412.below (by omega))
           replace b3 := b3.wr y412 (by omega)
           replace b15 := b15.wr y412 (by omega)
           replace b68 := b68.wr y412 (by omega)
           replace b85 := b85.wr y412 (by omega)
           replace b119 := b119.wr y412 (by omega)
           replace b141 := b141.wr y412 (by omega)
           replace b381 := b381.wr y412 (by omega)
           have s417 := y412.size
           refine asi rfl ?_
           refine vnil ?_
           refine V.cut [(11, .pointer (some ⟨_, _, none⟩)), (23, .pointer (some ⟨_, _, none⟩)), (24, .int _ _), (25, .pointer (some ⟨_, _, none⟩)), (26, .int _ _)] ⟨rfl, rfl, rfl, rfl, rfl, trivial⟩ ?_
           intro E418
           have lb419 := b3.lt
           have lb420 := b15.lt
           have lb421 := b68.lt
           have lb422 := b85.lt
           have lb423 := b119.lt
           have lb424 := b141.lt
           have lb425 := b381.lt
           have lb426 := b404.lt
           have sz427 := z413.sz
           have sz428 := z414.sz
           have sz429 := z415.sz
           have sz430 := z416.sz
           refine V.seq (V.regD mixed rfl ?_)
           intro W431 x432
           have s433 := x432.sz
           have z434 := z413.trans x432
           replace b3 := b3.ext x432
           replace b15 := b15.ext x432
           replace b68 := b68.ext x432
           replace b85 := b85.ext x432
           replace b119 := b119.ext x432
           replace b141 := b141.ext x432
           replace b381 := b381.ext x432
           replace b404 := b404.ext x432
           have q438 := Ext.refl W431
           have r439 := b3
           have r440 := b15
           have r441 := b68
           have r442 := b85
           have r443 := b119
           have r444 := b141
           have r445 := b381
           have r446 := b404
           refine tk 0 rfl (by kernel_rfl) q438 (pv (fun _ y447 => rmv (v := .int _ _) rfl)) ?_
           refine tk 1 rfl (by kernel_rfl) q438 (pv (fun _ y448 => rcmp (cEq (t := true) rfl) rfl rfl rfl)) ?_
           refine tk 2 rfl (by kernel_rfl) q438 (pv (fun _ y449 => rmv (v := .bool true) rfl)) ?_
           refine tk 3 rfl (by kernel_rfl) q438 (pg rfl (fun _ y450 => rmv (v := .int _ _) rfl)) ?_
           refine tk 4 rfl (by kernel_rfl) q438 (pg rfl (fun _ y451 => rcmp (cEq (t := true) rfl) rfl rfl rfl)) ?_
           refine tk 5 rfl (by kernel_rfl) q438 (pv (fun _ y452 => rpk (v := .bool true) rfl rfl)) ?_
           refine tk 6 rfl (by kernel_rfl) q438 (pv (fun _ y453 => rmv (v := .bool true) rfl)) ?_
           refine tk 7 rfl (by kernel_rfl) q438 (pg rfl (fun _ y454 => rldb4 rfl ag48 (r445.ext y454) rfl rfl rfl rfl )) ?_
           refine tk 8 rfl (by kernel_rfl) q438 (pg rfl (fun _ y455 => rldb4 rfl ag48 (r441.ext y455) rfl rfl rfl rfl )) ?_
           refine efg 9 (by kernel_rfl) rfl rfl ?_
           refine xcall e72 (fNeg_ok [_, _, _, _] _ _ _ _ _ ((hda.sub (S' := SX _ [W112.heap.size, W134.heap.size, W372.heap.size, W395.heap.size, W61.heap.size, W78.heap.size, bq0, bq1, bq2]) (SX.old (by simp <;> omega))).ck ((((((((((((((((((((((((((((((((((x67.ck _).trans (y74.ck (by intro hh; first | (simp [SX] at hh <;> omega) | omega))).trans (x79.ck _)).trans (x84.ck _)).trans (y91.ck (by intro hh; first | (simp [SX] at hh <;> omega) | omega))).trans (x103.ck _)).trans (x108.ck _)).trans (x113.ck _)).trans (x118.ck _)).trans (y125.ck (by intro hh; first | (simp [SX] at hh <;> omega) | omega))).trans (x130.ck _)).trans (x135.ck _)).trans (x140.ck _)).trans (y147.ck (by intro hh; first | (simp [SX] at hh <;> omega) | omega))).trans (x161.ck _)).trans (x192.ck _)).trans (x198.ck _)).trans (x209.ck _)).trans (x226.ck _)).trans (x265.ck _)).trans (x272.ck _)).trans (x292.ck _)).trans (yq0.ck (by intro hh; first | (simp [SX] at hh <;> omega) | omega))).trans (yq1.ck (by intro hh; first | (simp [SX] at hh <;> omega) | omega))).trans (x326.ck _)).trans (x350.ck _)).trans (yq2.ck (by intro hh; first | (simp [SX] at hh <;> omega) | omega))).trans (x373.ck _)).trans (x380.ck _)).trans (y389.ck (by intro hh; first | (simp [SX] at hh <;> omega) | omega))).trans (x396.ck _)).trans (x403.ck _)).trans (y412.ck (by intro hh; first | (simp [SX] at hh <;> omega) | omega))).trans (x432.ck _))) (by omega) (by omega) (TT.up _)) rfl rfl ?_
           rintro _ W457 ⟨_, rfl, x458, hq456⟩
           have s459 := x458.sz
           have z460 := z434.trans x458
           have q464 := q438.trans x458
           obtain ⟨_, _, _, _, _, _, _, _, rfl⟩ := hq456.form
           refine ⟨_, rfl, ?_⟩
           refine ⟨fun _ => q464, ?_⟩
           refine efg 10 (by kernel_rfl) rfl rfl ?_
           refine xcall e67 (fEq_true _ (q1 := [_, _, _, _]) (q2 := [_, _, _, _]) ((hua.sub (S' := SX _ [W372.heap.size, W395.heap.size]) (SX.old (by simp <;> omega))).ck (((((((x380.ck _).trans (y389.ck (by intro hh; first | (simp [SX] at hh <;> omega) | omega))).trans (x396.ck _)).trans (x403.ck _)).trans (y412.ck (by intro hh; first | (simp [SX] at hh <;> omega) | omega))).trans (x432.ck _)).trans (x458.ck _))) ((hq456).qa (sz_neg (((hda.sub (S' := SX _ [W112.heap.size, W134.heap.size, W372.heap.size, W395.heap.size, W61.heap.size, W78.heap.size, bq0, bq1, bq2]) (SX.old (by simp <;> omega))).ck (((((((((((((((((((((((((((((((((((x67.ck _).trans (y74.ck (by intro hh; first | (simp [SX] at hh <;> omega) | omega))).trans (x79.ck _)).trans (x84.ck _)).trans (y91.ck (by intro hh; first | (simp [SX] at hh <;> omega) | omega))).trans (x103.ck _)).trans (x108.ck _)).trans (x113.ck _)).trans (x118.ck _)).trans (y125.ck (by intro hh; first | (simp [SX] at hh <;> omega) | omega))).trans (x130.ck _)).trans (x135.ck _)).trans (x140.ck _)).trans (y147.ck (by intro hh; first | (simp [SX] at hh <;> omega) | omega))).trans (x161.ck _)).trans (x192.ck _)).trans (x198.ck _)).trans (x209.ck _)).trans (x226.ck _)).trans (x265.ck _)).trans (x272.ck _)).trans (x292.ck _)).trans (yq0.ck (by intro hh; first | (simp [SX] at hh <;> omega) | omega))).trans (yq1.ck (by intro hh; first | (simp [SX] at hh <;> omega) | omega))).trans (x326.ck _)).trans (x350.ck _)).trans (yq2.ck (by intro hh; first | (simp [SX] at hh <;> omega) | omega))).trans (x373.ck _)).trans (x380.ck _)).trans (y389.ck (by intro hh; first | (simp [SX] at hh <;> omega) | omega))).trans (x396.ck _)).trans (x403.ck _)).trans (y412.ck (by intro hh; first | (simp [SX] at hh <;> omega) | omega))).trans (x432.ck _)).trans (x458.ck _))).sz' (by omega)))) (by omega) (by omega) (by omega) (hu3)) rfl rfl ?_
           rintro _ W465 ⟨rfl, x466⟩
           have s467 := x466.sz
           have z468 := z460.trans x466
           have q472 := q464.trans x466
           refine ⟨_, rfl, ?_⟩
           refine ⟨fun _ => q472, ?_⟩
           refine tk 11 rfl (by kernel_rfl) q472 (pv (fun _ y473 => rpk (v := .bool true) rfl rfl)) ?_
           refine tk 12 rfl (by kernel_rfl) q472 (pv (fun _ y474 => rmv (v := .bool true) rfl)) ?_
           refine tk 13 rfl (by kernel_rfl) q472 (pg rfl (fun _ y475 => rldb4 rfl ag48 (r446.ext y475) rfl rfl rfl rfl )) ?_
           refine tk 14 rfl (by kernel_rfl) q472 (pg rfl (fun _ y476 => rldb4 rfl ag48 (r441.ext y476) rfl rfl rfl rfl )) ?_
           refine efg 15 (by kernel_rfl) rfl rfl ?_
           refine xcall e67 (fEq_true _ (q1 := [_, _, _, _]) (q2 := [_, _, _, _]) ((hwa.sub (S' := SX _ [W395.heap.size]) (SX.old (by simp <;> omega))).ck (((((x403.ck _).trans (y412.ck (by intro hh; first | (simp [SX] at hh <;> omega) | omega))).trans (x432.ck _)).trans (x458.ck _)).trans (x466.ck _))) ((hda.sub (S' := SX _ [W112.heap.size, W134.heap.size, W372.heap.size, W395.heap.size, W61.heap.size, W78.heap.size, bq0, bq1, bq2]) (SX.old (by simp <;> omega))).ck ((((((((((((((((((((((((((((((((((((x67.ck _).trans (y74.ck (by intro hh; first | (simp [SX] at hh <;> omega) | omega))).trans (x79.ck _)).trans (x84.ck _)).trans (y91.ck (by intro hh; first | (simp [SX] at hh <;> omega) | omega))).trans (x103.ck _)).trans (x108.ck _)).trans (x113.ck _)).trans (x118.ck _)).trans (y125.ck (by intro hh; first | (simp [SX] at hh <;> omega) | omega))).trans (x130.ck _)).trans (x135.ck _)).trans (x140.ck _)).trans (y147.ck (by intro hh; first | (simp [SX] at hh <;> omega) | omega))).trans (x161.ck _)).trans (x192.ck _)).trans (x198.ck _)).trans (x209.ck _)).trans (x226.ck _)).trans (x265.ck _)).trans (x272.ck _)).trans (x292.ck _)).trans (yq0.ck (by intro hh; first | (simp [SX] at hh <;> omega) | omega))).trans (yq1.ck (by intro hh; first | (simp [SX] at hh <;> omega) | omega))).trans (x326.ck _)).trans (x350.ck _)).trans (yq2.ck (by intro hh; first | (simp [SX] at hh <;> omega) | omega))).trans (x373.ck _)).trans (x380.ck _)).trans (y389.ck (by intro hh; first | (simp [SX] at hh <;> omega) | omega))).trans (x396.ck _)).trans (x403.ck _)).trans (y412.ck (by intro hh; first | (simp [SX] at hh <;> omega) | omega))).trans (x432.ck _)).trans (x458.ck _)).trans (x466.ck _))) (by omega) (by omega) (by omega) (hw3)) rfl rfl ?_
           rintro _ W477 ⟨rfl, x478⟩
           have s479 := x478.sz
           have z480 := z468.trans x478
           have q484 := q472.trans x478
           refine ⟨_, rfl, ?_⟩
           refine ⟨fun _ => q484, ?_⟩
           refine tk 16 rfl (by kernel_rfl) q484 (pv (fun _ y485 => rpk (v := .bool true) rfl rfl)) ?_
           refine tk 17 rfl (by kernel_rfl) q484 (pv (fun _ y486 => rmv (v := .bool true) rfl)) ?_
           refine efg 18 (by kernel_rfl) rfl rfl ?_
           refine xcall e50 (law5_ok _) rfl rfl ?_
           rintro _ W487 ⟨rfl, x488⟩
           have s489 := x488.sz
           have z490 := z480.trans x488
           have q494 := q484.trans x488
           refine ⟨_, rfl, ?_⟩
           refine ⟨fun _ => q494, ?_⟩
           refine tk 19 rfl (by kernel_rfl) q494 (pv (fun _ y495 => rpk (v := .bool true) rfl rfl)) ?_
           refine tk 20 rfl (by kernel_rfl) q494 (pv (fun _ y496 => ras (v := .bool true) rfl)) ?_
           refine dn (by kernel_rfl) ?_
           refine V.ret ?_
           refine ⟨[.bool true], ⟨rfl, trivial⟩, ?_⟩
           exact ⟨rfl, z490⟩
   ·skip
    have s497 := xb3.sz
    have z498 := z18.trans xb3
    refine vv (rpk (v := .bool true) rfl rfl) ?_
    refine mvb rfl ?_
    refine vgn (b := true) rfl rfl ?_
    refine vgn (b := true) rfl rfl ?_
    refine vgn (b := true) rfl rfl ?_
    refine vgn (b := true) rfl rfl ?_
    refine vgn (b := true) rfl rfl ?_
    refine vv (rpk (v := .bool true) rfl rfl) ?_
    refine mvb rfl ?_
    refine vgn (b := true) rfl rfl ?_
    refine vgn (b := true) rfl rfl ?_
    refine vgn (b := true) rfl rfl ?_
    refine vgn (b := true) rfl rfl ?_
    refine vgn (b := true) rfl rfl ?_
    refine vv (rpk (v := .bool true) rfl rfl) ?_
    refine mvb rfl ?_
    refine vgn (b := true) rfl rfl ?_
    refine vgn (b := true) rfl rfl ?_
    refine vgn (b := true) rfl rfl ?_
    refine vgn (b := true) rfl rfl ?_
    refine vgn (b := true) rfl rfl ?_
    refine vv (rpk (v := .bool true) rfl rfl) ?_
    refine mvb rfl ?_
    refine vgn (b := true) rfl rfl ?_
    refine vgn (b := true) rfl rfl ?_
    refine vgn (b := true) rfl rfl ?_
    refine vv (rpk (v := .bool true) rfl rfl) ?_
    refine vnil ?_
    refine V.condT rfl ?_
    refine V.seq (V.reg rfl ?_)
    refine vo ?_
    refine xcall e50 (law5_ok _) rfl rfl ?_
    rintro _ W499 ⟨rfl, x500⟩
    have s501 := x500.sz
    have z502 := z498.trans x500
    refine ⟨_, rfl, ?_⟩
    refine asb rfl ?_
    refine vnil ?_
    refine V.ret ?_
    refine ⟨[.bool true], ⟨rfl, trivial⟩, ?_⟩
    exact ⟨rfl, z502⟩
  ·skip
   have s503 := xb2.sz
   have z504 := z9.trans xb2
   refine vv (rpk (v := .bool true) rfl rfl) ?_
   refine mvb rfl ?_
   refine vgn (b := true) rfl rfl ?_
   refine vgn (b := true) rfl rfl ?_
   refine vgn (b := true) rfl rfl ?_
   refine vv (rpk (v := .bool true) rfl rfl) ?_
   refine mvb rfl ?_
   refine vgn (b := true) rfl rfl ?_
   refine vgn (b := true) rfl rfl ?_
   refine vgn (b := true) rfl rfl ?_
   refine vgn (b := true) rfl rfl ?_
   refine vgn (b := true) rfl rfl ?_
   refine vv (rpk (v := .bool true) rfl rfl) ?_
   refine mvb rfl ?_
   refine vgn (b := true) rfl rfl ?_
   refine vgn (b := true) rfl rfl ?_
   refine vgn (b := true) rfl rfl ?_
   refine vgn (b := true) rfl rfl ?_
   refine vgn (b := true) rfl rfl ?_
   refine vv (rpk (v := .bool true) rfl rfl) ?_
   refine mvb rfl ?_
   refine vgn (b := true) rfl rfl ?_
   refine vgn (b := true) rfl rfl ?_
   refine vgn (b := true) rfl rfl ?_
   refine vgn (b := true) rfl rfl ?_
   refine vgn (b := true) rfl rfl ?_
   refine vv (rpk (v := .bool true) rfl rfl) ?_
   refine mvb rfl ?_
   refine vgn (b := true) rfl rfl ?_
   refine vgn (b := true) rfl rfl ?_
   refine vgn (b := true) rfl rfl ?_
   refine vv (rpk (v := .bool true) rfl rfl) ?_
   refine vnil ?_
   refine V.condT rfl ?_
   refine V.seq (V.reg rfl ?_)
   refine vo ?_
   refine xcall e50 (law5_ok _) rfl rfl ?_
   rintro _ W505 ⟨rfl, x506⟩
   have s507 := x506.sz
   have z508 := z504.trans x506
   refine ⟨_, rfl, ?_⟩
   refine asb rfl ?_
   refine vnil ?_
   refine V.ret ?_
   refine ⟨[.bool true], ⟨rfl, trivial⟩, ?_⟩
   exact ⟨rfl, z508⟩
 ·skip
  have s509 := xb1.sz
  have z510 := z6.trans xb1
  refine mvb rfl ?_
  refine vgn (b := true) rfl rfl ?_
  refine vgn (b := true) rfl rfl ?_
  refine vv (rpk (v := .bool true) rfl rfl) ?_
  refine mvb rfl ?_
  refine vgn (b := true) rfl rfl ?_
  refine vgn (b := true) rfl rfl ?_
  refine vgn (b := true) rfl rfl ?_
  refine vv (rpk (v := .bool true) rfl rfl) ?_
  refine mvb rfl ?_
  refine vgn (b := true) rfl rfl ?_
  refine vgn (b := true) rfl rfl ?_
  refine vgn (b := true) rfl rfl ?_
  refine vgn (b := true) rfl rfl ?_
  refine vgn (b := true) rfl rfl ?_
  refine vv (rpk (v := .bool true) rfl rfl) ?_
  refine mvb rfl ?_
  refine vgn (b := true) rfl rfl ?_
  refine vgn (b := true) rfl rfl ?_
  refine vgn (b := true) rfl rfl ?_
  refine vgn (b := true) rfl rfl ?_
  refine vgn (b := true) rfl rfl ?_
  refine vv (rpk (v := .bool true) rfl rfl) ?_
  refine mvb rfl ?_
  refine vgn (b := true) rfl rfl ?_
  refine vgn (b := true) rfl rfl ?_
  refine vgn (b := true) rfl rfl ?_
  refine vgn (b := true) rfl rfl ?_
  refine vgn (b := true) rfl rfl ?_
  refine vv (rpk (v := .bool true) rfl rfl) ?_
  refine mvb rfl ?_
  refine vgn (b := true) rfl rfl ?_
  refine vgn (b := true) rfl rfl ?_
  refine vgn (b := true) rfl rfl ?_
  refine vv (rpk (v := .bool true) rfl rfl) ?_
  refine vnil ?_
  refine V.condT rfl ?_
  refine V.seq (V.reg rfl ?_)
  refine vo ?_
  refine xcall e50 (law5_ok _) rfl rfl ?_
  rintro _ W511 ⟨rfl, x512⟩
  have s513 := x512.sz
  have z514 := z510.trans x512
  refine ⟨_, rfl, ?_⟩
  refine asb rfl ?_
  refine vnil ?_
  refine V.ret ?_
  refine ⟨[.bool true], ⟨rfl, trivial⟩, ?_⟩
  exact ⟨rfl, z514⟩
end Go.Proofs.YtknbjfefeeojlaaGreat

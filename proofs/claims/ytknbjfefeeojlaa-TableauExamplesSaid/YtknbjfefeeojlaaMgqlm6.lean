/- Package tableau: Pivot. -/
import Derived.Test.YtknbjfefeeojlaaMgqlm5
namespace Go.Proofs.Ytknbjfefeeojlaa
open Go.RowKit
attribute [local irreducible] RV VH V OpF Calls
theorem pivR_no {rows : List (List Rat)} {piv : List Int} {M : Nat} {r c : Int} (h : ¬ pivOK rows piv M r c) : pivR rows piv M r c = rows := if_neg h
theorem pivP_no {rows : List (List Rat)} {piv : List Int} {M : Nat} {r c : Int} (h : ¬ pivOK rows piv M r c) : pivP rows piv M r c = piv := if_neg h
theorem pivR_yes {rows : List (List Rat)} {piv : List Int} {M : Nat} {r c : Int} (h : pivOK rows piv M r c) : pivR rows piv M r c = pivS rows r.toNat c.toNat rows.length := by rw [pivS_done]; exact if_pos h
theorem pivP_yes {rows : List (List Rat)} {piv : List Int} {M : Nat} {r c : Int} (h : pivOK rows piv M r c) : pivP rows piv M r c = piv.set r.toNat c := if_pos h

set_option maxHeartbeats 400000 in
theorem fDivZ_ok (q1 q2 : List Value) (r1 r2 : Rat) (L1 L2 : Nat) (S1 S2 : Nat → Prop) (w : World) (h1 : QA L1 S1 w q1 r1) (h2 : QA L2 S2 w q2 r2) (hL : L1 + L2 < LY) (hl1 : 1 ≤ L1) (hl2 : 1 ≤ L2) (hz : r2 = 0) :
    Calls Try.prog 73 #[.agg q1.toArray, .agg q2.toArray] w (fun e w' => ∃ m1 d1 k1 e1 m2 d2 k2 e2, e = .returned (.tuple #[.agg #[.bool m1, .slice d1 k1 e1, .bool m2, .slice d2 k2 e2], .int .i64 7]) ∧ Ext w w') := by
 have z0 := Ext.refl w; have hLX : LX = 17592186044416 := rfl; have hLY : LY = 8796093022208 := rfl
 obtain ⟨n1, a1, l1, c1, n2, a2, l2, c2, rfl⟩ := h1.form; obtain ⟨n3, a3, l3, c3, n4, a4, l4, c4, rfl⟩ := h2.form
 refine enter (args := [.agg #[.bool n1, .slice a1 l1 c1, .bool n2, .slice a2 l2 c2], .agg #[.bool n3, .slice a3 l3 c3, .bool n4, .slice a4 l4 c4]]) Try.func73 rfl rfl (Nat.le_of_ble_eq_true rfl) ?_
 refine V.seq (V.reg rfl ?_)
 refine vo ?_
 refine bxa rfl ?_
 intro W1 x2 b3 nn4
 have s5 := x2.sz
 have z6 := x2
 refine vo ?_
 refine bxa rfl ?_
 intro W7 x8 b9 nn10
 have s11 := x8.sz
 have z12 := z6.trans x8
 refine vo ?_
 refine xal zc43 ?_
 intro W13 x14 b15 nn16
 have s17 := x14.sz
 have z18 := z12.trans x14
 replace b9 := b9.ext x14
 refine asi rfl ?_
 refine vnil ?_
 refine V.seq ?_
 refine V.seq (V.reg rfl ?_)
 refine vv (rldb4 rfl ag43 b9 rfl rfl rfl rfl ) ?_
 refine vo ?_
 refine xcall e77 (fSign_ok _ _ _ _ _ (h2.ext z18) (by omega) (by omega)) rfl rfl ?_
 rintro _ W19 ⟨rfl, x20⟩
 have s21 := x20.sz
 have z22 := z18.trans x20
 replace b15 := b15.ext x20
 refine ⟨_, rfl, ?_⟩
 refine veq rfl rfl ?_ ?_
 ·intro c1
  refine vnil ?_
  refine V.condT rfl ?_
  refine V.seq (V.reg rfl ?_)
  refine vv (rbd (ps := []) (cs := [.bool false, .slice _ _ _, .bool false, .slice _ _ _]) pl43 rfl rfl) ?_
  refine vo ?_
  refine sta (cs' := [_, _, _, _]) b15 rfl rfl sz43 rfl rfl rfl ?_
  intro W23 y24 b15
  have z25 := z22.below (y24.below (by omega))
  have s26 := y24.size
  refine asi rfl ?_
  refine vnil ?_
  refine V.ret ?_
  refine ⟨[_, .int _ _], ⟨⟨_, rfl, lvb ag43 b15 rfl⟩, rfl, trivial⟩, ?_⟩
  exact ⟨_, _, _, _, _, _, _, _, rfl, z25⟩
 ·intro c1
  exact absurd (cq_eq.2 hz) c1
set_option maxHeartbeats 4000000 in
theorem tPivot_ok (B bw : Nat) (N : Int) (ag : Option Addr) (ng cg : Nat) (goals : List (List Rat)) (v pw : Value) (rows : List (List Rat)) (piv : List Int) (M L : Nat) (w : World) (hS : TS B bw N ag ng cg goals v pw rows piv w) (hN : 0 ≤ N ∧ N ≤ 64) (hn : rows.length ≤ 64) (hM : N + (rows.length : Int) = (M : Int)) (hr : rect (M + 1) rows) (hpl : piv.length = rows.length) (hsz : szR L rows) (hl1 : 1 ≤ L) (hL : 40 * L + 40 < LY) (row col : Int) (hrk : kb .i64 row) (hck : kb .i64 col) :
    Calls Try.prog 48 #[.pointer (some ⟨bw, 0, none⟩), .int .i64 row, .int .i64 col] w (fun e w' => ∃ er : Int, e = .returned (.int .i64 er) ∧ (er = 0 ↔ pivOK rows piv M row col) ∧ TS B bw N ag ng cg goals v pw (pivR rows piv M row col) (pivP rows piv M row col) w' ∧ KD (KQ bw v pw) w w') := by
 have z0 := Ext.refl w; have hLX : LX = 17592186044416 := rfl; have hLY : LY = 8796093022208 := rfl
 have hLV : LV = 1099511627776 := rfl
 obtain ⟨av, cv, rfl⟩ := hS.g.form; obtain ⟨ap, cp, rfl⟩ := hS.p.form
 have hxt := hS.x; have lxt := hxt.lt; have hM0 : MC TT w av rows.length cv rows := hS.mc rfl; have hP := hS.pn rfl; have lM := hM0.max; have lP := hP.max
 refine enter (args := [.pointer (some ⟨bw, 0, none⟩), .int .i64 row, .int .i64 col]) Try.func48 rfl rfl (Nat.le_of_ble_eq_true rfl) ?_
 refine V.seq (V.reg rfl ?_)
 refine vo ?_
 refine bxi rfl ?_
 intro W1 x2 b3 nn4
 have s5 := x2.sz
 have z6 := x2
 replace hxt := hxt.ext x2
 refine vo ?_
 refine bxi rfl ?_
 intro W7 x8 b9 nn10
 have s11 := x8.sz
 have z12 := z6.trans x8
 replace hxt := hxt.ext x8
 replace b3 := b3.ext x8
 refine asi rfl ?_
 refine vnil ?_
 refine V.seq ?_
 refine V.block ?_
 refine V.seq (V.reg rfl ?_)
 refine mvp rfl ?_
 refine vv (rpnil (q := false) (by kernel_rfl) rfl rfl rfl) ?_
 refine asb rfl ?_
 refine vnil ?_
 refine V.condF rfl ?_
 refine V.seq (V.regD mixed rfl ?_)
 intro W13 x14
 have s15 := x14.sz
 have z16 := z12.trans x14
 replace hxt := hxt.ext x14
 replace b3 := b3.ext x14
 replace b9 := b9.ext x14
 have q17 := Ext.refl W13
 have r18 := hxt
 have r19 := b3
 have r20 := b9
 refine tk 0 rfl (by kernel_rfl) q17 (pv (fun _ y21 => rldb (v := .int _ _) rfl sc3 (r19.ext y21) rfl)) ?_
 refine tkLt 1 rfl (by kernel_rfl) q17 rfl rfl (fun _ h => pv h) ?_ ?_
 ·intro d1
  refine tk 2 rfl (by kernel_rfl) q17 (pv (fun _ y23 => rmv (v := .bool true) rfl)) ?_
  refine tk 3 rfl (by kernel_rfl) q17 (pgn (b := true) rfl rfl) ?_
  refine tk 4 rfl (by kernel_rfl) q17 (pgn (b := true) rfl rfl) ?_
  refine tk 5 rfl (by kernel_rfl) q17 (pgn (b := true) rfl rfl) ?_
  refine tk 6 rfl (by kernel_rfl) q17 (pgn (b := true) rfl rfl) ?_
  refine tk 7 rfl (by kernel_rfl) q17 (pgn (b := true) rfl rfl) ?_
  refine tk 8 rfl (by kernel_rfl) q17 (pgn (b := true) rfl rfl) ?_
  refine tk 9 rfl (by kernel_rfl) q17 (pgn (b := true) rfl rfl) ?_
  refine tk 10 rfl (by kernel_rfl) q17 (pv (fun _ y24 => rpk (v := .bool true) rfl rfl)) ?_
  refine tk 11 rfl (by kernel_rfl) q17 (pv (fun _ y25 => rmv (v := .bool true) rfl)) ?_
  refine tk 12 rfl (by kernel_rfl) q17 (pgn (b := true) rfl rfl) ?_
  refine tk 13 rfl (by kernel_rfl) q17 (pgn (b := true) rfl rfl) ?_
  refine tk 14 rfl (by kernel_rfl) q17 (pv (fun _ y26 => rpk (v := .bool true) rfl rfl)) ?_
  refine tk 15 rfl (by kernel_rfl) q17 (pv (fun _ y27 => rmv (v := .bool true) rfl)) ?_
  refine tk 16 rfl (by kernel_rfl) q17 (pgn (b := true) rfl rfl) ?_
  refine tk 17 rfl (by kernel_rfl) q17 (pgn (b := true) rfl rfl) ?_
  refine tk 18 rfl (by kernel_rfl) q17 (pgn (b := true) rfl rfl) ?_
  refine tk 19 rfl (by kernel_rfl) q17 (pgn (b := true) rfl rfl) ?_
  refine tk 20 rfl (by kernel_rfl) q17 (pv (fun _ y28 => rpk (v := .bool true) rfl rfl)) ?_
  refine tk 21 rfl (by kernel_rfl) q17 (pv (fun _ y29 => rmv (v := .bool true) rfl)) ?_
  refine tk 22 rfl (by kernel_rfl) q17 (pgn (b := true) rfl rfl) ?_
  refine tk 23 rfl (by kernel_rfl) q17 (pgn (b := true) rfl rfl) ?_
  refine tk 24 rfl (by kernel_rfl) q17 (pgn (b := true) rfl rfl) ?_
  refine tk 25 rfl (by kernel_rfl) q17 (pgn (b := true) rfl rfl) ?_
  refine tk 26 rfl (by kernel_rfl) q17 (pgn (b := true) rfl rfl) ?_
  refine tk 27 rfl (by kernel_rfl) q17 (pgn (b := true) rfl rfl) ?_
  refine tk 28 rfl (by kernel_rfl) q17 (pv (fun _ y30 => rpk (v := .bool true) rfl rfl)) ?_
  refine tk 29 rfl (by kernel_rfl) q17 (pv (fun _ y31 => ras (v := .bool true) rfl)) ?_
  refine dn (by kernel_rfl) ?_
  refine V.condT rfl ?_
  refine V.seq (V.reg rfl ?_)
  refine asi rfl ?_
  refine vnil ?_
  refine V.ret ?_
  refine ⟨[.int _ _], ⟨rfl, trivial⟩, ?_⟩
  have hbad : ¬ pivOK rows piv M row col := fun h => by have := h.1; omega
  exact ⟨_, rfl, ⟨fun h => absurd h (by decide), fun h => absurd h hbad⟩, (by rw [pivR_no hbad, pivP_no hbad]; exact hS.ext z16), Ext.kd z16⟩
 ·intro d1
  refine tk 2 rfl (by kernel_rfl) q17 (pv (fun _ y32 => rmv (v := .bool false) rfl)) ?_
  refine tk 3 rfl (by kernel_rfl) q17 (pg rfl (fun _ y33 => rldb (v := .int _ _) rfl sc3 (r19.ext y33) rfl)) ?_
  refine tk 4 rfl (by kernel_rfl) q17 (pg rfl (fun _ y34 => rmv (v := .pointer (some ⟨_, _, none⟩)) rfl)) ?_
  refine tk 5 rfl (by kernel_rfl) q17 (pg rfl (fun _ y35 => rnc (v := .pointer (some ⟨_, _, none⟩)) rfl rfl)) ?_
  refine tk 6 rfl (by kernel_rfl) q17 (pg rfl (fun _ y36 => rfa rfl fd96_3)) ?_
  refine tk 7 rfl (by kernel_rfl) q17 (pg rfl (fun _ y37 => rldb (v := .slice _ _ _) rfl sc25 (r18.ext y37) rfl)) ?_
  refine tk 8 rfl (by kernel_rfl) q17 (pg rfl (fun _ y38 => rlen sl25 rfl)) ?_
  refine tkGe 9 rfl (by kernel_rfl) q17 rfl rfl (fun _ h => pg rfl h) ?_ ?_
  ·intro d2
   refine tk 10 rfl (by kernel_rfl) q17 (pv (fun _ y40 => rpk (v := .bool true) rfl rfl)) ?_
   refine tk 11 rfl (by kernel_rfl) q17 (pv (fun _ y41 => rmv (v := .bool true) rfl)) ?_
   refine tk 12 rfl (by kernel_rfl) q17 (pgn (b := true) rfl rfl) ?_
   refine tk 13 rfl (by kernel_rfl) q17 (pgn (b := true) rfl rfl) ?_
   refine tk 14 rfl (by kernel_rfl) q17 (pv (fun _ y42 => rpk (v := .bool true) rfl rfl)) ?_
   refine tk 15 rfl (by kernel_rfl) q17 (pv (fun _ y43 => rmv (v := .bool true) rfl)) ?_
   refine tk 16 rfl (by kernel_rfl) q17 (pgn (b := true) rfl rfl) ?_
   refine tk 17 rfl (by kernel_rfl) q17 (pgn (b := true) rfl rfl) ?_
   refine tk 18 rfl (by kernel_rfl) q17 (pgn (b := true) rfl rfl) ?_
   refine tk 19 rfl (by kernel_rfl) q17 (pgn (b := true) rfl rfl) ?_
   refine tk 20 rfl (by kernel_rfl) q17 (pv (fun _ y44 => rpk (v := .bool true) rfl rfl)) ?_
   refine tk 21 rfl (by kernel_rfl) q17 (pv (fun _ y45 => rmv (v := .bool true) rfl)) ?_
   refine tk 22 rfl (by kernel_rfl) q17 (pgn (b := true) rfl rfl) ?_
   refine tk 23 rfl (by kernel_rfl) q17 (pgn (b := true) rfl rfl) ?_
   refine tk 24 rfl (by kernel_rfl) q17 (pgn (b := true) rfl rfl) ?_
   refine tk 25 rfl (by kernel_rfl) q17 (pgn (b := true) rfl rfl) ?_
   refine tk 26 rfl (by kernel_rfl) q17 (pgn (b := true) rfl rfl) ?_
   refine tk 27 rfl (by kernel_rfl) q17 (pgn (b := true) rfl rfl) ?_
   refine tk 28 rfl (by kernel_rfl) q17 (pv (fun _ y46 => rpk (v := .bool true) rfl rfl)) ?_
   refine tk 29 rfl (by kernel_rfl) q17 (pv (fun _ y47 => ras (v := .bool true) rfl)) ?_
   refine dn (by kernel_rfl) ?_
   refine V.condT rfl ?_
   refine V.seq (V.reg rfl ?_)
   refine asi rfl ?_
   refine vnil ?_
   refine V.ret ?_
   refine ⟨[.int _ _], ⟨rfl, trivial⟩, ?_⟩
   have hbad : ¬ pivOK rows piv M row col := fun h => by have := h.2.1; omega
   exact ⟨_, rfl, ⟨fun h => absurd h (by decide), fun h => absurd h hbad⟩, (by rw [pivR_no hbad, pivP_no hbad]; exact hS.ext z16), Ext.kd z16⟩
  ·intro d2
   refine tk 10 rfl (by kernel_rfl) q17 (pv (fun _ y48 => rpk (v := .bool false) rfl rfl)) ?_
   refine tk 11 rfl (by kernel_rfl) q17 (pv (fun _ y49 => rmv (v := .bool false) rfl)) ?_
   refine tk 12 rfl (by kernel_rfl) q17 (pg rfl (fun _ y50 => rldb (v := .int _ _) rfl sc3 (r20.ext y50) rfl)) ?_
   refine tkLt 13 rfl (by kernel_rfl) q17 rfl rfl (fun _ h => pg rfl h) ?_ ?_
   ·intro d3
    refine tk 14 rfl (by kernel_rfl) q17 (pv (fun _ y52 => rpk (v := .bool true) rfl rfl)) ?_
    refine tk 15 rfl (by kernel_rfl) q17 (pv (fun _ y53 => rmv (v := .bool true) rfl)) ?_
    refine tk 16 rfl (by kernel_rfl) q17 (pgn (b := true) rfl rfl) ?_
    refine tk 17 rfl (by kernel_rfl) q17 (pgn (b := true) rfl rfl) ?_
    refine tk 18 rfl (by kernel_rfl) q17 (pgn (b := true) rfl rfl) ?_
    refine tk 19 rfl (by kernel_rfl) q17 (pgn (b := true) rfl rfl) ?_
    refine tk 20 rfl (by kernel_rfl) q17 (pv (fun _ y54 => rpk (v := .bool true) rfl rfl)) ?_
    refine tk 21 rfl (by kernel_rfl) q17 (pv (fun _ y55 => rmv (v := .bool true) rfl)) ?_
    refine tk 22 rfl (by kernel_rfl) q17 (pgn (b := true) rfl rfl) ?_
    refine tk 23 rfl (by kernel_rfl) q17 (pgn (b := true) rfl rfl) ?_
    refine tk 24 rfl (by kernel_rfl) q17 (pgn (b := true) rfl rfl) ?_
    refine tk 25 rfl (by kernel_rfl) q17 (pgn (b := true) rfl rfl) ?_
    refine tk 26 rfl (by kernel_rfl) q17 (pgn (b := true) rfl rfl) ?_
    refine tk 27 rfl (by kernel_rfl) q17 (pgn (b := true) rfl rfl) ?_
    refine tk 28 rfl (by kernel_rfl) q17 (pv (fun _ y56 => rpk (v := .bool true) rfl rfl)) ?_
    refine tk 29 rfl (by kernel_rfl) q17 (pv (fun _ y57 => ras (v := .bool true) rfl)) ?_
    refine dn (by kernel_rfl) ?_
    refine V.condT rfl ?_
    refine V.seq (V.reg rfl ?_)
    refine asi rfl ?_
    refine vnil ?_
    refine V.ret ?_
    refine ⟨[.int _ _], ⟨rfl, trivial⟩, ?_⟩
    have hbad : ¬ pivOK rows piv M row col := fun h => by have := h.2.2.1; omega
    exact ⟨_, rfl, ⟨fun h => absurd h (by decide), fun h => absurd h hbad⟩, (by rw [pivR_no hbad, pivP_no hbad]; exact hS.ext z16), Ext.kd z16⟩
   ·intro d3
    refine tk 14 rfl (by kernel_rfl) q17 (pv (fun _ y58 => rpk (v := .bool false) rfl rfl)) ?_
    refine tk 15 rfl (by kernel_rfl) q17 (pv (fun _ y59 => rmv (v := .bool false) rfl)) ?_
    refine tk 16 rfl (by kernel_rfl) q17 (pg rfl (fun _ y60 => rldb (v := .int _ _) rfl sc3 (r20.ext y60) rfl)) ?_
    refine tk 17 rfl (by kernel_rfl) q17 (pg rfl (fun _ y61 => rmv (v := .pointer (some ⟨_, _, none⟩)) rfl)) ?_
    refine efg 18 (by kernel_rfl) rfl rfl ?_
    refine xcall e70 (cols_ok _ N _ _ _ _ _ _ _ rows.length _ _ hxt (by omega) (by omega)) rfl rfl ?_
    rintro _ W62 ⟨rfl, x63⟩
    have s64 := x63.sz
    have z65 := z16.trans x63
    replace hxt := hxt.ext x63
    replace b3 := b3.ext x63
    replace b9 := b9.ext x63
    have q66 := q17.trans x63
    refine ⟨_, rfl, ?_⟩
    refine ⟨fun _ => q66, ?_⟩
    refine tkGe 19 rfl (by kernel_rfl) q66 rfl rfl (fun _ h => pg rfl h) ?_ ?_
    ·intro d4
     refine tk 20 rfl (by kernel_rfl) q66 (pv (fun _ y68 => rpk (v := .bool true) rfl rfl)) ?_
     refine tk 21 rfl (by kernel_rfl) q66 (pv (fun _ y69 => rmv (v := .bool true) rfl)) ?_
     refine tk 22 rfl (by kernel_rfl) q66 (pgn (b := true) rfl rfl) ?_
     refine tk 23 rfl (by kernel_rfl) q66 (pgn (b := true) rfl rfl) ?_
     refine tk 24 rfl (by kernel_rfl) q66 (pgn (b := true) rfl rfl) ?_
     refine tk 25 rfl (by kernel_rfl) q66 (pgn (b := true) rfl rfl) ?_
     refine tk 26 rfl (by kernel_rfl) q66 (pgn (b := true) rfl rfl) ?_
     refine tk 27 rfl (by kernel_rfl) q66 (pgn (b := true) rfl rfl) ?_
     refine tk 28 rfl (by kernel_rfl) q66 (pv (fun _ y70 => rpk (v := .bool true) rfl rfl)) ?_
     refine tk 29 rfl (by kernel_rfl) q66 (pv (fun _ y71 => ras (v := .bool true) rfl)) ?_
     refine dn (by kernel_rfl) ?_
     refine V.condT rfl ?_
     refine V.seq (V.reg rfl ?_)
     refine asi rfl ?_
     refine vnil ?_
     refine V.ret ?_
     refine ⟨[.int _ _], ⟨rfl, trivial⟩, ?_⟩
     have hbad : ¬ pivOK rows piv M row col := fun h => by have := h.2.2.2.1; omega
     exact ⟨_, rfl, ⟨fun h => absurd h (by decide), fun h => absurd h hbad⟩, (by rw [pivR_no hbad, pivP_no hbad]; exact hS.ext z65), Ext.kd z65⟩
    ·intro d4
     refine tk 20 rfl (by kernel_rfl) q66 (pv (fun _ y72 => rpk (v := .bool false) rfl rfl)) ?_
     refine tk 21 rfl (by kernel_rfl) q66 (pv (fun _ y73 => rmv (v := .bool false) rfl)) ?_
     refine tk 22 rfl (by kernel_rfl) q66 (pg rfl (fun _ y74 => rmv (v := .pointer (some ⟨_, _, none⟩)) rfl)) ?_
     refine tk 23 rfl (by kernel_rfl) q66 (pg rfl (fun _ y75 => rnc (v := .pointer (some ⟨_, _, none⟩)) rfl rfl)) ?_
     refine tk 24 rfl (by kernel_rfl) q66 (pg rfl (fun _ y76 => rfa rfl fd96_2)) ?_
     refine tk 25 rfl (by kernel_rfl) q66 (pg rfl (fun _ y77 => rldb (v := .slice _ _ _) rfl sc74 (r18.ext y77) rfl)) ?_
     refine tk 26 rfl (by kernel_rfl) q66 (pg rfl (fun _ y78 => rldb (v := .int _ _) rfl sc3 (r20.ext y78) rfl)) ?_
     refine efg 27 (by kernel_rfl) rfl rfl ?_
     refine xcall e72 (contains_ok _ _ _ piv col _ _ (hP.ext z65)) rfl rfl ?_
     rintro _ _ ⟨qc, rfl, rfl, hqc⟩
     refine ⟨_, rfl, ?_⟩
     cases qc
     ·skip
      refine ⟨fun _ => q66, ?_⟩
      refine tk 28 rfl (by kernel_rfl) q66 (pv (fun _ y79 => rpk (v := .bool false) rfl rfl)) ?_
      refine tk 29 rfl (by kernel_rfl) q66 (pv (fun _ y80 => ras (v := .bool false) rfl)) ?_
      refine dn (by kernel_rfl) ?_
      refine V.condF rfl ?_
      refine V.skip ?_
      obtain ⟨ra8, rk8, rc8, hc8, hg8⟩ := (hS.ext z65).row rfl (i := row) (by omega) (by omega)
      have ce8 : C1 W62 _ _ := hc8; have hga8 := hg8.va (hsz.row _); have hgl8 := hg8.len; have hrl8 := hr.row (i := row.toNat) (by omega)
      obtain ⟨en1, ea1, el1, ec1, em1, eb1, ek1, ed1, hq1, hc1⟩ := (hga8).el (i := col) (by omega) (by omega)
      have ce1 : CE W62 _ _ := hc1
      refine V.seq (V.regJ (ι := Nat × Int × Bool × Option Addr × Nat × Nat × Bool × Option Addr × Nat × Nat) [(0, .pointer (some ⟨_, _, none⟩)), (4, .pointer (some ⟨_, _, none⟩)), (5, .pointer (some ⟨_, _, none⟩)), (6, .int _ _)] (fun ⟨u7, er, m1, d1, k1, e1, m2, d2, k2, e2⟩ => [(7, .pointer (some ⟨u7, 0, none⟩)), (8, .int .i64 er)]) (fun ⟨u7, er, m1, d1, k1, e1, m2, d2, k2, e2⟩ W => Ext W62 W ∧ W62.heap.size ≤ u7 ∧ BoxAt W u7 [.bool m1, .slice d1 k1 e1, .bool m2, .slice d2 k2 e2] 43 ∧ ((er = 0 ∧ mat rows row.toNat col.toNat ≠ 0 ∧ QC TT W [.bool m1, .slice d1 k1 e1, .bool m2, .slice d2 k2 e2] (1 / mat rows row.toNat col.toNat)) ∨ (er ≠ 0 ∧ mat rows row.toNat col.toNat = 0))) mixed rfl ⟨rfl, rfl, rfl, rfl, trivial⟩ ?_ ?_)
      ·skip
       intro W82 x83
       have s84 := x83.sz
       have z85 := z65.trans x83
       have z86 := x83
       replace hxt := hxt.ext x83
       replace b3 := b3.ext x83
       replace b9 := b9.ext x83
       have q87 := Ext.refl W82
       have r88 := hxt
       have r89 := b3
       have r90 := b9
       refine tk 1 rfl (by kernel_rfl) q87 (pv (fun _ y91 => rmv (v := .pointer (some ⟨_, _, none⟩)) rfl)) ?_
       refine tk 2 rfl (by kernel_rfl) q87 (pv (fun _ y92 => rnc (v := .pointer (some ⟨_, _, none⟩)) rfl rfl)) ?_
       refine tk 3 rfl (by kernel_rfl) q87 (pv (fun _ y93 => rfa rfl fd96_3)) ?_
       refine tk 4 rfl (by kernel_rfl) q87 (pv (fun _ y94 => rldb (v := .slice _ _ _) rfl sc25 (r88.ext y94) rfl)) ?_
       refine tk 5 rfl (by kernel_rfl) q87 (pv (fun _ y95 => rldb (v := .int _ _) rfl sc3 (r89.ext y95) rfl)) ?_
       refine tk 6 rfl (by kernel_rfl) q87 (pv (fun _ y96 => rix sl25 sz30 rfl rfl (by omega) (by omega) (((hM0.ext z85).ext y96).isS (i := 0) (by omega) (by omega)))) ?_
       refine tk 7 rfl (by kernel_rfl) q87 (pv (fun _ y97 => rld1 (v := .slice _ _ _) rfl sc30 ((ce8.ext z86).ext y97))) ?_
       refine tk 8 rfl (by kernel_rfl) q87 (pv (fun _ y98 => rldb (v := .int _ _) rfl sc3 (r90.ext y98) rfl)) ?_
       refine tk 9 rfl (by kernel_rfl) q87 (pv (fun _ y99 => rix sl30 sz43 rfl rfl (by omega) (by omega) (((hga8.ext z86).ext y99).isS (i := 0) (by omega) (by omega)))) ?_
       refine tk 10 rfl (by kernel_rfl) q87 (pv (fun _ y100 => rldn (l := [.bool _, .slice _ _ _, .bool _, .slice _ _ _]) rfl ag43 rfl ((ce1.ext z86).ext y100))) ?_
       refine efs 0 [15] (by kernel_rfl) ⟨?_, ?_, trivial⟩
       ·skip
        refine efI rfl ?_
        refine xcall e37 (fFrom_ok 1 TT _ (by omega) (TT.up _)) rfl rfl ?_
        rintro _ W102 ⟨_, rfl, x103, hq101⟩
        have s104 := x103.sz
        have z106 := z86.trans x103
        replace hxt := hxt.ext x103
        have q107 := q87.trans x103
        obtain ⟨_, _, _, _, _, _, _, _, rfl⟩ := hq101.form
        refine ⟨_, rfl, ?_⟩
        refine ⟨fun _ => q107, ?_⟩
        refine efs 11 [15] (by kernel_rfl) ⟨?_, ?_, trivial⟩
        ·skip
         refine efI rfl ?_
         rcases Classical.em (mat rows row.toNat col.toNat = 0) with hz | hz
         ·skip
          refine xcall e73 (fDivZ_ok [_, _, _, _] [_, _, _, _] _ _ 1 L _ _ _ ((hq101).qa szOne') (hq1.ext z106) (by omega) (by omega) hl1 hz) rfl rfl ?_
          rintro _ Wd ⟨m1, d1, k1, e1, m2, d2, k2, e2, rfl, xd⟩
          refine ⟨_, rfl, ?_⟩
          have s108 := xd.sz
          have z110 := z106.trans xd
          replace hxt := hxt.ext xd
          have q111 := q107.trans xd
          refine ⟨fun _ => q111, ?_⟩
          refine tk 12 rfl (by kernel_rfl) q111 (pv (fun _ y112 => rmv (v := .tuple #[_, _]) rfl)) ?_
          refine tk 13 rfl (by kernel_rfl) q111 (pv (fun _ y113 => rext (v := .agg #[_, _, _, _]) rfl rfl)) ?_
          refine tk 14 rfl (by kernel_rfl) q111 (pv (fun _ y114 => rext (v := .int _ _) rfl rfl)) ?_
          refine ef 15 (by kernel_rfl) rfl ?_
          refine xal zc43 ?_
          intro W115 x116 b117 nn118
          have s119 := x116.sz
          have z121 := z110.trans x116
          replace hxt := hxt.ext x116
          have q122 := q111.trans x116
          refine ⟨fun _ => q122, ?_⟩
          refine ef 16 (by kernel_rfl) rfl ?_
          refine sta (cs' := [_, _, _, _]) b117 rfl rfl sz43 rfl rfl rfl ?_
          intro W123 y124 b117
          have z126 := z121.below (y124.below (by omega))
          replace hxt := hxt.wr y124 (by omega)
          have q127 := q122.below (y124.below (by omega))
          have s128 := y124.size
          refine ⟨fun _ => q127, ?_⟩
          refine tk 17 rfl (by kernel_rfl) q127 (pv (fun _ y129 => ras (v := .int _ _) rfl)) ?_
          refine dn (by kernel_rfl) ?_
          exact ⟨(Wd.heap.size, 7, _, _, _, _, _, _, _, _), ⟨rfl, rfl, rfl, rfl, trivial⟩, ⟨rfl, rfl, trivial⟩, z126, by omega, b117, .inr ⟨by decide, hz⟩⟩
         ·skip
          refine xcall e73 (fDiv_ok [_, _, _, _] [_, _, _, _] _ _ 1 L TT _ _ _ ((hq101).qa szOne') (hq1.ext z106) (by omega) (by omega) hl1 (TT.up _) hz) rfl rfl ?_
          rintro _ Wd ⟨_, rfl, xd, hqd⟩
          refine ⟨_, rfl, ?_⟩
          obtain ⟨m1, d1, k1, e1, m2, d2, k2, e2, rfl⟩ := hqd.form
          have s130 := xd.sz
          have z132 := z106.trans xd
          replace hxt := hxt.ext xd
          have q133 := q107.trans xd
          refine ⟨fun _ => q133, ?_⟩
          refine tk 12 rfl (by kernel_rfl) q133 (pv (fun _ y134 => rmv (v := .tuple #[_, _]) rfl)) ?_
          refine tk 13 rfl (by kernel_rfl) q133 (pv (fun _ y135 => rext (v := .agg #[_, _, _, _]) rfl rfl)) ?_
          refine tk 14 rfl (by kernel_rfl) q133 (pv (fun _ y136 => rext (v := .int _ _) rfl rfl)) ?_
          refine ef 15 (by kernel_rfl) rfl ?_
          refine xal zc43 ?_
          intro W137 x138 b139 nn140
          have s141 := x138.sz
          have z143 := z132.trans x138
          replace hxt := hxt.ext x138
          have q144 := q133.trans x138
          refine ⟨fun _ => q144, ?_⟩
          refine ef 16 (by kernel_rfl) rfl ?_
          refine sta (cs' := [_, _, _, _]) b139 rfl rfl sz43 rfl rfl rfl ?_
          intro W145 y146 b139
          have z148 := z143.below (y146.below (by omega))
          replace hxt := hxt.wr y146 (by omega)
          have q149 := q144.below (y146.below (by omega))
          have s150 := y146.size
          refine ⟨fun _ => q149, ?_⟩
          refine tk 17 rfl (by kernel_rfl) q149 (pv (fun _ y151 => ras (v := .int _ _) rfl)) ?_
          refine dn (by kernel_rfl) ?_
          exact ⟨(Wd.heap.size, 0, _, _, _, _, _, _, _, _), ⟨rfl, rfl, rfl, rfl, trivial⟩, ⟨rfl, rfl, trivial⟩, z148, by omega, b139, .inl ⟨rfl, hz, ((((hqd.sub (S' := SX _ [Wd.heap.size]) (SX.old (by simp <;> omega))).ck ((x138.ck _).trans (y146.ck (by intro hh; first | (simp [SX] at hh <;> omega) | omega))))).sub fun _ _ _ => trivial).cast (by rw [show ((1 : Int) : Rat) = 1 from rfl]; rfl)⟩⟩
        ·skip
         refine efI rfl ?_
         refine xal zc43 ?_
         intro W152 x153 b154 nn155
         have s156 := x153.sz
         have z158 := z106.trans x153
         replace hxt := hxt.ext x153
         have q159 := q107.trans x153
         refine ⟨fun _ => q159, ?_⟩
         refine ef 11 (by kernel_rfl) rfl ?_
         rcases Classical.em (mat rows row.toNat col.toNat = 0) with hz | hz
         ·skip
          refine xcall e73 (fDivZ_ok [_, _, _, _] [_, _, _, _] _ _ 1 L _ _ _ (((hq101.ext x153)).qa szOne') (hq1.ext z158) (by omega) (by omega) hl1 hz) rfl rfl ?_
          rintro _ Wd ⟨m1, d1, k1, e1, m2, d2, k2, e2, rfl, xd⟩
          refine ⟨_, rfl, ?_⟩
          have s160 := xd.sz
          have z162 := z158.trans xd
          replace hxt := hxt.ext xd
          replace b154 := b154.ext xd
          have q163 := q159.trans xd
          refine ⟨fun _ => q163, ?_⟩
          refine tk 12 rfl (by kernel_rfl) q163 (pv (fun _ y164 => rmv (v := .tuple #[_, _]) rfl)) ?_
          refine tk 13 rfl (by kernel_rfl) q163 (pv (fun _ y165 => rext (v := .agg #[_, _, _, _]) rfl rfl)) ?_
          refine tk 14 rfl (by kernel_rfl) q163 (pv (fun _ y166 => rext (v := .int _ _) rfl rfl)) ?_
          refine ef 16 (by kernel_rfl) rfl ?_
          refine sta (cs' := [_, _, _, _]) b154 rfl rfl sz43 rfl rfl rfl ?_
          intro W167 y168 b154
          have z170 := z162.below (y168.below (by omega))
          replace hxt := hxt.wr y168 (by omega)
          have q171 := q163.below (y168.below (by omega))
          have s172 := y168.size
          refine ⟨fun _ => q171, ?_⟩
          refine tk 17 rfl (by kernel_rfl) q171 (pv (fun _ y173 => ras (v := .int _ _) rfl)) ?_
          refine dn (by kernel_rfl) ?_
          exact ⟨(W102.heap.size, 7, _, _, _, _, _, _, _, _), ⟨rfl, rfl, rfl, rfl, trivial⟩, ⟨rfl, rfl, trivial⟩, z170, by omega, b154, .inr ⟨by decide, hz⟩⟩
         ·skip
          refine xcall e73 (fDiv_ok [_, _, _, _] [_, _, _, _] _ _ 1 L (SX TT [W102.heap.size]) _ _ _ (((hq101.ext x153)).qa szOne') (hq1.ext z158) (by omega) (by omega) hl1 (SX.up (TT.up _) (by simp; omega)) hz) rfl rfl ?_
          rintro _ Wd ⟨_, rfl, xd, hqd⟩
          refine ⟨_, rfl, ?_⟩
          obtain ⟨m1, d1, k1, e1, m2, d2, k2, e2, rfl⟩ := hqd.form
          have s174 := xd.sz
          have z176 := z158.trans xd
          replace hxt := hxt.ext xd
          replace b154 := b154.ext xd
          have q177 := q159.trans xd
          refine ⟨fun _ => q177, ?_⟩
          refine tk 12 rfl (by kernel_rfl) q177 (pv (fun _ y178 => rmv (v := .tuple #[_, _]) rfl)) ?_
          refine tk 13 rfl (by kernel_rfl) q177 (pv (fun _ y179 => rext (v := .agg #[_, _, _, _]) rfl rfl)) ?_
          refine tk 14 rfl (by kernel_rfl) q177 (pv (fun _ y180 => rext (v := .int _ _) rfl rfl)) ?_
          refine ef 16 (by kernel_rfl) rfl ?_
          refine sta (cs' := [_, _, _, _]) b154 rfl rfl sz43 rfl rfl rfl ?_
          intro W181 y182 b154
          have z184 := z176.below (y182.below (by omega))
          replace hxt := hxt.wr y182 (by omega)
          have q185 := q177.below (y182.below (by omega))
          have s186 := y182.size
          refine ⟨fun _ => q185, ?_⟩
          refine tk 17 rfl (by kernel_rfl) q185 (pv (fun _ y187 => ras (v := .int _ _) rfl)) ?_
          refine dn (by kernel_rfl) ?_
          exact ⟨(W102.heap.size, 0, _, _, _, _, _, _, _, _), ⟨rfl, rfl, rfl, rfl, trivial⟩, ⟨rfl, rfl, trivial⟩, z184, by omega, b154, .inl ⟨rfl, hz, (((hqd.ck (y182.ck (by intro hh; first | (simp [SX] at hh <;> omega) | omega)))).sub fun _ _ _ => trivial).cast (by rw [show ((1 : Int) : Rat) = 1 from rfl]; rfl)⟩⟩
       ·skip
        refine efI rfl ?_
        refine xal zc43 ?_
        intro W188 x189 b190 nn191
        have s192 := x189.sz
        have z194 := z86.trans x189
        replace hxt := hxt.ext x189
        have q195 := q87.trans x189
        refine ⟨fun _ => q195, ?_⟩
        refine ef 0 (by kernel_rfl) rfl ?_
        refine xcall e37 (fFrom_ok 1 TT _ (by omega) (TT.up _)) rfl rfl ?_
        rintro _ W197 ⟨_, rfl, x198, hq196⟩
        have s199 := x198.sz
        have z201 := z194.trans x198
        replace hxt := hxt.ext x198
        replace b190 := b190.ext x198
        have q202 := q195.trans x198
        obtain ⟨_, _, _, _, _, _, _, _, rfl⟩ := hq196.form
        refine ⟨_, rfl, ?_⟩
        refine ⟨fun _ => q202, ?_⟩
        refine ef 11 (by kernel_rfl) rfl ?_
        rcases Classical.em (mat rows row.toNat col.toNat = 0) with hz | hz
        ·skip
         refine xcall e73 (fDivZ_ok [_, _, _, _] [_, _, _, _] _ _ 1 L _ _ _ ((hq196).qa szOne') (hq1.ext z201) (by omega) (by omega) hl1 hz) rfl rfl ?_
         rintro _ Wd ⟨m1, d1, k1, e1, m2, d2, k2, e2, rfl, xd⟩
         refine ⟨_, rfl, ?_⟩
         have s203 := xd.sz
         have z205 := z201.trans xd
         replace hxt := hxt.ext xd
         replace b190 := b190.ext xd
         have q206 := q202.trans xd
         refine ⟨fun _ => q206, ?_⟩
         refine tk 12 rfl (by kernel_rfl) q206 (pv (fun _ y207 => rmv (v := .tuple #[_, _]) rfl)) ?_
         refine tk 13 rfl (by kernel_rfl) q206 (pv (fun _ y208 => rext (v := .agg #[_, _, _, _]) rfl rfl)) ?_
         refine tk 14 rfl (by kernel_rfl) q206 (pv (fun _ y209 => rext (v := .int _ _) rfl rfl)) ?_
         refine ef 16 (by kernel_rfl) rfl ?_
         refine sta (cs' := [_, _, _, _]) b190 rfl rfl sz43 rfl rfl rfl ?_
         intro W210 y211 b190
         have z213 := z205.below (y211.below (by omega))
         replace hxt := hxt.wr y211 (by omega)
         have q214 := q206.below (y211.below (by omega))
         have s215 := y211.size
         refine ⟨fun _ => q214, ?_⟩
         refine tk 17 rfl (by kernel_rfl) q214 (pv (fun _ y216 => ras (v := .int _ _) rfl)) ?_
         refine dn (by kernel_rfl) ?_
         exact ⟨(W82.heap.size, 7, _, _, _, _, _, _, _, _), ⟨rfl, rfl, rfl, rfl, trivial⟩, ⟨rfl, rfl, trivial⟩, z213, by omega, b190, .inr ⟨by decide, hz⟩⟩
        ·skip
         refine xcall e73 (fDiv_ok [_, _, _, _] [_, _, _, _] _ _ 1 L (SX TT [W82.heap.size]) _ _ _ ((hq196).qa szOne') (hq1.ext z201) (by omega) (by omega) hl1 (SX.up (TT.up _) (by simp; omega)) hz) rfl rfl ?_
         rintro _ Wd ⟨_, rfl, xd, hqd⟩
         refine ⟨_, rfl, ?_⟩
         obtain ⟨m1, d1, k1, e1, m2, d2, k2, e2, rfl⟩ := hqd.form
         have s217 := xd.sz
         have z219 := z201.trans xd
         replace hxt := hxt.ext xd
         replace b190 := b190.ext xd
         have q220 := q202.trans xd
         refine ⟨fun _ => q220, ?_⟩
         refine tk 12 rfl (by kernel_rfl) q220 (pv (fun _ y221 => rmv (v := .tuple #[_, _]) rfl)) ?_
         refine tk 13 rfl (by kernel_rfl) q220 (pv (fun _ y222 => rext (v := .agg #[_, _, _, _]) rfl rfl)) ?_
         refine tk 14 rfl (by kernel_rfl) q220 (pv (fun _ y223 => rext (v := .int _ _) rfl rfl)) ?_
         refine ef 16 (by kernel_rfl) rfl ?_
         refine sta (cs' := [_, _, _, _]) b190 rfl rfl sz43 rfl rfl rfl ?_
         intro W224 y225 b190
         have z227 := z219.below (y225.below (by omega))
         replace hxt := hxt.wr y225 (by omega)
         have q228 := q220.below (y225.below (by omega))
         have s229 := y225.size
         refine ⟨fun _ => q228, ?_⟩
         refine tk 17 rfl (by kernel_rfl) q228 (pv (fun _ y230 => ras (v := .int _ _) rfl)) ?_
         refine dn (by kernel_rfl) ?_
         exact ⟨(W82.heap.size, 0, _, _, _, _, _, _, _, _), ⟨rfl, rfl, rfl, rfl, trivial⟩, ⟨rfl, rfl, trivial⟩, z227, by omega, b190, .inl ⟨rfl, hz, (((hqd.ck (y225.ck (by intro hh; first | (simp [SX] at hh <;> omega) | omega)))).sub fun _ _ _ => trivial).cast (by rw [show ((1 : Int) : Rat) = 1 from rfl]; rfl)⟩⟩
      ·skip
       intro i233 E234 W232 h235
       obtain ⟨u7, er, m1, d1, k1, e1, m2, d2, k2, e2⟩ := i233
       simp only at h235
       show thenV _ _ .normal (ups (ups _ _) [(7, .pointer (some ⟨u7, 0, none⟩)), (8, .int .i64 er)]) _ _
       obtain ⟨x236, hb7, h7, hj5⟩ := h235
       have s237 := x236.sz
       have z238 := z65.trans x236
       replace hxt := hxt.ext x236
       replace b3 := b3.ext x236
       replace b9 := b9.ext x236
       have l7 := h7.lt
       refine V.seq ?_
       refine V.seq (V.reg rfl ?_)
       refine mvi rfl ?_
       refine vne rfl rfl ?_ ?_
       ·intro c6
        have hz : mat rows row.toNat col.toNat = 0 := by rcases hj5 with ⟨h, _⟩ | ⟨_, h⟩; exact absurd h c6; exact h
        refine vnil ?_
        refine V.condT rfl ?_
        refine V.seq (V.reg rfl ?_)
        refine asi rfl ?_
        refine vnil ?_
        refine V.ret ?_
        refine ⟨[.int _ _], ⟨rfl, trivial⟩, ?_⟩
        have hbad : ¬ pivOK rows piv M row col := fun h => h.2.2.2.2.2 hz
        exact ⟨_, rfl, ⟨fun h => absurd h (by decide), fun h => absurd h hbad⟩, (by rw [pivR_no hbad, pivP_no hbad]; exact hS.ext z238), Ext.kd z238⟩
       ·intro c6
        have er0 : er = 0 := (by omega)
        obtain ⟨hnz, hqz⟩ : mat rows row.toNat col.toNat ≠ 0 ∧ QC TT W232 [.bool m1, .slice d1 k1 e1, .bool m2, .slice d2 k2 e2] (1 / mat rows row.toNat col.toNat) := by rcases hj5 with ⟨_, h⟩ | ⟨h, _⟩; exact h; exact absurd er0 h
        have hqza := hqz.qa (sz_inv (hsz.at hl1 row.toNat col.toNat) hl1)
        refine vnil ?_
        refine V.condF rfl ?_
        refine V.skip ?_
        obtain ⟨ra9, rk9, rc9, hc9, hg9⟩ := (hS.ext z238).row rfl (i := row) (by omega) (by omega)
        have ce9 : C1 W232 _ _ := hc9; have hga9 := hg9.va (hsz.row _); have hgl9 := hg9.len; have hrl9 := hr.row (i := row.toNat) (by omega)
        refine V.seq (V.regJ (ι := Nat × Option Addr × Nat × Nat) [(0, .pointer (some ⟨_, _, none⟩)), (4, .pointer (some ⟨_, _, none⟩)), (5, .pointer (some ⟨_, _, none⟩)), (6, .int _ _), (7, .pointer (some ⟨_, _, none⟩))] (fun ⟨u9, a9, k9, c9⟩ => [(9, .pointer (some ⟨u9, 0, none⟩))]) (fun ⟨u9, a9, k9, c9⟩ W => Ext W232 W ∧ W232.heap.size ≤ u9 ∧ BoxAt W u9 [.slice a9 k9 c9] 30 ∧ GC (SO (XS B bw (Value.slice ap piv.length cp)) (Value.slice av rows.length cv)) W a9 k9 c9 (sclR (1 / mat rows row.toNat col.toNat) (rowat rows row.toNat))) mixed rfl ⟨rfl, rfl, rfl, rfl, rfl, trivial⟩ ?_ ?_)
        ·skip
         intro W241 x242
         have s243 := x242.sz
         have z244 := z238.trans x242
         have z246 := x242
         replace hxt := hxt.ext x242
         replace b3 := b3.ext x242
         replace b9 := b9.ext x242
         replace h7 := h7.ext x242
         have q247 := Ext.refl W241
         have r248 := hxt
         have r249 := b3
         have r250 := b9
         have r251 := h7
         refine tk 0 rfl (by kernel_rfl) q247 (pv (fun _ y252 => rldb4 rfl ag43 (r251.ext y252) rfl rfl rfl rfl )) ?_
         refine tk 1 rfl (by kernel_rfl) q247 (pv (fun _ y253 => rmv (v := .pointer (some ⟨_, _, none⟩)) rfl)) ?_
         refine tk 2 rfl (by kernel_rfl) q247 (pv (fun _ y254 => rnc (v := .pointer (some ⟨_, _, none⟩)) rfl rfl)) ?_
         refine tk 3 rfl (by kernel_rfl) q247 (pv (fun _ y255 => rfa rfl fd96_3)) ?_
         refine tk 4 rfl (by kernel_rfl) q247 (pv (fun _ y256 => rldb (v := .slice _ _ _) rfl sc25 (r248.ext y256) rfl)) ?_
         refine tk 5 rfl (by kernel_rfl) q247 (pv (fun _ y257 => rldb (v := .int _ _) rfl sc3 (r249.ext y257) rfl)) ?_
         refine tk 6 rfl (by kernel_rfl) q247 (pv (fun _ y258 => rix sl25 sz30 rfl rfl (by omega) (by omega) (((hM0.ext z244).ext y258).isS (i := 0) (by omega) (by omega)))) ?_
         refine tk 7 rfl (by kernel_rfl) q247 (pv (fun _ y259 => rld1 (v := .slice _ _ _) rfl sc30 ((ce9.ext z246).ext y259))) ?_
         refine efs 8 [9] (by kernel_rfl) ⟨?_, ?_, trivial⟩
         ·skip
          refine efI rfl ?_
          refine xcall e74 (vScale_ok [_, _, _, _] _ _ _ _ L L _ (SO (XS B bw (Value.slice ap piv.length cp)) (Value.slice av rows.length cv)) _ _ _ (hga9.ext z246) (hqza.ext z246) (by omega) (by omega) (by omega) (by omega) (hS.ext z244).up) rfl rfl ?_
          rintro _ W260 ⟨_, _, _, rfl, x261, hsc⟩
          have s262 := x261.sz
          have z265 := z246.trans x261
          replace hxt := hxt.ext x261
          replace h7 := h7.ext x261
          have q266 := q247.trans x261
          refine ⟨_, rfl, ?_⟩
          refine ⟨fun _ => q266, ?_⟩
          refine ef 9 (by kernel_rfl) rfl ?_
          refine xal zc30 ?_
          intro W267 x268 b269 nn270
          have s271 := x268.sz
          have z274 := z265.trans x268
          replace hxt := hxt.ext x268
          replace h7 := h7.ext x268
          have q275 := q266.trans x268
          refine ⟨fun _ => q275, ?_⟩
          refine ef 10 (by kernel_rfl) rfl ?_
          refine st1 (v := .slice _ _ _) (cs' := [_]) b269 rfl rfl sz30 rfl rfl rfl rfl ?_
          intro W276 y277 b269
          have z280 := z274.below (y277.below (by omega))
          replace hxt := hxt.wr y277 (by omega)
          replace h7 := h7.wr y277 (by omega)
          have s281 := y277.size
          refine lastT (by kernel_rfl) ?_
          refine dn (by kernel_rfl) ?_
          exact ⟨(W260.heap.size, _, _, _), ⟨rfl, rfl, rfl, rfl, rfl, trivial⟩, ⟨rfl, trivial⟩, z280, by omega, b269, ((((hsc.sub (S' := SX _ [W260.heap.size]) (SX.old (by simp <;> omega))).ck ((x268.ck _).trans (y277.ck (by intro hh; first | (simp [SX] at hh <;> omega) | omega))))).sub (S' := SO (XS B bw (Value.slice ap piv.length cp)) (Value.slice av rows.length cv)) fun b _ h => by first | exact h | exact h.1).cast (by unfold sclR; rw [show (rowat rows row.toNat).length = rk9 from hgl9])⟩
         ·skip
          refine efI rfl ?_
          refine xal zc30 ?_
          intro W282 x283 b284 nn285
          have s286 := x283.sz
          have z287 := z244.trans x283
          have z289 := z246.trans x283
          replace hxt := hxt.ext x283
          replace h7 := h7.ext x283
          have q290 := q247.trans x283
          refine ⟨fun _ => q290, ?_⟩
          refine ef 8 (by kernel_rfl) rfl ?_
          refine xcall e74 (vScale_ok [_, _, _, _] _ _ _ _ L L _ (SX (SO (XS B bw (Value.slice ap piv.length cp)) (Value.slice av rows.length cv)) [W241.heap.size]) _ _ _ (hga9.ext z289) (hqza.ext z289) (by omega) (by omega) (by omega) (by omega) (SX.up (hS.ext z287).up (by simp; omega))) rfl rfl ?_
          rintro _ W291 ⟨_, _, _, rfl, x292, hsc⟩
          have s293 := x292.sz
          have z296 := z289.trans x292
          replace hxt := hxt.ext x292
          replace h7 := h7.ext x292
          replace b284 := b284.ext x292
          have q297 := q290.trans x292
          refine ⟨_, rfl, ?_⟩
          refine ⟨fun _ => q297, ?_⟩
          refine ef 10 (by kernel_rfl) rfl ?_
          refine st1 (v := .slice _ _ _) (cs' := [_]) b284 rfl rfl sz30 rfl rfl rfl rfl ?_
          intro W298 y299 b284
          have z302 := z296.below (y299.below (by omega))
          replace hxt := hxt.wr y299 (by omega)
          replace h7 := h7.wr y299 (by omega)
          have s303 := y299.size
          refine lastT (by kernel_rfl) ?_
          refine dn (by kernel_rfl) ?_
          exact ⟨(W241.heap.size, _, _, _), ⟨rfl, rfl, rfl, rfl, rfl, trivial⟩, ⟨rfl, trivial⟩, z302, by omega, b284, (((hsc.ck (y299.ck (by intro hh; first | (simp [SX] at hh <;> omega) | omega)))).sub (S' := SO (XS B bw (Value.slice ap piv.length cp)) (Value.slice av rows.length cv)) fun b _ h => by first | exact h | exact h.1).cast (by unfold sclR; rw [show (rowat rows row.toNat).length = rk9 from hgl9])⟩
        ·skip
         intro i305 E306 W304 h307
         obtain ⟨u9, a9, k9, c9⟩ := i305
         simp only at h307
         show thenV _ _ .normal (ups (ups _ _) [(9, .pointer (some ⟨u9, 0, none⟩))]) _ _
         obtain ⟨x308, hb9, h9, hps⟩ := h307
         have s309 := x308.sz
         have z310 := z238.trans x308
         replace hxt := hxt.ext x308
         replace b3 := b3.ext x308
         replace b9 := b9.ext x308
         replace h7 := h7.ext x308
         have l9 := h9.lt
         refine V.seq (V.reg rfl ?_)
         refine mvp rfl ?_
         refine vv (rmk3 (v := .pointer (some ⟨_, _, none⟩)) (u := .pointer (some ⟨_, _, none⟩)) (u3 := .pointer (some ⟨_, _, none⟩)) rfl rfl rfl) ?_
         refine vv (rbd (ps := [(0, .func _ _ _)]) (cs := [.func _ _ _]) pl109 rfl rfl) ?_
         refine vo ?_
         refine xcall e75 (tAll_ok B bw N ag av ng cg cv goals (Value.slice ap piv.length cp) rows piv _ (hS.ext z310) row col w.heap.size u9 W1.heap.size a9 k9 c9 L M b3 h9 b9 (hS.upq _ (by omega)) (hS.upq _ (by omega)) (hS.upq _ (by omega)) hps hr (by omega) (by omega) (by omega) (by omega) (by omega) hsz hl1 (by omega)) rfl rfl ?_
         rintro _ Wl ⟨rfl, kdl, hSl⟩
         refine ⟨_, rfl, ?_⟩
         have kd0 := (Ext.kd (D := (KQ bw (Value.slice av rows.length cv) (Value.slice ap piv.length cp))) z310).trans kdl; have b4l := b3.kd kdl (hS.upq _ (by omega)); have b5l := b9.kd kdl (hS.upq _ (by omega)); have hxl := hSl.x; have hPl := hSl.pn rfl; have zl := Ext.refl Wl; have skl := kd0.size
         refine vnil ?_
         refine V.seq (V.regD mixed rfl ?_)
         intro W314 x315
         have s316 := x315.sz
         have z317 := x315
         replace hxl := hxl.ext x315
         replace b4l := b4l.ext x315
         replace b5l := b5l.ext x315
         have q318 := Ext.refl W314
         have r319 := hxl
         have r320 := b4l
         have r321 := b5l
         refine tk 0 rfl (by kernel_rfl) q318 (pv (fun _ y322 => rmv (v := .pointer (some ⟨_, _, none⟩)) rfl)) ?_
         refine tk 1 rfl (by kernel_rfl) q318 (pv (fun _ y323 => rnc (v := .pointer (some ⟨_, _, none⟩)) rfl rfl)) ?_
         refine tk 2 rfl (by kernel_rfl) q318 (pv (fun _ y324 => rfa rfl fd96_2)) ?_
         refine tk 3 rfl (by kernel_rfl) q318 (pv (fun _ y325 => rldb (v := .slice _ _ _) rfl sc74 (r319.ext y325) rfl)) ?_
         refine tk 4 rfl (by kernel_rfl) q318 (pv (fun _ y326 => rldb (v := .int _ _) rfl sc3 (r320.ext y326) rfl)) ?_
         refine tk 5 rfl (by kernel_rfl) q318 (pv (fun _ y327 => rldb (v := .int _ _) rfl sc3 (r321.ext y327) rfl)) ?_
         refine tk 6 rfl (by kernel_rfl) q318 (pv (fun _ y328 => rixn ((hPl.ext z317).ext y328) sl74 sz3 rfl rfl (by omega) (by omega))) ?_
         refine ef 7 (by kernel_rfl) rfl ?_
         refine xstP (hSl.ext z317) rfl rfl rfl hck sz3 (by omega) (by omega) ?_
         intro Wt hSt kdt
         refine lastT (by kernel_rfl) ?_
         refine dn (by kernel_rfl) ?_
         refine V.seq (V.reg rfl ?_)
         refine asi rfl ?_
         refine vnil ?_
         refine V.ret ?_
         refine ⟨[.int _ _], ⟨rfl, trivial⟩, ?_⟩
         have hok : pivOK rows piv M row col := ⟨by omega, by omega, by omega, by omega, fun h => (by have := hqc.2 h; cases this), hnz⟩
         exact ⟨_, rfl, ⟨fun _ => hok, fun _ => rfl⟩, (by rw [pivR_yes hok, pivP_yes hok]; exact hSt), (kd0.trans (Ext.kd z317)).trans kdt⟩
     ·skip
      refine ⟨fun _ => q66, ?_⟩
      refine tk 28 rfl (by kernel_rfl) q66 (pv (fun _ y329 => rpk (v := .bool true) rfl rfl)) ?_
      refine tk 29 rfl (by kernel_rfl) q66 (pv (fun _ y330 => ras (v := .bool true) rfl)) ?_
      refine dn (by kernel_rfl) ?_
      refine V.condT rfl ?_
      refine V.seq (V.reg rfl ?_)
      refine asi rfl ?_
      refine vnil ?_
      refine V.ret ?_
      refine ⟨[.int _ _], ⟨rfl, trivial⟩, ?_⟩
      have hbad : ¬ pivOK rows piv M row col := fun h => h.2.2.2.2.1 (hqc.1 rfl)
      exact ⟨_, rfl, ⟨fun h => absurd h (by decide), fun h => absurd h hbad⟩, (by rw [pivR_no hbad, pivP_no hbad]; exact hS.ext z65), Ext.kd z65⟩
end Go.Proofs.Ytknbjfefeeojlaa
/- Package tableau: New. -/
namespace Go.Proofs.Ytknbjfefeeojlaa
open Go.RowKit
attribute [local irreducible] RV VH V OpF Calls
section
variable {r : Option Nat} {P : Program} {ρ : Operand → Value} {W W' : World} {d : Option Tmp} {ty T e : TypeId} {pos : String} {af : Array Edge} {g : Option (Nat × Bool)} {x y : Operand} {v : Value} {K : Value → World → Prop} {s B : Nat} {ρt : Type} {El : (Nat → Prop) → World → List Value → ρt → Prop} {S : Nat → Prop} {rs : List ρt} {rr : ρt}
theorem xappGo {t1 : TypeId} {b c1 bytes : Nat} {z : Value} {q : List Value} (ok : ElOK El) (hS : Sl P t1 e) (hi : ∃ i, P.info? e = some i ∧ i.size = s ∧ i.bytes = bytes ∧ i.zero = some z) (hzs : Nat.beq z.cells.size s = true) (hs0 : Nat.blt 0 s = true) (hO : GO s El S B W e v rs) (hx : ρ x = v) (hy : ρ y = .slice (some ⟨b, 0, none⟩) 1 c1) (hb : BoxAt W b q e) (hq : Nat.beq q.length s = true) (ho : (q.all Value.oneCell') = true) (hel : El (SO S v) W q rr)
    (hlen : (rs.length + 1) * bytes ≤ 140737488355328) (hbp : 0 < bytes) (hB : B ≤ W.heap.size)
    (hk2 : ∀ v' W', GO s El S B W' e v' (rs ++ [rr]) → W.grownBy W' v.ownBlock → (v'.ownBlock = v.ownBlock ∨ v'.ownBlock = some W.heap.size) → KB B W W' → K v' W') :
    OpF r P ρ ⟨d, .call ⟨.builtin .append, #[x, y], #[t1, t1]⟩, ty, pos, af, g⟩ W K := by
  obtain ⟨qs, h1, h2⟩ := hO
  have hl := h2.len
  refine xappS hS hi hzs hs0 h1 hx hy hb hq ho (by rw [hl]; exact hlen) hbp hB ?_
  intro v' W' hO' hg hown
  refine hk2 v' W' ⟨_, hO', ?_⟩ hg hown (KB.grownS h1 hg (Nat.le_refl _) hB)
  have := h2.snoc hel
  refine this.imp fun q r hq => ?_
  have g1 := ok.sub (S' := fun b => SO S v b ∧ v'.ownBlock ≠ some b) hq (fun b hb hs => ⟨hs, fun e => by
      rcases hown with h | h
      · rw [h] at e; exact hs.2 e
      · rw [h] at e; injection e with e; omega⟩)
  exact ok.sub (ok.ck g1 (grown_ck hg fun b e hs => hs.1.2 e)) fun b _ hs => ⟨hs.1.1, hs.2⟩
end


theorem cutM {z : Int} {N : Nat} (h : z = (N : Int)) (hN : N ≤ 65536) : min (max z 0) 65536 = (N : Int) := by omega

set_option maxHeartbeats 2000000 in
theorem tNew_ok (L : Nat) (obj rss : List (List Rat)) (bs : List Rat) (S0 S1 S2 : Nat → Prop) (nv : Int) (a0 a1 a2 : Option Addr) (n0 c0 n c m d : Nat) (w : World) (ho : MA L S0 w a0 n0 c0 obj) (hx : MA L S1 w a1 n c rss) (hy : GA L S2 w a2 m d bs) (hbd : ValidP nv n0 n m obj rss → n ≤ 64) (hl1 : 1 ≤ L) (hL : 4 * L + 4 < LY) :
    Calls Try.prog 42 #[.agg #[.int .i64 nv, .slice a0 n0 c0, .slice a1 n c, .slice a2 m d]] w (fun e w' => Ext w w' ∧ ((¬ ValidP nv n0 n m obj rss ∧ e = .returned (.tuple #[.pointer none, .int .i64 1])) ∨ (ValidP nv n0 n m obj rss ∧ ∃ bw ag cg v pw, e = .returned (.tuple #[.pointer (some ⟨bw, 0, none⟩), .int .i64 0]) ∧ TS w.heap.size bw nv ag n0 cg (gridm (matI obj) n0 nv.toNat) v pw (newR rss bs nv.toNat n n) (newP nv.toNat n) w'))) := by
 have z0 := Ext.refl w; have hLX : LX = 17592186044416 := rfl; have hLY : LY = 8796093022208 := rfl
 have hLV : LV = 1099511627776 := rfl
 have l0 := ho.len; have l1 := hx.len; have l2 := hy.len; have hos : szR L obj := ho.rowsz hl1; have hrs : szR L rss := hx.rowsz hl1; have hbs := hy.szv hl1
 refine enter (args := [.agg #[.int .i64 nv, .slice a0 n0 c0, .slice a1 n c, .slice a2 m d]]) Try.func42 rfl rfl (Nat.le_of_ble_eq_true rfl) ?_
 refine V.seq (V.reg rfl ?_)
 refine vo ?_
 refine bxa rfl ?_
 intro W1 x2 b3 nn4
 have s5 := x2.sz
 have z6 := x2
 refine asp rfl ?_
 refine asi rfl ?_
 refine vnil ?_
 refine V.seq ?_
 refine V.seq (V.reg rfl ?_)
 refine vv (rldb4 rfl ag71 b3 rfl rfl rfl rfl ) ?_
 refine vo ?_
 refine xcall e67 (valid_ok L obj rss S0 S1 _ _ _ _ _ _ _ _ _ _ _ (ho.ext z6) (hx.ext z6)) rfl rfl ?_
 rintro _ Wv ⟨qv, rfl, xv, hqv⟩
 refine ⟨_, rfl, ?_⟩
 cases qv
 ·skip
  have s7 := xv.sz
  have z8 := z6.trans xv
  refine vv (rnot (q := true) rfl rfl) ?_
  refine vnil ?_
  refine V.condT rfl ?_
  refine V.seq (V.reg rfl ?_)
  refine asp rfl ?_
  refine asi rfl ?_
  refine vnil ?_
  refine V.ret ?_
  refine ⟨[.pointer _, .int _ _], ⟨rfl, rfl, trivial⟩, ?_⟩
  exact ⟨z8, .inl ⟨fun h => (by have := hqv.2 h; cases this), rfl⟩⟩
 ·skip
  have s9 := xv.sz
  have z10 := z6.trans xv
  replace b3 := b3.ext xv
  have hv := hqv.1 rfl
  have hn64 := hbd hv
  obtain ⟨⟨hv1, hv2, hv3, hv4, hv5, hv6⟩, hv7, hv8⟩ := id hv
  obtain ⟨Nn, rfl⟩ : ∃ Nn : Nat, nv = (Nn : Int) := ⟨nv.toNat, by omega⟩
  refine vv (rnot (q := false) rfl rfl) ?_
  refine vnil ?_
  refine V.condF rfl ?_
  refine V.skip ?_
  refine V.seq (V.reg rfl ?_)
  refine vv (rfa rfl fd71_2) ?_
  refine vv (rldb (v := .slice _ _ _) rfl sc25 b3 rfl) ?_
  refine vv (rlen sl25 rfl) ?_
  refine asi rfl ?_
  refine vnil ?_
  refine V.seq (V.regD mixed rfl ?_)
  intro W11 x12
  have s13 := x12.sz
  have z14 := z10.trans x12
  replace b3 := b3.ext x12
  have q15 := Ext.refl W11
  have r16 := b3
  refine tk 0 rfl (by kernel_rfl) q15 (pv (fun _ y17 => rfa rfl fd71_0)) ?_
  refine tk 1 rfl (by kernel_rfl) q15 (pv (fun _ y18 => rldb (v := .int _ _) rfl sc3 (r16.ext y18) rfl)) ?_
  refine tk 2 rfl (by kernel_rfl) q15 (pv (fun _ y19 => rfa rfl fd71_1)) ?_
  refine tk 3 rfl (by kernel_rfl) q15 (pv (fun _ y20 => rldb (v := .slice _ _ _) rfl sc25 (r16.ext y20) rfl)) ?_
  refine tk 4 rfl (by kernel_rfl) q15 (pv (fun _ y21 => rfa rfl fd71_1)) ?_
  refine tk 5 rfl (by kernel_rfl) q15 (pv (fun _ y22 => rldb (v := .slice _ _ _) rfl sc25 (r16.ext y22) rfl)) ?_
  refine tk 6 rfl (by kernel_rfl) q15 (pv (fun _ y23 => rlen sl25 rfl)) ?_
  refine tk 7 rfl (by kernel_rfl) q15 (pv (fun _ y24 => rfa rfl fd71_0)) ?_
  refine tk 8 rfl (by kernel_rfl) q15 (pv (fun _ y25 => rldb (v := .int _ _) rfl sc3 (r16.ext y25) rfl)) ?_
  refine ef 9 (by kernel_rfl) rfl ?_
  refine xcall e11 (mResize_ok _ _ _ _ _ n0 Nn L obj (fun b => W11.heap.size ≤ b) S0 _ (ho.ext z14) (by omega) (by omega) (by omega) hl1 (fun i k => hos.matI hl1 _ _) (fun b hb => by omega)) rfl rfl ?_
  rintro _ W26 ⟨ag, ng, cg, rfl, x27, hgl⟩
  have s28 := x27.sz
  have z29 := z14.trans x27
  replace b3 := b3.ext x27
  have q30 := q15.trans x27
  have hgll := hgl.len; rw [len_gridm] at hgll; obtain rfl : n0 = ng := by omega
  have hgl2 : MC (fun b => b < W26.heap.size) W26 ag n0 cg (gridm (matI obj) n0 Nn) := MG.sub okRowC hgl fun b hb _ => hb
  refine ⟨_, rfl, ?_⟩
  refine ⟨fun _ => q30, ?_⟩
  refine tk 10 rfl (by kernel_rfl) q30 (pv (fun _ y31 => rbd (ps := [(0, .int _ _), (1, .slice _ _ _)]) (cs := [.int _ _, .slice _ _ _, .slice _ _ _, .slice _ _ _]) pl96 rfl rfl)) ?_
  refine ef 11 (by kernel_rfl) rfl ?_
  refine bxa rfl ?_
  intro W32 x33 b34 nn35
  have s36 := x33.sz
  have z37 := z29.trans x33
  replace b3 := b3.ext x33
  have q38 := q30.trans x33
  refine ⟨fun _ => q38, ?_⟩
  refine tk 12 rfl (by kernel_rfl) q38 (pv (fun _ y39 => ras (v := .pointer (some ⟨_, _, none⟩)) rfl)) ?_
  refine dn (by kernel_rfl) ?_
  refine V.seq (V.regD mixed rfl ?_)
  intro W40 x41
  have s42 := x41.sz
  have z43 := z37.trans x41
  replace b3 := b3.ext x41
  replace b34 := b34.ext x41
  have q44 := Ext.refl W40
  have r45 := b3
  have r46 := b34
  refine tk 0 rfl (by kernel_rfl) q44 (pv (fun _ y47 => rfa rfl fd71_2)) ?_
  refine tk 1 rfl (by kernel_rfl) q44 (pv (fun _ y48 => rldb (v := .slice _ _ _) rfl sc25 (r45.ext y48) rfl)) ?_
  refine tk 2 rfl (by kernel_rfl) q44 (pv (fun _ y49 => rmv (v := .int _ _) rfl)) ?_
  refine tk 3 rfl (by kernel_rfl) q44 (pv (fun _ y50 => rfa rfl fd71_0)) ?_
  refine tk 4 rfl (by kernel_rfl) q44 (pv (fun _ y51 => rldb (v := .int _ _) rfl sc3 (r45.ext y51) rfl)) ?_
  refine tk 6 rfl (by kernel_rfl) q44 (pv (fun _ y52 => rmv (v := .int _ _) rfl)) ?_
  refine tk 9 rfl (by kernel_rfl) q44 (pv (fun _ y53 => rfa rfl fd71_3)) ?_
  refine tk 10 rfl (by kernel_rfl) q44 (pv (fun _ y54 => rldb (v := .slice _ _ _) rfl sc30 (r45.ext y54) rfl)) ?_
  refine tk 11 rfl (by kernel_rfl) q44 (pv (fun _ y55 => rmv (v := .int _ _) rfl)) ?_
  refine ef 5 (by kernel_rfl) rfl ?_
  refine xcall e11 (mResize_ok _ _ _ _ _ n Nn L rss (fun b => W40.heap.size ≤ b) S1 _ (hx.ext z43) (by omega) (by omega) (by omega) hl1 (fun i k => hrs.matI hl1 _ _) (fun b hb => by omega)) rfl rfl ?_
  rintro _ W56 ⟨_, nr, _, rfl, x57, hR1⟩
  have s58 := x57.sz
  have z59 := z43.trans x57
  replace b3 := b3.ext x57
  replace b34 := b34.ext x57
  have q60 := q44.trans x57
  have hR1l := hR1.len; rw [len_gridm] at hR1l; obtain rfl : n = nr := hR1l
  have hR1a := hR1.ma (L := L) (gridm_sz fun i k => hrs.matI hl1 _ _)
  have hR1c := colsN_rect_le (gridm_rect (matI rss) n Nn)
  refine ⟨_, rfl, ?_⟩
  refine ⟨fun _ => q60, ?_⟩
  refine ef 7 (by kernel_rfl) rfl ?_
  refine xcall e68 (mIdent_ok _ n (fun b => W40.heap.size ≤ b) _ (by omega) (fun b hb => by omega)) rfl rfl ?_
  rintro _ W61 ⟨_, ni, _, rfl, x62, hID⟩
  have s63 := x62.sz
  have z64 := z59.trans x62
  replace b3 := b3.ext x62
  replace b34 := b34.ext x62
  have q65 := q60.trans x62
  have hIDl := hID.len; rw [identm_len] at hIDl; obtain rfl : n = ni := hIDl
  have hIDa := hID.ma (identm_sz n)
  have hIDc := colsN_rect_le (identm_rect n)
  refine ⟨_, rfl, ?_⟩
  refine ⟨fun _ => q65, ?_⟩
  refine ef 8 (by kernel_rfl) rfl ?_
  refine xcall e22 (mConcat_ok _ _ _ _ _ _ L 1 (gridm (matI rss) n Nn) (identm n) (fun b => W40.heap.size ≤ b) _ _ _ (hR1a.ext x62) hIDa (by omega) hl1 (by omega) (by omega) (by omega) (by omega) (by omega) (fun b hb => by omega)) rfl rfl ?_
  rintro _ W66 ⟨_, nw, _, rfl, x67, hWB⟩
  have s68 := x67.sz
  have z69 := z64.trans x67
  replace b3 := b3.ext x67
  replace b34 := b34.ext x67
  have q70 := q65.trans x67
  replace hWB := hWB.cast (rss' := wideB rss Nn n) rfl
  have hWBl := hWB.len; rw [show (wideB rss Nn n).length = max n n from len_gridm _ _ _] at hWBl; obtain rfl : nw = max n n := hWBl.symm
  have hWBa := hWB.ma (L := L) (wideB_sz hrs hl1 Nn n)
  have hWBc : colsN (wideB rss Nn n) ≤ 1024 := Nat.le_trans (colsN_rect_le (gridm_rect _ _ _)) (by omega)
  refine ⟨_, rfl, ?_⟩
  refine ⟨fun _ => q70, ?_⟩
  refine ef 12 (by kernel_rfl) rfl ?_
  refine xcall e69 (vResize_ok _ _ _ _ n L bs (fun b => W40.heap.size ≤ b) S2 _ (hy.ext z69) (by omega) (by omega) hl1 (fun b hb => by omega)) rfl rfl ?_
  rintro _ W71 ⟨_, nb, _, rfl, x72, hVb⟩
  have s73 := x72.sz
  have z74 := z69.trans x72
  replace b3 := b3.ext x72
  replace b34 := b34.ext x72
  have q75 := q70.trans x72
  have hVbl := hVb.len; rw [resz_len] at hVbl; obtain rfl : n = nb := hVbl
  refine ⟨_, rfl, ?_⟩
  refine ⟨fun _ => q75, ?_⟩
  refine ef 13 (by kernel_rfl) rfl ?_
  refine xbs (ps := [(0, .slice _ _ _)]) (cs := [.slice _ _ _]) sl25 zr30 sz30 rfl rfl rfl rfl rfl rfl ?_
  intro W76 x77 b78 nn79
  have s80 := x77.sz
  have z81 := z74.trans x77
  replace b3 := b3.ext x77
  replace b34 := b34.ext x77
  have q82 := q75.trans x77
  refine ⟨fun _ => q82, ?_⟩
  refine ef 14 (by kernel_rfl) rfl ?_
  have hLt : MA L TT W76 (some ⟨W71.heap.size, 0, none⟩) 1 1 [resz bs n] := ⟨[[.slice _ _ _]], RS.lit (s := 1) (S := TT) (n := 1) _ b78 rfl (by simp) trivial rfl (by omega), ⟨_, _, _, rfl, (GC.va (hVb.ext x77) (resz_sz hbs hl1 n)).sub (fun _ _ _ => trivial)⟩, trivial⟩
  have hLtc : colsN [resz bs n] = n := by simp [colsN, resz_len]
  refine xcall e30 (mTr_ok _ _ _ L [resz bs n] (fun b => W40.heap.size ≤ b) TT _ hLt (by omega) hl1 (by omega) (by omega) (fun b hb => by omega)) rfl rfl ?_
  rintro _ W83 ⟨_, nt, _, rfl, x84, hSB⟩
  have s85 := x84.sz
  have z86 := z81.trans x84
  replace b3 := b3.ext x84
  replace b34 := b34.ext x84
  have q87 := q82.trans x84
  replace hSB := hSB.cast (rss' := sideB bs n) rfl
  have hSBl := hSB.len; rw [show (sideB bs n).length = colsN [resz bs n] from len_gridm _ _ _] at hSBl; obtain rfl : nt = colsN [resz bs n] := hSBl.symm
  have hSBa := hSB.ma (L := L) (sideB_sz hbs hl1 n)
  have hSBc : colsN (sideB bs n) ≤ 1024 := Nat.le_trans (colsN_rect_le (gridm_rect _ _ _)) (by omega)
  refine ⟨_, rfl, ?_⟩
  refine ⟨fun _ => q87, ?_⟩
  refine ef 15 (by kernel_rfl) rfl ?_
  refine xcall e22 (mConcat_ok _ _ _ _ _ _ L L (wideB rss Nn n) (sideB bs n) (fun b => W40.heap.size ≤ b) _ _ _ (hWBa.ext ((x72.trans x77).trans x84)) hSBa (by omega) hl1 (by omega) hl1 (by omega) (by omega) (by omega) (fun b hb => by omega)) rfl rfl ?_
  rintro _ W88 ⟨aa, na, ca, rfl, x89, hAL⟩
  have s90 := x89.sz
  have z91 := z86.trans x89
  replace b3 := b3.ext x89
  replace b34 := b34.ext x89
  have q92 := q87.trans x89
  replace hAL := hAL.cast (rss' := allB rss bs Nn n) rfl
  have hALl := hAL.len; rw [show (allB rss bs Nn n).length = max (max n n) (colsN [resz bs n]) from len_gridm _ _ _] at hALl
  refine ⟨_, rfl, ?_⟩
  refine ⟨fun _ => q92, ?_⟩
  refine tk 16 rfl (by kernel_rfl) q92 (pv (fun _ y93 => ras (v := .slice _ _ _) rfl)) ?_
  refine dn (by kernel_rfl) ?_
  refine V.seq ?_
  refine V.seq (V.reg rfl ?_)
  refine mvi rfl ?_
  refine mvi rfl ?_
  refine vnil ?_
  refine V.block ?_
  have zL := z91; have szL := zL.sz; have b1L := b3; have bwL := b34; have lb1L := b1L.lt; have lbwL := bwL.lt
  have hALs : MC (fun b => b < W88.heap.size ∧ b ≠ W26.heap.size) W88 aa na ca (allB rss bs Nn n) := MG.sub okRowC hAL fun b hb hs => ⟨hb, by omega⟩
  have hTS0 : TS w.heap.size (W26.heap.size) (Nn : Int) ag n0 cg (gridm (matI obj) n0 Nn) (.slice none 0 0) (.slice none 0 0) [] [] W88 := ⟨bwL, GO.nil _ _, OI.nil .i64 _ _ _, MG.sub okRowC (hgl2.ext ((((((((x33.trans x41).trans x57).trans x62).trans x67).trans x72).trans x77).trans x84).trans x89)) fun b hb hs => ⟨by omega, by simp [Value.ownBlock], by simp [Value.ownBlock]⟩, by omega⟩
  refine V.loopK (ι := Nat × Value × Value) [(1, .pointer (some ⟨_, _, none⟩)), (4, .int _ _), (5, .pointer (some ⟨_, _, none⟩)), (6, .slice _ _ _), (42, .int _ _)] (fun ⟨i, v, pw⟩ => [(43, .int .i64 (i : Int))]) (fun ⟨i, v, pw⟩ W => i ≤ n ∧ TS w.heap.size (W26.heap.size) (Nn : Int) ag n0 cg (gridm (matI obj) n0 Nn) v pw (newR rss bs Nn n i) (newP Nn i) W ∧ KD (fun b => b < W88.heap.size ∧ b ≠ W26.heap.size) W88 W ∧ (∀ b, v.ownBlock = some b → W88.heap.size ≤ b) ∧ (∀ b, pw.ownBlock = some b → W88.heap.size ≤ b)) (fun ⟨i, v, pw⟩ => n - i) ((0, _, _)) ⟨rfl, rfl, rfl, rfl, rfl, trivial⟩ ⟨rfl, trivial⟩ ⟨Nat.zero_le _, hTS0, KD.refl _ _, (fun b e => by simp [Value.ownBlock] at e), (fun b e => by simp [Value.ownBlock] at e)⟩ ?_
  intro i95 E96 W94 h97
  obtain ⟨i, v, pw⟩ := i95
  simp only at h97
  show V _ _ _ _ _ _ (ups (ups _ _) [(43, .int .i64 (i : Int))]) _
  obtain ⟨hi, hK, hkd, hov, hop⟩ := h97
  have hxK := hK.x; have szk := hkd.size; have b1k := b1L.kd hkd ⟨by omega, by omega⟩; have zz := Ext.refl W94; have hpl := newP_len Nn i; have hrl := newR_len rss bs Nn n i; have lxK := hxK.lt
  refine V.seq (V.reg rfl ?_)
  refine vlt rfl rfl ?_ ?_
  ·intro c98
   refine vnil ?_
   refine V.seq ?_
   refine V.condT rfl ?_
   refine V.skip ?_
   refine V.seq ?_
   refine V.block ?_
   refine V.seq (V.reg rfl ?_)
   refine mvi rfl ?_
   refine asi rfl ?_
   refine vnil ?_
   refine V.seq (V.regB [10, 13] mixed rfl ?_)
   intro W99 x100
   have s101 := x100.sz
   have z102 := x100
   replace hxK := hxK.ext x100
   replace b1k := b1k.ext x100
   have q103 := Ext.refl W99
   have r104 := hxK
   have r105 := b1k
   refine tkP 0 rfl (by kernel_rfl) (by kernel_rfl) (fun _ => q103) (pv (fun _ _ => rmv (v := .pointer (some ⟨_, _, none⟩)) rfl)) ?_
   refine tkP 1 rfl (by kernel_rfl) (by kernel_rfl) (fun _ => q103) (pv (fun _ _ => rmv (v := .pointer (some ⟨_, _, none⟩)) rfl)) ?_
   refine tkP 2 rfl (by kernel_rfl) (by kernel_rfl) (fun _ => q103) (pv (fun _ _ => rnc (v := .pointer (some ⟨_, _, none⟩)) rfl rfl)) ?_
   refine tkP 3 rfl (by kernel_rfl) (by kernel_rfl) (fun _ => q103) (pv (fun _ _ => rfa rfl fd96_2)) ?_
   refine tkB 4 rfl (by kernel_rfl) q103 (pv (fun _ y110 => rldb (v := pw) rfl sc74 (r104.ext y110) rfl)) ?_
   refine tkP 5 rfl (by kernel_rfl) (by kernel_rfl) (fun _ => q103) (pv (fun _ _ => rfa rfl fd71_0)) ?_
   refine tkZ [8, 9, 10, 11, 12, 13] 6 rfl (by kernel_rfl) q103 (pv (fun _ y112 => rldb (v := .int _ _) rfl sc3 (r105.ext y112) rfl)) ?_
   refine tkP 7 rfl (by kernel_rfl) (by kernel_rfl) (fun _ => q103) (pv (fun _ _ => rmv (v := .int _ _) rfl)) ?_
   refine tkP 8 rfl (by kernel_rfl) (by kernel_rfl) (fun _ => q103) (pv (fun _ _ => rbin (bAdd (wi (by omega))) rfl rfl)) ?_
   refine efB 9 (by kernel_rfl) rfl ?_
   refine xbs (ps := [(0, .int _ _)]) (cs := [.int _ _]) sl74 zr3 sz3 rfl rfl rfl rfl rfl rfl ?_
   intro W115 x116 b117 nn118
   have s119 := x116.sz
   have z120 := z102.trans x116
   replace hxK := hxK.ext x116
   have q121 := q103.trans x116
   refine ⟨fun _ => q121, ?_⟩
   refine efB 10 (by kernel_rfl) rfl ?_
   have hSa := hK.ext z120
   refine xapp sl74 in3 hSa.p rfl rfl b117 (by simp only [kb]; omega) (by omega) (by decide) (by omega) ?_
   intro va Wa hO hg ho
   obtain ⟨ap2, cp2, rfl⟩ := hO.form
   have hxa := hSa.x.ck (S := fun q => pw.ownBlock ≠ some q) (grown_ck hg fun b e h => h e) hSa.pb
   have hos := (KB.grown hSa.p hg (Nat.zero_le _) (Nat.zero_le _)).below
   refine notW (by kernel_rfl) ?_
   refine tkP 11 rfl (by kernel_rfl) (by kernel_rfl) (notWf (by kernel_rfl)) (pv (fun _ _ => rnc (v := .pointer (some ⟨_, _, none⟩)) rfl rfl)) ?_
   refine tkP 12 rfl (by kernel_rfl) (by kernel_rfl) (notWf (by kernel_rfl)) (pv (fun _ _ => rfa rfl fd96_2)) ?_
   refine efB 13 (by kernel_rfl) rfl ?_
   refine st1 (v := .slice _ _ _) (cs' := [_, _, _, _]) hxa rfl rfl sz74 rfl rfl rfl rfl ?_
   intro Wb yb hxb
   obtain ⟨hSb, kdb⟩ := hSa.push hO hg ho hos yb hxb
   have hkb : KD (fun b => b < W88.heap.size ∧ b ≠ W26.heap.size) W88 Wb := (hkd.trans (Ext.kd z120)).trans (kdb.mono fun q hq => ⟨hq.2, fun e => by have := hov q e; omega, fun e => by have := hop q e; omega⟩)
   have hop2 : ∀ b, (Value.slice ap2 (newP Nn i ++ [(Nn : Int) + (i : Int)]).length cp2).ownBlock = some b → W88.heap.size ≤ b := fun b e => by
    rcases ho with h | h
    ·exact hop b (h ▸ e)
    ·rw [h] at e; injection e with e; omega
   have skb := hkb.size; have hxB := hSb.x; have b1b := b1L.kd hkb ⟨by omega, by omega⟩; have zb := Ext.refl Wb; have hAb : MC (fun q => q < W88.heap.size) Wb aa na ca (allB rss bs Nn n) := MG.sub okRowC (MG.ck okRowC hALs hkb.ck) fun _ _ h => h.1
   obtain ⟨ra0, rk0, rc0, cb0, hg0⟩ := MG.elB hAb (i := (i : Int)) (by omega) (by omega)
   have hga0 := hg0.va ((allB_sz hrs hbs hl1 Nn n).row _)
   refine notW (by kernel_rfl) ?_
   refine dnB (by kernel_rfl) ?_
   refine V.regB [16, 19] mixed rfl ?_
   intro W124 x125
   have s126 := x125.sz
   have z127 := x125
   replace hxB := hxB.ext x125
   replace b1b := b1b.ext x125
   have q128 := Ext.refl W124
   have r129 := hxB
   have r130 := b1b
   refine tkP 0 rfl (by kernel_rfl) (by kernel_rfl) (fun _ => q128) (pv (fun _ _ => rmv (v := .pointer (some ⟨_, _, none⟩)) rfl)) ?_
   refine tkP 1 rfl (by kernel_rfl) (by kernel_rfl) (fun _ => q128) (pv (fun _ _ => rmv (v := .pointer (some ⟨_, _, none⟩)) rfl)) ?_
   refine tkP 2 rfl (by kernel_rfl) (by kernel_rfl) (fun _ => q128) (pv (fun _ _ => rnc (v := .pointer (some ⟨_, _, none⟩)) rfl rfl)) ?_
   refine tkP 3 rfl (by kernel_rfl) (by kernel_rfl) (fun _ => q128) (pv (fun _ _ => rfa rfl fd96_3)) ?_
   refine tkB 4 rfl (by kernel_rfl) q128 (pv (fun _ y135 => rldb (v := v) rfl sc25 (r129.ext y135) rfl)) ?_
   refine tkP 5 rfl (by kernel_rfl) (by kernel_rfl) (fun _ => q128) (pv (fun _ _ => rmv (v := .slice _ _ _) rfl)) ?_
   refine tkP 6 rfl (by kernel_rfl) (by kernel_rfl) (fun _ => q128) (pv (fun _ _ => rmv (v := .int _ _) rfl)) ?_
   refine tkP 7 rfl (by kernel_rfl) (by kernel_rfl) (fun _ => q128) (pv (fun _ _ => rix sl25 sz30 rfl rfl (by omega) (by omega) ((hAb.ext z127).isS (i := 0) (by omega) (by omega)))) ?_
   refine tkZ [14, 15, 16, 17, 18, 19] 8 rfl (by kernel_rfl) q128 (pv (fun _ y139 => rld1 (v := .slice _ _ _) rfl sc30 (CB.c1 ((cb0.ext z127).ext y139)))) ?_
   refine tkP 9 rfl (by kernel_rfl) (by kernel_rfl) (fun _ => q128) (pv (fun _ _ => rfa rfl fd71_0)) ?_
   refine tkZ [12, 13, 14, 15, 16, 17, 18, 19] 10 rfl (by kernel_rfl) q128 (pv (fun _ y141 => rldb (v := .int _ _) rfl sc3 (r130.ext y141) rfl)) ?_
   refine tkP 11 rfl (by kernel_rfl) (by kernel_rfl) (fun _ => q128) (pv (fun _ _ => rmv (v := .int _ _) rfl)) ?_
   refine tkP 12 rfl (by kernel_rfl) (by kernel_rfl) (fun _ => q128) (pv (fun _ _ => rbin (bAdd (wi (by omega))) rfl rfl)) ?_
   refine tkP 13 rfl (by kernel_rfl) (by kernel_rfl) (fun _ => q128) (pv (fun _ _ => rbin (bAdd (wi (by omega))) rfl rfl)) ?_
   refine efB 14 (by kernel_rfl) rfl ?_
   refine xcall e69 (vResize_ok _ _ _ _ (Nn + n + 1) L (rowat (allB rss bs Nn n) ((i : Int)).toNat) (SO (XS w.heap.size (W26.heap.size) (Value.slice ap2 (newP Nn i ++ [(Nn : Int) + (i : Int)]).length cp2)) v) _ _ (hga0.ext z127) (cutM (by omega) (by omega)) (by omega) hl1 (hSb.ext z127).up) rfl rfl ?_
   rintro _ W145 ⟨_, _, _, rfl, x146, hvr⟩
   have s147 := x146.sz
   have z148 := z127.trans x146
   replace hxB := hxB.ext x146
   have q149 := q128.trans x146
   refine ⟨_, rfl, ?_⟩
   refine ⟨fun _ => q149, ?_⟩
   refine efB 15 (by kernel_rfl) rfl ?_
   refine xbs (ps := [(0, .slice _ _ _)]) (cs := [.slice _ _ _]) sl25 zr30 sz30 rfl rfl rfl rfl rfl rfl ?_
   intro W150 x151 b152 nn153
   have s154 := x151.sz
   have z155 := z148.trans x151
   replace hxB := hxB.ext x151
   have q156 := q149.trans x151
   refine ⟨fun _ => q156, ?_⟩
   refine efB 16 (by kernel_rfl) rfl ?_
   have hSc := hSb.ext z155
   refine xappGo okRowC sl25 in30 rfl rfl hSc.g rfl rfl b152 rfl rfl (⟨_, _, _, rfl, (hvr.ext x151)⟩ : RowOf GC _ _ _ _) (by omega) (by decide) (by omega) ?_
   intro v2 Wc hG2 hg2 ho2 hb2
   obtain ⟨av2, cv2, rfl⟩ := hG2.form
   have hxc := hSc.x.ck (S := fun q => v.ownBlock ≠ some q) (grown_ck hg2 fun b e h => h e) hSc.vb
   refine notW (by kernel_rfl) ?_
   refine tkP 17 rfl (by kernel_rfl) (by kernel_rfl) (notWf (by kernel_rfl)) (pv (fun _ _ => rnc (v := .pointer (some ⟨_, _, none⟩)) rfl rfl)) ?_
   refine tkP 18 rfl (by kernel_rfl) (by kernel_rfl) (notWf (by kernel_rfl)) (pv (fun _ _ => rfa rfl fd96_3)) ?_
   refine efB 19 (by kernel_rfl) rfl ?_
   refine st1 (v := .slice _ _ _) (cs' := [_, _, _, _]) hxc rfl rfl sz25 rfl rfl rfl rfl ?_
   intro Wd yd hxd
   obtain ⟨hSd, kdd⟩ := hSc.pushR hG2 hg2 ho2 (hb2.below.mono (Nat.zero_le _)) yd hxd
   refine notW (by kernel_rfl) ?_
   refine dnB (by kernel_rfl) ?_
   refine V.reg rfl ?_
   refine vv (rbin (bAdd (wi (by omega))) rfl rfl) ?_
   refine mvi rfl ?_
   refine vnil ?_
   refine ⟨rfl, (i + 1, _, _), ⟨rfl, rfl, rfl, rfl, rfl, trivial⟩, ⟨rfl, trivial⟩, ⟨by omega, (by rw [newR_succ, newP_succ]; exact hSd), (hkb.trans (Ext.kd z155)).trans (kdd.mono fun q hq => ⟨hq.2, fun e => by have := hov q e; omega, fun e => by have := hop2 q e; omega⟩), (fun b e => by
    rcases ho2 with h | h
    ·exact hov b (h ▸ e)
    ·rw [h] at e; injection e with e; omega), hop2⟩, ?_⟩
   show n - (i + 1) < n - i
   omega
  ·intro c98
   refine vnil ?_
   refine V.seq ?_
   refine V.condF rfl ?_
   refine V.exit ?_
   refine V.seq (V.reg rfl ?_)
   refine mvp rfl ?_
   refine asp rfl ?_
   refine asi rfl ?_
   refine vnil ?_
   refine V.ret ?_
   refine ⟨[.pointer (some ⟨_, _, none⟩), .int _ _], ⟨rfl, rfl, trivial⟩, ?_⟩
   have ei : i = n := by omega
   subst ei
   exact ⟨Ext.trans (KD.low zL hkd (fun q hq => ⟨by omega, by omega⟩) (by omega)) zz, .inr ⟨hv, _, _, _, _, _, rfl, hK.ext zz⟩⟩
end Go.Proofs.Ytknbjfefeeojlaa
/- Package tableau: what its methods do, for a tableau in the store; laws 06 and 07: the examples. -/
namespace Go.Proofs.Ytknbjfefeeojlaa
open Go.RowKit
attribute [local irreducible] RV VH V OpF Calls
/-- The sizes of a tableau. -/
structure TF (Nn M L0 L1 : Nat) (goals rows : List (List Rat)) (piv : List Int) : Prop where
  hNb : Nn ≤ 64
  hng : goals.length ≤ 64
  hn : rows.length ≤ 64
  hnp : piv.length = rows.length
  hM : Nn + rows.length = M
  hgr : ∀ r ∈ goals, r.length = Nn
  hrr : ∀ r ∈ rows, r.length = M + 1
  hpn : ∀ t : Nat, t < piv.length → 0 ≤ wd piv t
  hgs : szR L0 goals
  hrs : szR L1 rows
  h0 : 1 ≤ L0
  h1 : 1 ≤ L1
  hL : (L1 + L0 + 1) * 200 + 100 < LY
section
variable {B bw ng cg Nn M L0 L1 : Nat} {ag : Option Addr} {v pw : Value} {goals rows : List (List Rat)} {piv : List Int} {w : World} {S : Nat → Prop}
theorem TS.cast {rows' : List (List Rat)} {piv' : List Int} {goals' : List (List Rat)} {N : Int} (h : TS B bw N ag ng cg goals v pw rows piv w) (e1 : goals = goals') (e2 : rows = rows') (e3 : piv = piv') : TS B bw N ag ng cg goals' v pw rows' piv' w := by subst e1 e2 e3; exact h
theorem TS.kqB {N : Int} (h : TS B bw N ag ng cg goals v pw rows piv w) {b : Nat} (hb : b < B) : KQ bw v pw b := ⟨by have := h.hB; omega, fun e => by have := (h.vlow b e).1; omega, fun e => by have := (h.p.low b e).1; omega⟩
theorem TS.gn (h : TS B bw (Nn : Int) ag ng cg goals v pw rows piv w) : goals.length = ng := MG.len h.m
theorem TS.basis (h : TS B bw (Nn : Int) ag ng cg goals v pw rows piv w) (f : TF Nn M L0 L1 goals rows piv) (hu : Up S w) : Calls Try.prog 45 #[.pointer (some ⟨bw, 0, none⟩)] w fun e w' => ∃ k cc, e = .returned (.slice k piv.length cc) ∧ Ext w w' ∧ RN .i64 S w' k piv.length cc piv := by
  obtain ⟨av, cv, rfl⟩ := h.g.form; obtain ⟨ap, cp, rfl⟩ := h.p.form
  exact tBasis_ok bw _ _ _ _ _ _ _ _ _ _ piv S TT w h.x (h.pn rfl) (by have := f.hn; have := f.hnp; omega) hu
theorem TS.rhs (h : TS B bw (Nn : Int) ag ng cg goals v pw rows piv w) (f : TF Nn M L0 L1 goals rows piv) (hu : Up S w) : Calls Try.prog 46 #[.pointer (some ⟨bw, 0, none⟩)] w fun e w' => ∃ ra rk rc, e = .returned (.slice ra rk rc) ∧ Ext w w' ∧ GC S w' ra rk rc (rows.map fun r => vat r M) := by
  obtain ⟨av, cv, rfl⟩ := h.g.form; obtain ⟨ap, cp, rfl⟩ := h.p.form
  have := f.hNb; have := f.hn; have := f.hM; have hL := f.hL
  exact tRHS_ok bw _ _ _ _ _ _ _ _ _ _ w h.x M L1 rows S TT (MC.ma (h.mc rfl) f.hrs) (by omega) (by omega) (by omega) f.hrr (by omega) f.h1 hu
theorem TS.feas (h : TS B bw (Nn : Int) ag ng cg goals v pw rows piv w) (f : TF Nn M L0 L1 goals rows piv) : Calls Try.prog 52 #[.pointer (some ⟨bw, 0, none⟩)] w fun e w' => ∃ q, e = .returned (.bool q) ∧ Ext w w' ∧ (q = true ↔ nonneg (rows.map fun r => vat r M)) := by
  obtain ⟨av, cv, rfl⟩ := h.g.form; obtain ⟨ap, cp, rfl⟩ := h.p.form
  have := f.hNb; have := f.hn; have := f.hM; have hL := f.hL
  exact tFeas_ok bw _ _ _ _ _ _ _ _ _ _ w h.x M L1 rows TT (MC.ma (h.mc rfl) f.hrs) (by omega) (by omega) (by omega) f.hrr (by omega) f.h1
theorem TS.cost (h : TS B bw (Nn : Int) ag ng cg goals v pw rows piv w) (f : TF Nn M L0 L1 goals rows piv) (hu : Up S w) (kc : Int) (h0 : 0 ≤ kc) (h1 : kc < M) : Calls Try.prog 47 #[.pointer (some ⟨bw, 0, none⟩), .int .i64 kc] w fun e w' => ∃ ra rk rc, e = .returned (.slice ra rk rc) ∧ Ext w w' ∧ GC S w' ra rk rc (rcost goals ng Nn rows piv kc.toNat) := by
  have hg := h.gn
  obtain ⟨av, cv, rfl⟩ := h.g.form; obtain ⟨ap, cp, rfl⟩ := h.p.form
  exact tCost_ok bw _ _ _ _ _ _ _ _ _ _ Nn M L0 L1 goals rows piv S (KQ bw (.slice av rows.length cv) (.slice ap piv.length cp)) TT TT w h.x (MC.ma h.m f.hgs) (MC.ma (h.mc rfl) f.hrs) (h.pn rfl) rfl f.hNb (hg ▸ f.hng) f.hn f.hnp f.hM f.hgr f.hrr f.hpn f.h0 f.h1 f.hL hu kc h0 h1
theorem TS.val (h : TS B bw (Nn : Int) ag ng cg goals v pw rows piv w) (f : TF Nn M L0 L1 goals rows piv) (hu : Up S w) : Calls Try.prog 49 #[.pointer (some ⟨bw, 0, none⟩)] w fun e w' => ∃ ra rk rc, e = .returned (.slice ra rk rc) ∧ Ext w w' ∧ GC S w' ra rk rc (tval goals ng Nn rows piv M) := by
  have hg := h.gn
  obtain ⟨av, cv, rfl⟩ := h.g.form; obtain ⟨ap, cp, rfl⟩ := h.p.form
  exact tVal_ok bw _ _ _ _ _ _ _ _ _ _ Nn M L0 L1 goals rows piv S (KQ bw (.slice av rows.length cv) (.slice ap piv.length cp)) TT TT w h.x (MC.ma h.m f.hgs) (MC.ma (h.mc rfl) f.hrs) (h.pn rfl) rfl f.hNb (hg ▸ f.hng) f.hn f.hnp f.hM f.hgr f.hrr f.hpn f.h0 f.h1 f.hL hu
theorem TS.sol (h : TS B bw (Nn : Int) ag ng cg goals v pw rows piv w) (f : TF Nn M L0 L1 goals rows piv) (hu : Up S w) : Calls Try.prog 51 #[.pointer (some ⟨bw, 0, none⟩)] w fun e w' => ∃ ra rk rc, e = .returned (.slice ra rk rc) ∧ Ext w w' ∧ GC S w' ra rk rc (solT rows piv Nn M piv.length) := by
  have hg := h.gn
  obtain ⟨av, cv, rfl⟩ := h.g.form; obtain ⟨ap, cp, rfl⟩ := h.p.form
  exact tSol_ok bw _ _ _ _ _ _ _ _ _ _ Nn M L0 L1 goals rows piv S (KQ bw (.slice av rows.length cv) (.slice ap piv.length cp)) TT TT w h.x (MC.ma h.m f.hgs) (MC.ma (h.mc rfl) f.hrs) (h.pn rfl) rfl f.hNb (hg ▸ f.hng) f.hn f.hnp f.hM f.hgr f.hrr f.hpn f.h0 f.h1 f.hL hu
theorem TS.opt (h : TS B bw (Nn : Int) ag ng cg goals v pw rows piv w) (f : TF Nn M L0 L1 goals rows piv) : Calls Try.prog 50 #[.pointer (some ⟨bw, 0, none⟩)] w fun e w' => ∃ q, e = .returned (.bool q) ∧ Ext w w' ∧ (q = true ↔ ∀ k, k < M → lexnn (rcost goals ng Nn rows piv k)) := by
  have hg := h.gn
  obtain ⟨av, cv, rfl⟩ := h.g.form; obtain ⟨ap, cp, rfl⟩ := h.p.form
  exact tOpt_ok bw _ _ _ _ _ _ _ _ _ _ Nn M L0 L1 goals rows piv (KQ bw (.slice av rows.length cv) (.slice ap piv.length cp)) TT TT w h.x (MC.ma h.m f.hgs) (MC.ma (h.mc rfl) f.hrs) (h.pn rfl) rfl f.hNb (hg ▸ f.hng) f.hn f.hnp f.hM f.hgr f.hrr f.hpn f.h0 f.h1 f.hL
theorem TS.pivC (h : TS B bw (Nn : Int) ag ng cg goals v pw rows piv w) (f : TF Nn M L0 L1 goals rows piv) (row col : Int) (hr : kb .i64 row) (hc : kb .i64 col) : Calls Try.prog 48 #[.pointer (some ⟨bw, 0, none⟩), .int .i64 row, .int .i64 col] w fun e w' => ∃ er : Int, e = .returned (.int .i64 er) ∧ (er = 0 ↔ pivOK rows piv M row col) ∧ TS B bw (Nn : Int) ag ng cg goals v pw (pivR rows piv M row col) (pivP rows piv M row col) w' ∧ KD (KQ bw v pw) w w' := by
  have := f.hNb; have := f.hn; have := f.hM; have hL := f.hL
  exact tPivot_ok B bw _ ag ng cg goals v pw rows piv M L1 w h (by omega) (by omega) (by omega) f.hrr f.hnp f.hrs f.h1 (by omega) row col hr hc
end
/-! ### What can be decided -/
def lexB : List Rat → Bool
  | [] => true
  | x :: xs => if x = 0 then lexB xs else decide (0 ≤ x)
theorem lexB_iff : ∀ v : List Rat, lexB v = true ↔ lexnn v
  | [] => ⟨fun _ i _ => by rw [vat_ge (Nat.zero_le _)]; exact Rat.le_refl, fun _ => rfl⟩
  | x :: xs => by
    have h0 : vat (x :: xs) 0 = x := rfl
    have hs : ∀ j, vat (x :: xs) (j + 1) = vat xs j := fun j => rfl
    unfold lexB
    by_cases h : x = 0
    · rw [if_pos h, lexB_iff xs]
      constructor
      · intro h1 i hi
        cases i with
        | zero => rw [h0, h]; exact Rat.le_refl
        | succ i => rw [hs]; exact h1 i fun j hj => by rw [← hs]; exact hi (j + 1) (by omega)
      · intro h1 i hi
        rw [← hs]
        refine h1 (i + 1) fun j hj => ?_
        cases j with
        | zero => rw [h0, h]
        | succ j => rw [hs]; exact hi j (by omega)
    · rw [if_neg h, decide_eq_true_eq]
      constructor
      · intro h1 i hi
        cases i with
        | zero => rw [h0]; exact h1
        | succ i => exact absurd (hi 0 (by omega)) (by rw [h0]; exact h)
      · intro h1
        have := h1 0 (fun j hj => absurd hj (Nat.not_lt_zero _))
        rwa [h0] at this
def optB (goals : List (List Rat)) (ng N : Nat) (rows : List (List Rat)) (piv : List Int) (M : Nat) : Bool := (List.range M).all fun k => lexB (rcost goals ng N rows piv k)
theorem optB_iff (goals : List (List Rat)) (ng N : Nat) (rows : List (List Rat)) (piv : List Int) (M : Nat) : optB goals ng N rows piv M = true ↔ ∀ k, k < M → lexnn (rcost goals ng N rows piv k) := by
  unfold optB
  rw [List.all_eq_true]
  exact ⟨fun h k hk => (lexB_iff _).1 (h k (by simpa using hk)), fun h k hk => (lexB_iff _).2 (h k (by simpa using hk))⟩
theorem nonneg_dec {xs : List Rat} (h : xs.all (fun x => decide (0 ≤ x)) = true) : nonneg xs := fun i hi => by
  rcases Nat.lt_or_ge i xs.length with h1 | h1
  · have := List.all_eq_true.1 h _ (List.getElem_mem h1)
    rw [decide_eq_true_eq] at this
    rw [vat_lt h1] at hi
    exact absurd this (by grind)
  · rw [vat_ge h1] at hi; exact absurd hi (by decide)

set_option maxHeartbeats 400000 in
theorem small06_ok (w : World) :
    Calls Try.prog 43 #[] w (fun e w' => ∃ a0 c0 a1 c1 a2 c2, e = .returned (.agg #[.int .i64 2, .slice a0 1 c0, .slice a1 3 c1, .slice a2 3 c2]) ∧ Ext w w' ∧ MC TT w' a0 1 c0 [[3, 5]] ∧ MC TT w' a1 3 c1 [[1, 0], [0, 2], [3, 2]] ∧ GC TT w' a2 3 c2 [4, 12, 18]) := by
 have z0 := Ext.refl w; have hLX : LX = 17592186044416 := rfl; have hLY : LY = 8796093022208 := rfl
 have hLV : LV = 1099511627776 := rfl
 refine enter (args := []) Try.func43 rfl rfl (Nat.le_of_ble_eq_true rfl) ?_
 refine V.seq (V.reg rfl ?_)
 refine vo ?_
 refine xal zc71 ?_
 intro W1 x2 b3 nn4
 have s5 := x2.sz
 have z6 := x2
 refine vnil ?_
 refine V.seq (V.reg rfl ?_)
 refine vo ?_
 refine xbs (ps := [(0, .int _ _), (1, .int _ _)]) (cs := [.int _ _, .int _ _]) sl49 zr2 sz2 rfl rfl rfl rfl rfl rfl ?_
 intro W7 x8 b9 nn10
 have s11 := x8.sz
 have z12 := z6.trans x8
 replace b3 := b3.ext x8
 refine vo ?_
 refine xbs (ps := [(0, .slice _ _ _)]) (cs := [.slice _ _ _]) sl23 zr49 sz49 rfl rfl rfl rfl rfl rfl ?_
 intro W13 x14 b15 nn16
 have s17 := x14.sz
 have z18 := z12.trans x14
 replace b3 := b3.ext x14
 replace b9 := b9.ext x14
 refine vo ?_
 have hl19 := RN.lit (k := .i64) (xs := [_, _]) 2 b9 (by intro q hq; simp only [List.mem_cons, List.not_mem_nil, or_false] at hq; simp only [kb]; omega) (TT.up W1 _ (Nat.le_refl _))
 have hm20 : MI TT W13 (some ⟨W7.heap.size, 0, none⟩) 1 1 [[3, 5]] := ⟨[[.slice _ _ _]], RS.lit (S := TT) _ b15 rfl (by simp) trivial rfl (by omega), ⟨_, _, _, rfl, hl19⟩, trivial⟩
 refine xcall e10 (mFrom_ok _ _ _ [[3, 5]] (SX TT [w.heap.size]) TT _ hm20 (by omega) (by intro r hr; simp at hr; rcases hr with rfl <;> simp <;> omega) (SX.up (TT.up _) (by simp; omega))) rfl rfl ?_
 rintro _ W23 ⟨_, rn22, _, rfl, x24, hv21⟩
 have s25 := x24.sz
 have z26 := z18.trans x24
 replace b3 := b3.ext x24
 obtain rfl : rn22 = 1 := by have := hv21.len; simpa using this.symm
 replace hv21 := hv21.cast (rss' := ([[3, 5]] : List (List Rat))) (by rfl)
 refine ⟨_, rfl, ?_⟩
 refine vo ?_
 refine xbs (ps := [(0, .int _ _), (1, .int _ _)]) (cs := [.int _ _, .int _ _]) sl49 zr2 sz2 rfl rfl rfl rfl rfl rfl ?_
 intro W27 x28 b29 nn30
 have s31 := x28.sz
 have z32 := z26.trans x28
 replace b3 := b3.ext x28
 refine vo ?_
 refine xbs (ps := [(0, .int _ _), (1, .int _ _)]) (cs := [.int _ _, .int _ _]) sl49 zr2 sz2 rfl rfl rfl rfl rfl rfl ?_
 intro W33 x34 b35 nn36
 have s37 := x34.sz
 have z38 := z32.trans x34
 replace b3 := b3.ext x34
 replace b29 := b29.ext x34
 refine vo ?_
 refine xbs (ps := [(0, .int _ _), (1, .int _ _)]) (cs := [.int _ _, .int _ _]) sl49 zr2 sz2 rfl rfl rfl rfl rfl rfl ?_
 intro W39 x40 b41 nn42
 have s43 := x40.sz
 have z44 := z38.trans x40
 replace b3 := b3.ext x40
 replace b29 := b29.ext x40
 replace b35 := b35.ext x40
 refine vo ?_
 refine xbs (ps := [(0, .slice _ _ _), (1, .slice _ _ _), (2, .slice _ _ _)]) (cs := [.slice _ _ _, .slice _ _ _, .slice _ _ _]) sl23 zr49 sz49 rfl rfl rfl rfl rfl rfl ?_
 intro W45 x46 b47 nn48
 have s49 := x46.sz
 have z50 := z44.trans x46
 replace b3 := b3.ext x46
 replace b29 := b29.ext x46
 replace b35 := b35.ext x46
 replace b41 := b41.ext x46
 refine vo ?_
 have hl51 := RN.lit (k := .i64) (xs := [_, _]) 2 b29 (by intro q hq; simp only [List.mem_cons, List.not_mem_nil, or_false] at hq; simp only [kb]; omega) (TT.up W23 _ (Nat.le_refl _))
 have hl52 := RN.lit (k := .i64) (xs := [_, _]) 2 b35 (by intro q hq; simp only [List.mem_cons, List.not_mem_nil, or_false] at hq; simp only [kb]; omega) (TT.up W27 _ (Nat.le_refl _))
 have hl53 := RN.lit (k := .i64) (xs := [_, _]) 2 b41 (by intro q hq; simp only [List.mem_cons, List.not_mem_nil, or_false] at hq; simp only [kb]; omega) (TT.up W33 _ (Nat.le_refl _))
 have hm54 : MI TT W45 (some ⟨W39.heap.size, 0, none⟩) 3 3 [[1, 0], [0, 2], [3, 2]] := ⟨[[.slice _ _ _], [.slice _ _ _], [.slice _ _ _]], RS.lit (S := TT) _ b47 rfl (by simp) trivial rfl (by omega), ⟨_, _, _, rfl, hl51⟩, ⟨_, _, _, rfl, hl52⟩, ⟨_, _, _, rfl, hl53⟩, trivial⟩
 refine xcall e10 (mFrom_ok _ _ _ [[1, 0], [0, 2], [3, 2]] (SX TT [w.heap.size]) TT _ hm54 (by omega) (by intro r hr; simp at hr; rcases hr with rfl | rfl | rfl <;> simp <;> omega) (SX.up (TT.up _) (by simp; omega))) rfl rfl ?_
 rintro _ W57 ⟨_, rn56, _, rfl, x58, hv55⟩
 have s59 := x58.sz
 have z60 := z50.trans x58
 replace b3 := b3.ext x58
 obtain rfl : rn56 = 3 := by have := hv55.len; simpa using this.symm
 replace hv55 := hv55.cast (rss' := ([[1, 0], [0, 2], [3, 2]] : List (List Rat))) (by rfl)
 refine ⟨_, rfl, ?_⟩
 refine vo ?_
 refine xbs (ps := [(0, .int _ _), (1, .int _ _), (2, .int _ _)]) (cs := [.int _ _, .int _ _, .int _ _]) sl49 zr2 sz2 rfl rfl rfl rfl rfl rfl ?_
 intro W61 x62 b63 nn64
 have s65 := x62.sz
 have z66 := z60.trans x62
 replace b3 := b3.ext x62
 refine vo ?_
 have hl67 := RN.lit (k := .i64) (xs := [_, _, _]) 3 b63 (by intro q hq; simp only [List.mem_cons, List.not_mem_nil, or_false] at hq; simp only [kb]; omega) (TT.up W57 _ (Nat.le_refl _))
 refine xcall e27 (vFrom_ok _ _ _ [4, 12, 18] (SX TT [w.heap.size]) TT _ hl67 (by omega) (SX.up (TT.up _) (by simp; omega))) rfl rfl ?_
 rintro _ W70 ⟨_, rn69, _, rfl, x71, hv68⟩
 have s72 := x71.sz
 have z73 := z66.trans x71
 replace b3 := b3.ext x71
 obtain rfl : rn69 = 3 := by have := hv68.len; simpa using this.symm
 replace hv68 := hv68.cast (rs' := ([4, 12, 18] : List Rat)) (by rfl)
 refine ⟨_, rfl, ?_⟩
 refine vv (rbd (ps := [(0, .int _ _), (1, .slice _ _ _), (2, .slice _ _ _), (3, .slice _ _ _)]) (cs := [.int _ _, .slice _ _ _, .slice _ _ _, .slice _ _ _]) pl71 rfl rfl) ?_
 refine vo ?_
 refine sta (cs' := [_, _, _, _]) b3 rfl rfl sz71 rfl rfl rfl ?_
 intro W74 y75 b3
 have z76 := z73.below (y75.below (by omega))
 have s77 := y75.size
 refine vnil ?_
 refine V.ret ?_
 refine ⟨[_], ⟨⟨_, rfl, lvb ag71 b3 rfl⟩, trivial⟩, ?_⟩
 exact ⟨_, _, _, _, _, _, rfl, z76, MG.sub okRowC ((hv21.ck ((((((((x28.ck _).trans (x34.ck _)).trans (x40.ck _)).trans (x46.ck _)).trans (x58.ck _)).trans (x62.ck _)).trans (x71.ck _)).trans (y75.ck (by intro hh; first | (simp [SX] at hh <;> omega) | omega))))) (fun _ _ _ => trivial), MG.sub okRowC ((hv55.ck (((x62.ck _).trans (x71.ck _)).trans (y75.ck (by intro hh; first | (simp [SX] at hh <;> omega) | omega))))) (fun _ _ _ => trivial), ((hv68.ck (y75.ck (by intro hh; first | (simp [SX] at hh <;> omega) | omega)))).sub (fun _ _ _ => trivial)⟩
set_option maxHeartbeats 4000000 in
theorem law7_ok (w : World) :
    Calls Try.prog 24 #[] w (fun e w' => e = .returned (.bool true) ∧ Ext w w') := by
 have z0 := Ext.refl w; have hLX : LX = 17592186044416 := rfl; have hLY : LY = 8796093022208 := rfl
 have hLV : LV = 1099511627776 := rfl
 refine enter (args := []) Try.func24 rfl rfl (Nat.le_of_ble_eq_true rfl) ?_
 refine V.seq (V.reg rfl ?_)
 refine asb rfl ?_
 refine vnil ?_
 refine V.seq (V.reg rfl ?_)
 refine vo ?_
 refine xcall e43 (small06_ok _) rfl rfl ?_
 rintro _ W1 ⟨a60, c60, a61, c61, a62, c62, rfl, x2, h6a, h6b, h6c⟩
 have s3 := x2.sz
 have z4 := x2
 refine ⟨_, rfl, ?_⟩
 refine vo ?_
 have hv7 : ValidP 2 1 3 3 [[3, 5]] [[1, 0], [0, 2], [3, 2]] := ⟨by decide, by decide, by decide⟩
 have ho7 := MC.ma (L := 1) h6a (szM_B (by decide +kernel)); have hx7 := MC.ma (L := 1) h6b (szM_B (by decide +kernel)); have hy7 := (h6c).va (L := 1) (szV_B (by decide +kernel))
 refine xcall e42 (tNew_ok 1 [[3, 5]] [[1, 0], [0, 2], [3, 2]] [4, 12, 18] TT TT TT _ _ _ _ _ _ _ _ _ _ _ ho7 hx7 hy7 (fun _ => by omega) (by omega) (by omega)) rfl rfl ?_
 rintro _ Wn ⟨xn, ⟨hnv, _⟩ | ⟨_, bw, ag, cg, v, pw, rfl, hS⟩⟩
 ·exact absurd hv7 hnv
 refine ⟨_, rfl, ?_⟩
 replace hS : TS W1.heap.size bw ((2 : Nat) : Int) ag 1 cg [[3, 5]] v pw [[1, 0, 1, 0, 0, 4], [0, 2, 0, 1, 0, 12], [3, 2, 0, 0, 1, 18]] [2, 3, 4] Wn := hS.cast (by decide +kernel) (by decide +kernel) (by decide +kernel)
 have f0 : TF 2 5 1 1 [[3, 5]] [[1, 0, 1, 0, 0, 4], [0, 2, 0, 1, 0, 12], [3, 2, 0, 0, 1, 18]] [2, 3, 4] := ⟨by decide, by decide, by decide, rfl, rfl, by decide, by decide, by decide, szM_B (by decide +kernel), szM_B (by decide +kernel), by decide, by decide, by omega⟩
 have f1 : TF 2 5 1 1 [[3, 5]] [[1, 0, 1, 0, 0, 4], [0, 1, 0, 1/2, 0, 6], [3, 0, 0, -1, 1, 6]] [2, 1, 4] := ⟨by decide, by decide, by decide, rfl, rfl, by decide, by decide, by decide, szM_B (by decide +kernel), szM_B (by decide +kernel), by decide, by decide, by omega⟩
 have f2 : TF 2 5 1 1 [[3, 5]] [[0, 0, 1, 1/3, -1/3, 2], [0, 1, 0, 1/2, 0, 6], [1, 0, 0, -1/3, 1/3, 2]] [2, 1, 0] := ⟨by decide, by decide, by decide, rfl, rfl, by decide, by decide, by decide, szM_B (by decide +kernel), szM_B (by decide +kernel), by decide, by decide, by omega⟩
 have s5 := xn.sz
 have z6 := z4.trans xn
 refine mvt rfl ?_
 refine vv (rext (v := .pointer (some ⟨_, _, none⟩)) rfl rfl) ?_
 refine vv (rext (v := .int _ _) rfl rfl) ?_
 refine asp rfl ?_
 refine asi rfl ?_
 refine vnil ?_
 refine V.seq ?_
 refine V.seq (V.reg rfl ?_)
 refine mvi rfl ?_
 refine vne rfl rfl ?_ ?_
 ·intro c7
  omega
 ·intro c7
  refine mvb rfl ?_
  refine vg rfl ?_
  refine mvp rfl ?_
  refine vg rfl ?_
  refine vv (rpnil (q := false) (by kernel_rfl) rfl rfl rfl) ?_
  refine vv (rpk (v := .bool false) rfl rfl) ?_
  refine mvb rfl ?_
  refine vg rfl ?_
  refine mvp rfl ?_
  refine vg rfl ?_
  refine vo ?_
  refine xcall e45 ((hS).basis (S := TT) f0 (TT.up _)) rfl rfl ?_
  rintro _ W8 ⟨_, _, rfl, x9, hbs⟩
  have s10 := x9.sz
  have z11 := z6.trans x9
  refine ⟨_, rfl, ?_⟩
  refine vg rfl ?_
  refine vo ?_
  refine xbs (ps := [(0, .int _ _), (1, .int _ _), (2, .int _ _)]) (cs := [.int _ _, .int _ _, .int _ _]) sl74 zr3 sz3 rfl rfl rfl rfl rfl rfl ?_
  intro W12 x13 b14 nn15
  have s16 := x13.sz
  have z17 := z11.trans x13
  refine vg rfl ?_
  refine vo ?_
  have hl18 := RN.lit (k := .i64) (xs := [_, _, _]) 3 b14 (by intro q hq; simp only [List.mem_cons, List.not_mem_nil, or_false] at hq; simp only [kb]; omega) (TT.up W8 _ (Nat.le_refl _))
  refine xcall e44 (rInts5_true _ (hbs.ext x13) hl18 rfl) rfl rfl ?_
  rintro _ W19 ⟨rfl, x20⟩
  have s21 := x20.sz
  have z22 := z17.trans x20
  refine ⟨_, rfl, ?_⟩
  refine vg rfl ?_
  refine vv (rnot (q := false) rfl rfl) ?_
  refine vv (rpk (v := .bool false) rfl rfl) ?_
  refine mvb rfl ?_
  refine vg rfl ?_
  refine mvp rfl ?_
  refine vg rfl ?_
  refine vo ?_
  refine xcall e46 (((hS.ext ((x9.trans x13).trans x20))).rhs (S := TT) f0 (TT.up _)) rfl rfl ?_
  rintro _ W25 ⟨_, rn24, _, rfl, x26, hv23⟩
  have s27 := x26.sz
  have z28 := z22.trans x26
  replace hv23 := hv23.cast (rs' := ([4, 12, 18] : List Rat)) (by decide +kernel)
  obtain rfl : rn24 = 3 := by have := hv23.len; exact this.symm.trans rfl
  refine ⟨_, rfl, ?_⟩
  refine vg rfl ?_
  refine vo ?_
  refine xbs (ps := [(0, .int _ _), (1, .int _ _), (2, .int _ _)]) (cs := [.int _ _, .int _ _, .int _ _]) sl49 zr2 sz2 rfl rfl rfl rfl rfl rfl ?_
  intro W29 x30 b31 nn32
  have s33 := x30.sz
  have z34 := z28.trans x30
  refine vg rfl ?_
  refine vo ?_
  have hl35 := RN.lit (k := .i64) (xs := [_, _, _]) 3 b31 (by intro q hq; simp only [List.mem_cons, List.not_mem_nil, or_false] at hq; simp only [kb]; omega) (TT.up W25 _ (Nat.le_refl _))
  refine xcall e27 (vFrom_ok _ _ _ [4, 12, 18] TT TT _ hl35 (by omega) (TT.up _)) rfl rfl ?_
  rintro _ W38 ⟨_, rn37, _, rfl, x39, hv36⟩
  have s40 := x39.sz
  have z41 := z34.trans x39
  obtain rfl : rn37 = 3 := by have := hv36.len; simpa using this.symm
  replace hv36 := hv36.cast (rs' := ([4, 12, 18] : List Rat)) (by rfl)
  refine ⟨_, rfl, ?_⟩
  refine vg rfl ?_
  refine vo ?_
  refine xcall e17 (vEq_true _ (((hv23.ext (x30.trans x39))).va (L := 1) (szV_B (by decide +kernel))) ((hv36).va (L := 1) (szV_B (by decide +kernel))) (by omega) (by omega) (by omega) (by omega) (by omega) (fun _ => rfl)) rfl rfl ?_
  rintro _ W42 ⟨rfl, x43⟩
  have s44 := x43.sz
  have z45 := z41.trans x43
  refine ⟨_, rfl, ?_⟩
  refine vg rfl ?_
  refine vv (rnot (q := false) rfl rfl) ?_
  refine vv (rpk (v := .bool false) rfl rfl) ?_
  refine mvb rfl ?_
  refine vg rfl ?_
  refine mvp rfl ?_
  refine vg rfl ?_
  refine vo ?_
  refine xcall e47 (((hS.ext ((((((x9.trans x13).trans x20).trans x26).trans x30).trans x39).trans x43))).cost (S := TT) f0 (TT.up _) 0 (by omega) (by omega)) rfl rfl ?_
  rintro _ W48 ⟨_, rn47, _, rfl, x49, hv46⟩
  have s50 := x49.sz
  have z51 := z45.trans x49
  replace hv46 := hv46.cast (rs' := ([-3, 1, 0] : List Rat)) (by decide +kernel)
  obtain rfl : rn47 = 3 := by have := hv46.len; exact this.symm.trans rfl
  refine ⟨_, rfl, ?_⟩
  refine vg rfl ?_
  refine vo ?_
  refine xbs (ps := [(0, .int _ _), (1, .int _ _), (2, .int _ _)]) (cs := [.int _ _, .int _ _, .int _ _]) sl49 zr2 sz2 rfl rfl rfl rfl rfl rfl ?_
  intro W52 x53 b54 nn55
  have s56 := x53.sz
  have z57 := z51.trans x53
  refine vg rfl ?_
  refine vo ?_
  have hl58 := RN.lit (k := .i64) (xs := [_, _, _]) 3 b54 (by intro q hq; simp only [List.mem_cons, List.not_mem_nil, or_false] at hq; simp only [kb]; omega) (TT.up W48 _ (Nat.le_refl _))
  refine xcall e27 (vFrom_ok _ _ _ [-3, 1, 0] TT TT _ hl58 (by omega) (TT.up _)) rfl rfl ?_
  rintro _ W61 ⟨_, rn60, _, rfl, x62, hv59⟩
  have s63 := x62.sz
  have z64 := z57.trans x62
  obtain rfl : rn60 = 3 := by have := hv59.len; simpa using this.symm
  replace hv59 := hv59.cast (rs' := ([-3, 1, 0] : List Rat)) (by rfl)
  refine ⟨_, rfl, ?_⟩
  refine vg rfl ?_
  refine vo ?_
  refine xcall e17 (vEq_true _ (((hv46.ext (x53.trans x62))).va (L := 1) (szV_B (by decide +kernel))) ((hv59).va (L := 1) (szV_B (by decide +kernel))) (by omega) (by omega) (by omega) (by omega) (by omega) (fun _ => rfl)) rfl rfl ?_
  rintro _ W65 ⟨rfl, x66⟩
  have s67 := x66.sz
  have z68 := z64.trans x66
  refine ⟨_, rfl, ?_⟩
  refine vg rfl ?_
  refine vv (rnot (q := false) rfl rfl) ?_
  refine vv (rpk (v := .bool false) rfl rfl) ?_
  refine vnil ?_
  refine V.condF rfl ?_
  refine V.skip ?_
  refine V.seq (V.reg rfl ?_)
  refine mvp rfl ?_
  refine vo ?_
  have hSp1 := (hS.ext ((((((((((x9.trans x13).trans x20).trans x26).trans x30).trans x39).trans x43).trans x49).trans x53).trans x62).trans x66))
  refine xcall e48 (hSp1.pivC f0 1 1 (by simp only [kb]; omega) (by simp only [kb]; omega)) rfl rfl ?_
  rintro _ Wp1 ⟨er, rfl, her, hSq1, kdp1⟩
  refine ⟨_, rfl, ?_⟩
  obtain rfl : er = 0 := her.2 (by decide +kernel)
  replace hSq1 : TS W1.heap.size bw ((2 : Nat) : Int) ag 1 cg [[3, 5]] v pw [[1, 0, 1, 0, 0, 4], [0, 1, 0, 1/2, 0, 6], [3, 0, 0, -1, 1, 6]] [2, 1, 4] Wp1 := hSq1.cast rfl (by decide +kernel) (by decide +kernel)
  have zp1 : Ext w Wp1 := KD.low z68 kdp1 (fun q hq => hSp1.kqB (by omega)) (by omega)
  have szp1 := zp1.sz
  refine asi rfl ?_
  refine vnil ?_
  refine V.seq ?_
  refine V.seq (V.reg rfl ?_)
  refine mvi rfl ?_
  refine vne rfl rfl ?_ ?_
  ·intro c69
   omega
  ·intro c69
   refine mvb rfl ?_
   refine vg rfl ?_
   refine mvp rfl ?_
   refine vg rfl ?_
   refine vo ?_
   refine xcall e46 ((hSq1).rhs (S := TT) f1 (TT.up _)) rfl rfl ?_
   rintro _ W72 ⟨_, rn71, _, rfl, x73, hv70⟩
   have s74 := x73.sz
   have z75 := zp1.trans x73
   replace hv70 := hv70.cast (rs' := ([4, 6, 6] : List Rat)) (by decide +kernel)
   obtain rfl : rn71 = 3 := by have := hv70.len; exact this.symm.trans rfl
   refine ⟨_, rfl, ?_⟩
   refine vg rfl ?_
   refine vo ?_
   refine xbs (ps := [(0, .int _ _), (1, .int _ _), (2, .int _ _)]) (cs := [.int _ _, .int _ _, .int _ _]) sl49 zr2 sz2 rfl rfl rfl rfl rfl rfl ?_
   intro W76 x77 b78 nn79
   have s80 := x77.sz
   have z81 := z75.trans x77
   refine vg rfl ?_
   refine vo ?_
   have hl82 := RN.lit (k := .i64) (xs := [_, _, _]) 3 b78 (by intro q hq; simp only [List.mem_cons, List.not_mem_nil, or_false] at hq; simp only [kb]; omega) (TT.up W72 _ (Nat.le_refl _))
   refine xcall e27 (vFrom_ok _ _ _ [4, 6, 6] TT TT _ hl82 (by omega) (TT.up _)) rfl rfl ?_
   rintro _ W85 ⟨_, rn84, _, rfl, x86, hv83⟩
   have s87 := x86.sz
   have z88 := z81.trans x86
   obtain rfl : rn84 = 3 := by have := hv83.len; simpa using this.symm
   replace hv83 := hv83.cast (rs' := ([4, 6, 6] : List Rat)) (by rfl)
   refine ⟨_, rfl, ?_⟩
   refine vg rfl ?_
   refine vo ?_
   refine xcall e17 (vEq_true _ (((hv70.ext (x77.trans x86))).va (L := 1) (szV_B (by decide +kernel))) ((hv83).va (L := 1) (szV_B (by decide +kernel))) (by omega) (by omega) (by omega) (by omega) (by omega) (fun _ => rfl)) rfl rfl ?_
   rintro _ W89 ⟨rfl, x90⟩
   have s91 := x90.sz
   have z92 := z88.trans x90
   refine ⟨_, rfl, ?_⟩
   refine vg rfl ?_
   refine vv (rnot (q := false) rfl rfl) ?_
   refine vv (rpk (v := .bool false) rfl rfl) ?_
   refine mvb rfl ?_
   refine vg rfl ?_
   refine mvp rfl ?_
   refine vg rfl ?_
   refine vo ?_
   refine xcall e49 (((hSq1.ext (((x73.trans x77).trans x86).trans x90))).val (S := TT) f1 (TT.up _)) rfl rfl ?_
   rintro _ W95 ⟨_, rn94, _, rfl, x96, hv93⟩
   have s97 := x96.sz
   have z98 := z92.trans x96
   replace hv93 := hv93.cast (rs' := ([30, 0, -6] : List Rat)) (by decide +kernel)
   obtain rfl : rn94 = 3 := by have := hv93.len; exact this.symm.trans rfl
   refine ⟨_, rfl, ?_⟩
   refine vg rfl ?_
   refine vo ?_
   refine xbs (ps := [(0, .int _ _), (1, .int _ _), (2, .int _ _)]) (cs := [.int _ _, .int _ _, .int _ _]) sl49 zr2 sz2 rfl rfl rfl rfl rfl rfl ?_
   intro W99 x100 b101 nn102
   have s103 := x100.sz
   have z104 := z98.trans x100
   refine vg rfl ?_
   refine vo ?_
   have hl105 := RN.lit (k := .i64) (xs := [_, _, _]) 3 b101 (by intro q hq; simp only [List.mem_cons, List.not_mem_nil, or_false] at hq; simp only [kb]; omega) (TT.up W95 _ (Nat.le_refl _))
   refine xcall e27 (vFrom_ok _ _ _ [30, 0, -6] TT TT _ hl105 (by omega) (TT.up _)) rfl rfl ?_
   rintro _ W108 ⟨_, rn107, _, rfl, x109, hv106⟩
   have s110 := x109.sz
   have z111 := z104.trans x109
   obtain rfl : rn107 = 3 := by have := hv106.len; simpa using this.symm
   replace hv106 := hv106.cast (rs' := ([30, 0, -6] : List Rat)) (by rfl)
   refine ⟨_, rfl, ?_⟩
   refine vg rfl ?_
   refine vo ?_
   refine xcall e17 (vEq_true _ (((hv93.ext (x100.trans x109))).va (L := 1) (szV_B (by decide +kernel))) ((hv106).va (L := 1) (szV_B (by decide +kernel))) (by omega) (by omega) (by omega) (by omega) (by omega) (fun _ => rfl)) rfl rfl ?_
   rintro _ W112 ⟨rfl, x113⟩
   have s114 := x113.sz
   have z115 := z111.trans x113
   refine ⟨_, rfl, ?_⟩
   refine vg rfl ?_
   refine vv (rnot (q := false) rfl rfl) ?_
   refine vv (rpk (v := .bool false) rfl rfl) ?_
   refine mvb rfl ?_
   refine vg rfl ?_
   refine mvp rfl ?_
   refine vg rfl ?_
   refine vo ?_
   refine xcall e50 (((hSq1.ext (((((((x73.trans x77).trans x86).trans x90).trans x96).trans x100).trans x109).trans x113))).opt f1) rfl rfl ?_
   rintro _ Wq1 ⟨qo, rfl, xq1, hqo⟩
   refine ⟨_, rfl, ?_⟩
   obtain rfl : qo = false := by rw [Bool.eq_false_iff]; intro h; exact absurd ((optB_iff _ _ _ _ _ _).2 (hqo.1 h)) (by decide +kernel)
   have s116 := xq1.sz
   have z117 := z115.trans xq1
   refine vv (rpk (v := .bool false) rfl rfl) ?_
   refine vnil ?_
   refine V.condF rfl ?_
   refine V.skip ?_
   refine V.seq (V.reg rfl ?_)
   refine mvp rfl ?_
   refine vo ?_
   have hSp2 := (hSq1.ext ((((((((x73.trans x77).trans x86).trans x90).trans x96).trans x100).trans x109).trans x113).trans xq1))
   refine xcall e48 (hSp2.pivC f1 2 0 (by simp only [kb]; omega) (by simp only [kb]; omega)) rfl rfl ?_
   rintro _ Wp2 ⟨er, rfl, her, hSq2, kdp2⟩
   refine ⟨_, rfl, ?_⟩
   obtain rfl : er = 0 := her.2 (by decide +kernel)
   replace hSq2 : TS W1.heap.size bw ((2 : Nat) : Int) ag 1 cg [[3, 5]] v pw [[0, 0, 1, 1/3, -1/3, 2], [0, 1, 0, 1/2, 0, 6], [1, 0, 0, -1/3, 1/3, 2]] [2, 1, 0] Wp2 := hSq2.cast rfl (by decide +kernel) (by decide +kernel)
   have zp2 : Ext w Wp2 := KD.low z117 kdp2 (fun q hq => hSp2.kqB (by omega)) (by omega)
   have szp2 := zp2.sz
   refine asi rfl ?_
   refine vnil ?_
   refine V.seq (V.reg rfl ?_)
   refine mvi rfl ?_
   refine veq rfl rfl ?_ ?_
   ·intro c118
    refine mvb rfl ?_
    refine vg rfl ?_
    refine mvp rfl ?_
    refine vg rfl ?_
    refine vo ?_
    refine xcall e46 ((hSq2).rhs (S := TT) f2 (TT.up _)) rfl rfl ?_
    rintro _ W121 ⟨_, rn120, _, rfl, x122, hv119⟩
    have s123 := x122.sz
    have z124 := zp2.trans x122
    replace hv119 := hv119.cast (rs' := ([2, 6, 2] : List Rat)) (by decide +kernel)
    obtain rfl : rn120 = 3 := by have := hv119.len; exact this.symm.trans rfl
    refine ⟨_, rfl, ?_⟩
    refine vg rfl ?_
    refine vo ?_
    refine xbs (ps := [(0, .int _ _), (1, .int _ _), (2, .int _ _)]) (cs := [.int _ _, .int _ _, .int _ _]) sl49 zr2 sz2 rfl rfl rfl rfl rfl rfl ?_
    intro W125 x126 b127 nn128
    have s129 := x126.sz
    have z130 := z124.trans x126
    refine vg rfl ?_
    refine vo ?_
    have hl131 := RN.lit (k := .i64) (xs := [_, _, _]) 3 b127 (by intro q hq; simp only [List.mem_cons, List.not_mem_nil, or_false] at hq; simp only [kb]; omega) (TT.up W121 _ (Nat.le_refl _))
    refine xcall e27 (vFrom_ok _ _ _ [2, 6, 2] TT TT _ hl131 (by omega) (TT.up _)) rfl rfl ?_
    rintro _ W134 ⟨_, rn133, _, rfl, x135, hv132⟩
    have s136 := x135.sz
    have z137 := z130.trans x135
    obtain rfl : rn133 = 3 := by have := hv132.len; simpa using this.symm
    replace hv132 := hv132.cast (rs' := ([2, 6, 2] : List Rat)) (by rfl)
    refine ⟨_, rfl, ?_⟩
    refine vg rfl ?_
    refine vo ?_
    refine xcall e17 (vEq_true _ (((hv119.ext (x126.trans x135))).va (L := 1) (szV_B (by decide +kernel))) ((hv132).va (L := 1) (szV_B (by decide +kernel))) (by omega) (by omega) (by omega) (by omega) (by omega) (fun _ => rfl)) rfl rfl ?_
    rintro _ W138 ⟨rfl, x139⟩
    have s140 := x139.sz
    have z141 := z137.trans x139
    refine ⟨_, rfl, ?_⟩
    refine vv (rpk (v := .bool true) rfl rfl) ?_
    refine mvb rfl ?_
    refine vg rfl ?_
    refine mvp rfl ?_
    refine vg rfl ?_
    refine vo ?_
    refine xcall e51 (((hSq2.ext (((x122.trans x126).trans x135).trans x139))).sol (S := TT) f2 (TT.up _)) rfl rfl ?_
    rintro _ W144 ⟨_, rn143, _, rfl, x145, hv142⟩
    have s146 := x145.sz
    have z147 := z141.trans x145
    replace hv142 := hv142.cast (rs' := ([2, 6] : List Rat)) (by decide +kernel)
    obtain rfl : rn143 = 2 := by have := hv142.len; exact this.symm.trans rfl
    refine ⟨_, rfl, ?_⟩
    refine vg rfl ?_
    refine vo ?_
    refine xbs (ps := [(0, .int _ _), (1, .int _ _)]) (cs := [.int _ _, .int _ _]) sl49 zr2 sz2 rfl rfl rfl rfl rfl rfl ?_
    intro W148 x149 b150 nn151
    have s152 := x149.sz
    have z153 := z147.trans x149
    refine vg rfl ?_
    refine vo ?_
    have hl154 := RN.lit (k := .i64) (xs := [_, _]) 2 b150 (by intro q hq; simp only [List.mem_cons, List.not_mem_nil, or_false] at hq; simp only [kb]; omega) (TT.up W144 _ (Nat.le_refl _))
    refine xcall e27 (vFrom_ok _ _ _ [2, 6] TT TT _ hl154 (by omega) (TT.up _)) rfl rfl ?_
    rintro _ W157 ⟨_, rn156, _, rfl, x158, hv155⟩
    have s159 := x158.sz
    have z160 := z153.trans x158
    obtain rfl : rn156 = 2 := by have := hv155.len; simpa using this.symm
    replace hv155 := hv155.cast (rs' := ([2, 6] : List Rat)) (by rfl)
    refine ⟨_, rfl, ?_⟩
    refine vg rfl ?_
    refine vo ?_
    refine xcall e17 (vEq_true _ (((hv142.ext (x149.trans x158))).va (L := 1) (szV_B (by decide +kernel))) ((hv155).va (L := 1) (szV_B (by decide +kernel))) (by omega) (by omega) (by omega) (by omega) (by omega) (fun _ => rfl)) rfl rfl ?_
    rintro _ W161 ⟨rfl, x162⟩
    have s163 := x162.sz
    have z164 := z160.trans x162
    refine ⟨_, rfl, ?_⟩
    refine vv (rpk (v := .bool true) rfl rfl) ?_
    refine mvb rfl ?_
    refine vg rfl ?_
    refine mvp rfl ?_
    refine vg rfl ?_
    refine vo ?_
    refine xcall e49 (((hSq2.ext (((((((x122.trans x126).trans x135).trans x139).trans x145).trans x149).trans x158).trans x162))).val (S := TT) f2 (TT.up _)) rfl rfl ?_
    rintro _ W167 ⟨_, rn166, _, rfl, x168, hv165⟩
    have s169 := x168.sz
    have z170 := z164.trans x168
    replace hv165 := hv165.cast (rs' := ([36, -2, -6] : List Rat)) (by decide +kernel)
    obtain rfl : rn166 = 3 := by have := hv165.len; exact this.symm.trans rfl
    refine ⟨_, rfl, ?_⟩
    refine vg rfl ?_
    refine vo ?_
    refine xbs (ps := [(0, .int _ _), (1, .int _ _), (2, .int _ _)]) (cs := [.int _ _, .int _ _, .int _ _]) sl49 zr2 sz2 rfl rfl rfl rfl rfl rfl ?_
    intro W171 x172 b173 nn174
    have s175 := x172.sz
    have z176 := z170.trans x172
    refine vg rfl ?_
    refine vo ?_
    have hl177 := RN.lit (k := .i64) (xs := [_, _, _]) 3 b173 (by intro q hq; simp only [List.mem_cons, List.not_mem_nil, or_false] at hq; simp only [kb]; omega) (TT.up W167 _ (Nat.le_refl _))
    refine xcall e27 (vFrom_ok _ _ _ [36, -2, -6] TT TT _ hl177 (by omega) (TT.up _)) rfl rfl ?_
    rintro _ W180 ⟨_, rn179, _, rfl, x181, hv178⟩
    have s182 := x181.sz
    have z183 := z176.trans x181
    obtain rfl : rn179 = 3 := by have := hv178.len; simpa using this.symm
    replace hv178 := hv178.cast (rs' := ([36, -2, -6] : List Rat)) (by rfl)
    refine ⟨_, rfl, ?_⟩
    refine vg rfl ?_
    refine vo ?_
    refine xcall e17 (vEq_true _ (((hv165.ext (x172.trans x181))).va (L := 1) (szV_B (by decide +kernel))) ((hv178).va (L := 1) (szV_B (by decide +kernel))) (by omega) (by omega) (by omega) (by omega) (by omega) (fun _ => rfl)) rfl rfl ?_
    rintro _ W184 ⟨rfl, x185⟩
    have s186 := x185.sz
    have z187 := z183.trans x185
    refine ⟨_, rfl, ?_⟩
    refine vv (rpk (v := .bool true) rfl rfl) ?_
    refine mvb rfl ?_
    refine vg rfl ?_
    refine mvp rfl ?_
    refine vg rfl ?_
    refine vo ?_
    refine xcall e50 (((hSq2.ext (((((((((((x122.trans x126).trans x135).trans x139).trans x145).trans x149).trans x158).trans x162).trans x168).trans x172).trans x181).trans x185))).opt f2) rfl rfl ?_
    rintro _ Wq2 ⟨qo, rfl, xq2, hqo⟩
    refine ⟨_, rfl, ?_⟩
    obtain rfl : qo = true := hqo.2 ((optB_iff _ _ _ _ _ _).1 (by decide +kernel))
    have s188 := xq2.sz
    have z189 := z187.trans xq2
    refine vv (rpk (v := .bool true) rfl rfl) ?_
    refine mvb rfl ?_
    refine vg rfl ?_
    refine mvp rfl ?_
    refine vg rfl ?_
    refine vo ?_
    refine xcall e52 (((hSq2.ext ((((((((((((x122.trans x126).trans x135).trans x139).trans x145).trans x149).trans x158).trans x162).trans x168).trans x172).trans x181).trans x185).trans xq2))).feas f2) rfl rfl ?_
    rintro _ Wf ⟨qf, rfl, xf, hqf⟩
    refine ⟨_, rfl, ?_⟩
    obtain rfl : qf = true := hqf.2 (nonneg_dec (by decide +kernel))
    have s190 := xf.sz
    have z191 := z189.trans xf
    refine vv (rpk (v := .bool true) rfl rfl) ?_
    refine asb rfl ?_
    refine vnil ?_
    refine V.ret ?_
    refine ⟨[.bool true], ⟨rfl, trivial⟩, ?_⟩
    exact ⟨rfl, z191⟩
   ·intro c118
    omega
set_option maxHeartbeats 400000 in
theorem tableauEx_ok (w : World) :
    Calls Try.prog 6 #[] w (fun e w' => e = .returned (.bool true) ∧ Ext w w') := by
 have z0 := Ext.refl w; have hLX : LX = 17592186044416 := rfl; have hLY : LY = 8796093022208 := rfl
 refine enter (args := []) Try.func6 rfl rfl (Nat.le_of_ble_eq_true rfl) ?_
 refine V.seq (V.reg rfl ?_)
 refine asb rfl ?_
 refine vnil ?_
 refine V.seq (V.reg rfl ?_)
 refine vo ?_
 refine xcall e24 (law7_ok _) rfl rfl ?_
 rintro _ W1 ⟨rfl, x2⟩
 have s3 := x2.sz
 have z4 := x2
 refine ⟨_, rfl, ?_⟩
 refine asb rfl ?_
 refine vnil ?_
 refine V.ret ?_
 refine ⟨[.bool true], ⟨rfl, trivial⟩, ?_⟩
 exact ⟨rfl, z4⟩
end Go.Proofs.Ytknbjfefeeojlaa

/- Package mat: Cols, At. -/
import Derived.Test.YtknbjfefeeojlaaM
namespace Go.Proofs.Ytknbjfefeeojlaa
open Go.RowKit
attribute [local irreducible] RV VH V OpF Calls

set_option maxHeartbeats 400000 in
theorem mCols_ok (a1 : Option Addr) (n c : Nat) (L1 : Nat) (rss : List (List Rat)) (S1 : Nat → Prop) (w : World) (hx : MA L1 S1 w a1 n c rss) :
    Calls Try.prog 18 #[.slice a1 n c] w (fun e w' => e = .returned (.int .i64 (colsN rss : Int)) ∧ Ext w w') := by
  have z0 := Ext.refl w; have hLX : LX = 17592186044416 := rfl; have hLY : LY = 8796093022208 := rfl
  have l1 := hx.len; have l2 := hx.max
  refine enter (args := [.slice a1 n c]) Try.func18 rfl rfl (Nat.le_of_ble_eq_true rfl) ?_
  refine V.seq (V.reg rfl ?_)
  refine asi rfl ?_
  refine vnil ?_
  refine V.seq ?_
  refine V.seq (V.reg rfl ?_)
  refine mvs rfl ?_
  refine vv (rlen sl25 rfl) ?_
  refine mvi rfl ?_
  refine vnil ?_
  refine V.block ?_
  refine V.loopK (ι := Nat) [(5, .slice _ _ _), (6, .int _ _)] (fun k => [(7, .int .i64 (k : Int)), (2, .int .i64 (colsN (rss.take k) : Int))]) (fun k W => Ext w W ∧ k ≤ n) (fun k => n - k) (0) ⟨rfl, rfl, trivial⟩ ⟨rfl, rfl, trivial⟩ ⟨Ext.refl _, Nat.zero_le _⟩ ?_
  intro k E2 W1 h3
  obtain ⟨x4, hk⟩ := h3
  have s5 := x4.sz
  have z6 := x4
  refine V.seq (V.reg rfl ?_)
  refine vlt rfl rfl ?_ ?_
  · intro c7
    refine vnil ?_
    refine V.seq ?_
    refine V.condT rfl ?_
    refine V.skip ?_
    refine V.seq ?_
    refine V.block ?_
    refine V.seq (V.reg rfl ?_)
    refine vv (rix sl25 sz30 rfl rfl (by omega) (by omega) ((hx.ext z6).isS (i := 0) (by omega) (by omega))) ?_
    refine vldRow (hx.ext z6) rfl sc30 (by omega) (by omega) ?_
    intro a8 n9 c10 hg11
    have hg11l := hg11.len; have hg11m := hg11.max
    refine ass rfl ?_
    refine vnil ?_
    refine V.reg rfl ?_
    refine mvi rfl ?_
    refine mvs rfl ?_
    refine vv (rlen sl30 rfl) ?_
    have ecs : max ((colsN (rss.take k) : Nat) : Int) ((rowat rss ((k : Int)).toNat).length : Nat) = (colsN (rss.take (k + 1)) : Int) := by rw [colsN_succ rss k (by omega)]; simp; omega
    rw [hg11l] at ecs
    refine vv (rmax rfl rfl ecs) ?_
    refine asi rfl ?_
    refine vnil ?_
    refine V.reg rfl ?_
    refine vv (rbin (bAdd (wi (by omega))) rfl rfl) ?_
    refine mvi rfl ?_
    refine vnil ?_
    refine ⟨rfl, k + 1, ⟨rfl, rfl, trivial⟩, ⟨rfl, rfl, trivial⟩, ⟨z6, by omega⟩, ?_⟩
    show n - (k + 1) < n - k
    omega
  · intro c7
    refine vnil ?_
    refine V.seq ?_
    refine V.condF rfl ?_
    refine V.exit ?_
    refine V.seq (V.reg rfl ?_)
    refine mvi rfl ?_
    refine asi rfl ?_
    refine vnil ?_
    refine V.ret ?_
    refine ⟨[.int _ _], ⟨rfl, trivial⟩, ?_⟩
    exact ⟨by rw [List.take_of_length_le (by omega)]; rfl, z6⟩

def matI (rss : List (List Rat)) (i k : Int) : Rat := if 0 ≤ i ∧ 0 ≤ k then mat rss i.toNat k.toNat else 0
theorem mat_ge1 {rss : List (List Rat)} {i k : Nat} (h : rss.length ≤ i) : mat rss i k = 0 := by
  unfold mat rowat vat; rw [List.getD_eq_getElem?_getD (l := rss), List.getElem?_eq_none h]; simp
theorem mat_ge2 {rss : List (List Rat)} {i k : Nat} (h : (rowat rss i).length ≤ k) : mat rss i k = 0 := by
  unfold mat vat; rw [List.getD_eq_getElem?_getD, List.getElem?_eq_none h]; simp
theorem matI_neg {rss : List (List Rat)} {i k : Int} (h : i < 0 ∨ k < 0) : matI rss i k = 0 := by unfold matI; rw [if_neg (by omega)]
theorem matI_ge1 {rss : List (List Rat)} {i k : Int} (h : (rss.length : Int) ≤ i) : matI rss i k = 0 := by
  unfold matI; split
  · exact mat_ge1 (by omega)
  · rfl
theorem matI_ge2 {rss : List (List Rat)} {i k : Int} (h : ((rowat rss i.toNat).length : Int) ≤ k) : matI rss i k = 0 := by
  unfold matI; split
  · exact mat_ge2 (by omega)
  · rfl

set_option maxHeartbeats 400000 in
theorem mAt_ok (a1 : Option Addr) (n c : Nat) (i k : Int) (L1 : Nat) (rss : List (List Rat)) (S S1 : Nat → Prop) (w : World) (hx : MA L1 S1 w a1 n c rss) (hL : L1 < LY) (hl1 : 1 ≤ L1) (hu : Up S w) :
    Calls Try.prog 21 #[.slice a1 n c, .int .i64 i, .int .i64 k] w (PQ S (matI rss i k) w) := by
  have z0 := Ext.refl w; have hLX : LX = 17592186044416 := rfl; have hLY : LY = 8796093022208 := rfl
  have l1 := hx.len; have l2 := hx.max
  have hu2 : ∀ W : World, w.heap.size + 1 ≤ W.heap.size → Up (SX S [w.heap.size]) W := fun W hW => SX.up (hu.mono (by omega)) (by simp <;> omega)
  refine enter (args := [.slice a1 n c, .int .i64 i, .int .i64 k]) Try.func21 rfl rfl (Nat.le_of_ble_eq_true rfl) ?_
  refine V.seq (V.reg rfl ?_)
  refine vo ?_
  refine xal zc43 ?_
  intro W1 x2 b3 nn4
  have s5 := x2.sz
  have z6 := x2
  refine vnil ?_
  refine V.seq ?_
  refine V.seq (V.reg rfl ?_)
  refine mvi rfl ?_
  refine vlt rfl rfl ?_ ?_
  · intro c7
    refine mvb rfl ?_
    refine vgn (b := true) rfl rfl ?_
    refine vgn (b := true) rfl rfl ?_
    refine vgn (b := true) rfl rfl ?_
    refine vgn (b := true) rfl rfl ?_
    refine vv (rpk (v := .bool true) rfl rfl) ?_
    refine mvb rfl ?_
    refine vgn (b := true) rfl rfl ?_
    refine vgn (b := true) rfl rfl ?_
    refine vv (rpk (v := .bool true) rfl rfl) ?_
    refine mvb rfl ?_
    refine vgn (b := true) rfl rfl ?_
    refine vgn (b := true) rfl rfl ?_
    refine vgn (b := true) rfl rfl ?_
    refine vgn (b := true) rfl rfl ?_
    refine vgn (b := true) rfl rfl ?_
    refine vgn (b := true) rfl rfl ?_
    refine vgn (b := true) rfl rfl ?_
    refine vv (rpk (v := .bool true) rfl rfl) ?_
    refine vnil ?_
    refine V.condT rfl ?_
    refine V.seq (V.reg rfl ?_)
    refine vv (rbd (ps := []) (cs := [.bool false, .slice _ _ _, .bool false, .slice _ _ _]) pl43 rfl rfl) ?_
    refine vo ?_
    refine sta (cs' := [_, _, _, _]) b3 rfl rfl sz43 rfl rfl rfl ?_
    intro W8 y9 b3
    have z10 := z6.below (y9.below (by omega))
    have s11 := y9.size
    refine vnil ?_
    refine V.ret ?_
    refine ⟨[_], ⟨⟨_, rfl, lvb ag43 b3 rfl⟩, trivial⟩, ?_⟩
    refine ⟨_, rfl, z10, (QC.zero S _).cast ?_⟩
    first | exact (matI_neg (by omega)).symm | exact (matI_ge1 (by omega)).symm | exact (matI_ge2 (by omega)).symm
  · intro c7
    refine mvb rfl ?_
    refine vg rfl ?_
    refine mvi rfl ?_
    refine vg rfl ?_
    refine mvs rfl ?_
    refine vg rfl ?_
    refine vv (rlen sl25 rfl) ?_
    refine vg rfl ?_
    refine vge rfl rfl ?_ ?_
    · intro c12
      refine vv (rpk (v := .bool true) rfl rfl) ?_
      refine mvb rfl ?_
      refine vgn (b := true) rfl rfl ?_
      refine vgn (b := true) rfl rfl ?_
      refine vv (rpk (v := .bool true) rfl rfl) ?_
      refine mvb rfl ?_
      refine vgn (b := true) rfl rfl ?_
      refine vgn (b := true) rfl rfl ?_
      refine vgn (b := true) rfl rfl ?_
      refine vgn (b := true) rfl rfl ?_
      refine vgn (b := true) rfl rfl ?_
      refine vgn (b := true) rfl rfl ?_
      refine vgn (b := true) rfl rfl ?_
      refine vv (rpk (v := .bool true) rfl rfl) ?_
      refine vnil ?_
      refine V.condT rfl ?_
      refine V.seq (V.reg rfl ?_)
      refine vv (rbd (ps := []) (cs := [.bool false, .slice _ _ _, .bool false, .slice _ _ _]) pl43 rfl rfl) ?_
      refine vo ?_
      refine sta (cs' := [_, _, _, _]) b3 rfl rfl sz43 rfl rfl rfl ?_
      intro W13 y14 b3
      have z15 := z6.below (y14.below (by omega))
      have s16 := y14.size
      refine vnil ?_
      refine V.ret ?_
      refine ⟨[_], ⟨⟨_, rfl, lvb ag43 b3 rfl⟩, trivial⟩, ?_⟩
      refine ⟨_, rfl, z15, (QC.zero S _).cast ?_⟩
      first | exact (matI_neg (by omega)).symm | exact (matI_ge1 (by omega)).symm | exact (matI_ge2 (by omega)).symm
    · intro c12
      refine vv (rpk (v := .bool false) rfl rfl) ?_
      refine mvb rfl ?_
      refine vg rfl ?_
      refine mvi rfl ?_
      refine vg rfl ?_
      refine vlt rfl rfl ?_ ?_
      · intro c17
        refine vv (rpk (v := .bool true) rfl rfl) ?_
        refine mvb rfl ?_
        refine vgn (b := true) rfl rfl ?_
        refine vgn (b := true) rfl rfl ?_
        refine vgn (b := true) rfl rfl ?_
        refine vgn (b := true) rfl rfl ?_
        refine vgn (b := true) rfl rfl ?_
        refine vgn (b := true) rfl rfl ?_
        refine vgn (b := true) rfl rfl ?_
        refine vv (rpk (v := .bool true) rfl rfl) ?_
        refine vnil ?_
        refine V.condT rfl ?_
        refine V.seq (V.reg rfl ?_)
        refine vv (rbd (ps := []) (cs := [.bool false, .slice _ _ _, .bool false, .slice _ _ _]) pl43 rfl rfl) ?_
        refine vo ?_
        refine sta (cs' := [_, _, _, _]) b3 rfl rfl sz43 rfl rfl rfl ?_
        intro W18 y19 b3
        have z20 := z6.below (y19.below (by omega))
        have s21 := y19.size
        refine vnil ?_
        refine V.ret ?_
        refine ⟨[_], ⟨⟨_, rfl, lvb ag43 b3 rfl⟩, trivial⟩, ?_⟩
        refine ⟨_, rfl, z20, (QC.zero S _).cast ?_⟩
        first | exact (matI_neg (by omega)).symm | exact (matI_ge1 (by omega)).symm | exact (matI_ge2 (by omega)).symm
      · intro c17
        refine vv (rpk (v := .bool false) rfl rfl) ?_
        refine mvb rfl ?_
        refine vg rfl ?_
        refine mvi rfl ?_
        refine vg rfl ?_
        refine mvs rfl ?_
        refine vg rfl ?_
        refine mvi rfl ?_
        refine vg rfl ?_
        refine vv (rix sl25 sz30 rfl rfl (by omega) (by omega) ((hx.ext z6).isS (i := 0) (by omega) (by omega))) ?_
        refine vg rfl ?_
        refine vldRow (hx.ext z6) rfl sc30 (by omega) (by omega) ?_
        intro a22 n23 c24 hg25
        have hg25l := hg25.len; have hg25m := hg25.max
        refine vg rfl ?_
        refine vv (rlen sl30 rfl) ?_
        refine vg rfl ?_
        refine vge rfl rfl ?_ ?_
        · intro c26
          refine vv (rpk (v := .bool true) rfl rfl) ?_
          refine vnil ?_
          refine V.condT rfl ?_
          refine V.seq (V.reg rfl ?_)
          refine vv (rbd (ps := []) (cs := [.bool false, .slice _ _ _, .bool false, .slice _ _ _]) pl43 rfl rfl) ?_
          refine vo ?_
          refine sta (cs' := [_, _, _, _]) b3 rfl rfl sz43 rfl rfl rfl ?_
          intro W27 y28 b3
          have z29 := z6.below (y28.below (by omega))
          have s30 := y28.size
          refine vnil ?_
          refine V.ret ?_
          refine ⟨[_], ⟨⟨_, rfl, lvb ag43 b3 rfl⟩, trivial⟩, ?_⟩
          refine ⟨_, rfl, z29, (QC.zero S _).cast ?_⟩
          first | exact (matI_neg (by omega)).symm | exact (matI_ge1 (by omega)).symm | exact (matI_ge2 (by omega)).symm
        · intro c26
          refine vv (rpk (v := .bool false) rfl rfl) ?_
          refine vnil ?_
          refine V.condF rfl ?_
          refine V.skip ?_
          refine V.seq (V.reg rfl ?_)
          refine mvs rfl ?_
          refine mvi rfl ?_
          refine vv (rix sl25 sz30 rfl rfl (by omega) (by omega) ((hx.ext z6).isS (i := 0) (by omega) (by omega))) ?_
          refine vldRow (hx.ext z6) rfl sc30 (by omega) (by omega) ?_
          intro a31 n32 c33 hg34
          have hg34l := hg34.len; have hg34m := hg34.max
          refine mvi rfl ?_
          refine vv (rix sl30 sz43 rfl rfl (by omega) (by omega) (hg34.isS (i := 0) (by omega) (by omega))) ?_
          refine vldQ hg34 rfl ag43 (by omega) (by omega) ?_
          intro n35 a36 l37 c38 n39 a40 l41 c42 hq43
          refine vo ?_
          refine xcall e39 (fCanon_ok _ _ _ _ _ _ hq43 (by omega) (by omega) (hu2 _ (by omega))) rfl rfl ?_
          rintro _ W45 ⟨_, rfl, x46, hq44⟩
          have s47 := x46.sz
          have z48 := z6.trans x46
          replace b3 := b3.ext x46
          obtain ⟨_, _, _, _, _, _, _, _, rfl⟩ := hq44.form
          refine ⟨_, rfl, ?_⟩
          refine vo ?_
          refine sta (cs' := [_, _, _, _]) b3 rfl rfl sz43 rfl rfl rfl ?_
          intro W49 y50 b3
          have z51 := z48.below (y50.below (by omega))
          have s52 := y50.size
          refine vnil ?_
          refine V.ret ?_
          refine ⟨[_], ⟨⟨_, rfl, lvb ag43 b3 rfl⟩, trivial⟩, ?_⟩
          refine ⟨_, rfl, z51, ((hq44.ck (y50.ck (by intro hh; simp [SX] at hh <;> omega)))).un.cast ?_⟩
          rw [matI, if_pos ⟨by omega, by omega⟩]; rfl
end Go.Proofs.Ytknbjfefeeojlaa

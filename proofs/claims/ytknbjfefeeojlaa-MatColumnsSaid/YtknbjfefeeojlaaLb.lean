/- Packages pylonref04: Cols; pylonlaw01 to pylonlaw04: Long. -/
import Derived.Test.YtknbjfefeeojlaaLy
namespace Go.Proofs.Ytknbjfefeeojlaa
open Go.RowKit
attribute [local irreducible] RV VH V OpF Calls

set_option maxHeartbeats 400000 in
theorem rCols_ok (a1 : Option Addr) (n c : Nat) (rss : List (List RawQ)) (S1 : Nat → Prop) (w : World) (hx : MX S1 w a1 n c rss) :
    Calls Try.prog 8 #[.slice a1 n c] w (fun e w' => e = .returned (.int .i64 (colsG rss : Int)) ∧ w = w') := by
  have z0 := Ext.refl w; have hLX : LX = 17592186044416 := rfl; have hLY : LY = 8796093022208 := rfl
  have l1 := hx.len; have l2 := hx.max
  refine enter (args := [.slice a1 n c]) Try.func8 rfl rfl (Nat.le_of_ble_eq_true rfl) ?_
  refine V.seq (V.reg rfl ?_)
  refine asi rfl ?_
  refine vnil ?_
  refine V.seq (V.reg rfl ?_)
  refine asi rfl ?_
  refine vnil ?_
  refine V.seq ?_
  refine V.seq (V.reg rfl ?_)
  refine asi rfl ?_
  refine vnil ?_
  refine V.block ?_
  refine V.loopK (ι := Nat) [(0, .slice _ _ _), (2, .int _ _)] (fun k => [(4, .int .i64 (k : Int)), (3, .int .i64 (colsG (rss.take k) : Int))]) (fun k W => w = W ∧ k ≤ n) (fun k => n - k) (0) ⟨rfl, rfl, trivial⟩ ⟨rfl, rfl, trivial⟩ ⟨rfl, Nat.zero_le _⟩ ?_
  intro k E2 W1 h3
  obtain ⟨rfl, hk⟩ := h3
  refine V.seq ?_
  refine V.seq (V.reg rfl ?_)
  refine mvi rfl ?_
  refine mvs rfl ?_
  refine vv (rlen sl25 rfl) ?_
  refine vlt rfl rfl ?_ ?_
  · intro c4
    refine vnil ?_
    refine V.condT rfl ?_
    refine V.skip ?_
    refine V.seq ?_
    refine V.block ?_
    refine V.reg rfl ?_
    refine mvi rfl ?_
    refine mvs rfl ?_
    refine mvi rfl ?_
    refine vv (rix sl25 sz30 rfl rfl (by omega) (by omega) (hx.isS (i := 0) (by omega) (by omega))) ?_
    refine vldRow hx rfl sc30 (by omega) (by omega) ?_
    intro a5 n6 c7 hg8
    have hg8l := hg8.len; have hg8m := hg8.max
    refine vv (rlen sl30 rfl) ?_
    have ecs : max ((colsG (rss.take k) : Nat) : Int) ((rowat rss ((k : Int)).toNat).length : Nat) = (colsG (rss.take (k + 1)) : Int) := by rw [colsG_succ rss k (by omega)]; simp; omega
    rw [hg8l] at ecs
    refine vv (rmax rfl rfl ecs) ?_
    refine asi rfl ?_
    refine vnil ?_
    refine V.reg rfl ?_
    refine mvi rfl ?_
    refine vv (rbin (bAdd (wi (by omega))) rfl rfl) ?_
    refine asi rfl ?_
    refine vnil ?_
    refine ⟨rfl, k + 1, ⟨rfl, rfl, trivial⟩, ⟨rfl, rfl, trivial⟩, ⟨rfl, by omega⟩, ?_⟩
    show n - (k + 1) < n - k
    omega
  · intro c4
    refine vnil ?_
    refine V.condF rfl ?_
    refine V.exit ?_
    refine V.seq (V.reg rfl ?_)
    refine mvi rfl ?_
    refine asi rfl ?_
    refine vnil ?_
    refine V.ret ?_
    refine ⟨[.int _ _], ⟨rfl, trivial⟩, ?_⟩
    exact ⟨by rw [List.take_of_length_le (by omega)]; rfl, rfl⟩
set_option maxHeartbeats 400000 in
theorem long1_ok (a : Option Addr) (n c : Nat) (qs : List (List Value)) (S1 : Nat → Prop) (w : World) (h : RS 2 S1 w a n c qs) (hf : ∀ q ∈ qs, form2 q) :
    Calls Try.prog 57 #[.slice a n c] w (fun e w' => ∃ q, e = .returned (.bool q) ∧ w = w') := by
  have z0 := Ext.refl w; have hLX : LX = 17592186044416 := rfl; have hLY : LY = 8796093022208 := rfl
  have l1 := h.len; have l2 := h.cap; have l3 := h.max
  refine enter (args := [.slice a n c]) Try.func57 rfl rfl (Nat.le_of_ble_eq_true rfl) ?_
  refine V.seq (V.reg rfl ?_)
  refine asb rfl ?_
  refine vnil ?_
  refine V.seq ?_
  refine V.seq (V.reg rfl ?_)
  refine asi rfl ?_
  refine vnil ?_
  refine V.block ?_
  refine V.loopK (ι := Nat) [(0, .slice _ _ _)] (fun k => [(3, .int .i64 (k : Int))]) (fun k W => w = W ∧ k ≤ n) (fun k => n - k) (0) ⟨rfl, trivial⟩ ⟨rfl, trivial⟩ ⟨rfl, Nat.zero_le _⟩ ?_
  intro k E2 W1 h3
  obtain ⟨rfl, hk⟩ := h3
  refine V.seq ?_
  refine V.seq (V.reg rfl ?_)
  refine mvi rfl ?_
  refine mvs rfl ?_
  refine vv (rlen sl118 rfl) ?_
  refine vlt rfl rfl ?_ ?_
  · intro c4
    obtain ⟨eq0, hq1, hq2, hce⟩ := h.el (i := (k : Int)) (by omega) (by omega); obtain ⟨ex0, ea0, el0, ec0, rfl⟩ := hf _ (List.mem_of_getElem? hq1)
    have ce0 : CE w _ _ := hce
    refine vnil ?_
    refine V.condT rfl ?_
    refine V.skip ?_
    refine V.seq ?_
    refine V.block ?_
    refine V.seq (V.reg rfl ?_)
    refine mvs rfl ?_
    refine mvi rfl ?_
    refine vv (rix sl118 sz41 rfl rfl (by omega) (by omega) (h.isS (i := 0) (by omega) (by omega))) ?_
    refine vv (rfaG rfl fd41_1) ?_
    refine vv (rld1 (v := .slice _ _ _) rfl sc39 (ce0 1 _ rfl)) ?_
    refine vv (rlen sl39 rfl) ?_
    refine vgt rfl rfl ?_ ?_
    · intro c5
      refine vnil ?_
      refine V.condT rfl ?_
      refine V.seq (V.reg rfl ?_)
      refine asb rfl ?_
      refine vnil ?_
      refine V.ret ?_
      refine ⟨[.bool true], ⟨rfl, trivial⟩, ?_⟩
      exact ⟨_, rfl, rfl⟩
    · intro c5
      refine vnil ?_
      refine V.condF rfl ?_
      refine V.skip ?_
      refine V.reg rfl ?_
      refine mvi rfl ?_
      refine vv (rbin (bAdd (wi (by omega))) rfl rfl) ?_
      refine asi rfl ?_
      refine vnil ?_
      refine ⟨rfl, k + 1, ⟨rfl, trivial⟩, ⟨rfl, trivial⟩, ⟨rfl, by omega⟩, ?_⟩
      show n - (k + 1) < n - k
      omega
  · intro c4
    refine vnil ?_
    refine V.condF rfl ?_
    refine V.exit ?_
    refine V.seq (V.reg rfl ?_)
    refine asb rfl ?_
    refine vnil ?_
    refine V.ret ?_
    refine ⟨[.bool false], ⟨rfl, trivial⟩, ?_⟩
    exact ⟨_, rfl, rfl⟩
set_option maxHeartbeats 400000 in
theorem long2_ok (a1 : Option Addr) (n c : Nat) (ρs : List RawQ) (S1 : Nat → Prop) (w : World) (hx : GX S1 w a1 n c ρs) :
    Calls Try.prog 34 #[.slice a1 n c] w (fun e w' => ∃ q, e = .returned (.bool q) ∧ Ext w w' ∧ (q = false → smallV ρs)) := by
  have z0 := Ext.refl w; have hLX : LX = 17592186044416 := rfl; have hLY : LY = 8796093022208 := rfl
  have l1 := hx.len; have l2 := hx.max
  refine enter (args := [.slice a1 n c]) Try.func34 rfl rfl (Nat.le_of_ble_eq_true rfl) ?_
  refine V.seq (V.reg rfl ?_)
  refine asb rfl ?_
  refine vnil ?_
  refine V.seq ?_
  refine V.seq (V.reg rfl ?_)
  refine asi rfl ?_
  refine vnil ?_
  refine V.block ?_
  refine V.loopK (ι := Nat) [(0, .slice _ _ _)] (fun k => [(3, .int .i64 (k : Int))]) (fun k W => Ext w W ∧ k ≤ n ∧ ∀ i, i < k → szQ 6 (xat ρs i)) (fun k => n - k) (0) ⟨rfl, trivial⟩ ⟨rfl, trivial⟩ ⟨Ext.refl _, Nat.zero_le _, fun i hi => absurd hi (Nat.not_lt_zero _)⟩ ?_
  intro k E2 W1 h3
  obtain ⟨x4, hk, hs⟩ := h3
  have s5 := x4.sz
  have z6 := x4
  refine V.seq ?_
  refine V.seq (V.reg rfl ?_)
  refine mvi rfl ?_
  refine mvs rfl ?_
  refine vv (rlen sl30 rfl) ?_
  refine vlt rfl rfl ?_ ?_
  · intro c7
    obtain ⟨en0, ea0, el0, ec0, em0, eb0, ek0, ed0, hq0, hc0⟩ := (hx.ext z6).el (i := (k : Int)) (by omega) (by omega)
    have ce0 : CE W1 _ _ := hc0
    obtain ⟨hz1, hz2, hz3, hz4⟩ := hq0.two; have hzl := hz2.len; have hzm := hz4.len
    refine vnil ?_
    refine V.condT rfl ?_
    refine V.skip ?_
    refine V.seq ?_
    refine V.block ?_
    refine V.seq (V.regD mixed rfl ?_)
    intro W8 x9
    have s10 := x9.sz
    have z11 := z6.trans x9
    have q12 := Ext.refl W8
    refine tk 0 rfl (by kernel_rfl) q12 (pv (fun _ y13 => rmv (v := .slice _ _ _) rfl)) ?_
    refine tk 1 rfl (by kernel_rfl) q12 (pv (fun _ y14 => rmv (v := .int _ _) rfl)) ?_
    refine tk 2 rfl (by kernel_rfl) q12 (pv (fun _ y15 => rix sl30 sz43 rfl rfl (by omega) (by omega) (((hx.ext z11).ext y15).isS (i := 0) (by omega) (by omega)))) ?_
    refine tk 3 rfl (by kernel_rfl) q12 (pv (fun _ y16 => rfaG rfl fd43_0)) ?_
    refine tk 4 rfl (by kernel_rfl) q12 (pv (fun _ y17 => rldn (l := [.bool _, .slice _ _ _]) rfl ag41 rfl (((ce0.ext x9).ext y17).part (l' := [.bool _, .slice _ _ _]) 0 rfl))) ?_
    refine tk 5 rfl (by kernel_rfl) q12 (pv (fun _ y18 => rmv (v := .slice _ _ _) rfl)) ?_
    refine tk 6 rfl (by kernel_rfl) q12 (pv (fun _ y19 => rmv (v := .int _ _) rfl)) ?_
    refine tk 7 rfl (by kernel_rfl) q12 (pv (fun _ y20 => rix sl30 sz43 rfl rfl (by omega) (by omega) (((hx.ext z11).ext y20).isS (i := 0) (by omega) (by omega)))) ?_
    refine tk 8 rfl (by kernel_rfl) q12 (pv (fun _ y21 => rfaG rfl fd43_1)) ?_
    refine tk 9 rfl (by kernel_rfl) q12 (pv (fun _ y22 => rldn (l := [.bool _, .slice _ _ _]) rfl ag41 rfl (((ce0.ext x9).ext y22).part (l' := [.bool _, .slice _ _ _]) 2 rfl))) ?_
    refine ef 10 (by kernel_rfl) rfl ?_
    refine xbs (ps := [(0, .agg #[_, _]), (1, .agg #[_, _])]) (cs := [.bool _, .slice _ _ _, .bool _, .slice _ _ _]) sl118 zr41 sz41 rfl rfl rfl rfl rfl rfl ?_
    intro W23 x24 b25 nn26
    have s27 := x24.sz
    have z28 := z11.trans x24
    have q29 := q12.trans x24
    refine ⟨fun _ => q29, ?_⟩
    refine ef 11 (by kernel_rfl) rfl ?_
    have hls := RS.lit (s := 2) (S := TT) (n := 2) [[.bool _, .slice _ _ _], [.bool _, .slice _ _ _]] b25 rfl (by simp) trivial rfl (by omega)
    refine xcall e57 (long1_ok _ _ _ _ _ _ hls (by intro q hq; simp at hq; rcases hq with rfl | rfl <;> exact ⟨_, _, _, _, rfl⟩)) rfl rfl ?_
    rintro _ _ ⟨bb1, rfl, rfl⟩
    refine ⟨_, rfl, ?_⟩
    cases bb1
    · skip
      refine ⟨fun _ => q29, ?_⟩
      refine tk 12 rfl (by kernel_rfl) q29 (pv (fun _ y30 => rmv (v := .bool false) rfl)) ?_
      refine tk 13 rfl (by kernel_rfl) q29 (pg rfl (fun _ y31 => rmv (v := .slice _ _ _) rfl)) ?_
      refine tk 14 rfl (by kernel_rfl) q29 (pg rfl (fun _ y32 => rmv (v := .int _ _) rfl)) ?_
      refine tk 15 rfl (by kernel_rfl) q29 (pg rfl (fun _ y33 => rix sl30 sz43 rfl rfl (by omega) (by omega) (((hx.ext z11).ext y33).isS (i := 0) (by omega) (by omega)))) ?_
      refine tk 16 rfl (by kernel_rfl) q29 (pg rfl (fun _ y34 => rfaG rfl fd43_0)) ?_
      refine tk 17 rfl (by kernel_rfl) q29 (pg rfl (fun _ y35 => rfaG rfl fd41_1)) ?_
      refine tk 18 rfl (by kernel_rfl) q29 (pg rfl (fun _ y36 => rld1 (v := .slice _ _ _) rfl sc39 ((((ce0.ext x9).ext y36).part (l' := [.bool _, .slice _ _ _]) 0 rfl) 1 _ rfl))) ?_
      refine tk 19 rfl (by kernel_rfl) q29 (pg rfl (fun _ y37 => rlen sl39 rfl)) ?_
      refine tkGt 20 rfl (by kernel_rfl) q29 rfl rfl (fun _ h => pg rfl h) ?_ ?_
      · intro c39
        refine tk 21 rfl (by kernel_rfl) q29 (pv (fun _ y40 => rpk (v := .bool true) rfl rfl)) ?_
        refine tk 22 rfl (by kernel_rfl) q29 (pv (fun _ y41 => rmv (v := .bool true) rfl)) ?_
        refine tk 23 rfl (by kernel_rfl) q29 (pgn (b := true) rfl rfl) ?_
        refine tk 24 rfl (by kernel_rfl) q29 (pgn (b := true) rfl rfl) ?_
        refine tk 25 rfl (by kernel_rfl) q29 (pgn (b := true) rfl rfl) ?_
        refine tk 26 rfl (by kernel_rfl) q29 (pgn (b := true) rfl rfl) ?_
        refine tk 27 rfl (by kernel_rfl) q29 (pgn (b := true) rfl rfl) ?_
        refine tk 28 rfl (by kernel_rfl) q29 (pgn (b := true) rfl rfl) ?_
        refine tk 29 rfl (by kernel_rfl) q29 (pgn (b := true) rfl rfl) ?_
        refine tk 30 rfl (by kernel_rfl) q29 (pgn (b := true) rfl rfl) ?_
        refine tk 31 rfl (by kernel_rfl) q29 (pv (fun _ y42 => rpk (v := .bool true) rfl rfl)) ?_
        refine dn (by kernel_rfl) ?_
        refine V.condT rfl ?_
        refine V.seq (V.reg rfl ?_)
        refine asb rfl ?_
        refine vnil ?_
        refine V.ret ?_
        refine ⟨[.bool true], ⟨rfl, trivial⟩, ?_⟩
        exact ⟨_, rfl, z28, fun h => (by cases h)⟩
      · intro c39
        refine tk 21 rfl (by kernel_rfl) q29 (pv (fun _ y43 => rpk (v := .bool false) rfl rfl)) ?_
        refine tk 22 rfl (by kernel_rfl) q29 (pv (fun _ y44 => rmv (v := .bool false) rfl)) ?_
        refine tk 23 rfl (by kernel_rfl) q29 (pg rfl (fun _ y45 => rmv (v := .slice _ _ _) rfl)) ?_
        refine tk 24 rfl (by kernel_rfl) q29 (pg rfl (fun _ y46 => rmv (v := .int _ _) rfl)) ?_
        refine tk 25 rfl (by kernel_rfl) q29 (pg rfl (fun _ y47 => rix sl30 sz43 rfl rfl (by omega) (by omega) (((hx.ext z11).ext y47).isS (i := 0) (by omega) (by omega)))) ?_
        refine tk 26 rfl (by kernel_rfl) q29 (pg rfl (fun _ y48 => rfaG rfl fd43_1)) ?_
        refine tk 27 rfl (by kernel_rfl) q29 (pg rfl (fun _ y49 => rfaG rfl fd41_1)) ?_
        refine tk 28 rfl (by kernel_rfl) q29 (pg rfl (fun _ y50 => rld1 (v := .slice _ _ _) rfl sc39 ((((ce0.ext x9).ext y50).part (l' := [.bool _, .slice _ _ _]) 2 rfl) 1 _ rfl))) ?_
        refine tk 29 rfl (by kernel_rfl) q29 (pg rfl (fun _ y51 => rlen sl39 rfl)) ?_
        refine tkGt 30 rfl (by kernel_rfl) q29 rfl rfl (fun _ h => pg rfl h) ?_ ?_
        · intro c53
          refine tk 31 rfl (by kernel_rfl) q29 (pv (fun _ y54 => rpk (v := .bool true) rfl rfl)) ?_
          refine dn (by kernel_rfl) ?_
          refine V.condT rfl ?_
          refine V.seq (V.reg rfl ?_)
          refine asb rfl ?_
          refine vnil ?_
          refine V.ret ?_
          refine ⟨[.bool true], ⟨rfl, trivial⟩, ?_⟩
          exact ⟨_, rfl, z28, fun h => (by cases h)⟩
        · intro c53
          refine tk 31 rfl (by kernel_rfl) q29 (pv (fun _ y55 => rpk (v := .bool false) rfl rfl)) ?_
          refine dn (by kernel_rfl) ?_
          refine V.condF rfl ?_
          refine V.skip ?_
          refine V.reg rfl ?_
          refine mvi rfl ?_
          refine vv (rbin (bAdd (wi (by omega))) rfl rfl) ?_
          refine asi rfl ?_
          refine vnil ?_
          refine ⟨rfl, k + 1, ⟨rfl, trivial⟩, ⟨rfl, trivial⟩, ⟨z28, by omega, fun i hi => by rcases Nat.lt_succ_iff_lt_or_eq.1 hi with h | rfl; exact hs i h; exact ⟨by rw [show i = ((i : Int)).toNat by omega]; omega, by rw [show i = ((i : Int)).toNat by omega]; omega⟩⟩, ?_⟩
          show n - (k + 1) < n - k
          omega
    · skip
      refine ⟨fun _ => q29, ?_⟩
      refine tk 12 rfl (by kernel_rfl) q29 (pv (fun _ y56 => rmv (v := .bool true) rfl)) ?_
      refine tk 13 rfl (by kernel_rfl) q29 (pgn (b := true) rfl rfl) ?_
      refine tk 14 rfl (by kernel_rfl) q29 (pgn (b := true) rfl rfl) ?_
      refine tk 15 rfl (by kernel_rfl) q29 (pgn (b := true) rfl rfl) ?_
      refine tk 16 rfl (by kernel_rfl) q29 (pgn (b := true) rfl rfl) ?_
      refine tk 17 rfl (by kernel_rfl) q29 (pgn (b := true) rfl rfl) ?_
      refine tk 18 rfl (by kernel_rfl) q29 (pgn (b := true) rfl rfl) ?_
      refine tk 19 rfl (by kernel_rfl) q29 (pgn (b := true) rfl rfl) ?_
      refine tk 20 rfl (by kernel_rfl) q29 (pgn (b := true) rfl rfl) ?_
      refine tk 21 rfl (by kernel_rfl) q29 (pv (fun _ y57 => rpk (v := .bool true) rfl rfl)) ?_
      refine tk 22 rfl (by kernel_rfl) q29 (pv (fun _ y58 => rmv (v := .bool true) rfl)) ?_
      refine tk 23 rfl (by kernel_rfl) q29 (pgn (b := true) rfl rfl) ?_
      refine tk 24 rfl (by kernel_rfl) q29 (pgn (b := true) rfl rfl) ?_
      refine tk 25 rfl (by kernel_rfl) q29 (pgn (b := true) rfl rfl) ?_
      refine tk 26 rfl (by kernel_rfl) q29 (pgn (b := true) rfl rfl) ?_
      refine tk 27 rfl (by kernel_rfl) q29 (pgn (b := true) rfl rfl) ?_
      refine tk 28 rfl (by kernel_rfl) q29 (pgn (b := true) rfl rfl) ?_
      refine tk 29 rfl (by kernel_rfl) q29 (pgn (b := true) rfl rfl) ?_
      refine tk 30 rfl (by kernel_rfl) q29 (pgn (b := true) rfl rfl) ?_
      refine tk 31 rfl (by kernel_rfl) q29 (pv (fun _ y59 => rpk (v := .bool true) rfl rfl)) ?_
      refine dn (by kernel_rfl) ?_
      refine V.condT rfl ?_
      refine V.seq (V.reg rfl ?_)
      refine asb rfl ?_
      refine vnil ?_
      refine V.ret ?_
      refine ⟨[.bool true], ⟨rfl, trivial⟩, ?_⟩
      exact ⟨_, rfl, z28, fun h => (by cases h)⟩
  · intro c7
    refine vnil ?_
    refine V.condF rfl ?_
    refine V.exit ?_
    refine V.seq (V.reg rfl ?_)
    refine asb rfl ?_
    refine vnil ?_
    refine V.ret ?_
    refine ⟨[.bool false], ⟨rfl, trivial⟩, ?_⟩
    exact ⟨_, rfl, z6, fun _ => forall_lt rz (n := k) (by omega) hs⟩
set_option maxHeartbeats 400000 in
theorem long3_ok (a1 : Option Addr) (n c : Nat) (rss : List (List RawQ)) (S1 : Nat → Prop) (w : World) (hx : MX S1 w a1 n c rss) :
    Calls Try.prog 14 #[.slice a1 n c] w (fun e w' => ∃ q, e = .returned (.bool q) ∧ Ext w w' ∧ (q = false → ∀ r ∈ rss, r.length ≤ 20 ∧ smallV r)) := by
  have z0 := Ext.refl w; have hLX : LX = 17592186044416 := rfl; have hLY : LY = 8796093022208 := rfl
  have l1 := hx.len; have l2 := hx.max
  refine enter (args := [.slice a1 n c]) Try.func14 rfl rfl (Nat.le_of_ble_eq_true rfl) ?_
  refine V.seq (V.reg rfl ?_)
  refine asb rfl ?_
  refine vnil ?_
  refine V.seq ?_
  refine V.seq (V.reg rfl ?_)
  refine asi rfl ?_
  refine vnil ?_
  refine V.block ?_
  refine V.loopK (ι := Nat) [(0, .slice _ _ _)] (fun k => [(3, .int .i64 (k : Int))]) (fun k W => Ext w W ∧ k ≤ n ∧ ∀ i, i < k → (rowat rss i).length ≤ 20 ∧ smallV (rowat rss i)) (fun k => n - k) (0) ⟨rfl, trivial⟩ ⟨rfl, trivial⟩ ⟨Ext.refl _, Nat.zero_le _, fun i hi => absurd hi (Nat.not_lt_zero _)⟩ ?_
  intro k E2 W1 h3
  obtain ⟨x4, hk, hs⟩ := h3
  have s5 := x4.sz
  have z6 := x4
  refine V.seq ?_
  refine V.seq (V.reg rfl ?_)
  refine mvi rfl ?_
  refine mvs rfl ?_
  refine vv (rlen sl25 rfl) ?_
  refine vlt rfl rfl ?_ ?_
  · intro c7
    refine vnil ?_
    refine V.condT rfl ?_
    refine V.skip ?_
    refine V.seq ?_
    refine V.block ?_
    refine V.seq (V.reg rfl ?_)
    refine mvs rfl ?_
    refine mvi rfl ?_
    refine vv (rix sl25 sz30 rfl rfl (by omega) (by omega) ((hx.ext z6).isS (i := 0) (by omega) (by omega))) ?_
    refine vldRow (hx.ext z6) rfl sc30 (by omega) (by omega) ?_
    intro a8 n9 c10 hg11
    have hg11l := hg11.len; have hg11m := hg11.max
    refine vv (rlen sl30 rfl) ?_
    refine vgt rfl rfl ?_ ?_
    · intro c12
      refine mvb rfl ?_
      refine vgn (b := true) rfl rfl ?_
      refine vgn (b := true) rfl rfl ?_
      refine vgn (b := true) rfl rfl ?_
      refine vgn (b := true) rfl rfl ?_
      refine vgn (b := true) rfl rfl ?_
      refine vv (rpk (v := .bool true) rfl rfl) ?_
      refine vnil ?_
      refine V.condT rfl ?_
      refine V.seq (V.reg rfl ?_)
      refine asb rfl ?_
      refine vnil ?_
      refine V.ret ?_
      refine ⟨[.bool true], ⟨rfl, trivial⟩, ?_⟩
      exact ⟨_, rfl, z6, fun h => (by cases h)⟩
    · intro c12
      refine mvb rfl ?_
      refine vg rfl ?_
      refine mvs rfl ?_
      refine vg rfl ?_
      refine mvi rfl ?_
      refine vg rfl ?_
      refine vv (rix sl25 sz30 rfl rfl (by omega) (by omega) ((hx.ext z6).isS (i := 0) (by omega) (by omega))) ?_
      refine vg rfl ?_
      refine vldRow (hx.ext z6) rfl sc30 (by omega) (by omega) ?_
      intro a13 n14 c15 hg16
      have hg16l := hg16.len; have hg16m := hg16.max
      refine vg rfl ?_
      refine vo ?_
      refine xcall e34 (long2_ok _ _ _ _ _ _ hg16) rfl rfl ?_
      rintro _ Wb1 ⟨bb1, rfl, xb1, hb1⟩
      refine ⟨_, rfl, ?_⟩
      cases bb1
      · skip
        have s17 := xb1.sz
        have z18 := z6.trans xb1
        refine vv (rpk (v := .bool false) rfl rfl) ?_
        refine vnil ?_
        refine V.condF rfl ?_
        refine V.skip ?_
        refine V.reg rfl ?_
        refine mvi rfl ?_
        refine vv (rbin (bAdd (wi (by omega))) rfl rfl) ?_
        refine asi rfl ?_
        refine vnil ?_
        refine ⟨rfl, k + 1, ⟨rfl, trivial⟩, ⟨rfl, trivial⟩, ⟨z18, by omega, fun i hi => by rcases Nat.lt_succ_iff_lt_or_eq.1 hi with h | rfl; exact hs i h; exact ⟨by rw [show i = ((i : Int)).toNat by omega]; omega, hb1 rfl⟩⟩, ?_⟩
        show n - (k + 1) < n - k
        omega
      · skip
        have s19 := xb1.sz
        have z20 := z6.trans xb1
        refine vv (rpk (v := .bool true) rfl rfl) ?_
        refine vnil ?_
        refine V.condT rfl ?_
        refine V.seq (V.reg rfl ?_)
        refine asb rfl ?_
        refine vnil ?_
        refine V.ret ?_
        refine ⟨[.bool true], ⟨rfl, trivial⟩, ?_⟩
        exact ⟨_, rfl, z20, fun h => (by cases h)⟩
  · intro c7
    refine vnil ?_
    refine V.condF rfl ?_
    refine V.exit ?_
    refine V.seq (V.reg rfl ?_)
    refine asb rfl ?_
    refine vnil ?_
    refine V.ret ?_
    refine ⟨[.bool false], ⟨rfl, trivial⟩, ?_⟩
    exact ⟨_, rfl, z6, fun _ => forall_lt [] (n := k) (by omega) hs⟩
set_option maxHeartbeats 400000 in
theorem long4_ok (a1 : Option Addr) (n c : Nat) (ms : List (List (List RawQ))) (S1 : Nat → Prop) (w : World) (hx : MXX S1 w a1 n c ms) :
    Calls Try.prog 13 #[.slice a1 n c] w (fun e w' => ∃ q, e = .returned (.bool q) ∧ Ext w w' ∧ (q = false → ∀ m ∈ ms, smallM m)) := by
  have z0 := Ext.refl w; have hLX : LX = 17592186044416 := rfl; have hLY : LY = 8796093022208 := rfl
  have l1 := hx.len; have l2 := hx.max
  refine enter (args := [.slice a1 n c]) Try.func13 rfl rfl (Nat.le_of_ble_eq_true rfl) ?_
  refine V.seq (V.reg rfl ?_)
  refine asb rfl ?_
  refine vnil ?_
  refine V.seq ?_
  refine V.seq (V.reg rfl ?_)
  refine asi rfl ?_
  refine vnil ?_
  refine V.block ?_
  refine V.loopK (ι := Nat) [(0, .slice _ _ _)] (fun k => [(3, .int .i64 (k : Int))]) (fun k W => Ext w W ∧ k ≤ n ∧ ∀ i, i < k → smallM (rowat ms i)) (fun k => n - k) (0) ⟨rfl, trivial⟩ ⟨rfl, trivial⟩ ⟨Ext.refl _, Nat.zero_le _, fun i hi => absurd hi (Nat.not_lt_zero _)⟩ ?_
  intro k E2 W1 h3
  obtain ⟨x4, hk, hs⟩ := h3
  have s5 := x4.sz
  have z6 := x4
  refine V.seq ?_
  refine V.seq (V.reg rfl ?_)
  refine mvi rfl ?_
  refine mvs rfl ?_
  refine vv (rlen sl56 rfl) ?_
  refine vlt rfl rfl ?_ ?_
  · intro c7
    refine vnil ?_
    refine V.condT rfl ?_
    refine V.skip ?_
    refine V.seq ?_
    refine V.block ?_
    refine V.seq (V.reg rfl ?_)
    refine mvs rfl ?_
    refine mvi rfl ?_
    refine vv (rix sl56 sz25 rfl rfl (by omega) (by omega) ((hx.ext z6).isS (i := 0) (by omega) (by omega))) ?_
    refine vldRow (hx.ext z6) rfl sc25 (by omega) (by omega) ?_
    intro a8 n9 c10 hg11
    have hg11l := hg11.len; have hg11m := hg11.max
    refine vv (rlen sl25 rfl) ?_
    refine vgt rfl rfl ?_ ?_
    · intro c12
      refine mvb rfl ?_
      refine vgn (b := true) rfl rfl ?_
      refine vgn (b := true) rfl rfl ?_
      refine vgn (b := true) rfl rfl ?_
      refine vgn (b := true) rfl rfl ?_
      refine vgn (b := true) rfl rfl ?_
      refine vgn (b := true) rfl rfl ?_
      refine vv (rpk (v := .bool true) rfl rfl) ?_
      refine mvb rfl ?_
      refine vgn (b := true) rfl rfl ?_
      refine vgn (b := true) rfl rfl ?_
      refine vgn (b := true) rfl rfl ?_
      refine vgn (b := true) rfl rfl ?_
      refine vgn (b := true) rfl rfl ?_
      refine vv (rpk (v := .bool true) rfl rfl) ?_
      refine vnil ?_
      refine V.condT rfl ?_
      refine V.seq (V.reg rfl ?_)
      refine asb rfl ?_
      refine vnil ?_
      refine V.ret ?_
      refine ⟨[.bool true], ⟨rfl, trivial⟩, ?_⟩
      exact ⟨_, rfl, z6, fun h => (by cases h)⟩
    · intro c12
      refine mvb rfl ?_
      refine vg rfl ?_
      refine mvs rfl ?_
      refine vg rfl ?_
      refine mvi rfl ?_
      refine vg rfl ?_
      refine vv (rix sl56 sz25 rfl rfl (by omega) (by omega) ((hx.ext z6).isS (i := 0) (by omega) (by omega))) ?_
      refine vg rfl ?_
      refine vldRow (hx.ext z6) rfl sc25 (by omega) (by omega) ?_
      intro a13 n14 c15 hg16
      have hg16l := hg16.len; have hg16m := hg16.max
      refine vg rfl ?_
      refine vo ?_
      refine xcall e8 (rCols_ok _ _ _ _ _ _ hg16) rfl rfl ?_
      rintro _ _ ⟨rfl, rfl⟩
      refine ⟨_, rfl, ?_⟩
      refine vg rfl ?_
      refine vgt rfl rfl ?_ ?_
      · intro c18
        refine vv (rpk (v := .bool true) rfl rfl) ?_
        refine mvb rfl ?_
        refine vgn (b := true) rfl rfl ?_
        refine vgn (b := true) rfl rfl ?_
        refine vgn (b := true) rfl rfl ?_
        refine vgn (b := true) rfl rfl ?_
        refine vgn (b := true) rfl rfl ?_
        refine vv (rpk (v := .bool true) rfl rfl) ?_
        refine vnil ?_
        refine V.condT rfl ?_
        refine V.seq (V.reg rfl ?_)
        refine asb rfl ?_
        refine vnil ?_
        refine V.ret ?_
        refine ⟨[.bool true], ⟨rfl, trivial⟩, ?_⟩
        exact ⟨_, rfl, z6, fun h => (by cases h)⟩
      · intro c18
        refine vv (rpk (v := .bool false) rfl rfl) ?_
        refine mvb rfl ?_
        refine vg rfl ?_
        refine mvs rfl ?_
        refine vg rfl ?_
        refine mvi rfl ?_
        refine vg rfl ?_
        refine vv (rix sl56 sz25 rfl rfl (by omega) (by omega) ((hx.ext z6).isS (i := 0) (by omega) (by omega))) ?_
        refine vg rfl ?_
        refine vldRow (hx.ext z6) rfl sc25 (by omega) (by omega) ?_
        intro a19 n20 c21 hg22
        have hg22l := hg22.len; have hg22m := hg22.max
        refine vg rfl ?_
        refine vo ?_
        refine xcall e14 (long3_ok _ _ _ _ _ _ hg22) rfl rfl ?_
        rintro _ Wb1 ⟨bb1, rfl, xb1, hb1⟩
        refine ⟨_, rfl, ?_⟩
        cases bb1
        · skip
          have s23 := xb1.sz
          have z24 := z6.trans xb1
          refine vv (rpk (v := .bool false) rfl rfl) ?_
          refine vnil ?_
          refine V.condF rfl ?_
          refine V.skip ?_
          refine V.reg rfl ?_
          refine mvi rfl ?_
          refine vv (rbin (bAdd (wi (by omega))) rfl rfl) ?_
          refine asi rfl ?_
          refine vnil ?_
          refine ⟨rfl, k + 1, ⟨rfl, trivial⟩, ⟨rfl, trivial⟩, ⟨z24, by omega, fun i hi => by rcases Nat.lt_succ_iff_lt_or_eq.1 hi with h | rfl; exact hs i h; exact ⟨by rw [show i = ((i : Int)).toNat by omega]; omega, by rw [show i = ((i : Int)).toNat by omega]; omega, hb1 rfl⟩⟩, ?_⟩
          show n - (k + 1) < n - k
          omega
        · skip
          have s25 := xb1.sz
          have z26 := z6.trans xb1
          refine vv (rpk (v := .bool true) rfl rfl) ?_
          refine vnil ?_
          refine V.condT rfl ?_
          refine V.seq (V.reg rfl ?_)
          refine asb rfl ?_
          refine vnil ?_
          refine V.ret ?_
          refine ⟨[.bool true], ⟨rfl, trivial⟩, ?_⟩
          exact ⟨_, rfl, z26, fun h => (by cases h)⟩
  · intro c7
    refine vnil ?_
    refine V.condF rfl ?_
    refine V.exit ?_
    refine V.seq (V.reg rfl ?_)
    refine asb rfl ?_
    refine vnil ?_
    refine V.ret ?_
    refine ⟨[.bool false], ⟨rfl, trivial⟩, ?_⟩
    exact ⟨_, rfl, z6, fun _ => forall_lt [] (n := k) (by omega) hs⟩
end Go.Proofs.Ytknbjfefeeojlaa

/- Package mat: grid.made. -/
import Derived.Test.YtknbjfefeeojlaaMc
namespace Go.Proofs.Ytknbjfefeeojlaa
open Go.RowKit
attribute [local irreducible] RV VH V OpF Calls

set_option maxHeartbeats 400000 in
theorem gmade_ok (R C : Nat) (fF : Nat) (cap : List Value) (atf : Int → Int → Rat) (L : Nat) (S : Nat → Prop) (w : World) (he : Ent Try.prog fF) (hf : HG fF cap atf R C w) (hsz : ∀ i k : Nat, sz L (atf i k)) (hL : L < LY) (hl1 : 1 ≤ L) (hR : R ≤ LV) (hC : C ≤ LV) (hu : Up S w) :
    Calls Try.prog 33 #[.agg #[.int .i64 (R : Int), .int .i64 (C : Int), .func (.func fF) #[] cap.toArray]] w (fun e w' => ∃ ra rk rc, e = .returned (.slice ra rk rc) ∧ Ext w w' ∧ MC S w' ra rk rc (gridm atf R C)) := by
  have z0 := Ext.refl w; have hLX : LX = 17592186044416 := rfl; have hLY : LY = 8796093022208 := rfl
  have hLV : LV = 1099511627776 := rfl
  refine enter (args := [.agg #[.int .i64 (R : Int), .int .i64 (C : Int), .func (.func fF) #[] cap.toArray]]) Try.func33 rfl rfl (Nat.le_of_ble_eq_true rfl) ?_
  refine V.seq (V.reg rfl ?_)
  refine vo ?_
  refine bxa rfl ?_
  intro W1 x2 b3 nn4
  have s5 := x2.sz
  have z6 := x2
  refine ass rfl ?_
  refine vnil ?_
  refine V.seq (V.reg rfl ?_)
  refine ass rfl ?_
  refine vnil ?_
  refine V.seq ?_
  refine V.seq (V.reg rfl ?_)
  refine vv (rfa rfl fd55_0) ?_
  refine vv (rldb (v := .int _ _) rfl sc3 b3 rfl) ?_
  refine mvi rfl ?_
  refine vnil ?_
  refine V.block ?_
  have z7 := Ext.refl W1
  refine V.loopK (ι := Nat × Value) [(1, .pointer (some ⟨_, _, none⟩)), (2, .slice _ _ _), (8, .int _ _)] (fun ⟨i, v⟩ => [(9, .int .i64 (i : Int)), (3, v)]) (fun ⟨i, v⟩ W => Ext W1 W ∧ i ≤ R ∧ GO 1 (RowOf GC) S W1.heap.size W 30 v (gridm atf i C)) (fun ⟨i, v⟩ => R - i) ((0, _)) ⟨rfl, rfl, rfl, trivial⟩ ⟨rfl, rfl, trivial⟩ ⟨Ext.refl _, Nat.zero_le _, GO.nil _ _⟩ ?_
  intro i9 E10 W8 h11
  obtain ⟨i, v⟩ := i9
  simp only at h11
  show V _ _ _ _ _ _ (ups (ups _ _) [(9, .int .i64 (i : Int)), (3, v)]) _
  obtain ⟨x12, hi, hO⟩ := h11
  have s13 := x12.sz
  have z14 := z6.trans x12
  have z15 := x12
  replace b3 := b3.ext x12
  refine V.seq (V.reg rfl ?_)
  refine vlt rfl rfl ?_ ?_
  · intro c16
    refine vnil ?_
    refine V.seq ?_
    refine V.condT rfl ?_
    refine V.skip ?_
    refine V.seq ?_
    refine V.block ?_
    refine V.seq (V.reg rfl ?_)
    refine mvi rfl ?_
    refine asi rfl ?_
    refine vnil ?_
    refine V.seq (V.reg rfl ?_)
    refine vv (rfa rfl fd55_1) ?_
    refine vv (rldb (v := .int _ _) rfl sc3 b3 rfl) ?_
    have z17 := Ext.refl W8
    have b3m := b3; have hOm := hO
    refine vo ?_
    refine xmkS (zs := [.bool false, .slice _ _ _, .bool false, .slice _ _ _]) (C) sl30 in43 rfl rfl rfl rfl rfl (by omega) (by omega) (by omega) ?_
    intro W18 x19 row n20
    have s21 := x19.sz
    have z22 := z14.trans x19
    have z23 := z15.trans x19
    have z24 := x19
    replace b3 := b3.ext x19
    replace hO := hO.ext okRowC x19
    refine ass rfl ?_
    refine vnil ?_
    refine V.seq ?_
    refine V.seq (V.reg rfl ?_)
    refine mvs rfl ?_
    refine vv (rlen sl30 rfl) ?_
    refine mvi rfl ?_
    refine vnil ?_
    refine V.block ?_
    have lrow := row.box.lt
    refine V.loopK (ι := Nat) [(1, .pointer (some ⟨_, _, none⟩)), (2, .slice _ _ _), (3, v), (4, .int _ _), (5, .slice _ _ _), (8, .int _ _), (9, .int _ _), (10, .bool true), (11, .int _ _), (12, .pointer (some ⟨_, _, none⟩)), (13, .int _ _), (14, .slice _ _ _), (15, .slice _ _ _), (16, .int _ _)] (fun k => [(17, .int .i64 (k : Int))]) (fun k W => Ext W8 W ∧ k ≤ C ∧ ∃ qs, AQ 4 W (W8.heap.size) 43 C qs ∧ All2 (QC (SX (SO S v) [W8.heap.size]) W) qs (rowg atf i C k)) (fun k => C - k) (0) ⟨rfl, rfl, rfl, rfl, rfl, rfl, rfl, rfl, rfl, rfl, rfl, rfl, rfl, rfl, trivial⟩ ⟨rfl, trivial⟩ ⟨z24, Nat.zero_le _, _, row, by rw [rowg_zero]; exact All2.rep (QC.zero _ _) _⟩ ?_
    intro k E26 W25 h27
    obtain ⟨x28, hk, qs, hA, hQ⟩ := h27
    have s29 := x28.sz
    have z30 := z14.trans x28
    have z31 := z15.trans x28
    have z32 := x28
    have b3n := b3m.ext z32; have hO := hOm.ext okRowC z32
    have lA := hA.len; have lAb := hA.box.lt; have lQ := hQ.len
    refine V.seq (V.reg rfl ?_)
    refine vlt rfl rfl ?_ ?_
    · intro c33
      refine vnil ?_
      refine V.seq ?_
      refine V.condT rfl ?_
      refine V.skip ?_
      refine V.seq ?_
      refine V.block ?_
      refine V.seq (V.reg rfl ?_)
      refine mvi rfl ?_
      refine asi rfl ?_
      refine vnil ?_
      refine V.reg rfl ?_
      refine mvs rfl ?_
      refine mvi rfl ?_
      refine vv (rfa rfl fd55_2) ?_
      refine vv (rldb (v := .func _ _ _) rfl sc53 b3n rfl) ?_
      refine mvi rfl ?_
      refine mvi rfl ?_
      refine vo ?_
      refine xcall he (hf _ i k (SX (SO S v) [W8.heap.size]) z30 (SX.up (S := SO S v) (bs := [W8.heap.size]) ((GO.up hOm hu (by omega)).mono (by omega)) (by simp; omega)) (by omega) (by omega)) rfl rfl ?_
      rintro _ W7 ⟨_, rfl, x7, hq7⟩
      obtain ⟨k1, k2, k3, k4, k5, k6, k7, k8, rfl⟩ := hq7.form
      refine ⟨_, rfl, ?_⟩
      have s34 := x7.sz
      have z35 := z30.trans x7
      have z36 := z31.trans x7
      have z37 := z32.trans x7
      replace b3n := b3n.ext x7
      replace hA := hA.ext x7
      replace hO := hO.ext okRowC x7
      have hqa := hq7.qa (hsz i k)
      refine vo ?_
      refine xcall e39 (fCanon_ok _ _ _ _ _ _ hqa (by omega) (by omega) (SX.up (S := SO S v) (bs := [W8.heap.size]) ((GO.up hOm hu (by omega)).mono (by omega)) (by simp; omega))) rfl rfl ?_
      rintro _ W39 ⟨_, rfl, x40, hq38⟩
      have s41 := x40.sz
      have z42 := z35.trans x40
      have z43 := z36.trans x40
      have z44 := z37.trans x40
      replace b3n := b3n.ext x40
      replace hA := hA.ext x40
      replace hO := hO.ext okRowC x40
      obtain ⟨_, _, _, _, _, _, _, _, rfl⟩ := hq38.form
      refine ⟨_, rfl, ?_⟩
      refine vv (rix sl30 sz43 rfl rfl (by omega) (by omega) rfl) ?_
      refine vo ?_
      refine xstq (q := [.bool _, .slice _ _ _, .bool _, .slice _ _ _]) hA rfl rfl rfl sz43 rfl rfl (by omega) (by omega) ?_
      intro W45 y46 hA
      have z47 := z42.below (y46.below (by omega))
      have z48 := z43.below (y46.below (by omega))
      have z49 := z44.below (y46.below (by omega))
      replace b3n := b3n.wr y46 (by omega)
      have s50 := y46.size
      refine vnil ?_
      refine V.reg rfl ?_
      refine vv (rbin (bAdd (wi (by omega))) rfl rfl) ?_
      refine mvi rfl ?_
      refine vnil ?_
      refine ⟨rfl, k + 1, ⟨rfl, rfl, rfl, rfl, rfl, rfl, rfl, rfl, rfl, rfl, rfl, rfl, rfl, rfl, trivial⟩, ⟨rfl, trivial⟩, ⟨z49, by omega, _, hA, by rw [← rowg_succ]; exact (hQ.imp fun _ _ h => h.ck (((x7.ck _).trans (x40.ck _)).trans (y46.ck (by intro hh; simp [SX] at hh <;> omega)))).set ((hq38.ck (y46.ck (by intro hh; simp [SX] at hh <;> omega))))⟩, ?_⟩
      show C - (k + 1) < C - k
      omega
    · intro c33
      refine vnil ?_
      refine V.seq ?_
      refine V.condF rfl ?_
      refine V.exit ?_
      refine V.reg rfl ?_
      refine vv (rmv (v := v) rfl) ?_
      refine mvs rfl ?_
      refine vo ?_
      refine xbs (ps := [(0, .slice _ _ _)]) (cs := [.slice _ _ _]) sl25 zr30 sz30 rfl rfl rfl rfl rfl rfl ?_
      intro W51 x52 b53 nn54
      have s55 := x52.sz
      have z56 := z30.trans x52
      have z57 := z31.trans x52
      have z58 := z32.trans x52
      replace b3n := b3n.ext x52
      replace hA := hA.ext x52
      replace hO := hO.ext okRowC x52
      refine vo ?_
      refine xappG okRowC sl25 in30 rfl rfl hO rfl rfl b53 rfl rfl ((⟨_, _, _, rfl, _, hA.rs (GO.up hOm hu (by omega) _ (Nat.le_refl _)), hQ.imp fun _ _ h => (h.ext x52).un⟩ : RowOf GC _ _ _ (rowg atf i C k))) (by simp [gridm]; omega) (by decide) (by omega) ?_
      intro v59 W60 hO61 hg62
      have y63 := hg62.below; have s64 := y63.size
      have z65 := z56.below (y63.mono (by omega))
      have z66 := z57.below (y63.mono (by omega))
      replace b3n := b3n.bl y63 (by omega)
      refine vv (ras (v := v59) rfl) ?_
      refine vnil ?_
      refine V.reg rfl ?_
      refine vv (rbin (bAdd (wi (by omega))) rfl rfl) ?_
      refine mvi rfl ?_
      refine vnil ?_
      refine ⟨rfl, (i + 1, _), ⟨rfl, rfl, rfl, trivial⟩, ⟨rfl, rfl, trivial⟩, ⟨z66, by omega, by rw [gridm_succ, ← rowg_full]; have eC : k = C := (by omega); subst eC; exact hO61⟩, ?_⟩
      show R - (i + 1) < R - i
      omega
  · intro c16
    refine vnil ?_
    refine V.seq ?_
    refine V.condF rfl ?_
    refine V.exit ?_
    refine V.seq (V.reg rfl ?_)
    refine vv (rmv (v := v) rfl) ?_
    refine vv (ras (v := v) rfl) ?_
    refine vnil ?_
    refine V.ret ?_
    refine ⟨[v], ⟨rfl, trivial⟩, ?_⟩
    obtain rfl : i = R := by omega
    obtain ⟨a', c', rfl⟩ := hO.form
    exact ⟨_, _, _, rfl, z14, hO.fin okRowC (fun b hb _ => hu b (by omega))⟩
end Go.Proofs.Ytknbjfefeeojlaa

/- Package vec: FromInts, Resize, Scale. -/
import Derived.Test.YtknbjfefeeojlaaG
namespace Go.Proofs.Ytknbjfefeeojlaa
open Go.RowKit
attribute [local irreducible] RV VH V OpF Calls
theorem GA.nil (L : Nat) (S : Nat → Prop) (W : World) : GA L S W none 0 0 [] := ⟨[], RS.nil _ _ _ _ _ (by omega), trivial⟩

set_option maxHeartbeats 400000 in
theorem vScale_ok (q : List Value) (r : Rat) (a1 : Option Addr) (n c : Nat) (L1 L3 : Nat) (xs : List Rat) (S S1 S3 : Nat → Prop) (w : World) (hx : GA L1 S1 w a1 n c xs) (h3 : QA L3 S3 w q r) (hL : L1 + L3 + 1 < LY) (hl1 : 1 ≤ L1) (hl3 : 1 ≤ L3) (hn : n ≤ LV) (hu : Up S w) :
    Calls Try.prog 74 #[.agg q.toArray, .slice a1 n c] w (fun e w' => ∃ ra rk rc, e = .returned (.slice ra rk rc) ∧ Ext w w' ∧ GC S w' ra rk rc (zipf (fun a b => r * a + b) xs [] (max n 0))) := by
  have z0 := Ext.refl w; have hLX : LX = 17592186044416 := rfl; have hLY : LY = 8796093022208 := rfl
  obtain ⟨n5, a5, l5, c5, n6, a6, l6, c6, rfl⟩ := h3.form
  have hLV : LV = 1099511627776 := rfl
  refine enter (args := [.agg #[.bool n5, .slice a5 l5 c5, .bool n6, .slice a6 l6 c6], .slice a1 n c]) Try.func74 rfl rfl (Nat.le_of_ble_eq_true rfl) ?_
  refine V.seq (V.reg rfl ?_)
  refine vo ?_
  refine bxa rfl ?_
  intro W1 x2 b3 nn4
  have s5 := x2.sz
  have z6 := x2
  refine ass rfl ?_
  refine vnil ?_
  refine V.seq (V.reg rfl ?_)
  refine vv (rldb4 rfl ag43 b3 rfl rfl rfl rfl ) ?_
  refine mvs rfl ?_
  refine vo ?_
  refine xcall e55 (vScl_ok _ _ _ _ _ _ _ _ _ _ _ _ _ _ _ _ _ _ (hx.ext z6) (GA.nil 1 (fun _ => True) _) (h3.ext z6) (by omega) (by omega) (by omega) (by omega) (by omega) (by omega) (hu.mono (by omega))) rfl rfl ?_
  rintro _ W7 ⟨_, _, _, rfl, x8, hv⟩
  have s9 := x8.sz
  have z10 := z6.trans x8
  replace b3 := b3.ext x8
  refine ⟨_, rfl, ?_⟩
  refine ass rfl ?_
  refine vnil ?_
  refine V.ret ?_
  refine ⟨[.slice _ _ _], ⟨rfl, trivial⟩, ?_⟩
  exact ⟨_, _, _, rfl, z10, hv⟩

theorem fromN_succ (xs : List Int) (k : Nat) (h : k < xs.length) : (xs.take (k + 1)).map (fun z : Int => (z : Rat)) = (xs.take k).map (fun z : Int => (z : Rat)) ++ [((wd xs k : Int) : Rat)] := by rw [take_succ_wd xs k h, List.map_append]; rfl

set_option maxHeartbeats 400000 in
theorem vFrom_ok (a1 : Option Addr) (n c : Nat) (xs : List Int) (S S1 : Nat → Prop) (w : World) (hx : RN .i64 S1 w a1 n c xs) (hn : n ≤ LV) (hu : Up S w) :
    Calls Try.prog 27 #[.slice a1 n c] w (fun e w' => ∃ ra rk rc, e = .returned (.slice ra rk rc) ∧ Ext w w' ∧ GC S w' ra rk rc (xs.map (fun z : Int => (z : Rat)))) := by
  have z0 := Ext.refl w; have hLX : LX = 17592186044416 := rfl; have hLY : LY = 8796093022208 := rfl
  have hLV : LV = 1099511627776 := rfl
  have l1 := hx.len; have l2 := hx.cap; have l3 := hx.max
  refine enter (args := [.slice a1 n c]) Try.func27 rfl rfl (Nat.le_of_ble_eq_true rfl) ?_
  refine V.seq (V.reg rfl ?_)
  refine ass rfl ?_
  refine vnil ?_
  refine V.seq ?_
  refine V.seq (V.reg rfl ?_)
  refine mvs rfl ?_
  refine vv (rlen sl49 rfl) ?_
  refine mvi rfl ?_
  refine vnil ?_
  refine V.block ?_
  refine V.loopK (ι := Nat × Value) [(5, .slice _ _ _), (6, .int _ _)] (fun ⟨k, v⟩ => [(7, .int .i64 (k : Int)), (2, v)]) (fun ⟨k, v⟩ W => Ext w W ∧ k ≤ n ∧ GO 4 QC S w.heap.size W 43 v ((xs.take k).map (fun z : Int => (z : Rat)))) (fun ⟨k, v⟩ => n - k) ((0, _)) ⟨rfl, rfl, trivial⟩ ⟨rfl, rfl, trivial⟩ ⟨Ext.refl _, Nat.zero_le _, GO.nil _ _⟩ ?_
  intro i2 E3 W1 h4
  obtain ⟨k, v⟩ := i2
  simp only at h4
  show V _ _ _ _ _ _ (ups (ups _ _) [(7, .int .i64 (k : Int)), (2, v)]) _
  obtain ⟨x5, hk, hO⟩ := h4
  have s6 := x5.sz
  have z7 := x5
  refine V.seq (V.reg rfl ?_)
  refine vlt rfl rfl ?_ ?_
  · intro c8
    refine vnil ?_
    refine V.seq ?_
    refine V.condT rfl ?_
    refine V.skip ?_
    refine V.seq ?_
    refine V.block ?_
    refine V.seq (V.reg rfl ?_)
    refine vv (rixn (hx.ext z7) sl49 sz2 rfl rfl (by omega) (by omega)) ?_
    refine vldN (hx.ext z7) rfl sc2 (by omega) (by omega) ?_
    intro q9 hq9 hk10
    simp only [kb] at hk10
    refine asi rfl ?_
    refine vnil ?_
    refine V.reg rfl ?_
    refine vv (rmv (v := v) rfl) ?_
    refine mvi rfl ?_
    refine vo ?_
    refine xcall e37 (fFrom_ok _ _ _ (by omega) (GO.up hO hu (by omega))) rfl rfl ?_
    rintro _ W12 ⟨_, rfl, x13, hq11⟩
    have s14 := x13.sz
    have z15 := z7.trans x13
    replace hO := hO.ext okQC x13
    obtain ⟨_, _, _, _, _, _, _, _, rfl⟩ := hq11.form
    refine ⟨_, rfl, ?_⟩
    refine vo ?_
    refine xbs (ps := [(0, .agg #[_, _, _, _])]) (cs := [.bool _, .slice _ _ _, .bool _, .slice _ _ _]) sl30 zr43 sz43 rfl rfl rfl rfl rfl rfl ?_
    intro W16 x17 b18 nn19
    have s20 := x17.sz
    have z21 := z15.trans x17
    replace hO := hO.ext okQC x17
    refine vo ?_
    refine xappG okQC sl30 in43 rfl rfl hO rfl rfl b18 rfl rfl ((hq11.ext x17)) (by simp; omega) (by decide) (by omega) ?_
    intro v22 W23 hO24 hg25
    have y26 := hg25.below; have s27 := y26.size
    have z28 := z21.below (y26.mono (by omega))
    refine vv (ras (v := v22) rfl) ?_
    refine vnil ?_
    refine V.reg rfl ?_
    refine vv (rbin (bAdd (wi (by omega))) rfl rfl) ?_
    refine mvi rfl ?_
    refine vnil ?_
    refine ⟨rfl, (k + 1, _), ⟨rfl, rfl, trivial⟩, ⟨rfl, rfl, trivial⟩, ⟨z28, by omega, by rw [fromN_succ xs k (by omega), ← hq9]; exact hO24⟩, ?_⟩
    show n - (k + 1) < n - k
    omega
  · intro c8
    refine vnil ?_
    refine V.seq ?_
    refine V.condF rfl ?_
    refine V.exit ?_
    refine V.seq (V.reg rfl ?_)
    refine vv (rmv (v := v) rfl) ?_
    refine vv (ras (v := v) rfl) ?_
    refine vnil ?_
    refine V.ret ?_
    refine ⟨[v], ⟨rfl, trivial⟩, ?_⟩
    obtain ⟨a', c', rfl⟩ := hO.form
    have hf := hO.fin okQC (fun b hb _ => hu b (by omega))
    refine ⟨_, _, _, rfl, z7, ?_⟩
    rw [List.take_of_length_le (by omega)] at hf ⊢
    exact hf

def resz (rs : List Rat) (k : Nat) : List Rat := (List.range k).map (vat rs)
theorem resz_succ (rs : List Rat) (k : Nat) : resz rs (k + 1) = resz rs k ++ [vat rs k] := by simp [resz, List.range_succ]
theorem resz_len (rs : List Rat) (k : Nat) : (resz rs k).length = k := by simp [resz]

set_option maxHeartbeats 400000 in
theorem vResize_ok (a1 : Option Addr) (n c : Nat) (z : Int) (N : Nat) (L1 : Nat) (xs : List Rat) (S S1 : Nat → Prop) (w : World) (hx : GA L1 S1 w a1 n c xs) (hN : min (max z 0) 65536 = (N : Int)) (hL : L1 < LY) (hl1 : 1 ≤ L1) (hu : Up S w) :
    Calls Try.prog 69 #[.slice a1 n c, .int .i64 z] w (fun e w' => ∃ ra rk rc, e = .returned (.slice ra rk rc) ∧ Ext w w' ∧ GC S w' ra rk rc (resz xs N)) := by
  have z0 := Ext.refl w; have hLX : LX = 17592186044416 := rfl; have hLY : LY = 8796093022208 := rfl
  have l1 := hx.len
  have hNN : N ≤ 65536 := by omega
  refine enter (args := [.slice a1 n c, .int .i64 z]) Try.func69 rfl rfl (Nat.le_of_ble_eq_true rfl) ?_
  refine V.seq (V.reg rfl ?_)
  refine ass rfl ?_
  refine vnil ?_
  refine V.seq ?_
  refine V.seq (V.reg rfl ?_)
  refine mvi rfl ?_
  refine vv (rmax rfl rfl rfl) ?_
  refine vv (rmin rfl rfl hN) ?_
  refine mvi rfl ?_
  refine vnil ?_
  refine V.block ?_
  refine V.loopK (ι := Nat × Value) [(0, .slice _ _ _), (8, .int _ _)] (fun ⟨k, v⟩ => [(9, .int .i64 (k : Int)), (4, v)]) (fun ⟨k, v⟩ W => Ext w W ∧ k ≤ N ∧ GO 4 QC S w.heap.size W 43 v (resz xs k)) (fun ⟨k, v⟩ => N - k) ((0, _)) ⟨rfl, rfl, trivial⟩ ⟨rfl, rfl, trivial⟩ ⟨Ext.refl _, Nat.zero_le _, GO.nil _ _⟩ ?_
  intro i2 E3 W1 h4
  obtain ⟨k, v⟩ := i2
  simp only at h4
  show V _ _ _ _ _ _ (ups (ups _ _) [(9, .int .i64 (k : Int)), (4, v)]) _
  obtain ⟨x5, hk, hO⟩ := h4
  have s6 := x5.sz
  have z7 := x5
  refine V.seq (V.reg rfl ?_)
  refine vlt rfl rfl ?_ ?_
  · intro c8
    refine vnil ?_
    refine V.seq ?_
    refine V.condT rfl ?_
    refine V.skip ?_
    refine V.seq ?_
    refine V.block ?_
    refine V.seq (V.reg rfl ?_)
    refine mvi rfl ?_
    refine asi rfl ?_
    refine vnil ?_
    refine V.reg rfl ?_
    refine vv (rmv (v := v) rfl) ?_
    refine mvs rfl ?_
    refine mvi rfl ?_
    refine vo ?_
    obtain ⟨qsx, rxx, axx⟩ := (hx.ext z7)
    refine xcall e89 (at_ok _ _ _ _ _ _ _ rxx axx.form (by omega)) rfl rfl ?_
    rintro _ W11 ⟨_, _, _, _, _, _, _, _, rfl, x12, eq9⟩
    have s13 := x12.sz
    have z14 := z7.trans x12
    replace hO := hO.ext okQC x12
    have hq10 := (axx.qat (k)).ext x12
    rw [show ((k : Nat) : Int).toNat = k by omega] at eq9
    rw [eq9] at hq10
    refine ⟨_, rfl, ?_⟩
    refine vo ?_
    refine xcall e39 (fCanon_ok _ _ _ _ _ _ hq10 (by omega) (by omega) (GO.up hO hu (by omega))) rfl rfl ?_
    rintro _ W16 ⟨_, rfl, x17, hq15⟩
    have s18 := x17.sz
    have z19 := z14.trans x17
    replace hO := hO.ext okQC x17
    obtain ⟨_, _, _, _, _, _, _, _, rfl⟩ := hq15.form
    refine ⟨_, rfl, ?_⟩
    refine vo ?_
    refine xbs (ps := [(0, .agg #[_, _, _, _])]) (cs := [.bool _, .slice _ _ _, .bool _, .slice _ _ _]) sl30 zr43 sz43 rfl rfl rfl rfl rfl rfl ?_
    intro W20 x21 b22 nn23
    have s24 := x21.sz
    have z25 := z19.trans x21
    replace hO := hO.ext okQC x21
    refine vo ?_
    refine xappG okQC sl30 in43 rfl rfl hO rfl rfl b22 rfl rfl ((hq15.ext x21)) (by rw [resz_len]; omega) (by decide) (by omega) ?_
    intro v26 W27 hO28 hg29
    have y30 := hg29.below; have s31 := y30.size
    have z32 := z25.below (y30.mono (by omega))
    refine vv (ras (v := v26) rfl) ?_
    refine vnil ?_
    refine V.reg rfl ?_
    refine vv (rbin (bAdd (wi (by omega))) rfl rfl) ?_
    refine mvi rfl ?_
    refine vnil ?_
    refine ⟨rfl, (k + 1, _), ⟨rfl, rfl, trivial⟩, ⟨rfl, rfl, trivial⟩, ⟨z32, by omega, by rw [resz_succ]; exact hO28⟩, ?_⟩
    show N - (k + 1) < N - k
    omega
  · intro c8
    refine vnil ?_
    refine V.seq ?_
    refine V.condF rfl ?_
    refine V.exit ?_
    refine V.seq (V.reg rfl ?_)
    refine vv (rmv (v := v) rfl) ?_
    refine vv (ras (v := v) rfl) ?_
    refine vnil ?_
    refine V.ret ?_
    refine ⟨[v], ⟨rfl, trivial⟩, ?_⟩
    obtain ⟨a', c', rfl⟩ := hO.form
    have hf := hO.fin okQC (fun b hb _ => hu b (by omega))
    obtain rfl : k = N := by omega
    exact ⟨_, _, _, rfl, z7, hf⟩
end Go.Proofs.Ytknbjfefeeojlaa

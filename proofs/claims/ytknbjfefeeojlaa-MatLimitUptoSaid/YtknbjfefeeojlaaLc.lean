/- Package pylonlaw04: MatLimit. -/
import Derived.Test.YtknbjfefeeojlaaLb
namespace Go.Proofs.Ytknbjfefeeojlaa
open Go.RowKit
attribute [local irreducible] RV VH V OpF Calls
theorem sz_int {z : Int} (h : kb .i64 z) : sz 2 (z : Rat) := by
  have h' : -9223372036854775808 ≤ z ∧ z ≤ 9223372036854775807 := h
  have e : b32 ^ 2 = 18446744073709551616 := by decide
  refine ⟨?_, ?_⟩
  · rw [e, Rat.num_intCast]; omega
  · rw [e, Rat.den_intCast]; decide
theorem MI.sz {S : Nat → Prop} {W : World} {a : Option Addr} {n c : Nat} {zss : List (List Int)} (h : MI S W a n c zss) : ∀ r ∈ zss.map (fun r => r.map fun z : Int => (z : Rat)), szV 2 r := by
  obtain ⟨qs, _, h2⟩ := h
  intro r hr q hq
  obtain ⟨zs, hz, rfl⟩ := List.mem_map.1 hr
  obtain ⟨z, hz2, rfl⟩ := List.mem_map.1 hq
  obtain ⟨i, hi⟩ := List.getElem?_of_mem hz
  have hlt : i < qs.length := by rw [h2.len]; exact (List.getElem?_eq_some_iff.1 hi).1
  obtain ⟨y, e, a', n', c', _, hrn⟩ := h2.get (List.getElem?_eq_getElem hlt)
  rw [hi] at e; cases e
  exact sz_int (hrn.wf z hz2)
theorem len_gridm (f : Int → Int → Rat) (R C : Nat) : (gridm f R C).length = R := by simp [gridm]
theorem row_gridm (f : Int → Int → Rat) {R C i : Nat} (h : i < R) : (rowat (gridm f R C) i).length = C := by
  unfold rowat gridm; rw [List.getD_eq_getElem?_getD, List.getElem?_map, List.getElem?_range h]; simp

set_option maxHeartbeats 400000 in
theorem matLimit_ok (a1 : Option Addr) (n c : Nat) (z : Int) (zss : List (List Int)) (w : World) (hx : MI TT w a1 n c zss) (hR : ∀ r ∈ zss, r.length ≤ LV) :
    Calls Try.prog 4 #[.slice a1 n c, .int .i64 z] w (fun e w' => e = .returned (.bool true) ∧ Ext w w') := by
  have z0 := Ext.refl w; have hLX : LX = 17592186044416 := rfl; have hLY : LY = 8796093022208 := rfl
  have hLV : LV = 1099511627776 := rfl
  have l1 := hx.len; have l2 := hx.max
  obtain ⟨R, hzR⟩ : ∃ R : Nat, min (max z 0) 1024 = (R : Int) := ⟨(min (max z 0) 1024).toNat, by omega⟩
  refine enter (args := [.slice a1 n c, .int .i64 z]) Try.func4 rfl rfl (Nat.le_of_ble_eq_true rfl) ?_
  refine V.seq (V.reg rfl ?_)
  refine asb rfl ?_
  refine vnil ?_
  refine V.seq ?_
  refine V.seq (V.reg rfl ?_)
  refine mvs rfl ?_
  refine vv (rlen sl23 rfl) ?_
  refine vgt rfl rfl ?_ ?_
  · intro c1
    refine mvb rfl ?_
    refine vgn (b := true) rfl rfl ?_
    refine vgn (b := true) rfl rfl ?_
    refine vv (rpk (v := .bool true) rfl rfl) ?_
    refine mvb rfl ?_
    refine vgn (b := true) rfl rfl ?_
    refine vgn (b := true) rfl rfl ?_
    refine vgn (b := true) rfl rfl ?_
    refine vgn (b := true) rfl rfl ?_
    refine vv (rpk (v := .bool true) rfl rfl) ?_
    refine vnil ?_
    refine V.condT rfl ?_
    refine V.seq (V.reg rfl ?_)
    refine vo ?_
    refine xcall e7 (law4_ok _) rfl rfl ?_
    rintro _ W2 ⟨rfl, x3⟩
    have s4 := x3.sz
    have z5 := x3
    refine ⟨_, rfl, ?_⟩
    refine asb rfl ?_
    refine vnil ?_
    refine V.ret ?_
    refine ⟨[.bool true], ⟨rfl, trivial⟩, ?_⟩
    exact ⟨rfl, z5⟩
  · intro c1
    refine mvb rfl ?_
    refine vg rfl ?_
    refine mvi rfl ?_
    refine vg rfl ?_
    refine vlt rfl rfl ?_ ?_
    · intro c6
      refine vv (rpk (v := .bool true) rfl rfl) ?_
      refine mvb rfl ?_
      refine vgn (b := true) rfl rfl ?_
      refine vgn (b := true) rfl rfl ?_
      refine vgn (b := true) rfl rfl ?_
      refine vgn (b := true) rfl rfl ?_
      refine vv (rpk (v := .bool true) rfl rfl) ?_
      refine vnil ?_
      refine V.condT rfl ?_
      refine V.seq (V.reg rfl ?_)
      refine vo ?_
      refine xcall e7 (law4_ok _) rfl rfl ?_
      rintro _ W7 ⟨rfl, x8⟩
      have s9 := x8.sz
      have z10 := x8
      refine ⟨_, rfl, ?_⟩
      refine asb rfl ?_
      refine vnil ?_
      refine V.ret ?_
      refine ⟨[.bool true], ⟨rfl, trivial⟩, ?_⟩
      exact ⟨rfl, z10⟩
    · intro c6
      refine vv (rpk (v := .bool false) rfl rfl) ?_
      refine mvb rfl ?_
      refine vg rfl ?_
      refine mvs rfl ?_
      refine vg rfl ?_
      refine vo ?_
      refine xcall e9 (rmInts_ok _ _ _ _ TT TT _ hx (by omega) hR (TT.up _)) rfl rfl ?_
      rintro _ W13 ⟨_, rn12, _, rfl, x14, hv11⟩
      have s15 := x14.sz
      have z16 := x14
      have hv11l := hv11.len; rw [List.length_map, l1] at hv11l
      refine ⟨_, rfl, ?_⟩
      refine vg rfl ?_
      refine vo ?_
      refine xcall e8 (rCols_ok _ _ _ _ _ _ ((hv11).mx)) rfl rfl ?_
      rintro _ _ ⟨rfl, rfl⟩
      refine ⟨_, rfl, ?_⟩
      refine vg rfl ?_
      refine vgt rfl rfl ?_ ?_
      · intro c18
        refine vv (rpk (v := .bool true) rfl rfl) ?_
        refine vnil ?_
        refine V.condT rfl ?_
        refine V.seq (V.reg rfl ?_)
        refine vo ?_
        refine xcall e7 (law4_ok _) rfl rfl ?_
        rintro _ W19 ⟨rfl, x20⟩
        have s21 := x20.sz
        have z22 := z16.trans x20
        refine ⟨_, rfl, ?_⟩
        refine asb rfl ?_
        refine vnil ?_
        refine V.ret ?_
        refine ⟨[.bool true], ⟨rfl, trivial⟩, ?_⟩
        exact ⟨rfl, z22⟩
      · intro c18
        refine vv (rpk (v := .bool false) rfl rfl) ?_
        refine vnil ?_
        refine V.condF rfl ?_
        refine V.skip ?_
        refine V.seq (V.reg rfl ?_)
        refine mvs rfl ?_
        refine vo ?_
        refine xcall e10 (mFrom_ok _ _ _ _ TT TT _ (hx.ext z16) (by omega) hR (TT.up _)) rfl rfl ?_
        rintro _ W25 ⟨_, rn24, _, rfl, x26, hv23⟩
        have s27 := x26.sz
        have z28 := z16.trans x26
        have hv23l := hv23.len; rw [List.length_map, l1] at hv23l
        refine ⟨_, rfl, ?_⟩
        refine ass rfl ?_
        refine vnil ?_
        refine V.seq (V.reg rfl ?_)
        refine mvs rfl ?_
        refine mvi rfl ?_
        refine vo ?_
        refine xcall e11 (mResize_ok _ _ _ _ _ R 1 2 _ TT TT _ ((hv23).ma hx.sz) (hzR) (by decide) (by omega) (by omega) (fun i k => szMI ((hv23).ma hx.sz) (by omega) _ _) (TT.up _)) rfl rfl ?_
        rintro _ W31 ⟨_, rn30, _, rfl, x32, hv29⟩
        have s33 := x32.sz
        have z34 := z28.trans x32
        have hv29l := hv29.len; rw [len_gridm] at hv29l
        refine ⟨_, rfl, ?_⟩
        refine mvs rfl ?_
        refine mvi rfl ?_
        refine vo ?_
        refine xcall e11 (mResize_ok _ _ _ _ _ 1 R 2 _ TT TT _ (((hv23.ext x32)).ma hx.sz) (by decide) (hzR) (by omega) (by omega) (fun i k => szMI (((hv23.ext x32)).ma hx.sz) (by omega) _ _) (TT.up _)) rfl rfl ?_
        rintro _ W37 ⟨_, rn36, _, rfl, x38, hv35⟩
        have s39 := x38.sz
        have z40 := z34.trans x38
        have hv35l := hv35.len; rw [len_gridm] at hv35l
        refine ⟨_, rfl, ?_⟩
        refine ass rfl ?_
        refine ass rfl ?_
        refine vnil ?_
        refine V.seq (V.reg rfl ?_)
        refine mvs rfl ?_
        refine mvs rfl ?_
        refine vo ?_
        refine xcall e9 (rmInts_ok _ _ _ _ TT TT _ (hx.ext z40) (by omega) hR (TT.up _)) rfl rfl ?_
        rintro _ W43 ⟨_, rn42, _, rfl, x44, hv41⟩
        have s45 := x44.sz
        have z46 := z40.trans x44
        have hv41l := hv41.len; rw [List.length_map, l1] at hv41l
        refine ⟨_, rfl, ?_⟩
        refine vo ?_
        refine xcall e12 (mIs_true _ (hv23.ext ((x32.trans x38).trans x44)) hv41 rfl) rfl rfl ?_
        rintro _ W47 ⟨rfl, x48⟩
        have s49 := x48.sz
        have z50 := z46.trans x48
        refine ⟨_, rfl, ?_⟩
        refine mvb rfl ?_
        refine vg rfl ?_
        refine mvs rfl ?_
        refine vg rfl ?_
        refine vv (rlen sl25 rfl) ?_
        refine vg rfl ?_
        refine mvi rfl ?_
        refine vg rfl ?_
        refine vv (rmin rfl rfl rfl) ?_
        refine vg rfl ?_
        refine veq rfl rfl ?_ ?_
        · intro c51
          refine vv (rpk (v := .bool true) rfl rfl) ?_
          refine mvb rfl ?_
          refine vg rfl ?_
          refine mvs rfl ?_
          refine vg rfl ?_
          refine vv (rlen sl25 rfl) ?_
          refine vg rfl ?_
          refine veq rfl rfl ?_ ?_
          · intro c52
            refine vv (rpk (v := .bool true) rfl rfl) ?_
            refine mvb rfl ?_
            refine vg rfl ?_
            refine mvs rfl ?_
            refine vg rfl ?_
            refine vv (rix sl25 sz30 rfl rfl (by omega) (by omega) ((hv35.ext (x44.trans x48)).isS (i := 0) (by omega) (by omega))) ?_
            refine vg rfl ?_
            refine vldRow (hv35.ext (x44.trans x48)) rfl sc30 (by omega) (by omega) ?_
            intro a53 n54 c55 hg56
            have hg56l := hg56.len; have hg56m := hg56.max
            refine vg rfl ?_
            rw [row_gridm _ (by omega)] at hg56l
            refine vv (rlen sl30 rfl) ?_
            refine vg rfl ?_
            refine mvi rfl ?_
            refine vg rfl ?_
            refine vv (rmin rfl rfl rfl) ?_
            refine vg rfl ?_
            refine veq rfl rfl ?_ ?_
            · intro c57
              refine vv (rpk (v := .bool true) rfl rfl) ?_
              refine mvb rfl ?_
              refine vg rfl ?_
              refine vo ?_
              refine xcall e7 (law4_ok _) rfl rfl ?_
              rintro _ W58 ⟨rfl, x59⟩
              have s60 := x59.sz
              have z61 := z50.trans x59
              refine ⟨_, rfl, ?_⟩
              refine vv (rpk (v := .bool true) rfl rfl) ?_
              refine asb rfl ?_
              refine vnil ?_
              refine V.ret ?_
              refine ⟨[.bool true], ⟨rfl, trivial⟩, ?_⟩
              exact ⟨rfl, z61⟩
            · intro c57
              omega
          · intro c52
            omega
        · intro c51
          omega
end Go.Proofs.Ytknbjfefeeojlaa

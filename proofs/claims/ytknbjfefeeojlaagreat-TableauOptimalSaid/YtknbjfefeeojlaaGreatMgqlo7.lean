/- Package tableau: what its methods do, for a tableau in the store; laws 06 and 07: the examples. -/
import Derived.Test.YtknbjfefeeojlaaGreatMgqlo6
namespace Go.Proofs.YtknbjfefeeojlaaGreat
open Go.RowKit
attribute [local irreducible] RV VH V OpF Calls
/-- The sizes of a tableau. -/
structure TF (Nn M L0 L1 : Nat) (goals rows : List (List Rat)) (piv : List Int) : Prop where
  hNb : Nn ≤ 64
  hng : goals.length ≤ 64
  hn : rows.length ≤ 64
  hnp : piv.length = rows.length
  hM : Nn + rows.length = M
  hgr : ∀ r ∈ goals, r.length = Nn
  hrr : ∀ r ∈ rows, r.length = M + 1
  hpn : ∀ t : Nat, t < piv.length → 0 ≤ wd piv t
  hgs : szR L0 goals
  hrs : szR L1 rows
  h0 : 1 ≤ L0
  h1 : 1 ≤ L1
  hL : (L1 + L0 + 1) * 200 + 100 < LY
theorem TF.pivot {Nn M L0 L1 : Nat} {goals rows : List (List Rat)} {piv : List Int} (f : TF Nn M L0 L1 goals rows piv) (hL : (5 * L1 + L0 + 1) * 200 + 100 < LY) (r c : Int) : TF Nn M L0 (5 * L1) goals (pivR rows piv M r c) (pivP rows piv M r c) where
  hNb := f.hNb
  hng := f.hng
  hn := by rw [pivR_len]; exact f.hn
  hnp := by rw [pivR_len, pivP_len]; exact f.hnp
  hM := by rw [pivR_len]; exact f.hM
  hgr := f.hgr
  hrr := pivR_rect f.hrr
  hpn := fun t ht => by
    rw [pivP_len] at ht
    unfold pivP
    split
    · rename_i ok
      by_cases e : t = r.toNat
      · subst e
        unfold wd
        rw [List.getD_eq_getElem?_getD, Int.toNat_natCast, List.getElem?_set, if_pos rfl, if_pos ht]; exact ok.2.2.1
      · rw [wd_set_ne (by omega)]; exact f.hpn t ht
    · exact f.hpn t ht
  hgs := f.hgs
  hrs := pivR_sz f.hrs f.h1
  h0 := f.h0
  h1 := by have := f.h1; omega
  hL := hL
section
variable {B bw ng cg Nn M L0 L1 : Nat} {ag : Option Addr} {v pw : Value} {goals rows : List (List Rat)} {piv : List Int} {w : World} {S : Nat → Prop}
theorem TS.cast {rows' : List (List Rat)} {piv' : List Int} {goals' : List (List Rat)} {N : Int} (h : TS B bw N ag ng cg goals v pw rows piv w) (e1 : goals = goals') (e2 : rows = rows') (e3 : piv = piv') : TS B bw N ag ng cg goals' v pw rows' piv' w := by subst e1 e2 e3; exact h
theorem TS.kqB {N : Int} (h : TS B bw N ag ng cg goals v pw rows piv w) {b : Nat} (hb : b < B) : KQ bw v pw b := ⟨by have := h.hB; omega, fun e => by have := (h.vlow b e).1; omega, fun e => by have := (h.p.low b e).1; omega⟩
theorem TS.gn (h : TS B bw (Nn : Int) ag ng cg goals v pw rows piv w) : goals.length = ng := MG.len h.m
theorem TS.basis (h : TS B bw (Nn : Int) ag ng cg goals v pw rows piv w) (f : TF Nn M L0 L1 goals rows piv) (hu : Up S w) : Calls Tryz.prog 81 #[.pointer (some ⟨bw, 0, none⟩)] w fun e w' => ∃ k cc, e = .returned (.slice k piv.length cc) ∧ Ext w w' ∧ RN .i64 S w' k piv.length cc piv := by
  obtain ⟨av, cv, rfl⟩ := h.g.form; obtain ⟨ap, cp, rfl⟩ := h.p.form
  exact tBasis_ok bw _ _ _ _ _ _ _ _ _ _ piv S TT w h.x (h.pn rfl) (by have := f.hn; have := f.hnp; omega) hu
theorem TS.rhs (h : TS B bw (Nn : Int) ag ng cg goals v pw rows piv w) (f : TF Nn M L0 L1 goals rows piv) (hu : Up S w) : Calls Tryz.prog 24 #[.pointer (some ⟨bw, 0, none⟩)] w fun e w' => ∃ ra rk rc, e = .returned (.slice ra rk rc) ∧ Ext w w' ∧ GC S w' ra rk rc (rows.map fun r => vat r M) := by
  obtain ⟨av, cv, rfl⟩ := h.g.form; obtain ⟨ap, cp, rfl⟩ := h.p.form
  have := f.hNb; have := f.hn; have := f.hM; have hL := f.hL
  exact tRHS_ok bw _ _ _ _ _ _ _ _ _ _ w h.x M L1 rows S TT (MC.ma (h.mc rfl) f.hrs) (by omega) (by omega) (by omega) f.hrr (by omega) f.h1 hu
theorem TS.feas (h : TS B bw (Nn : Int) ag ng cg goals v pw rows piv w) (f : TF Nn M L0 L1 goals rows piv) : Calls Tryz.prog 74 #[.pointer (some ⟨bw, 0, none⟩)] w fun e w' => ∃ q, e = .returned (.bool q) ∧ Ext w w' ∧ (q = true ↔ nonneg (rows.map fun r => vat r M)) := by
  obtain ⟨av, cv, rfl⟩ := h.g.form; obtain ⟨ap, cp, rfl⟩ := h.p.form
  have := f.hNb; have := f.hn; have := f.hM; have hL := f.hL
  exact tFeas_ok bw _ _ _ _ _ _ _ _ _ _ w h.x M L1 rows TT (MC.ma (h.mc rfl) f.hrs) (by omega) (by omega) (by omega) f.hrr (by omega) f.h1
theorem TS.cost (h : TS B bw (Nn : Int) ag ng cg goals v pw rows piv w) (f : TF Nn M L0 L1 goals rows piv) (hu : Up S w) (kc : Int) (h0 : 0 ≤ kc) (h1 : kc < M) : Calls Tryz.prog 83 #[.pointer (some ⟨bw, 0, none⟩), .int .i64 kc] w fun e w' => ∃ ra rk rc, e = .returned (.slice ra rk rc) ∧ Ext w w' ∧ GC S w' ra rk rc (rcost goals ng Nn rows piv kc.toNat) := by
  have hg := h.gn
  obtain ⟨av, cv, rfl⟩ := h.g.form; obtain ⟨ap, cp, rfl⟩ := h.p.form
  exact tCost_ok bw _ _ _ _ _ _ _ _ _ _ Nn M L0 L1 goals rows piv S (KQ bw (.slice av rows.length cv) (.slice ap piv.length cp)) TT TT w h.x (MC.ma h.m f.hgs) (MC.ma (h.mc rfl) f.hrs) (h.pn rfl) rfl f.hNb (hg ▸ f.hng) f.hn f.hnp f.hM f.hgr f.hrr f.hpn f.h0 f.h1 f.hL hu kc h0 h1
theorem TS.val (h : TS B bw (Nn : Int) ag ng cg goals v pw rows piv w) (f : TF Nn M L0 L1 goals rows piv) (hu : Up S w) : Calls Tryz.prog 29 #[.pointer (some ⟨bw, 0, none⟩)] w fun e w' => ∃ ra rk rc, e = .returned (.slice ra rk rc) ∧ Ext w w' ∧ GC S w' ra rk rc (tval goals ng Nn rows piv M) := by
  have hg := h.gn
  obtain ⟨av, cv, rfl⟩ := h.g.form; obtain ⟨ap, cp, rfl⟩ := h.p.form
  exact tVal_ok bw _ _ _ _ _ _ _ _ _ _ Nn M L0 L1 goals rows piv S (KQ bw (.slice av rows.length cv) (.slice ap piv.length cp)) TT TT w h.x (MC.ma h.m f.hgs) (MC.ma (h.mc rfl) f.hrs) (h.pn rfl) rfl f.hNb (hg ▸ f.hng) f.hn f.hnp f.hM f.hgr f.hrr f.hpn f.h0 f.h1 f.hL hu
theorem TS.sol (h : TS B bw (Nn : Int) ag ng cg goals v pw rows piv w) (f : TF Nn M L0 L1 goals rows piv) (hu : Up S w) : Calls Tryz.prog 73 #[.pointer (some ⟨bw, 0, none⟩)] w fun e w' => ∃ ra rk rc, e = .returned (.slice ra rk rc) ∧ Ext w w' ∧ GC S w' ra rk rc (solT rows piv Nn M piv.length) := by
  have hg := h.gn
  obtain ⟨av, cv, rfl⟩ := h.g.form; obtain ⟨ap, cp, rfl⟩ := h.p.form
  exact tSol_ok bw _ _ _ _ _ _ _ _ _ _ Nn M L0 L1 goals rows piv S (KQ bw (.slice av rows.length cv) (.slice ap piv.length cp)) TT TT w h.x (MC.ma h.m f.hgs) (MC.ma (h.mc rfl) f.hrs) (h.pn rfl) rfl f.hNb (hg ▸ f.hng) f.hn f.hnp f.hM f.hgr f.hrr f.hpn f.h0 f.h1 f.hL hu
theorem TS.opt (h : TS B bw (Nn : Int) ag ng cg goals v pw rows piv w) (f : TF Nn M L0 L1 goals rows piv) : Calls Tryz.prog 76 #[.pointer (some ⟨bw, 0, none⟩)] w fun e w' => ∃ q, e = .returned (.bool q) ∧ Ext w w' ∧ (q = true ↔ ∀ k, k < M → lexnn (rcost goals ng Nn rows piv k)) := by
  have hg := h.gn
  obtain ⟨av, cv, rfl⟩ := h.g.form; obtain ⟨ap, cp, rfl⟩ := h.p.form
  exact tOpt_ok bw _ _ _ _ _ _ _ _ _ _ Nn M L0 L1 goals rows piv (KQ bw (.slice av rows.length cv) (.slice ap piv.length cp)) TT TT w h.x (MC.ma h.m f.hgs) (MC.ma (h.mc rfl) f.hrs) (h.pn rfl) rfl f.hNb (hg ▸ f.hng) f.hn f.hnp f.hM f.hgr f.hrr f.hpn f.h0 f.h1 f.hL
theorem TS.pivC (h : TS B bw (Nn : Int) ag ng cg goals v pw rows piv w) (f : TF Nn M L0 L1 goals rows piv) (row col : Int) (hr : kb .i64 row) (hc : kb .i64 col) : Calls Tryz.prog 18 #[.pointer (some ⟨bw, 0, none⟩), .int .i64 row, .int .i64 col] w fun e w' => ∃ er : Int, e = .returned (.int .i64 er) ∧ (er = 0 ↔ pivOK rows piv M row col) ∧ TS B bw (Nn : Int) ag ng cg goals v pw (pivR rows piv M row col) (pivP rows piv M row col) w' ∧ KD (KQ bw v pw) w w' := by
  have := f.hNb; have := f.hn; have := f.hM; have hL := f.hL
  exact tPivot_ok B bw _ ag ng cg goals v pw rows piv M L1 w h (by omega) (by omega) (by omega) f.hrr f.hnp f.hrs f.h1 (by omega) row col hr hc
end
/-! ### What can be decided -/
def lexB : List Rat → Bool
  | [] => true
  | x :: xs => if x = 0 then lexB xs else decide (0 ≤ x)
theorem lexB_iff : ∀ v : List Rat, lexB v = true ↔ lexnn v
  | [] => ⟨fun _ i _ => by rw [vat_ge (Nat.zero_le _)]; exact Rat.le_refl, fun _ => rfl⟩
  | x :: xs => by
    have h0 : vat (x :: xs) 0 = x := rfl
    have hs : ∀ j, vat (x :: xs) (j + 1) = vat xs j := fun j => rfl
    unfold lexB
    by_cases h : x = 0
    · rw [if_pos h, lexB_iff xs]
      constructor
      · intro h1 i hi
        cases i with
        | zero => rw [h0, h]; exact Rat.le_refl
        | succ i => rw [hs]; exact h1 i fun j hj => by rw [← hs]; exact hi (j + 1) (by omega)
      · intro h1 i hi
        rw [← hs]
        refine h1 (i + 1) fun j hj => ?_
        cases j with
        | zero => rw [h0, h]
        | succ j => rw [hs]; exact hi j (by omega)
    · rw [if_neg h, decide_eq_true_eq]
      constructor
      · intro h1 i hi
        cases i with
        | zero => rw [h0]; exact h1
        | succ i => exact absurd (hi 0 (by omega)) (by rw [h0]; exact h)
      · intro h1
        have := h1 0 (fun j hj => absurd hj (Nat.not_lt_zero _))
        rwa [h0] at this
def optB (goals : List (List Rat)) (ng N : Nat) (rows : List (List Rat)) (piv : List Int) (M : Nat) : Bool := (List.range M).all fun k => lexB (rcost goals ng N rows piv k)
theorem optB_iff (goals : List (List Rat)) (ng N : Nat) (rows : List (List Rat)) (piv : List Int) (M : Nat) : optB goals ng N rows piv M = true ↔ ∀ k, k < M → lexnn (rcost goals ng N rows piv k) := by
  unfold optB
  rw [List.all_eq_true]
  exact ⟨fun h k hk => (lexB_iff _).1 (h k (by simpa using hk)), fun h k hk => (lexB_iff _).2 (h k (by simpa using hk))⟩
theorem nonneg_dec {xs : List Rat} (h : xs.all (fun x => decide (0 ≤ x)) = true) : nonneg xs := fun i hi => by
  rcases Nat.lt_or_ge i xs.length with h1 | h1
  · have := List.all_eq_true.1 h _ (List.getElem_mem h1)
    rw [decide_eq_true_eq] at this
    rw [vat_lt h1] at hi
    exact absurd this (by grind)
  · rw [vat_ge h1] at hi; exact absurd hi (by decide)

set_option maxHeartbeats 400000 in
theorem small06_ok (w : World) :
    Calls Tryz.prog 80 #[] w (fun e w' => ∃ a0 c0 a1 c1 a2 c2, e = .returned (.agg #[.int .i64 2, .slice a0 1 c0, .slice a1 3 c1, .slice a2 3 c2]) ∧ Ext w w' ∧ MC TT w' a0 1 c0 [[3, 5]] ∧ MC TT w' a1 3 c1 [[1, 0], [0, 2], [3, 2]] ∧ GC TT w' a2 3 c2 [4, 12, 18]) := by
 have z0 := Ext.refl w; have hLX : LX = 17592186044416 := rfl; have hLY : LY = 8796093022208 := rfl
 have hLV : LV = 1099511627776 := rfl
 refine enter (args := []) Tryz.func80 rfl rfl (Nat.le_of_ble_eq_true rfl) ?_
 refine V.seq (V.reg rfl ?_)
 refine vo ?_
 refine xal zc25 ?_
 intro W1 x2 b3 nn4
 have s5 := x2.sz
 have z6 := x2
 refine vnil ?_
 refine V.seq (V.reg rfl ?_)
 refine vo ?_
 refine xbs (ps := [(0, .int _ _), (1, .int _ _)]) (cs := [.int _ _, .int _ _]) sl118 zr2 sz2 rfl rfl rfl rfl rfl rfl ?_
 intro W7 x8 b9 nn10
 have s11 := x8.sz
 have z12 := z6.trans x8
 replace b3 := b3.ext x8
 refine vo ?_
 refine xbs (ps := [(0, .slice _ _ _)]) (cs := [.slice _ _ _]) sl119 zr118 sz118 rfl rfl rfl rfl rfl rfl ?_
 intro W13 x14 b15 nn16
 have s17 := x14.sz
 have z18 := z12.trans x14
 replace b3 := b3.ext x14
 replace b9 := b9.ext x14
 refine vo ?_
 have hl19 := RN.lit (k := .i64) (xs := [_, _]) 2 b9 (by intro q hq; simp only [List.mem_cons, List.not_mem_nil, or_false] at hq; simp only [kb]; omega) (TT.up W1 _ (Nat.le_refl _))
 have hm20 : MI TT W13 (some ⟨W7.heap.size, 0, none⟩) 1 1 [[3, 5]] := ⟨[[.slice _ _ _]], RS.lit (S := TT) _ b15 rfl (by simp) trivial rfl (by omega), ⟨_, _, _, rfl, hl19⟩, trivial⟩
 refine xcall e150 (mFrom_ok _ _ _ [[3, 5]] (SX TT [w.heap.size]) TT _ hm20 (by omega) (by intro r hr; simp at hr; rcases hr with rfl <;> simp <;> omega) (SX.up (TT.up _) (by simp; omega))) rfl rfl ?_
 rintro _ W23 ⟨_, rn22, _, rfl, x24, hv21⟩
 have s25 := x24.sz
 have z26 := z18.trans x24
 replace b3 := b3.ext x24
 obtain rfl : rn22 = 1 := by have := hv21.len; simpa using this.symm
 replace hv21 := hv21.cast (rss' := ([[3, 5]] : List (List Rat))) (by rfl)
 refine ⟨_, rfl, ?_⟩
 refine vo ?_
 refine xbs (ps := [(0, .int _ _), (1, .int _ _)]) (cs := [.int _ _, .int _ _]) sl118 zr2 sz2 rfl rfl rfl rfl rfl rfl ?_
 intro W27 x28 b29 nn30
 have s31 := x28.sz
 have z32 := z26.trans x28
 replace b3 := b3.ext x28
 refine vo ?_
 refine xbs (ps := [(0, .int _ _), (1, .int _ _)]) (cs := [.int _ _, .int _ _]) sl118 zr2 sz2 rfl rfl rfl rfl rfl rfl ?_
 intro W33 x34 b35 nn36
 have s37 := x34.sz
 have z38 := z32.trans x34
 replace b3 := b3.ext x34
 replace b29 := b29.ext x34
 refine vo ?_
 refine xbs (ps := [(0, .int _ _), (1, .int _ _)]) (cs := [.int _ _, .int _ _]) sl118 zr2 sz2 rfl rfl rfl rfl rfl rfl ?_
 intro W39 x40 b41 nn42
 have s43 := x40.sz
 have z44 := z38.trans x40
 replace b3 := b3.ext x40
 replace b29 := b29.ext x40
 replace b35 := b35.ext x40
 refine vo ?_
 refine xbs (ps := [(0, .slice _ _ _), (1, .slice _ _ _), (2, .slice _ _ _)]) (cs := [.slice _ _ _, .slice _ _ _, .slice _ _ _]) sl119 zr118 sz118 rfl rfl rfl rfl rfl rfl ?_
 intro W45 x46 b47 nn48
 have s49 := x46.sz
 have z50 := z44.trans x46
 replace b3 := b3.ext x46
 replace b29 := b29.ext x46
 replace b35 := b35.ext x46
 replace b41 := b41.ext x46
 refine vo ?_
 have hl51 := RN.lit (k := .i64) (xs := [_, _]) 2 b29 (by intro q hq; simp only [List.mem_cons, List.not_mem_nil, or_false] at hq; simp only [kb]; omega) (TT.up W23 _ (Nat.le_refl _))
 have hl52 := RN.lit (k := .i64) (xs := [_, _]) 2 b35 (by intro q hq; simp only [List.mem_cons, List.not_mem_nil, or_false] at hq; simp only [kb]; omega) (TT.up W27 _ (Nat.le_refl _))
 have hl53 := RN.lit (k := .i64) (xs := [_, _]) 2 b41 (by intro q hq; simp only [List.mem_cons, List.not_mem_nil, or_false] at hq; simp only [kb]; omega) (TT.up W33 _ (Nat.le_refl _))
 have hm54 : MI TT W45 (some ⟨W39.heap.size, 0, none⟩) 3 3 [[1, 0], [0, 2], [3, 2]] := ⟨[[.slice _ _ _], [.slice _ _ _], [.slice _ _ _]], RS.lit (S := TT) _ b47 rfl (by simp) trivial rfl (by omega), ⟨_, _, _, rfl, hl51⟩, ⟨_, _, _, rfl, hl52⟩, ⟨_, _, _, rfl, hl53⟩, trivial⟩
 refine xcall e150 (mFrom_ok _ _ _ [[1, 0], [0, 2], [3, 2]] (SX TT [w.heap.size]) TT _ hm54 (by omega) (by intro r hr; simp at hr; rcases hr with rfl | rfl | rfl <;> simp <;> omega) (SX.up (TT.up _) (by simp; omega))) rfl rfl ?_
 rintro _ W57 ⟨_, rn56, _, rfl, x58, hv55⟩
 have s59 := x58.sz
 have z60 := z50.trans x58
 replace b3 := b3.ext x58
 obtain rfl : rn56 = 3 := by have := hv55.len; simpa using this.symm
 replace hv55 := hv55.cast (rss' := ([[1, 0], [0, 2], [3, 2]] : List (List Rat))) (by rfl)
 refine ⟨_, rfl, ?_⟩
 refine vo ?_
 refine xbs (ps := [(0, .int _ _), (1, .int _ _), (2, .int _ _)]) (cs := [.int _ _, .int _ _, .int _ _]) sl118 zr2 sz2 rfl rfl rfl rfl rfl rfl ?_
 intro W61 x62 b63 nn64
 have s65 := x62.sz
 have z66 := z60.trans x62
 replace b3 := b3.ext x62
 refine vo ?_
 have hl67 := RN.lit (k := .i64) (xs := [_, _, _]) 3 b63 (by intro q hq; simp only [List.mem_cons, List.not_mem_nil, or_false] at hq; simp only [kb]; omega) (TT.up W57 _ (Nat.le_refl _))
 refine xcall e82 (vFrom_ok _ _ _ [4, 12, 18] (SX TT [w.heap.size]) TT _ hl67 (by omega) (SX.up (TT.up _) (by simp; omega))) rfl rfl ?_
 rintro _ W70 ⟨_, rn69, _, rfl, x71, hv68⟩
 have s72 := x71.sz
 have z73 := z66.trans x71
 replace b3 := b3.ext x71
 obtain rfl : rn69 = 3 := by have := hv68.len; simpa using this.symm
 replace hv68 := hv68.cast (rs' := ([4, 12, 18] : List Rat)) (by rfl)
 refine ⟨_, rfl, ?_⟩
 refine vv (rbd (ps := [(0, .int _ _), (1, .slice _ _ _), (2, .slice _ _ _), (3, .slice _ _ _)]) (cs := [.int _ _, .slice _ _ _, .slice _ _ _, .slice _ _ _]) pl25 rfl rfl) ?_
 refine vo ?_
 refine sta (cs' := [_, _, _, _]) b3 rfl rfl sz25 rfl rfl rfl ?_
 intro W74 y75 b3
 have z76 := z73.below (y75.below (by omega))
 have s77 := y75.size
 refine vnil ?_
 refine V.ret ?_
 refine ⟨[_], ⟨⟨_, rfl, lvb ag25 b3 rfl⟩, trivial⟩, ?_⟩
 exact ⟨_, _, _, _, _, _, rfl, z76, MG.sub okRowC ((hv21.ck ((((((((x28.ck _).trans (x34.ck _)).trans (x40.ck _)).trans (x46.ck _)).trans (x58.ck _)).trans (x62.ck _)).trans (x71.ck _)).trans (y75.ck (by intro hh; first | (simp [SX] at hh <;> omega) | omega))))) (fun _ _ _ => trivial), MG.sub okRowC ((hv55.ck (((x62.ck _).trans (x71.ck _)).trans (y75.ck (by intro hh; first | (simp [SX] at hh <;> omega) | omega))))) (fun _ _ _ => trivial), ((hv68.ck (y75.ck (by intro hh; first | (simp [SX] at hh <;> omega) | omega)))).sub (fun _ _ _ => trivial)⟩
set_option maxHeartbeats 4000000 in
theorem law7_ok (w : World) :
    Calls Tryz.prog 15 #[] w (fun e w' => e = .returned (.bool true) ∧ Ext w w') := by
 have z0 := Ext.refl w; have hLX : LX = 17592186044416 := rfl; have hLY : LY = 8796093022208 := rfl
 have hLV : LV = 1099511627776 := rfl
 refine enter (args := []) Tryz.func15 rfl rfl (Nat.le_of_ble_eq_true rfl) ?_
 refine V.seq (V.reg rfl ?_)
 refine asb rfl ?_
 refine vnil ?_
 refine V.seq (V.reg rfl ?_)
 refine vo ?_
 refine xcall e80 (small06_ok _) rfl rfl ?_
 rintro _ W1 ⟨a60, c60, a61, c61, a62, c62, rfl, x2, h6a, h6b, h6c⟩
 have s3 := x2.sz
 have z4 := x2
 refine ⟨_, rfl, ?_⟩
 refine vo ?_
 have hv7 : ValidP 2 1 3 3 [[3, 5]] [[1, 0], [0, 2], [3, 2]] := ⟨by decide, by decide, by decide⟩
 have ho7 := MC.ma (L := 1) h6a (szM_B (by decide +kernel)); have hx7 := MC.ma (L := 1) h6b (szM_B (by decide +kernel)); have hy7 := (h6c).va (L := 1) (szV_B (by decide +kernel))
 refine xcall e16 (tNew_ok 1 [[3, 5]] [[1, 0], [0, 2], [3, 2]] [4, 12, 18] TT TT TT _ _ _ _ _ _ _ _ _ _ _ ho7 hx7 (fun _ => hy7) (fun _ => by omega) (by omega) (by omega)) rfl rfl ?_
 rintro _ Wn ⟨xn, ⟨hnv, _⟩ | ⟨_, bw, ag, cg, v, pw, rfl, hS⟩⟩
 ·exact absurd hv7 hnv
 refine ⟨_, rfl, ?_⟩
 replace hS : TS W1.heap.size bw ((2 : Nat) : Int) ag 1 cg [[3, 5]] v pw [[1, 0, 1, 0, 0, 4], [0, 2, 0, 1, 0, 12], [3, 2, 0, 0, 1, 18]] [2, 3, 4] Wn := hS.cast (by decide +kernel) (by decide +kernel) (by decide +kernel)
 have f0 : TF 2 5 1 1 [[3, 5]] [[1, 0, 1, 0, 0, 4], [0, 2, 0, 1, 0, 12], [3, 2, 0, 0, 1, 18]] [2, 3, 4] := ⟨by decide, by decide, by decide, rfl, rfl, by decide, by decide, by decide, szM_B (by decide +kernel), szM_B (by decide +kernel), by decide, by decide, by omega⟩
 have f1 : TF 2 5 1 1 [[3, 5]] [[1, 0, 1, 0, 0, 4], [0, 1, 0, 1/2, 0, 6], [3, 0, 0, -1, 1, 6]] [2, 1, 4] := ⟨by decide, by decide, by decide, rfl, rfl, by decide, by decide, by decide, szM_B (by decide +kernel), szM_B (by decide +kernel), by decide, by decide, by omega⟩
 have f2 : TF 2 5 1 1 [[3, 5]] [[0, 0, 1, 1/3, -1/3, 2], [0, 1, 0, 1/2, 0, 6], [1, 0, 0, -1/3, 1/3, 2]] [2, 1, 0] := ⟨by decide, by decide, by decide, rfl, rfl, by decide, by decide, by decide, szM_B (by decide +kernel), szM_B (by decide +kernel), by decide, by decide, by omega⟩
 have s5 := xn.sz
 have z6 := z4.trans xn
 refine mvt rfl ?_
 refine vv (rext (v := .pointer (some ⟨_, _, none⟩)) rfl rfl) ?_
 refine vv (rext (v := .int _ _) rfl rfl) ?_
 refine asp rfl ?_
 refine asi rfl ?_
 refine vnil ?_
 refine V.seq ?_
 refine V.seq (V.reg rfl ?_)
 refine mvi rfl ?_
 refine vne rfl rfl ?_ ?_
 ·intro c7
  omega
 ·intro c7
  refine mvb rfl ?_
  refine vg rfl ?_
  refine mvp rfl ?_
  refine vg rfl ?_
  refine vv (rpnil (q := false) (by kernel_rfl) rfl rfl rfl) ?_
  refine vv (rpk (v := .bool false) rfl rfl) ?_
  refine mvb rfl ?_
  refine vg rfl ?_
  refine mvp rfl ?_
  refine vg rfl ?_
  refine vo ?_
  refine xcall e81 ((hS).basis (S := TT) f0 (TT.up _)) rfl rfl ?_
  rintro _ W8 ⟨_, _, rfl, x9, hbs⟩
  have s10 := x9.sz
  have z11 := z6.trans x9
  refine ⟨_, rfl, ?_⟩
  refine vg rfl ?_
  refine vo ?_
  refine xbs (ps := [(0, .int _ _), (1, .int _ _), (2, .int _ _)]) (cs := [.int _ _, .int _ _, .int _ _]) sl73 zr3 sz3 rfl rfl rfl rfl rfl rfl ?_
  intro W12 x13 b14 nn15
  have s16 := x13.sz
  have z17 := z11.trans x13
  refine vg rfl ?_
  refine vo ?_
  have hl18 := RN.lit (k := .i64) (xs := [_, _, _]) 3 b14 (by intro q hq; simp only [List.mem_cons, List.not_mem_nil, or_false] at hq; simp only [kb]; omega) (TT.up W8 _ (Nat.le_refl _))
  refine xcall e62 (rInts5_true _ (hbs.ext x13) hl18 rfl) rfl rfl ?_
  rintro _ W19 ⟨rfl, x20⟩
  have s21 := x20.sz
  have z22 := z17.trans x20
  refine ⟨_, rfl, ?_⟩
  refine vg rfl ?_
  refine vv (rnot (q := false) rfl rfl) ?_
  refine vv (rpk (v := .bool false) rfl rfl) ?_
  refine mvb rfl ?_
  refine vg rfl ?_
  refine mvp rfl ?_
  refine vg rfl ?_
  refine vo ?_
  refine xcall e24 (((hS.ext ((x9.trans x13).trans x20))).rhs (S := TT) f0 (TT.up _)) rfl rfl ?_
  rintro _ W25 ⟨_, rn24, _, rfl, x26, hv23⟩
  have s27 := x26.sz
  have z28 := z22.trans x26
  replace hv23 := hv23.cast (rs' := ([4, 12, 18] : List Rat)) (by decide +kernel)
  obtain rfl : rn24 = 3 := by have := hv23.len; exact this.symm.trans rfl
  refine ⟨_, rfl, ?_⟩
  refine vg rfl ?_
  refine vo ?_
  refine xbs (ps := [(0, .int _ _), (1, .int _ _), (2, .int _ _)]) (cs := [.int _ _, .int _ _, .int _ _]) sl118 zr2 sz2 rfl rfl rfl rfl rfl rfl ?_
  intro W29 x30 b31 nn32
  have s33 := x30.sz
  have z34 := z28.trans x30
  refine vg rfl ?_
  refine vo ?_
  have hl35 := RN.lit (k := .i64) (xs := [_, _, _]) 3 b31 (by intro q hq; simp only [List.mem_cons, List.not_mem_nil, or_false] at hq; simp only [kb]; omega) (TT.up W25 _ (Nat.le_refl _))
  refine xcall e82 (vFrom_ok _ _ _ [4, 12, 18] TT TT _ hl35 (by omega) (TT.up _)) rfl rfl ?_
  rintro _ W38 ⟨_, rn37, _, rfl, x39, hv36⟩
  have s40 := x39.sz
  have z41 := z34.trans x39
  obtain rfl : rn37 = 3 := by have := hv36.len; simpa using this.symm
  replace hv36 := hv36.cast (rs' := ([4, 12, 18] : List Rat)) (by rfl)
  refine ⟨_, rfl, ?_⟩
  refine vg rfl ?_
  refine vo ?_
  refine xcall e21 (vEq_true _ (((hv23.ext (x30.trans x39))).va (L := 1) (szV_B (by decide +kernel))) ((hv36).va (L := 1) (szV_B (by decide +kernel))) (by omega) (by omega) (by omega) (by omega) (by omega) (fun _ => rfl)) rfl rfl ?_
  rintro _ W42 ⟨rfl, x43⟩
  have s44 := x43.sz
  have z45 := z41.trans x43
  refine ⟨_, rfl, ?_⟩
  refine vg rfl ?_
  refine vv (rnot (q := false) rfl rfl) ?_
  refine vv (rpk (v := .bool false) rfl rfl) ?_
  refine mvb rfl ?_
  refine vg rfl ?_
  refine mvp rfl ?_
  refine vg rfl ?_
  refine vo ?_
  refine xcall e83 (((hS.ext ((((((x9.trans x13).trans x20).trans x26).trans x30).trans x39).trans x43))).cost (S := TT) f0 (TT.up _) 0 (by omega) (by omega)) rfl rfl ?_
  rintro _ W48 ⟨_, rn47, _, rfl, x49, hv46⟩
  have s50 := x49.sz
  have z51 := z45.trans x49
  replace hv46 := hv46.cast (rs' := ([-3, 1, 0] : List Rat)) (by decide +kernel)
  obtain rfl : rn47 = 3 := by have := hv46.len; exact this.symm.trans rfl
  refine ⟨_, rfl, ?_⟩
  refine vg rfl ?_
  refine vo ?_
  refine xbs (ps := [(0, .int _ _), (1, .int _ _), (2, .int _ _)]) (cs := [.int _ _, .int _ _, .int _ _]) sl118 zr2 sz2 rfl rfl rfl rfl rfl rfl ?_
  intro W52 x53 b54 nn55
  have s56 := x53.sz
  have z57 := z51.trans x53
  refine vg rfl ?_
  refine vo ?_
  have hl58 := RN.lit (k := .i64) (xs := [_, _, _]) 3 b54 (by intro q hq; simp only [List.mem_cons, List.not_mem_nil, or_false] at hq; simp only [kb]; omega) (TT.up W48 _ (Nat.le_refl _))
  refine xcall e82 (vFrom_ok _ _ _ [-3, 1, 0] TT TT _ hl58 (by omega) (TT.up _)) rfl rfl ?_
  rintro _ W61 ⟨_, rn60, _, rfl, x62, hv59⟩
  have s63 := x62.sz
  have z64 := z57.trans x62
  obtain rfl : rn60 = 3 := by have := hv59.len; simpa using this.symm
  replace hv59 := hv59.cast (rs' := ([-3, 1, 0] : List Rat)) (by rfl)
  refine ⟨_, rfl, ?_⟩
  refine vg rfl ?_
  refine vo ?_
  refine xcall e21 (vEq_true _ (((hv46.ext (x53.trans x62))).va (L := 1) (szV_B (by decide +kernel))) ((hv59).va (L := 1) (szV_B (by decide +kernel))) (by omega) (by omega) (by omega) (by omega) (by omega) (fun _ => rfl)) rfl rfl ?_
  rintro _ W65 ⟨rfl, x66⟩
  have s67 := x66.sz
  have z68 := z64.trans x66
  refine ⟨_, rfl, ?_⟩
  refine vg rfl ?_
  refine vv (rnot (q := false) rfl rfl) ?_
  refine vv (rpk (v := .bool false) rfl rfl) ?_
  refine vnil ?_
  refine V.condF rfl ?_
  refine V.skip ?_
  refine V.seq (V.reg rfl ?_)
  refine mvp rfl ?_
  refine vo ?_
  have hSp1 := (hS.ext ((((((((((x9.trans x13).trans x20).trans x26).trans x30).trans x39).trans x43).trans x49).trans x53).trans x62).trans x66))
  refine xcall e18 (hSp1.pivC f0 1 1 (by simp only [kb]; omega) (by simp only [kb]; omega)) rfl rfl ?_
  rintro _ Wp1 ⟨er, rfl, her, hSq1, kdp1⟩
  refine ⟨_, rfl, ?_⟩
  obtain rfl : er = 0 := her.2 (by decide +kernel)
  replace hSq1 : TS W1.heap.size bw ((2 : Nat) : Int) ag 1 cg [[3, 5]] v pw [[1, 0, 1, 0, 0, 4], [0, 1, 0, 1/2, 0, 6], [3, 0, 0, -1, 1, 6]] [2, 1, 4] Wp1 := hSq1.cast rfl (by decide +kernel) (by decide +kernel)
  have zp1 : Ext w Wp1 := KD.low z68 kdp1 (fun q hq => hSp1.kqB (by omega)) (by omega)
  have szp1 := zp1.sz
  refine asi rfl ?_
  refine vnil ?_
  refine V.seq ?_
  refine V.seq (V.reg rfl ?_)
  refine mvi rfl ?_
  refine vne rfl rfl ?_ ?_
  ·intro c69
   omega
  ·intro c69
   refine mvb rfl ?_
   refine vg rfl ?_
   refine mvp rfl ?_
   refine vg rfl ?_
   refine vo ?_
   refine xcall e24 ((hSq1).rhs (S := TT) f1 (TT.up _)) rfl rfl ?_
   rintro _ W72 ⟨_, rn71, _, rfl, x73, hv70⟩
   have s74 := x73.sz
   have z75 := zp1.trans x73
   replace hv70 := hv70.cast (rs' := ([4, 6, 6] : List Rat)) (by decide +kernel)
   obtain rfl : rn71 = 3 := by have := hv70.len; exact this.symm.trans rfl
   refine ⟨_, rfl, ?_⟩
   refine vg rfl ?_
   refine vo ?_
   refine xbs (ps := [(0, .int _ _), (1, .int _ _), (2, .int _ _)]) (cs := [.int _ _, .int _ _, .int _ _]) sl118 zr2 sz2 rfl rfl rfl rfl rfl rfl ?_
   intro W76 x77 b78 nn79
   have s80 := x77.sz
   have z81 := z75.trans x77
   refine vg rfl ?_
   refine vo ?_
   have hl82 := RN.lit (k := .i64) (xs := [_, _, _]) 3 b78 (by intro q hq; simp only [List.mem_cons, List.not_mem_nil, or_false] at hq; simp only [kb]; omega) (TT.up W72 _ (Nat.le_refl _))
   refine xcall e82 (vFrom_ok _ _ _ [4, 6, 6] TT TT _ hl82 (by omega) (TT.up _)) rfl rfl ?_
   rintro _ W85 ⟨_, rn84, _, rfl, x86, hv83⟩
   have s87 := x86.sz
   have z88 := z81.trans x86
   obtain rfl : rn84 = 3 := by have := hv83.len; simpa using this.symm
   replace hv83 := hv83.cast (rs' := ([4, 6, 6] : List Rat)) (by rfl)
   refine ⟨_, rfl, ?_⟩
   refine vg rfl ?_
   refine vo ?_
   refine xcall e21 (vEq_true _ (((hv70.ext (x77.trans x86))).va (L := 1) (szV_B (by decide +kernel))) ((hv83).va (L := 1) (szV_B (by decide +kernel))) (by omega) (by omega) (by omega) (by omega) (by omega) (fun _ => rfl)) rfl rfl ?_
   rintro _ W89 ⟨rfl, x90⟩
   have s91 := x90.sz
   have z92 := z88.trans x90
   refine ⟨_, rfl, ?_⟩
   refine vg rfl ?_
   refine vv (rnot (q := false) rfl rfl) ?_
   refine vv (rpk (v := .bool false) rfl rfl) ?_
   refine mvb rfl ?_
   refine vg rfl ?_
   refine mvp rfl ?_
   refine vg rfl ?_
   refine vo ?_
   refine xcall e29 (((hSq1.ext (((x73.trans x77).trans x86).trans x90))).val (S := TT) f1 (TT.up _)) rfl rfl ?_
   rintro _ W95 ⟨_, rn94, _, rfl, x96, hv93⟩
   have s97 := x96.sz
   have z98 := z92.trans x96
   replace hv93 := hv93.cast (rs' := ([30, 0, -6] : List Rat)) (by decide +kernel)
   obtain rfl : rn94 = 3 := by have := hv93.len; exact this.symm.trans rfl
   refine ⟨_, rfl, ?_⟩
   refine vg rfl ?_
   refine vo ?_
   refine xbs (ps := [(0, .int _ _), (1, .int _ _), (2, .int _ _)]) (cs := [.int _ _, .int _ _, .int _ _]) sl118 zr2 sz2 rfl rfl rfl rfl rfl rfl ?_
   intro W99 x100 b101 nn102
   have s103 := x100.sz
   have z104 := z98.trans x100
   refine vg rfl ?_
   refine vo ?_
   have hl105 := RN.lit (k := .i64) (xs := [_, _, _]) 3 b101 (by intro q hq; simp only [List.mem_cons, List.not_mem_nil, or_false] at hq; simp only [kb]; omega) (TT.up W95 _ (Nat.le_refl _))
   refine xcall e82 (vFrom_ok _ _ _ [30, 0, -6] TT TT _ hl105 (by omega) (TT.up _)) rfl rfl ?_
   rintro _ W108 ⟨_, rn107, _, rfl, x109, hv106⟩
   have s110 := x109.sz
   have z111 := z104.trans x109
   obtain rfl : rn107 = 3 := by have := hv106.len; simpa using this.symm
   replace hv106 := hv106.cast (rs' := ([30, 0, -6] : List Rat)) (by rfl)
   refine ⟨_, rfl, ?_⟩
   refine vg rfl ?_
   refine vo ?_
   refine xcall e21 (vEq_true _ (((hv93.ext (x100.trans x109))).va (L := 1) (szV_B (by decide +kernel))) ((hv106).va (L := 1) (szV_B (by decide +kernel))) (by omega) (by omega) (by omega) (by omega) (by omega) (fun _ => rfl)) rfl rfl ?_
   rintro _ W112 ⟨rfl, x113⟩
   have s114 := x113.sz
   have z115 := z111.trans x113
   refine ⟨_, rfl, ?_⟩
   refine vg rfl ?_
   refine vv (rnot (q := false) rfl rfl) ?_
   refine vv (rpk (v := .bool false) rfl rfl) ?_
   refine mvb rfl ?_
   refine vg rfl ?_
   refine mvp rfl ?_
   refine vg rfl ?_
   refine vo ?_
   refine xcall e76 (((hSq1.ext (((((((x73.trans x77).trans x86).trans x90).trans x96).trans x100).trans x109).trans x113))).opt f1) rfl rfl ?_
   rintro _ Wq1 ⟨qo, rfl, xq1, hqo⟩
   refine ⟨_, rfl, ?_⟩
   obtain rfl : qo = false := by rw [Bool.eq_false_iff]; intro h; exact absurd ((optB_iff _ _ _ _ _ _).2 (hqo.1 h)) (by decide +kernel)
   have s116 := xq1.sz
   have z117 := z115.trans xq1
   refine vv (rpk (v := .bool false) rfl rfl) ?_
   refine vnil ?_
   refine V.condF rfl ?_
   refine V.skip ?_
   refine V.seq (V.reg rfl ?_)
   refine mvp rfl ?_
   refine vo ?_
   have hSp2 := (hSq1.ext ((((((((x73.trans x77).trans x86).trans x90).trans x96).trans x100).trans x109).trans x113).trans xq1))
   refine xcall e18 (hSp2.pivC f1 2 0 (by simp only [kb]; omega) (by simp only [kb]; omega)) rfl rfl ?_
   rintro _ Wp2 ⟨er, rfl, her, hSq2, kdp2⟩
   refine ⟨_, rfl, ?_⟩
   obtain rfl : er = 0 := her.2 (by decide +kernel)
   replace hSq2 : TS W1.heap.size bw ((2 : Nat) : Int) ag 1 cg [[3, 5]] v pw [[0, 0, 1, 1/3, -1/3, 2], [0, 1, 0, 1/2, 0, 6], [1, 0, 0, -1/3, 1/3, 2]] [2, 1, 0] Wp2 := hSq2.cast rfl (by decide +kernel) (by decide +kernel)
   have zp2 : Ext w Wp2 := KD.low z117 kdp2 (fun q hq => hSp2.kqB (by omega)) (by omega)
   have szp2 := zp2.sz
   refine asi rfl ?_
   refine vnil ?_
   refine V.seq (V.reg rfl ?_)
   refine mvi rfl ?_
   refine veq rfl rfl ?_ ?_
   ·intro c118
    refine mvb rfl ?_
    refine vg rfl ?_
    refine mvp rfl ?_
    refine vg rfl ?_
    refine vo ?_
    refine xcall e24 ((hSq2).rhs (S := TT) f2 (TT.up _)) rfl rfl ?_
    rintro _ W121 ⟨_, rn120, _, rfl, x122, hv119⟩
    have s123 := x122.sz
    have z124 := zp2.trans x122
    replace hv119 := hv119.cast (rs' := ([2, 6, 2] : List Rat)) (by decide +kernel)
    obtain rfl : rn120 = 3 := by have := hv119.len; exact this.symm.trans rfl
    refine ⟨_, rfl, ?_⟩
    refine vg rfl ?_
    refine vo ?_
    refine xbs (ps := [(0, .int _ _), (1, .int _ _), (2, .int _ _)]) (cs := [.int _ _, .int _ _, .int _ _]) sl118 zr2 sz2 rfl rfl rfl rfl rfl rfl ?_
    intro W125 x126 b127 nn128
    have s129 := x126.sz
    have z130 := z124.trans x126
    refine vg rfl ?_
    refine vo ?_
    have hl131 := RN.lit (k := .i64) (xs := [_, _, _]) 3 b127 (by intro q hq; simp only [List.mem_cons, List.not_mem_nil, or_false] at hq; simp only [kb]; omega) (TT.up W121 _ (Nat.le_refl _))
    refine xcall e82 (vFrom_ok _ _ _ [2, 6, 2] TT TT _ hl131 (by omega) (TT.up _)) rfl rfl ?_
    rintro _ W134 ⟨_, rn133, _, rfl, x135, hv132⟩
    have s136 := x135.sz
    have z137 := z130.trans x135
    obtain rfl : rn133 = 3 := by have := hv132.len; simpa using this.symm
    replace hv132 := hv132.cast (rs' := ([2, 6, 2] : List Rat)) (by rfl)
    refine ⟨_, rfl, ?_⟩
    refine vg rfl ?_
    refine vo ?_
    refine xcall e21 (vEq_true _ (((hv119.ext (x126.trans x135))).va (L := 1) (szV_B (by decide +kernel))) ((hv132).va (L := 1) (szV_B (by decide +kernel))) (by omega) (by omega) (by omega) (by omega) (by omega) (fun _ => rfl)) rfl rfl ?_
    rintro _ W138 ⟨rfl, x139⟩
    have s140 := x139.sz
    have z141 := z137.trans x139
    refine ⟨_, rfl, ?_⟩
    refine vv (rpk (v := .bool true) rfl rfl) ?_
    refine mvb rfl ?_
    refine vg rfl ?_
    refine mvp rfl ?_
    refine vg rfl ?_
    refine vo ?_
    refine xcall e73 (((hSq2.ext (((x122.trans x126).trans x135).trans x139))).sol (S := TT) f2 (TT.up _)) rfl rfl ?_
    rintro _ W144 ⟨_, rn143, _, rfl, x145, hv142⟩
    have s146 := x145.sz
    have z147 := z141.trans x145
    replace hv142 := hv142.cast (rs' := ([2, 6] : List Rat)) (by decide +kernel)
    obtain rfl : rn143 = 2 := by have := hv142.len; exact this.symm.trans rfl
    refine ⟨_, rfl, ?_⟩
    refine vg rfl ?_
    refine vo ?_
    refine xbs (ps := [(0, .int _ _), (1, .int _ _)]) (cs := [.int _ _, .int _ _]) sl118 zr2 sz2 rfl rfl rfl rfl rfl rfl ?_
    intro W148 x149 b150 nn151
    have s152 := x149.sz
    have z153 := z147.trans x149
    refine vg rfl ?_
    refine vo ?_
    have hl154 := RN.lit (k := .i64) (xs := [_, _]) 2 b150 (by intro q hq; simp only [List.mem_cons, List.not_mem_nil, or_false] at hq; simp only [kb]; omega) (TT.up W144 _ (Nat.le_refl _))
    refine xcall e82 (vFrom_ok _ _ _ [2, 6] TT TT _ hl154 (by omega) (TT.up _)) rfl rfl ?_
    rintro _ W157 ⟨_, rn156, _, rfl, x158, hv155⟩
    have s159 := x158.sz
    have z160 := z153.trans x158
    obtain rfl : rn156 = 2 := by have := hv155.len; simpa using this.symm
    replace hv155 := hv155.cast (rs' := ([2, 6] : List Rat)) (by rfl)
    refine ⟨_, rfl, ?_⟩
    refine vg rfl ?_
    refine vo ?_
    refine xcall e21 (vEq_true _ (((hv142.ext (x149.trans x158))).va (L := 1) (szV_B (by decide +kernel))) ((hv155).va (L := 1) (szV_B (by decide +kernel))) (by omega) (by omega) (by omega) (by omega) (by omega) (fun _ => rfl)) rfl rfl ?_
    rintro _ W161 ⟨rfl, x162⟩
    have s163 := x162.sz
    have z164 := z160.trans x162
    refine ⟨_, rfl, ?_⟩
    refine vv (rpk (v := .bool true) rfl rfl) ?_
    refine mvb rfl ?_
    refine vg rfl ?_
    refine mvp rfl ?_
    refine vg rfl ?_
    refine vo ?_
    refine xcall e29 (((hSq2.ext (((((((x122.trans x126).trans x135).trans x139).trans x145).trans x149).trans x158).trans x162))).val (S := TT) f2 (TT.up _)) rfl rfl ?_
    rintro _ W167 ⟨_, rn166, _, rfl, x168, hv165⟩
    have s169 := x168.sz
    have z170 := z164.trans x168
    replace hv165 := hv165.cast (rs' := ([36, -2, -6] : List Rat)) (by decide +kernel)
    obtain rfl : rn166 = 3 := by have := hv165.len; exact this.symm.trans rfl
    refine ⟨_, rfl, ?_⟩
    refine vg rfl ?_
    refine vo ?_
    refine xbs (ps := [(0, .int _ _), (1, .int _ _), (2, .int _ _)]) (cs := [.int _ _, .int _ _, .int _ _]) sl118 zr2 sz2 rfl rfl rfl rfl rfl rfl ?_
    intro W171 x172 b173 nn174
    have s175 := x172.sz
    have z176 := z170.trans x172
    refine vg rfl ?_
    refine vo ?_
    have hl177 := RN.lit (k := .i64) (xs := [_, _, _]) 3 b173 (by intro q hq; simp only [List.mem_cons, List.not_mem_nil, or_false] at hq; simp only [kb]; omega) (TT.up W167 _ (Nat.le_refl _))
    refine xcall e82 (vFrom_ok _ _ _ [36, -2, -6] TT TT _ hl177 (by omega) (TT.up _)) rfl rfl ?_
    rintro _ W180 ⟨_, rn179, _, rfl, x181, hv178⟩
    have s182 := x181.sz
    have z183 := z176.trans x181
    obtain rfl : rn179 = 3 := by have := hv178.len; simpa using this.symm
    replace hv178 := hv178.cast (rs' := ([36, -2, -6] : List Rat)) (by rfl)
    refine ⟨_, rfl, ?_⟩
    refine vg rfl ?_
    refine vo ?_
    refine xcall e21 (vEq_true _ (((hv165.ext (x172.trans x181))).va (L := 1) (szV_B (by decide +kernel))) ((hv178).va (L := 1) (szV_B (by decide +kernel))) (by omega) (by omega) (by omega) (by omega) (by omega) (fun _ => rfl)) rfl rfl ?_
    rintro _ W184 ⟨rfl, x185⟩
    have s186 := x185.sz
    have z187 := z183.trans x185
    refine ⟨_, rfl, ?_⟩
    refine vv (rpk (v := .bool true) rfl rfl) ?_
    refine mvb rfl ?_
    refine vg rfl ?_
    refine mvp rfl ?_
    refine vg rfl ?_
    refine vo ?_
    refine xcall e76 (((hSq2.ext (((((((((((x122.trans x126).trans x135).trans x139).trans x145).trans x149).trans x158).trans x162).trans x168).trans x172).trans x181).trans x185))).opt f2) rfl rfl ?_
    rintro _ Wq2 ⟨qo, rfl, xq2, hqo⟩
    refine ⟨_, rfl, ?_⟩
    obtain rfl : qo = true := hqo.2 ((optB_iff _ _ _ _ _ _).1 (by decide +kernel))
    have s188 := xq2.sz
    have z189 := z187.trans xq2
    refine vv (rpk (v := .bool true) rfl rfl) ?_
    refine mvb rfl ?_
    refine vg rfl ?_
    refine mvp rfl ?_
    refine vg rfl ?_
    refine vo ?_
    refine xcall e74 (((hSq2.ext ((((((((((((x122.trans x126).trans x135).trans x139).trans x145).trans x149).trans x158).trans x162).trans x168).trans x172).trans x181).trans x185).trans xq2))).feas f2) rfl rfl ?_
    rintro _ Wf ⟨qf, rfl, xf, hqf⟩
    refine ⟨_, rfl, ?_⟩
    obtain rfl : qf = true := hqf.2 (nonneg_dec (by decide +kernel))
    have s190 := xf.sz
    have z191 := z189.trans xf
    refine vv (rpk (v := .bool true) rfl rfl) ?_
    refine asb rfl ?_
    refine vnil ?_
    refine V.ret ?_
    refine ⟨[.bool true], ⟨rfl, trivial⟩, ?_⟩
    exact ⟨rfl, z191⟩
   ·intro c118
    omega
end Go.Proofs.YtknbjfefeeojlaaGreat
/- Tableaus: the laws of pivots, in plain mathematics. -/
namespace Go.Proofs.YtknbjfefeeojlaaGreat
open Go.RowKit
theorem wd_setN {xs : List Int} {i : Nat} (z : Int) (t : Nat) (h : i < xs.length) : wd (xs.set i z) t = if t = i then z else wd xs t := by
  unfold wd
  rw [List.getD_eq_getElem?_getD, List.getElem?_set, List.getD_eq_getElem?_getD, Int.toNat_natCast]
  by_cases e : i = t
  · subst e; rw [if_pos rfl, if_pos h, if_pos rfl]; rfl
  · rw [if_neg e, if_neg (Ne.symm e)]
theorem sumk_app (f : Nat → Rat) (a : Nat) : ∀ b, sumk f (a + b) = sumk f a + sumk (fun t => f (a + t)) b
  | 0 => by simp [sumk, Rat.add_zero]
  | b + 1 => by rw [← Nat.add_assoc, sumk, sumk_app f a b, sumk]; grind
theorem vat_app (xs ys : List Rat) (k : Nat) : vat (xs ++ ys) k = if k < xs.length then vat xs k else vat ys (k - xs.length) := by
  unfold vat
  rw [List.getD_eq_getElem?_getD, List.getElem?_append]
  split
  · rw [List.getD_eq_getElem?_getD]
  · rw [List.getD_eq_getElem?_getD]
structure TI (N m : Nat) (rows0 rows : List (List Rat)) (piv : List Int) : Prop where
  len : rows.length = m
  plen : piv.length = m
  rc : rect (N + m + 1) rows
  nn : ∀ t : Nat, t < m → 0 ≤ wd piv t ∧ wd piv t < ((N + m : Nat) : Int)
  un : ∀ t : Nat, t < m → ∀ i, i < m → mat rows i (pvt piv t) = if i = t then 1 else 0
  l0 : rows0.length = m
  s1 : Sub rows rows0
  s2 : Sub rows0 rows
theorem mat_pivS {rows : List (List Rat)} {r c : Nat} (hr : r < rows.length) {i : Nat} (hi : i < rows.length) (k : Nat) : mat (elimS (divR rows r c) r c rows.length) i k = if i = r then 1 / mat rows r c * mat rows r k else mat rows i k - mat rows i c * (1 / mat rows r c * mat rows r k) := by
  rw [mat_elimS (by rw [divR_len]; exact hi), mat_divR hr, mat_divR hr, mat_divR hr, if_pos (rfl : r = r)]
  by_cases e : i = r
  · subst e; rw [if_neg (fun h => h.2 rfl), if_pos rfl, if_pos rfl]
  · rw [if_pos ⟨hi, e⟩, if_neg e, if_neg e, if_neg e]
theorem TI.pivot {N m : Nat} {rows0 rows : List (List Rat)} {piv : List Int} (h : TI N m rows0 rows piv) (r c : Int) : TI N m rows0 (pivR rows piv (N + m) r c) (pivP rows piv (N + m) r c) := by
  by_cases ok : pivOK rows piv (N + m) r c
  · have e1 := pivR_rect (M := N + m) (piv := piv) (r := r) (c := c) h.rc
    unfold pivR at e1
    unfold pivR pivP
    rw [if_pos ok] at e1
    rw [if_pos ok, if_pos ok]
    obtain ⟨h0, h1, h2, h3, h4, h5⟩ := ok
    have hl := h.len; have hp := h.plen
    have hr : r.toNat < rows.length := by omega
    have hs : ∀ t : Nat, wd (piv.set r.toNat c) t = if t = r.toNat then c else wd piv t := fun t => wd_setN c t (by omega)
    refine ⟨by rw [elimS_len, divR_len]; exact h.len, by rw [List.length_set]; exact h.plen, e1, fun t ht => ?_, fun t ht i hi => ?_, h.l0, ?_, ?_⟩
    · rw [hs]; split
      · exact ⟨h2, h3⟩
      · exact h.nn t ht
    · rw [mat_pivS hr (by omega), pvt, hs]
      by_cases e : t = r.toNat
      · rw [if_pos e, e]
        by_cases e2 : i = r.toNat
        · rw [if_pos e2, if_pos e2]; grind
        · rw [if_neg e2, if_neg e2]; grind
      · have h6 := h.un t ht r.toNat (by omega)
        rw [if_neg (Ne.symm e)] at h6
        rw [if_neg e, show (wd piv t).toNat = pvt piv t from rfl, h6, h.un t ht i hi]
        by_cases e2 : i = r.toNat
        · rw [if_pos e2, if_neg (by omega)]; grind
        · rw [if_neg e2]; grind
    · exact (Sub.elim (by rw [divR_len]; exact hr)).1.trans ((Sub.div hr h5).1.trans h.s1)
    · exact h.s2.trans ((Sub.div hr h5).2.trans (Sub.elim (by rw [divR_len]; exact hr)).2)
  · unfold pivR pivP; rw [if_neg ok, if_neg ok]; exact h
theorem Sub.sat {A B : List (List Rat)} {z : Nat → Rat} {M : Nat} (h : Sub A B) (hz : ∀ i, i < B.length → sumk (fun k => mat B i k * z k) M = mat B i M) : ∀ i, i < A.length → sumk (fun k => mat A i k * z k) M = mat A i M := fun i hi => by
  obtain ⟨c, hc⟩ := h i hi
  rw [hc M]
  have e1 : sumk (fun k => mat A i k * z k) M = sumk (fun k => sumk (fun t => c t * (mat B t k * z k)) B.length) M := sumk_ext fun k _ => by
    rw [hc k, ← sumk_mulr]; exact sumk_ext fun t _ => by grind
  rw [e1, sumk_comm (fun k t => c t * (mat B t k * z k))]
  exact sumk_ext fun t ht => by rw [sumk_mul, hz t ht]
/-! ### The first tableau -/
theorem colsN_eq {rss : List (List Rat)} {N : Nat} (h : rect N rss) (h0 : 0 < rss.length) : colsN rss = N :=
  Nat.le_antisymm (colsN_le fun r hr => Nat.le_of_eq (h r hr)) (by have h1 := cols_ge (rss := rss) (rss[0]) (List.getElem_mem h0); have e := h _ (List.getElem_mem h0); omega)
theorem rowat_map {α : Type} (f : Nat → List Rat) {k j : Nat} (h : j < k) : rowat ((List.range k).map f) j = f j := by
  unfold rowat; rw [List.getD_eq_getElem?_getD, List.getElem?_map, List.getElem?_range h]; rfl
theorem mat_identm (m : Nat) {i : Nat} (h : i < m) (j : Nat) : mat (identm m) i j = if j = i then 1 else 0 := by
  unfold mat identm
  rw [rowat_map (α := Nat) _ h, vat_unitv]
  by_cases e : j = i
  · rw [if_pos ⟨e, h⟩, if_pos e]
  · rw [if_neg (fun h => e h.1), if_neg e]
theorem wd_newP (N : Nat) {m t : Nat} (h : t < m) : wd (newP N m) t = (N : Int) + (t : Int) := by
  unfold wd newP; rw [List.getD_eq_getElem?_getD, List.getElem?_map, Int.toNat_natCast, List.getElem?_range h]; rfl
theorem mat_allB {rss : List (List Rat)} {bs : List Rat} {N m i : Nat} (hi : i < m) (k : Nat) (hk : k < N + m + 1) : mat (allB rss bs N m) i k = if k < N then mat rss i k else if k = N + i then 1 else if k = N + m then vat bs i else 0 := by
  have c1 : colsN (gridm (matI rss) m N) = N := by rw [colsN_gridm, Nat.min_eq_right (by omega)]; omega
  have c2 : colsN (identm m) = m := colsN_eq (identm_rect m) (by simp [identm]; omega)
  have c3 : colsN (wideB rss N m) = N + m := by unfold wideB; rw [colsN_gridm, c1, c2, Nat.max_self, Nat.min_eq_right (by omega)]; omega
  have c4 : colsN [resz bs m] = m := colsN_eq (N := m) (fun r hr => by simp at hr; subst hr; exact resz_len _ _) (by simp)
  have c5 : colsN (sideB bs m) = 1 := by unfold sideB; rw [colsN_gridm, c4, Nat.min_eq_right (by omega)]
  unfold allB
  rw [mat_gridm, c3, c4, c5, if_pos ⟨by omega, by omega⟩, catI]
  by_cases h1 : k < N + m
  · rw [if_pos (by omega), matI_nat]
    unfold wideB
    rw [mat_gridm, c1, c2, if_pos ⟨by omega, by omega⟩, catI]
    by_cases h2 : k < N
    · rw [if_pos (by omega), matI_nat, mat_gridm, if_pos ⟨hi, h2⟩, matI_nat, if_pos h2]
    · rw [if_neg (by omega), show ((k : Int) - (N : Int)) = ((k - N : Nat) : Int) by omega, matI_nat, mat_identm m hi, if_neg h2]
      by_cases h3 : k = N + i
      · rw [if_pos (by omega), if_pos h3]
      · rw [if_neg (by omega), if_neg h3, if_neg (by omega)]
  · have e : k = N + m := by omega
    subst e
    rw [if_neg (by omega), show (((N + m : Nat) : Int) - ((N + m : Nat) : Int)) = ((0 : Nat) : Int) by omega, matI_nat, if_neg (by omega), if_neg (by omega), if_pos rfl]
    unfold sideB
    rw [mat_gridm, c4, if_pos ⟨hi, by omega⟩, show matI [resz bs m] ((0 : Nat) : Int) (i : Int) = mat [resz bs m] 0 i from matI_nat _ _ _]
    show vat (resz bs m) i = vat bs i
    rw [vat_resz, if_pos hi]
theorem mat_newR {rss : List (List Rat)} {bs : List Rat} {N m i : Nat} (hi : i < m) (k : Nat) (hk : k < N + m + 1) : mat (newR rss bs N m m) i k = if k < N then mat rss i k else if k = N + i then 1 else if k = N + m then vat bs i else 0 := by
  unfold newR mat
  rw [rowat_map (α := Nat) _ hi, vat_resz, if_pos hk]; exact mat_allB hi k hk
theorem TI.start (rss : List (List Rat)) (bs : List Rat) (N m : Nat) : TI N m (newR rss bs N m m) (newR rss bs N m m) (newP N m) where
  len := newR_len _ _ _ _ _
  plen := newP_len _ _
  rc := newR_rect _ _ _ _ _
  nn := fun t ht => by rw [wd_newP N ht]; omega
  un := fun t ht i hi => by
    rw [pvt, wd_newP N ht, show ((N : Int) + (t : Int)).toNat = N + t by omega, mat_newR hi _ (by omega), if_neg (by omega)]
    by_cases e : i = t
    · rw [if_pos (by omega), if_pos e]
    · rw [if_neg (by omega), if_neg (by omega), if_neg e]
  l0 := newR_len _ _ _ _ _
  s1 := Sub.refl _
  s2 := Sub.refl _
/-! ### The equations -/
def allX (rss : List (List Rat)) (bs xs : List Rat) (m : Nat) : List Rat := xs ++ slackS rss bs xs m
theorem vat_slackS {rss : List (List Rat)} {bs xs : List Rat} {m N i : Nat} (hx : xs.length ≤ N) (hi : i < m) : vat (slackS rss bs xs m) i = vat bs i - sumk (fun k => mat rss i k * vat xs k) N := by
  unfold slackS
  rw [vat_map, if_pos hi, show dotk (rowat rss i) xs (max (rowat rss i).length xs.length) = dotv (rowat rss i) xs from rfl, dotv_sum _ _ (m := N) (by omega)]; rfl
theorem row_sum {rss : List (List Rat)} {bs : List Rat} {N m i : Nat} (z : Nat → Rat) (hi : i < m) : sumk (fun k => mat (newR rss bs N m m) i k * z k) (N + m) = sumk (fun k => mat rss i k * z k) N + z (N + i) := by
  rw [sumk_app]
  congr 1
  · exact sumk_ext fun k hk => by rw [mat_newR hi k (by omega), if_pos hk]
  · rw [sumk_only (a := i) hi fun t ht hne => by rw [mat_newR hi _ (by omega), if_neg (by omega), if_neg (by omega), if_neg (by omega)]; grind]
    rw [mat_newR hi _ (by omega), if_neg (by omega), if_pos rfl]; grind
theorem start_eqs {rss : List (List Rat)} {bs xs : List Rat} {N m : Nat} (hx : xs.length = N) {i : Nat} (hi : i < m) : sumk (fun k => mat (newR rss bs N m m) i k * vat (allX rss bs xs m) k) (N + m) = mat (newR rss bs N m m) i (N + m) := by
  rw [row_sum _ hi, mat_newR hi _ (by omega), if_neg (by omega), if_neg (by omega), if_pos rfl, allX]
  rw [sumk_ext (g := fun k => mat rss i k * vat xs k) fun k hk => by rw [vat_app, if_pos (by omega)]]
  rw [vat_app, if_neg (by omega), show N + i - xs.length = i by omega, vat_slackS (N := N) (by omega) hi]; grind
theorem TI.eqs {rss : List (List Rat)} {bs xs : List Rat} {N m : Nat} {rows : List (List Rat)} {piv : List Int} (h : TI N m (newR rss bs N m m) rows piv) (hx : xs.length = N) : ∀ i, i < m → sumk (fun k => mat rows i k * vat (allX rss bs xs m) k) (N + m) = mat rows i (N + m) := fun i hi =>
  h.s1.sat (z := vat (allX rss bs xs m)) (M := N + m) (fun t ht => start_eqs hx (by rw [newR_len] at ht; exact ht)) i (by rw [h.len]; exact hi)
/-- A point's worth: its objective values, and the point turned round. -/
def worth (obj : List (List Rat)) (xs : List Rat) : List Rat := mulv obj xs ++ sclR (-1) xs
theorem len_mulvT (obj : List (List Rat)) (xs : List Rat) : (mulv obj xs).length = obj.length := by simp [mulv]
theorem worth_len (obj : List (List Rat)) (xs : List Rat) : (worth obj xs).length = obj.length + xs.length := by simp [worth, len_mulvT, sclR_len]
theorem vat_worth {obj : List (List Rat)} {xs : List Rat} {N j : Nat} (hx : xs.length ≤ N) : vat (worth obj xs) j = if j < obj.length then sumk (fun k => mat obj j k * vat xs k) N else - vat xs (j - obj.length) := by
  unfold worth
  rw [vat_app, len_mulvT]
  by_cases h : j < obj.length
  · rw [if_pos h, if_pos h, vat_mulv, dotv_sum _ _ (m := N) (by omega)]; rfl
  · rw [if_neg h, if_neg h, vat_sclR]; grind
theorem worth_sum {obj : List (List Rat)} {xs : List Rat} {N m j : Nat} {z : Nat → Rat} (hx : xs.length ≤ N) (hz : ∀ k, k < N → z k = vat xs k) (hj : j < obj.length + N) : sumk (fun k => z k * gcol (gridm (matI obj) obj.length N) obj.length N k j) (N + m) = vat (worth obj xs) j := by
  rw [vat_worth hx, sumk_app, sumk_zero (f := fun t => z (N + t) * gcol (gridm (matI obj) obj.length N) obj.length N (N + t) j) fun t _ => by rw [gcol, if_neg (by omega)]; grind]
  by_cases h : j < obj.length
  · rw [if_pos h, Rat.add_zero]
    exact sumk_ext fun k hk => by rw [gcol, if_pos hk, if_pos h, mat_gridm, if_pos ⟨h, hk⟩, matI_nat, hz k hk]; grind
  · rw [if_neg h, Rat.add_zero]
    rw [sumk_only (a := j - obj.length) (by omega) fun k hk hne => by rw [gcol, if_pos hk, if_neg h, if_neg (by omega)]; grind]
    rw [gcol, if_pos (by omega), if_neg h, if_pos (by omega), hz _ (by omega)]; grind
theorem value_law {goals rows : List (List Rat)} {ng N M : Nat} {piv : List Int} {z : Nat → Rat} (hz : ∀ t, t < piv.length → sumk (fun k => mat rows t k * z k) M = mat rows t M) {j : Nat} (hj : j < ng + N) : sumk (fun k => z k * vat (rcost goals ng N rows piv k) j) M = vat (tval goals ng N rows piv M) j - sumk (fun k => z k * gcol goals ng N k j) M := by
  have e1 : sumk (fun k => z k * vat (rcost goals ng N rows piv k) j) M = sumk (fun k => sumk (fun t => mat rows t k * z k * gcol goals ng N (pvt piv t) j) piv.length + (-1) * (z k * gcol goals ng N k j)) M := sumk_ext fun k _ => by
    unfold rcost
    rw [vat_addV, combS_len, if_pos hj, vat_combS, if_pos hj, Rat.mul_add, ← sumk_mul]
    congr 1
    · exact sumk_ext fun t _ => by grind
    · grind
  rw [e1, sumk_add, sumk_mul, sumk_comm (fun k t => mat rows t k * z k * gcol goals ng N (pvt piv t) j)]
  unfold tval
  rw [vat_combS, if_pos hj]
  rw [sumk_ext (g := fun t => mat rows t M * gcol goals ng N (pvt piv t) j) fun t ht => by rw [sumk_mulr, hz t ht]]
  grind
end Go.Proofs.YtknbjfefeeojlaaGreat
/- Tableaus: the basic solution and the optimum, in plain mathematics. -/
namespace Go.Proofs.YtknbjfefeeojlaaGreat
open Go.RowKit
/-- The basic point. -/
def zB (rows : List (List Rat)) (piv : List Int) (M i k : Nat) : Rat := sumk (fun t => if pvt piv t = k then mat rows t M else 0) i
section
variable {N m : Nat} {rows0 rows : List (List Rat)} {piv : List Int}
theorem TI.ne (h : TI N m rows0 rows piv) {s t : Nat} (hs : s < m) (ht : t < m) (hne : s ≠ t) : pvt piv s ≠ pvt piv t := fun e => by
  have h1 := h.un s hs t ht
  have h2 := h.un t ht t ht
  rw [if_neg (Ne.symm hne), e, h2, if_pos rfl] at h1
  exact absurd h1 (by decide)
theorem TI.pl (h : TI N m rows0 rows piv) {t : Nat} (ht : t < m) : pvt piv t < N + m := by have := h.nn t ht; unfold pvt; omega
theorem TI.zBat (h : TI N m rows0 rows piv) {t : Nat} (ht : t < m) (M : Nat) : zB rows piv M m (pvt piv t) = mat rows t M := by
  unfold zB
  rw [sumk_only (a := t) ht fun s hs hne => if_neg (h.ne hs ht hne), if_pos rfl]
theorem zB_sum (rows : List (List Rat)) (piv : List Int) (M K : Nat) (g : Nat → Rat) : ∀ m, (∀ t, t < m → pvt piv t < K) → sumk (fun k => zB rows piv M m k * g k) K = sumk (fun t => mat rows t M * g (pvt piv t)) m := by
  intro m hp
  have e1 : sumk (fun k => zB rows piv M m k * g k) K = sumk (fun k => sumk (fun t => (if pvt piv t = k then mat rows t M else 0) * g k) m) K := sumk_ext fun k _ => by rw [zB, ← sumk_mulr]
  rw [e1, sumk_comm (fun k t => (if pvt piv t = k then mat rows t M else 0) * g k)]
  refine sumk_ext fun t ht => ?_
  rw [sumk_only (a := pvt piv t) (hp t ht) fun k _ hne => by rw [if_neg (Ne.symm hne)]; grind, if_pos rfl]
theorem TI.zB_rows (h : TI N m rows0 rows piv) : ∀ i, i < m → sumk (fun k => mat rows i k * zB rows piv (N + m) m k) (N + m) = mat rows i (N + m) := fun i hi => by
  rw [sumk_ext (g := fun k => zB rows piv (N + m) m k * mat rows i k) fun k _ => by grind]
  rw [zB_sum rows piv (N + m) (N + m) (fun k => mat rows i k) m fun t ht => h.pl ht]
  rw [sumk_only (a := i) hi fun t ht hne => by rw [h.un t ht i hi, if_neg (Ne.symm hne)]; grind]
  rw [h.un i hi i hi, if_pos rfl]; grind
theorem TI.zB_rows0 (h : TI N m rows0 rows piv) : ∀ i, i < m → sumk (fun k => mat rows0 i k * zB rows piv (N + m) m k) (N + m) = mat rows0 i (N + m) := fun i hi =>
  h.s2.sat (z := zB rows piv (N + m) m) (M := N + m) (fun t ht => h.zB_rows t (by rw [h.len] at ht; exact ht)) i (by rw [h.l0]; exact hi)
theorem TI.sol (h : TI N m rows0 rows piv) (M : Nat) {k : Nat} (hk : k < N) : ∀ i, i ≤ m → vat (solT rows piv N M i) k = zB rows piv M i k
  | 0, _ => by rw [solT, vat_rep]; rfl
  | i + 1, hi => by
    have ih := h.sol M hk i (by omega)
    have hn := h.nn i (by omega)
    have ez : zB rows piv M (i + 1) k = zB rows piv M i k + if pvt piv i = k then mat rows i M else 0 := rfl
    rw [ez, solT]
    by_cases e : pvt piv i = k
    · have h0 : zB rows piv M i k = 0 := sumk_zero fun t ht => if_neg fun e2 => h.ne (s := t) (t := i) (by omega) (by omega) (by omega) (e2.trans e.symm)
      have e3 : (wd piv i).toNat = k := e
      rw [if_pos (by omega), if_pos e, vat_set, solT_len, if_pos ⟨e.symm, by omega⟩, h0]; grind
    · rw [if_neg e]
      split
      · rw [vat_set, if_neg (fun h' => e h'.1.symm), ih]; grind
      · rw [ih]; grind
end
section
variable {N m : Nat} {rss : List (List Rat)} {bs : List Rat} {rows : List (List Rat)} {piv : List Int}
def ySol (rows : List (List Rat)) (piv : List Int) (N m : Nat) : List Rat := solT rows piv N (N + m) m
theorem ySol_len (rows : List (List Rat)) (piv : List Int) (N m : Nat) : (ySol rows piv N m).length = N := solT_len _ _ _ _ _
theorem TI.ysol (h : TI N m (newR rss bs N m m) rows piv) {k : Nat} (hk : k < N) : vat (ySol rows piv N m) k = zB rows piv (N + m) m k := h.sol _ hk m (Nat.le_refl _)
theorem TI.yslack (h : TI N m (newR rss bs N m m) rows piv) {i : Nat} (hi : i < m) : vat (slackS rss bs (ySol rows piv N m) m) i = zB rows piv (N + m) m (N + i) := by
  have h1 := h.zB_rows0 i hi
  rw [row_sum _ hi, mat_newR hi _ (by omega), if_neg (by omega), if_neg (by omega), if_pos rfl] at h1
  rw [vat_slackS (N := N) (Nat.le_of_eq (ySol_len _ _ _ _)) hi, sumk_ext (g := fun k => mat rss i k * zB rows piv (N + m) m k) fun k hk => by rw [h.ysol hk], ← h1]; grind
theorem sumk_nn {f : Nat → Rat} : ∀ {n : Nat}, (∀ i, i < n → 0 ≤ f i) → 0 ≤ sumk f n
  | 0, _ => by simp [sumk]
  | n + 1, h => Rat.add_nonneg (sumk_nn fun i hi => h i (by omega)) (h n (by omega))
theorem sumk_z {f : Nat → Rat} : ∀ {n : Nat}, (∀ i, i < n → 0 ≤ f i) → sumk f n = 0 → ∀ i, i < n → f i = 0
  | 0, _, _ => fun i hi => absurd hi (Nat.not_lt_zero _)
  | n + 1, h, e => fun i hi => by
    have h1 := sumk_nn (f := f) (n := n) fun i hi => h i (by omega)
    have h2 := h n (by omega)
    have e' : sumk f n + f n = 0 := e
    have h3 : sumk f n = 0 := by grind
    have h4 : f n = 0 := by grind
    rcases Nat.lt_succ_iff_lt_or_eq.1 hi with h5 | rfl
    · exact sumk_z (fun i hi => h i (by omega)) h3 i h5
    · exact h4
theorem nonneg_of {xs : List Rat} {n : Nat} (hl : xs.length ≤ n) (h : ∀ i, i < n → 0 ≤ vat xs i) : nonneg xs := fun i hi => by
  rcases Nat.lt_or_ge i n with h1 | h1
  · have := h i h1; grind
  · rw [vat_ge (by omega)] at hi; exact absurd hi (by decide)
theorem nonneg.at {xs : List Rat} (h : nonneg xs) (i : Nat) : 0 ≤ vat xs i := by have := h i; grind
theorem vat_mapR (rows : List (List Rat)) (M i : Nat) : vat (rows.map fun r => vat r M) i = mat rows i M := by
  unfold vat mat rowat
  rw [List.getD_eq_getElem?_getD, List.getElem?_map, List.getD_eq_getElem?_getD]
  cases rows[i]? with
  | none => rfl
  | some r => rfl
/-- The basis is feasible if and only if its point is. -/
theorem TI.feasible (h : TI N m (newR rss bs N m m) rows piv) : nonneg (rows.map fun r => vat r (N + m)) ↔ nonneg (ySol rows piv N m) ∧ nonneg (slackS rss bs (ySol rows piv N m) m) := by
  constructor
  · intro h1
    have hz : ∀ k, 0 ≤ zB rows piv (N + m) m k := fun k => sumk_nn fun t _ => by
      split
      · have := h1.at t; rwa [vat_mapR] at this
      · exact Rat.le_refl
    exact ⟨nonneg_of (Nat.le_of_eq (ySol_len _ _ _ _)) fun k hk => by rw [h.ysol hk]; exact hz k, nonneg_of (n := m) (Nat.le_of_eq (slackS_len _ _ _ _)) fun i hi => by rw [h.yslack hi]; exact hz _⟩
  · rintro ⟨h1, h2⟩
    refine nonneg_of (n := m) (by rw [List.length_map]; exact Nat.le_of_eq h.len) fun t ht => ?_
    rw [vat_mapR, ← h.zBat ht]
    have hp := h.pl ht
    by_cases hk : pvt piv t < N
    · rw [← h.ysol hk]; exact h1.at _
    · have e := h.yslack (i := pvt piv t - N) (by omega)
      rw [show N + (pvt piv t - N) = pvt piv t by omega] at e
      rw [← e]; exact h2.at _
/-- The value of the basis is the worth of its point. -/
theorem TI.value (h : TI N m (newR rss bs N m m) rows piv) (obj : List (List Rat)) {j : Nat} (hj : j < obj.length + N) : vat (tval (gridm (matI obj) obj.length N) obj.length N rows piv (N + m)) j = vat (worth obj (ySol rows piv N m)) j := by
  rw [← worth_sum (z := zB rows piv (N + m) m) (m := m) (Nat.le_of_eq (ySol_len _ _ _ _)) (fun k hk => (h.ysol hk).symm) hj]
  rw [zB_sum rows piv (N + m) (N + m) (fun k => gcol (gridm (matI obj) obj.length N) obj.length N k j) m fun t ht => h.pl ht]
  unfold tval
  rw [vat_combS, if_pos hj, h.plen]
end
/-! ### The optimum -/
/-- A sum of multiples, none below 0, of vectors that start above 0 starts above 0. -/
theorem lex_sum {R : Nat → List Rat} {z D : Nat → Rat} {K n : Nat} (hR : ∀ k, k < K → lexnn (R k)) (hz : ∀ k, k < K → 0 ≤ z k) (hD : ∀ j, j < n → sumk (fun k => z k * vat (R k) j) K = D j) :
    ∀ j, j < n → (∀ i, i < j → D i = 0) → 0 ≤ D j := by
  have key : ∀ j, j ≤ n → (∀ i, i < j → D i = 0) → ∀ k, k < K → 0 < z k → ∀ i, i < j → vat (R k) i = 0 := by
    intro j
    induction j with
    | zero => intro _ _ k _ _ i hi; exact absurd hi (Nat.not_lt_zero _)
    | succ j ih =>
      intro hj h0 k hk hzk i hi
      have ih' := ih (by omega) fun i hi => h0 i (by omega)
      rcases Nat.lt_succ_iff_lt_or_eq.1 hi with h1 | rfl
      · exact ih' k hk hzk i h1
      · have hs := hD i (by omega)
        rw [h0 i (by omega)] at hs
        have hnn : ∀ k, k < K → 0 ≤ z k * vat (R k) i := fun k hk => by
          rcases Rat.le_iff_lt_or_eq.1 (hz k hk) with h2 | h2
          · exact Rat.mul_nonneg (hz k hk) (hR k hk i (ih' k hk h2))
          · rw [← h2, Rat.zero_mul]; exact Rat.le_refl
        have h3 := sumk_z hnn hs k hk
        rcases Rat.mul_eq_zero.1 h3 with h4 | h4
        · rw [h4] at hzk; exact absurd hzk (by decide)
        · exact h4
  intro j hj h0
  rw [← hD j hj]
  refine sumk_nn fun k hk => ?_
  rcases Rat.le_iff_lt_or_eq.1 (hz k hk) with h2 | h2
  · exact Rat.mul_nonneg (hz k hk) (hR k hk j (key j (by omega) h0 k hk h2))
  · rw [← h2, Rat.zero_mul]; exact Rat.le_refl
theorem dotv_resz {xs r : List Rat} {N : Nat} (h : xs.length ≤ N) : dotv r (resz xs N) = dotv r xs := by
  rw [dotv_sum _ _ (m := N) (by rw [resz_len]; omega), dotv_sum _ _ (m := N) (by omega)]
  exact sumk_ext fun k hk => by rw [vat_resz, if_pos hk]
theorem slackS_resz {rss : List (List Rat)} {bs xs : List Rat} {N m : Nat} (h : xs.length ≤ N) : slackS rss bs (resz xs N) m = slackS rss bs xs m := by
  unfold slackS
  refine List.map_congr_left fun i _ => ?_
  rw [show dotk (rowat rss i) (resz xs N) (max (rowat rss i).length (resz xs N).length) = dotv (rowat rss i) (resz xs N) from rfl, dotv_resz h]; rfl
/-- The point of a feasible and optimal basis is better than every other feasible point. -/
theorem TI.optimal {N m : Nat} {rss obj : List (List Rat)} {bs xs : List Rat} {rows : List (List Rat)} {piv : List Int} {n4 : Nat} {s t : Int} (h : TI N m (newR rss bs N m m) rows piv)
    (ho : ∀ k, k < N + m → lexnn (rcost (gridm (matI obj) obj.length N) obj.length N rows piv k)) (hl : xs.length ≤ N) (hx : nonneg xs) (hs : nonneg (slackS rss bs xs m)) (hn4 : n4 = N)
    (h1 : LexP (mulv obj xs) (mulv obj (ySol rows piv N m)) obj.length t) (h2 : t ≠ 0 → s = t) (h3 : t = 0 → LexP (ySol rows piv N m) xs (max n4 xs.length) s) : s < 0 ∨ eqv xs (ySol rows piv N m) (max xs.length n4) := by
  subst hn4
  have hly : (ySol rows piv n4 m).length = n4 := ySol_len _ _ _ _
  have hX : (resz xs n4).length = n4 := resz_len _ _
  have hz0 : ∀ k, k < n4 + m → 0 ≤ vat (allX rss bs (resz xs n4) m) k := fun k hk => by
    rw [allX, vat_app, hX]
    split
    · rename_i h1
      rw [vat_resz, if_pos h1]; exact hx.at _
    · rw [slackS_resz hl]; exact hs.at _
  have hD := lex_sum (R := fun k => rcost (gridm (matI obj) obj.length n4) obj.length n4 rows piv k) (z := vat (allX rss bs (resz xs n4) m)) (D := fun j => vat (worth obj (ySol rows piv n4 m)) j - vat (worth obj xs) j) (K := n4 + m) (n := obj.length + n4) ho hz0 fun j hj => by
    rw [value_law (fun t ht => h.eqs hX t (by rw [h.plen] at ht; exact ht)) hj, h.value obj hj, worth_sum (xs := xs) hl (fun k hk => by rw [allX, vat_app, hX, if_pos hk, vat_resz, if_pos hk]) hj]
  have hwx : ∀ j, j < obj.length → vat (worth obj xs) j = vat (mulv obj xs) j := fun j hj => by rw [worth, vat_app, len_mulvT, if_pos hj]
  have hwy : ∀ j, j < obj.length → vat (worth obj (ySol rows piv n4 m)) j = vat (mulv obj (ySol rows piv n4 m)) j := fun j hj => by rw [worth, vat_app, len_mulvT, if_pos hj]
  have hvx : ∀ j, vat (worth obj xs) (obj.length + j) = - vat xs j := fun j => by rw [worth, vat_app, len_mulvT, if_neg (by omega), vat_sclR, show obj.length + j - obj.length = j by omega]; grind
  have hvy : ∀ j, vat (worth obj (ySol rows piv n4 m)) (obj.length + j) = - vat (ySol rows piv n4 m) j := fun j => by rw [worth, vat_app, len_mulvT, if_neg (by omega), vat_sclR, show obj.length + j - obj.length = j by omega]; grind
  rcases h1 with ⟨i, hi, e, hne, hj⟩ | ⟨e, hj⟩
  · left
    rw [h2 hne, e]
    have h4 := hD i (by omega) fun j hji => by rw [hwx j (by omega), hwy j (by omega), hj j hji]; grind
    rw [hwx i hi, hwy i hi] at h4
    have h5 : vat (mulv obj xs) i ≠ vat (mulv obj (ySol rows piv n4 m)) i := fun e2 => hne (by rw [e, e2]; unfold cq; rw [if_neg (by grind), if_pos rfl])
    exact cq_lt.2 (by grind)
  · have hE : ∀ j, j < obj.length → vat (worth obj (ySol rows piv n4 m)) j - vat (worth obj xs) j = 0 := fun j hj2 => by rw [hwx j hj2, hwy j hj2, hj j hj2]; grind
    rcases h3 e with ⟨i, hi, e2, hne, hji⟩ | ⟨e2, hji⟩
    · left
      rw [e2]
      have h4 := hD (obj.length + i) (by omega) fun j hj2 => by
        by_cases h5 : j < obj.length
        · exact hE j h5
        · have e3 : j = obj.length + (j - obj.length) := by omega
          rw [e3, hvx, hvy, hji _ (by omega)]; grind
      rw [hvx, hvy] at h4
      have h5 : vat (ySol rows piv n4 m) i ≠ vat xs i := fun e3 => hne (by rw [e2, e3]; unfold cq; rw [if_neg (by grind), if_pos rfl])
      exact cq_lt.2 (by grind)
    · right
      intro j hj2
      exact (hji j (by omega)).symm
end Go.Proofs.YtknbjfefeeojlaaGreat
/- Laws 06 and 07: Long. -/
namespace Go.Proofs.YtknbjfefeeojlaaGreat
open Go.RowKit
attribute [local irreducible] RV VH V OpF Calls
section
variable {P : Program} {ρ : Operand → Value} {W : World} {d : Option Tmp} {ty T e : TypeId} {pos : String} {af : Array Edge} {g : Option (Nat × Bool)} {x y : Operand}
theorem rslC {k' : IntKind} {a : Option Addr} {n c s m : Nat} {z : Int} (hc : n ≤ c) (hS : Sl P T e) (hs : Sz P e s) (hx : ρ x = .slice a n c) (hy : ρ y = .int k' z) (hz : z = (m : Int)) (hm : m ≤ n) :
    (execOp ρ ⟨d, .slice T x none (some y) none, ty, pos, af, g⟩).run P W = .ok (.value (.slice a m c)) W := by
  subst hz
  refine rslg hS hs hx (l := 0) (h := m) ?_ ?_ rfl rfl
  · simp only [Option.map_none, Option.map_some, hy]; exact sb_h (by omega)
  · rw [Nat.zero_mul]
    split
    · rfl
    · cases a <;> simp [add0]
end
theorem GX.cutL {S : Nat → Prop} {W : World} {a : Option Addr} {n c k : Nat} {ρs : List RawQ} (h : GX S W a n c ρs) (hk : k ≤ n) : GX S W a k c (ρs.take k) := by
  obtain ⟨qs, h1, h2⟩ := h
  have h3 := h1.cut (l := 0) (m := k) (Nat.zero_le _) hk
  have e : (if c = 0 then a else a.map (·.add (0 * 4))) = a := by
    split
    · rfl
    · cases a with
      | none => rfl
      | some p => simp [Addr.add]
  rw [e] at h3
  refine ⟨qs.take k, by simpa using h3, h2.take k⟩
/-- The sizes that law 06 lets in. -/
structure LongN (n0 n : Nat) (ρo ρs : List (List RawQ)) (ρb : List RawQ) : Prop where
  o : n0 ≤ 6 ∧ smallM ρo
  r : (n ≤ 8 ∧ smallM ρs) ∨ ∀ i, i < n → rowat ρs i = []
  b : smallV (ρb.take 20)

set_option maxHeartbeats 400000 in
theorem bare_ok (a1 : Option Addr) (n c : Nat) (ρs : List (List RawQ)) (S1 : Nat → Prop) (w : World) (hm : MX S1 w a1 n c ρs) :
    Calls Tryz.prog 147 #[.slice a1 n c] w (fun e w' => ∃ q, e = .returned (.bool q) ∧ w = w' ∧ (q = true → ∀ i, i < n → rowat ρs i = [])) := by
 have z0 := Ext.refl w; have hLX : LX = 17592186044416 := rfl; have hLY : LY = 8796093022208 := rfl
 have l1 := hm.len; have l2 := hm.max
 refine enter (args := [.slice a1 n c]) Tryz.func147 rfl rfl (Nat.le_of_ble_eq_true rfl) ?_
 refine V.seq (V.reg rfl ?_)
 refine asb rfl ?_
 refine vnil ?_
 refine V.seq ?_
 refine V.seq (V.reg rfl ?_)
 refine asi rfl ?_
 refine vnil ?_
 refine V.block ?_
 refine V.loopK (ι := Nat) [(0, .slice _ _ _)] (fun k => [(3, .int .i64 (k : Int))]) (fun k W => w = W ∧ k ≤ n ∧ ∀ i, i < k → rowat ρs i = []) (fun k => n - k) (0) ⟨rfl, trivial⟩ ⟨rfl, trivial⟩ ⟨rfl, Nat.zero_le _, fun i hi => absurd hi (Nat.not_lt_zero _)⟩ ?_
 intro k E2 W1 h3
 obtain ⟨rfl, hk, hs⟩ := h3
 refine V.seq ?_
 refine V.seq (V.reg rfl ?_)
 refine mvi rfl ?_
 refine mvs rfl ?_
 refine vv (rlen sl22 rfl) ?_
 refine vlt rfl rfl ?_ ?_
 ·intro c4
  refine vnil ?_
  refine V.condT rfl ?_
  refine V.skip ?_
  refine V.seq ?_
  refine V.block ?_
  refine V.seq (V.reg rfl ?_)
  refine mvs rfl ?_
  refine mvi rfl ?_
  refine vv (rix sl22 sz23 rfl rfl (by omega) (by omega) (hm.isS (i := 0) (by omega) (by omega))) ?_
  refine vldRow hm rfl sc23 (by omega) (by omega) ?_
  intro a5 n6 c7 hg8
  have hg8l := hg8.len; have hg8m := hg8.max
  refine vv (rlen sl23 rfl) ?_
  refine vgt rfl rfl ?_ ?_
  ·intro c45
   refine vnil ?_
   refine V.condT rfl ?_
   refine V.seq (V.reg rfl ?_)
   refine asb rfl ?_
   refine vnil ?_
   refine V.ret ?_
   refine ⟨[.bool false], ⟨rfl, trivial⟩, ?_⟩
   exact ⟨_, rfl, rfl, fun h => (by cases h)⟩
  ·intro c45
   refine vnil ?_
   refine V.condF rfl ?_
   refine V.skip ?_
   refine V.reg rfl ?_
   refine mvi rfl ?_
   refine vv (rbin (bAdd (wi (by omega))) rfl rfl) ?_
   refine asi rfl ?_
   refine vnil ?_
   refine ⟨rfl, k + 1, ⟨rfl, trivial⟩, ⟨rfl, trivial⟩, ⟨rfl, by omega, fun i hi => by
    rcases Nat.lt_succ_iff_lt_or_eq.1 hi with h | rfl
    ·exact hs i h
    ·have hz := hg8l; simp only [Int.toNat_natCast] at hz; exact List.eq_nil_of_length_eq_zero (by omega)⟩, ?_⟩
   show n - (k + 1) < n - k
   omega
 ·intro c4
  refine vnil ?_
  refine V.condF rfl ?_
  refine V.exit ?_
  refine V.seq (V.reg rfl ?_)
  refine asb rfl ?_
  refine vnil ?_
  refine V.ret ?_
  refine ⟨[.bool true], ⟨rfl, trivial⟩, ?_⟩
  exact ⟨_, rfl, rfl, fun _ i hi => hs i (by omega)⟩
set_option maxHeartbeats 400000 in
theorem cut06_ok (a1 : Option Addr) (n c : Nat) (ρs : List RawQ) (S1 : Nat → Prop) (w : World) (hx : GX S1 w a1 n c ρs) :
    Calls Tryz.prog 148 #[.slice a1 n c] w (fun e w' => ∃ cc, e = .returned (.slice a1 (min n 20) cc) ∧ Ext w w' ∧ GX S1 w' a1 (min n 20) cc (ρs.take 20)) := by
 have z0 := Ext.refl w; have hLX : LX = 17592186044416 := rfl; have hLY : LY = 8796093022208 := rfl
 have l1 := hx.len; have l2 := hx.max; have hx2 := hx.cutL (k := min n 20) (by omega)
 refine enter (args := [.slice a1 n c]) Tryz.func148 rfl rfl (Nat.le_of_ble_eq_true rfl) ?_
 refine V.seq (V.reg rfl ?_)
 refine ass rfl ?_
 refine vnil ?_
 refine V.seq (V.reg rfl ?_)
 refine mvs rfl ?_
 refine mvs rfl ?_
 refine vv (rlen sl23 rfl) ?_
 refine vv (rmin rfl rfl (show min (n : Int) 20 = ((min n 20 : Nat) : Int) by omega)) ?_
 refine vv (rslC (m := min n 20) (by omega) sl23 sz48 rfl rfl rfl (by omega)) ?_
 refine ass rfl ?_
 refine vnil ?_
 refine V.ret ?_
 refine ⟨[.slice _ _ _], ⟨rfl, trivial⟩, ?_⟩
 refine ⟨_, rfl, (Ext.refl w), ?_⟩
 have e : ρs.take (min n 20) = ρs.take 20 := by rw [← l1]; simp [List.take_eq_take_iff]; omega
 rw [← e]; exact hx2.ext (Ext.refl w)
set_option maxHeartbeats 2000000 in
theorem long06_ok (ρo ρs : List (List RawQ)) (ρb : List RawQ) (S0 S1 S2 : Nat → Prop) (nv : Int) (a0 a1 a2 : Option Addr) (n0 c0 n c m d : Nat) (w : World) (hx0 : MX TT w a0 n0 c0 ρo) (hx1 : MX TT w a1 n c ρs) (hx2 : GX TT w a2 m d ρb) :
    Calls Tryz.prog 78 #[.agg #[.int .i64 nv, .slice a0 n0 c0, .slice a1 n c, .slice a2 m d]] w (fun e w' => ∃ q, e = .returned (.bool q) ∧ Ext w w' ∧ (q = false → LongN n0 n ρo ρs ρb)) := by
 have z0 := Ext.refl w; have hLX : LX = 17592186044416 := rfl; have hLY : LY = 8796093022208 := rfl
 have l0 := hx0.len; have l1 := hx1.len; have l2 := hx2.len
 refine enter (args := [.agg #[.int .i64 nv, .slice a0 n0 c0, .slice a1 n c, .slice a2 m d]]) Tryz.func78 rfl rfl (Nat.le_of_ble_eq_true rfl) ?_
 refine V.seq (V.reg rfl ?_)
 refine vo ?_
 refine bxa rfl ?_
 intro W1 x2 b3 nn4
 have s5 := x2.sz
 have z6 := x2
 refine asb rfl ?_
 refine vnil ?_
 refine V.seq (V.reg rfl ?_)
 refine vv (rfa rfl fd25_1) ?_
 refine vv (rldb (v := .slice _ _ _) rfl sc22 b3 rfl) ?_
 refine vv (rlen sl22 rfl) ?_
 refine vgt rfl rfl ?_ ?_
 ·intro c7
  refine mvb rfl ?_
  refine vgn (b := true) rfl rfl ?_
  refine vgn (b := true) rfl rfl ?_
  refine vgn (b := true) rfl rfl ?_
  refine vgn (b := true) rfl rfl ?_
  refine vv (rpk (v := .bool true) rfl rfl) ?_
  refine mvb rfl ?_
  refine vgn (b := true) rfl rfl ?_
  refine vgn (b := true) rfl rfl ?_
  refine vgn (b := true) rfl rfl ?_
  refine vgn (b := true) rfl rfl ?_
  refine vv (rpk (v := .bool true) rfl rfl) ?_
  refine mvb rfl ?_
  refine vgn (b := true) rfl rfl ?_
  refine vgn (b := true) rfl rfl ?_
  refine vgn (b := true) rfl rfl ?_
  refine vgn (b := true) rfl rfl ?_
  refine vgn (b := true) rfl rfl ?_
  refine vgu rfl ?_
  refine vgu rfl ?_
  refine vgu rfl ?_
  refine vgu rfl ?_
  refine vgn (b := true) rfl rfl ?_
  refine vv (rpk (v := .bool true) rfl rfl) ?_
  refine mvb rfl ?_
  refine vgn (b := true) rfl rfl ?_
  refine vgn (b := true) rfl rfl ?_
  refine vgn (b := true) rfl rfl ?_
  refine vgn (b := true) rfl rfl ?_
  refine vgn (b := true) rfl rfl ?_
  refine vgu rfl ?_
  refine vgu rfl ?_
  refine vgu rfl ?_
  refine vgu rfl ?_
  refine vgn (b := true) rfl rfl ?_
  refine vv (rpk (v := .bool true) rfl rfl) ?_
  refine mvb rfl ?_
  refine vgn (b := true) rfl rfl ?_
  refine vgn (b := true) rfl rfl ?_
  refine vgn (b := true) rfl rfl ?_
  refine vgn (b := true) rfl rfl ?_
  refine vv (rpk (v := .bool true) rfl rfl) ?_
  refine mvb rfl ?_
  refine vgn (b := true) rfl rfl ?_
  refine vgn (b := true) rfl rfl ?_
  refine vgn (b := true) rfl rfl ?_
  refine vgn (b := true) rfl rfl ?_
  refine vgn (b := true) rfl rfl ?_
  refine vv (rpk (v := .bool true) rfl rfl) ?_
  refine asb rfl ?_
  refine vnil ?_
  refine V.ret ?_
  refine ⟨[.bool true], ⟨rfl, trivial⟩, ?_⟩
  exact ⟨_, rfl, z6, fun h => (by cases h)⟩
 ·intro c7
  refine mvb rfl ?_
  refine vg rfl ?_
  refine vv (rfa rfl fd25_2) ?_
  refine vg rfl ?_
  refine vv (rldb (v := .slice _ _ _) rfl sc22 b3 rfl) ?_
  refine vg rfl ?_
  refine vv (rlen sl22 rfl) ?_
  refine vg rfl ?_
  refine vgt rfl rfl ?_ ?_
  ·intro c8
   refine vv (rpk (v := .bool true) rfl rfl) ?_
   refine mvb rfl ?_
   refine vgn (b := true) rfl rfl ?_
   refine vgn (b := true) rfl rfl ?_
   refine vgn (b := true) rfl rfl ?_
   refine vgn (b := true) rfl rfl ?_
   refine vv (rpk (v := .bool true) rfl rfl) ?_
   refine mvb rfl ?_
   refine vgn (b := true) rfl rfl ?_
   refine vgn (b := true) rfl rfl ?_
   refine vgn (b := true) rfl rfl ?_
   refine vgn (b := true) rfl rfl ?_
   refine vgn (b := true) rfl rfl ?_
   refine vgu rfl ?_
   refine vgu rfl ?_
   refine vgu rfl ?_
   refine vgu rfl ?_
   refine vgn (b := true) rfl rfl ?_
   refine vv (rpk (v := .bool true) rfl rfl) ?_
   refine mvb rfl ?_
   refine vgn (b := true) rfl rfl ?_
   refine vgn (b := true) rfl rfl ?_
   refine vgn (b := true) rfl rfl ?_
   refine vgn (b := true) rfl rfl ?_
   refine vgn (b := true) rfl rfl ?_
   refine vgu rfl ?_
   refine vgu rfl ?_
   refine vgu rfl ?_
   refine vgu rfl ?_
   refine vgn (b := true) rfl rfl ?_
   refine vv (rpk (v := .bool true) rfl rfl) ?_
   refine mvb rfl ?_
   refine vgn (b := true) rfl rfl ?_
   refine vgn (b := true) rfl rfl ?_
   refine vgn (b := true) rfl rfl ?_
   refine vgn (b := true) rfl rfl ?_
   refine vv (rpk (v := .bool true) rfl rfl) ?_
   refine mvb rfl ?_
   refine vgn (b := true) rfl rfl ?_
   refine vgn (b := true) rfl rfl ?_
   refine vgn (b := true) rfl rfl ?_
   refine vgn (b := true) rfl rfl ?_
   refine vgn (b := true) rfl rfl ?_
   refine vv (rpk (v := .bool true) rfl rfl) ?_
   refine asb rfl ?_
   refine vnil ?_
   refine V.ret ?_
   refine ⟨[.bool true], ⟨rfl, trivial⟩, ?_⟩
   exact ⟨_, rfl, z6, fun h => (by cases h)⟩
  ·intro c8
   refine vv (rpk (v := .bool false) rfl rfl) ?_
   refine mvb rfl ?_
   refine vg rfl ?_
   refine vv (rfa rfl fd25_3) ?_
   refine vg rfl ?_
   refine vv (rldb (v := .slice _ _ _) rfl sc23 b3 rfl) ?_
   refine vg rfl ?_
   refine vv (rlen sl23 rfl) ?_
   refine vg rfl ?_
   refine vgt rfl rfl ?_ ?_
   ·intro c9
    refine vv (rpk (v := .bool true) rfl rfl) ?_
    refine mvb rfl ?_
    refine vgn (b := true) rfl rfl ?_
    refine vgn (b := true) rfl rfl ?_
    refine vgn (b := true) rfl rfl ?_
    refine vgn (b := true) rfl rfl ?_
    refine vgn (b := true) rfl rfl ?_
    refine vgu rfl ?_
    refine vgu rfl ?_
    refine vgu rfl ?_
    refine vgu rfl ?_
    refine vgn (b := true) rfl rfl ?_
    refine vv (rpk (v := .bool true) rfl rfl) ?_
    refine mvb rfl ?_
    refine vgn (b := true) rfl rfl ?_
    refine vgn (b := true) rfl rfl ?_
    refine vgn (b := true) rfl rfl ?_
    refine vgn (b := true) rfl rfl ?_
    refine vgn (b := true) rfl rfl ?_
    refine vgu rfl ?_
    refine vgu rfl ?_
    refine vgu rfl ?_
    refine vgu rfl ?_
    refine vgn (b := true) rfl rfl ?_
    refine vv (rpk (v := .bool true) rfl rfl) ?_
    refine mvb rfl ?_
    refine vgn (b := true) rfl rfl ?_
    refine vgn (b := true) rfl rfl ?_
    refine vgn (b := true) rfl rfl ?_
    refine vgn (b := true) rfl rfl ?_
    refine vv (rpk (v := .bool true) rfl rfl) ?_
    refine mvb rfl ?_
    refine vgn (b := true) rfl rfl ?_
    refine vgn (b := true) rfl rfl ?_
    refine vgn (b := true) rfl rfl ?_
    refine vgn (b := true) rfl rfl ?_
    refine vgn (b := true) rfl rfl ?_
    refine vv (rpk (v := .bool true) rfl rfl) ?_
    refine asb rfl ?_
    refine vnil ?_
    refine V.ret ?_
    refine ⟨[.bool true], ⟨rfl, trivial⟩, ?_⟩
    exact ⟨_, rfl, z6, fun h => (by cases h)⟩
   ·intro c9
    refine vv (rpk (v := .bool false) rfl rfl) ?_
    refine mvb rfl ?_
    refine vg rfl ?_
    refine vv (rfa rfl fd25_2) ?_
    refine vg rfl ?_
    refine vv (rldb (v := .slice _ _ _) rfl sc22 b3 rfl) ?_
    refine vg rfl ?_
    refine vv (rlen sl22 rfl) ?_
    refine vg rfl ?_
    refine vgt rfl rfl ?_ ?_
    ·intro c10
     refine vg rfl ?_
     refine mvb rfl ?_
     refine vg rfl ?_
     refine vv (rfa rfl fd25_2) ?_
     refine vg rfl ?_
     refine vv (rldb (v := .slice _ _ _) rfl sc22 b3 rfl) ?_
     refine vg rfl ?_
     refine vo ?_
     refine xcall e147 (bare_ok _ _ _ _ _ _ (hx1.ext z6)) rfl rfl ?_
     rintro _ _ ⟨qb, rfl, rfl, hqb⟩
     refine ⟨_, rfl, ?_⟩
     cases qb
     ·skip
      refine vg rfl ?_
      refine vv (rnot (q := true) rfl rfl) ?_
      refine vg rfl ?_
      refine vv (rpk (v := .bool true) rfl rfl) ?_
      refine vv (rpk (v := .bool true) rfl rfl) ?_
      refine mvb rfl ?_
      refine vgn (b := true) rfl rfl ?_
      refine vgn (b := true) rfl rfl ?_
      refine vgn (b := true) rfl rfl ?_
      refine vgn (b := true) rfl rfl ?_
      refine vgn (b := true) rfl rfl ?_
      refine vgu rfl ?_
      refine vgu rfl ?_
      refine vgu rfl ?_
      refine vgu rfl ?_
      refine vgn (b := true) rfl rfl ?_
      refine vv (rpk (v := .bool true) rfl rfl) ?_
      refine mvb rfl ?_
      refine vgn (b := true) rfl rfl ?_
      refine vgn (b := true) rfl rfl ?_
      refine vgn (b := true) rfl rfl ?_
      refine vgn (b := true) rfl rfl ?_
      refine vv (rpk (v := .bool true) rfl rfl) ?_
      refine mvb rfl ?_
      refine vgn (b := true) rfl rfl ?_
      refine vgn (b := true) rfl rfl ?_
      refine vgn (b := true) rfl rfl ?_
      refine vgn (b := true) rfl rfl ?_
      refine vgn (b := true) rfl rfl ?_
      refine vv (rpk (v := .bool true) rfl rfl) ?_
      refine asb rfl ?_
      refine vnil ?_
      refine V.ret ?_
      refine ⟨[.bool true], ⟨rfl, trivial⟩, ?_⟩
      exact ⟨_, rfl, z6, fun h => (by cases h)⟩
     ·skip
      refine vg rfl ?_
      refine vv (rnot (q := false) rfl rfl) ?_
      refine vg rfl ?_
      refine vv (rpk (v := .bool false) rfl rfl) ?_
      refine vv (rpk (v := .bool false) rfl rfl) ?_
      refine mvb rfl ?_
      refine vg rfl ?_
      refine vv (rfa rfl fd25_2) ?_
      refine vg rfl ?_
      refine vv (rldb (v := .slice _ _ _) rfl sc22 b3 rfl) ?_
      refine vg rfl ?_
      refine vv (rlen sl22 rfl) ?_
      refine vg rfl ?_
      refine vle rfl rfl ?_ ?_
      ·intro c11
       omega
      ·intro c11
       refine vg rfl ?_
       refine mvb rfl ?_
       refine vgn (b := false) rfl rfl ?_
       refine vgn (b := false) rfl rfl ?_
       refine vgn (b := false) rfl rfl ?_
       refine vgn (b := false) rfl rfl ?_
       refine vg rfl ?_
       refine vv (rpk (v := .bool false) rfl rfl) ?_
       refine vv (rpk (v := .bool false) rfl rfl) ?_
       refine mvb rfl ?_
       refine vg rfl ?_
       refine vv (rfa rfl fd25_1) ?_
       refine vg rfl ?_
       refine vv (rldb (v := .slice _ _ _) rfl sc22 b3 rfl) ?_
       refine vg rfl ?_
       refine vo ?_
       refine xbs (ps := [(0, .slice _ _ _)]) (cs := [.slice _ _ _]) sl115 zr22 sz22 rfl rfl rfl rfl rfl rfl ?_
       intro W12 x13 b14 nn15
       have s16 := x13.sz
       have z17 := z6.trans x13
       replace b3 := b3.ext x13
       refine vg rfl ?_
       refine vo ?_
       have hm18 : MXX TT W12 (some ⟨W1.heap.size, 0, none⟩) 1 1 [_] := ⟨[[.slice _ _ _]], RS.lit (s := 1) (S := TT) (n := 1) _ b14 rfl (by simp) trivial rfl (by omega), ⟨_, _, _, rfl, (hx0.ext z17)⟩, trivial⟩
       refine xcall e32 (long4_ok _ _ _ _ _ _ hm18) rfl rfl ?_
       rintro _ Wb2 ⟨bb2, rfl, xb2, hb2⟩
       refine ⟨_, rfl, ?_⟩
       cases bb2
       ·skip
        have s19 := xb2.sz
        have z20 := z17.trans xb2
        replace b3 := b3.ext xb2
        refine vv (rpk (v := .bool false) rfl rfl) ?_
        refine mvb rfl ?_
        refine vg rfl ?_
        refine vv (rfa rfl fd25_3) ?_
        refine vg rfl ?_
        refine vv (rldb (v := .slice _ _ _) rfl sc23 b3 rfl) ?_
        refine vg rfl ?_
        refine vo ?_
        refine xcall e148 (cut06_ok _ _ _ _ _ _ (hx2.ext z20)) rfl rfl ?_
        rintro _ W21 ⟨cc9, rfl, x22, hcut⟩
        have s23 := x22.sz
        have z24 := z20.trans x22
        refine ⟨_, rfl, ?_⟩
        refine vg rfl ?_
        refine vo ?_
        refine xbs (ps := [(0, .slice _ _ _)]) (cs := [.slice _ _ _]) sl22 zr23 sz23 rfl rfl rfl rfl rfl rfl ?_
        intro W25 x26 b27 nn28
        have s29 := x26.sz
        have z30 := z24.trans x26
        refine vg rfl ?_
        refine vo ?_
        have hm31 : MX TT W25 (some ⟨W21.heap.size, 0, none⟩) 1 1 [_] := ⟨[[.slice _ _ _]], RS.lit (s := 1) (S := TT) (n := 1) _ b27 rfl (by simp) trivial rfl (by omega), ⟨_, _, _, rfl, (hcut.ext x26)⟩, trivial⟩
        refine xcall e14 (long3_ok _ _ _ _ _ _ hm31) rfl rfl ?_
        rintro _ Wb3 ⟨bb3, rfl, xb3, hb3⟩
        refine ⟨_, rfl, ?_⟩
        cases bb3
        ·skip
         have s32 := xb3.sz
         have z33 := z30.trans xb3
         refine vv (rpk (v := .bool false) rfl rfl) ?_
         refine asb rfl ?_
         refine vnil ?_
         refine V.ret ?_
         refine ⟨[.bool false], ⟨rfl, trivial⟩, ?_⟩
         exact ⟨_, rfl, z33, fun _ => ⟨⟨by omega, hb2 rfl ρo (by simp)⟩, (.inr (hqb rfl)), (hb3 rfl (ρb.take 20) (by simp)).2⟩⟩
        ·skip
         have s34 := xb3.sz
         have z35 := z30.trans xb3
         refine vv (rpk (v := .bool true) rfl rfl) ?_
         refine asb rfl ?_
         refine vnil ?_
         refine V.ret ?_
         refine ⟨[.bool true], ⟨rfl, trivial⟩, ?_⟩
         exact ⟨_, rfl, z35, fun h => (by cases h)⟩
       ·skip
        have s36 := xb2.sz
        have z37 := z17.trans xb2
        refine vv (rpk (v := .bool true) rfl rfl) ?_
        refine mvb rfl ?_
        refine vgn (b := true) rfl rfl ?_
        refine vgn (b := true) rfl rfl ?_
        refine vgn (b := true) rfl rfl ?_
        refine vgn (b := true) rfl rfl ?_
        refine vgn (b := true) rfl rfl ?_
        refine vv (rpk (v := .bool true) rfl rfl) ?_
        refine asb rfl ?_
        refine vnil ?_
        refine V.ret ?_
        refine ⟨[.bool true], ⟨rfl, trivial⟩, ?_⟩
        exact ⟨_, rfl, z37, fun h => (by cases h)⟩
    ·intro c10
     refine vg rfl ?_
     refine mvb rfl ?_
     refine vgn (b := false) rfl rfl ?_
     refine vgn (b := false) rfl rfl ?_
     refine vgn (b := false) rfl rfl ?_
     refine vgn (b := false) rfl rfl ?_
     refine vg rfl ?_
     refine vv (rpk (v := .bool false) rfl rfl) ?_
     refine vv (rpk (v := .bool false) rfl rfl) ?_
     refine mvb rfl ?_
     refine vg rfl ?_
     refine vv (rfa rfl fd25_2) ?_
     refine vg rfl ?_
     refine vv (rldb (v := .slice _ _ _) rfl sc22 b3 rfl) ?_
     refine vg rfl ?_
     refine vv (rlen sl22 rfl) ?_
     refine vg rfl ?_
     refine vle rfl rfl ?_ ?_
     ·intro c38
      refine vg rfl ?_
      refine mvb rfl ?_
      refine vg rfl ?_
      refine vv (rfa rfl fd25_2) ?_
      refine vg rfl ?_
      refine vv (rldb (v := .slice _ _ _) rfl sc22 b3 rfl) ?_
      refine vg rfl ?_
      refine vo ?_
      refine xbs (ps := [(0, .slice _ _ _)]) (cs := [.slice _ _ _]) sl115 zr22 sz22 rfl rfl rfl rfl rfl rfl ?_
      intro W39 x40 b41 nn42
      have s43 := x40.sz
      have z44 := z6.trans x40
      replace b3 := b3.ext x40
      refine vg rfl ?_
      refine vo ?_
      have hm45 : MXX TT W39 (some ⟨W1.heap.size, 0, none⟩) 1 1 [_] := ⟨[[.slice _ _ _]], RS.lit (s := 1) (S := TT) (n := 1) _ b41 rfl (by simp) trivial rfl (by omega), ⟨_, _, _, rfl, (hx1.ext z44)⟩, trivial⟩
      refine xcall e32 (long4_ok _ _ _ _ _ _ hm45) rfl rfl ?_
      rintro _ Wb1 ⟨bb1, rfl, xb1, hb1⟩
      refine ⟨_, rfl, ?_⟩
      cases bb1
      ·skip
       have s46 := xb1.sz
       have z47 := z44.trans xb1
       replace b3 := b3.ext xb1
       refine vg rfl ?_
       refine vv (rpk (v := .bool false) rfl rfl) ?_
       refine vv (rpk (v := .bool false) rfl rfl) ?_
       refine mvb rfl ?_
       refine vg rfl ?_
       refine vv (rfa rfl fd25_1) ?_
       refine vg rfl ?_
       refine vv (rldb (v := .slice _ _ _) rfl sc22 b3 rfl) ?_
       refine vg rfl ?_
       refine vo ?_
       refine xbs (ps := [(0, .slice _ _ _)]) (cs := [.slice _ _ _]) sl115 zr22 sz22 rfl rfl rfl rfl rfl rfl ?_
       intro W48 x49 b50 nn51
       have s52 := x49.sz
       have z53 := z47.trans x49
       replace b3 := b3.ext x49
       refine vg rfl ?_
       refine vo ?_
       have hm54 : MXX TT W48 (some ⟨Wb1.heap.size, 0, none⟩) 1 1 [_] := ⟨[[.slice _ _ _]], RS.lit (s := 1) (S := TT) (n := 1) _ b50 rfl (by simp) trivial rfl (by omega), ⟨_, _, _, rfl, (hx0.ext z53)⟩, trivial⟩
       refine xcall e32 (long4_ok _ _ _ _ _ _ hm54) rfl rfl ?_
       rintro _ Wb2 ⟨bb2, rfl, xb2, hb2⟩
       refine ⟨_, rfl, ?_⟩
       cases bb2
       ·skip
        have s55 := xb2.sz
        have z56 := z53.trans xb2
        replace b3 := b3.ext xb2
        refine vv (rpk (v := .bool false) rfl rfl) ?_
        refine mvb rfl ?_
        refine vg rfl ?_
        refine vv (rfa rfl fd25_3) ?_
        refine vg rfl ?_
        refine vv (rldb (v := .slice _ _ _) rfl sc23 b3 rfl) ?_
        refine vg rfl ?_
        refine vo ?_
        refine xcall e148 (cut06_ok _ _ _ _ _ _ (hx2.ext z56)) rfl rfl ?_
        rintro _ W57 ⟨cc9, rfl, x58, hcut⟩
        have s59 := x58.sz
        have z60 := z56.trans x58
        refine ⟨_, rfl, ?_⟩
        refine vg rfl ?_
        refine vo ?_
        refine xbs (ps := [(0, .slice _ _ _)]) (cs := [.slice _ _ _]) sl22 zr23 sz23 rfl rfl rfl rfl rfl rfl ?_
        intro W61 x62 b63 nn64
        have s65 := x62.sz
        have z66 := z60.trans x62
        refine vg rfl ?_
        refine vo ?_
        have hm67 : MX TT W61 (some ⟨W57.heap.size, 0, none⟩) 1 1 [_] := ⟨[[.slice _ _ _]], RS.lit (s := 1) (S := TT) (n := 1) _ b63 rfl (by simp) trivial rfl (by omega), ⟨_, _, _, rfl, (hcut.ext x62)⟩, trivial⟩
        refine xcall e14 (long3_ok _ _ _ _ _ _ hm67) rfl rfl ?_
        rintro _ Wb3 ⟨bb3, rfl, xb3, hb3⟩
        refine ⟨_, rfl, ?_⟩
        cases bb3
        ·skip
         have s68 := xb3.sz
         have z69 := z66.trans xb3
         refine vv (rpk (v := .bool false) rfl rfl) ?_
         refine asb rfl ?_
         refine vnil ?_
         refine V.ret ?_
         refine ⟨[.bool false], ⟨rfl, trivial⟩, ?_⟩
         exact ⟨_, rfl, z69, fun _ => ⟨⟨by omega, hb2 rfl ρo (by simp)⟩, (.inl ⟨by omega, hb1 rfl ρs (by simp)⟩), (hb3 rfl (ρb.take 20) (by simp)).2⟩⟩
        ·skip
         have s70 := xb3.sz
         have z71 := z66.trans xb3
         refine vv (rpk (v := .bool true) rfl rfl) ?_
         refine asb rfl ?_
         refine vnil ?_
         refine V.ret ?_
         refine ⟨[.bool true], ⟨rfl, trivial⟩, ?_⟩
         exact ⟨_, rfl, z71, fun h => (by cases h)⟩
       ·skip
        have s72 := xb2.sz
        have z73 := z53.trans xb2
        refine vv (rpk (v := .bool true) rfl rfl) ?_
        refine mvb rfl ?_
        refine vgn (b := true) rfl rfl ?_
        refine vgn (b := true) rfl rfl ?_
        refine vgn (b := true) rfl rfl ?_
        refine vgn (b := true) rfl rfl ?_
        refine vgn (b := true) rfl rfl ?_
        refine vv (rpk (v := .bool true) rfl rfl) ?_
        refine asb rfl ?_
        refine vnil ?_
        refine V.ret ?_
        refine ⟨[.bool true], ⟨rfl, trivial⟩, ?_⟩
        exact ⟨_, rfl, z73, fun h => (by cases h)⟩
      ·skip
       have s74 := xb1.sz
       have z75 := z44.trans xb1
       refine vg rfl ?_
       refine vv (rpk (v := .bool true) rfl rfl) ?_
       refine vv (rpk (v := .bool true) rfl rfl) ?_
       refine mvb rfl ?_
       refine vgn (b := true) rfl rfl ?_
       refine vgn (b := true) rfl rfl ?_
       refine vgn (b := true) rfl rfl ?_
       refine vgn (b := true) rfl rfl ?_
       refine vv (rpk (v := .bool true) rfl rfl) ?_
       refine mvb rfl ?_
       refine vgn (b := true) rfl rfl ?_
       refine vgn (b := true) rfl rfl ?_
       refine vgn (b := true) rfl rfl ?_
       refine vgn (b := true) rfl rfl ?_
       refine vgn (b := true) rfl rfl ?_
       refine vv (rpk (v := .bool true) rfl rfl) ?_
       refine asb rfl ?_
       refine vnil ?_
       refine V.ret ?_
       refine ⟨[.bool true], ⟨rfl, trivial⟩, ?_⟩
       exact ⟨_, rfl, z75, fun h => (by cases h)⟩
     ·intro c38
      omega
set_option maxHeartbeats 2000000 in
theorem long07_ok (ρo ρs : List (List RawQ)) (ρb : List RawQ) (nv : Int) (a0 a1 a2 : Option Addr) (n0 c0 n c m d : Nat) (w : World) (hx0 : MX TT w a0 n0 c0 ρo) (hx1 : MX TT w a1 n c ρs) (hx2 : GX TT w a2 m d ρb) :
    Calls Tryz.prog 13 #[.agg #[.int .i64 nv, .slice a0 n0 c0, .slice a1 n c, .slice a2 m d]] w (fun e w' => ∃ q, e = .returned (.bool q) ∧ Ext w w' ∧ (q = false → LongN n0 n ρo ρs ρb ∧ (MayP nv n0 n m (colsG ρo) (colsG ρs) → n ≤ 5 ∧ nv ≤ 6))) := by
 have z0 := Ext.refl w; have hLX : LX = 17592186044416 := rfl; have hLY : LY = 8796093022208 := rfl
 refine enter (args := [.agg #[.int .i64 nv, .slice a0 n0 c0, .slice a1 n c, .slice a2 m d]]) Tryz.func13 rfl rfl (Nat.le_of_ble_eq_true rfl) ?_
 refine V.seq (V.reg rfl ?_)
 refine vo ?_
 refine bxa rfl ?_
 intro W1 x2 b3 nn4
 have s5 := x2.sz
 have z6 := x2
 refine asb rfl ?_
 refine vnil ?_
 refine V.seq (V.reg rfl ?_)
 refine vv (rldb4 rfl ag25 b3 rfl rfl rfl rfl ) ?_
 refine vo ?_
 refine xcall e78 (long06_ok ρo ρs ρb TT TT TT _ _ _ _ _ _ _ _ _ _ _ (hx0.ext z6) (hx1.ext z6) (hx2.ext z6)) rfl rfl ?_
 rintro _ Wl ⟨ql, rfl, xl, hql⟩
 refine ⟨_, rfl, ?_⟩
 cases ql
 ·skip
  have s7 := xl.sz
  have z8 := z6.trans xl
  replace b3 := b3.ext xl
  refine mvb rfl ?_
  refine vg rfl ?_
  refine vv (rfa rfl fd25_2) ?_
  refine vg rfl ?_
  refine vv (rldb (v := .slice _ _ _) rfl sc22 b3 rfl) ?_
  refine vg rfl ?_
  refine vv (rlen sl22 rfl) ?_
  refine vg rfl ?_
  refine vgt rfl rfl ?_ ?_
  ·intro c9
   refine vg rfl ?_
   refine mvb rfl ?_
   refine vg rfl ?_
   refine vv (rldb4 rfl ag25 b3 rfl rfl rfl rfl ) ?_
   refine vg rfl ?_
   refine vo ?_
   refine xcall e79 (may_ok ρo ρs TT TT _ _ _ _ _ _ _ _ _ _ _ (hx0.ext z8) (hx1.ext z8)) rfl rfl ?_
   rintro _ Wm1 ⟨qm1, rfl, xm1, hqm1⟩
   refine ⟨_, rfl, ?_⟩
   cases qm1
   ·skip
    have s10 := xm1.sz
    have z11 := z8.trans xm1
    replace b3 := b3.ext xm1
    refine vg rfl ?_
    refine vv (rpk (v := .bool false) rfl rfl) ?_
    refine vv (rpk (v := .bool false) rfl rfl) ?_
    refine mvb rfl ?_
    refine vg rfl ?_
    refine vv (rfa rfl fd25_0) ?_
    refine vg rfl ?_
    refine vv (rldb (v := .int _ _) rfl sc3 b3 rfl) ?_
    refine vg rfl ?_
    refine vgt rfl rfl ?_ ?_
    ·intro c12
     refine vg rfl ?_
     refine mvb rfl ?_
     refine vg rfl ?_
     refine vv (rldb4 rfl ag25 b3 rfl rfl rfl rfl ) ?_
     refine vg rfl ?_
     refine vo ?_
     refine xcall e79 (may_ok ρo ρs TT TT _ _ _ _ _ _ _ _ _ _ _ (hx0.ext z11) (hx1.ext z11)) rfl rfl ?_
     rintro _ Wm2 ⟨qm2, rfl, xm2, hqm2⟩
     refine ⟨_, rfl, ?_⟩
     cases qm2
     ·skip
      have s13 := xm2.sz
      have z14 := z11.trans xm2
      refine vg rfl ?_
      refine vv (rpk (v := .bool false) rfl rfl) ?_
      refine vv (rpk (v := .bool false) rfl rfl) ?_
      refine asb rfl ?_
      refine vnil ?_
      refine V.ret ?_
      refine ⟨[.bool false], ⟨rfl, trivial⟩, ?_⟩
      exact ⟨_, rfl, z14, fun _ => ⟨hql rfl, fun hm => (by have := hqm1.2 hm; cases this)⟩⟩
     ·skip
      have s15 := xm2.sz
      have z16 := z11.trans xm2
      refine vg rfl ?_
      refine vv (rpk (v := .bool true) rfl rfl) ?_
      refine vv (rpk (v := .bool true) rfl rfl) ?_
      refine asb rfl ?_
      refine vnil ?_
      refine V.ret ?_
      refine ⟨[.bool true], ⟨rfl, trivial⟩, ?_⟩
      exact ⟨_, rfl, z16, fun h => (by cases h)⟩
    ·intro c12
     refine vg rfl ?_
     refine mvb rfl ?_
     refine vgn (b := false) rfl rfl ?_
     refine vgn (b := false) rfl rfl ?_
     refine vg rfl ?_
     refine vv (rpk (v := .bool false) rfl rfl) ?_
     refine vv (rpk (v := .bool false) rfl rfl) ?_
     refine asb rfl ?_
     refine vnil ?_
     refine V.ret ?_
     refine ⟨[.bool false], ⟨rfl, trivial⟩, ?_⟩
     exact ⟨_, rfl, z11, fun _ => ⟨hql rfl, fun hm => (by have := hqm1.2 hm; cases this)⟩⟩
   ·skip
    have s17 := xm1.sz
    have z18 := z8.trans xm1
    refine vg rfl ?_
    refine vv (rpk (v := .bool true) rfl rfl) ?_
    refine vv (rpk (v := .bool true) rfl rfl) ?_
    refine mvb rfl ?_
    refine vgn (b := true) rfl rfl ?_
    refine vgn (b := true) rfl rfl ?_
    refine vgn (b := true) rfl rfl ?_
    refine vgn (b := true) rfl rfl ?_
    refine vgu rfl ?_
    refine vgu rfl ?_
    refine vgn (b := true) rfl rfl ?_
    refine vv (rpk (v := .bool true) rfl rfl) ?_
    refine asb rfl ?_
    refine vnil ?_
    refine V.ret ?_
    refine ⟨[.bool true], ⟨rfl, trivial⟩, ?_⟩
    exact ⟨_, rfl, z18, fun h => (by cases h)⟩
  ·intro c9
   refine vg rfl ?_
   refine mvb rfl ?_
   refine vgn (b := false) rfl rfl ?_
   refine vgn (b := false) rfl rfl ?_
   refine vg rfl ?_
   refine vv (rpk (v := .bool false) rfl rfl) ?_
   refine vv (rpk (v := .bool false) rfl rfl) ?_
   refine mvb rfl ?_
   refine vg rfl ?_
   refine vv (rfa rfl fd25_0) ?_
   refine vg rfl ?_
   refine vv (rldb (v := .int _ _) rfl sc3 b3 rfl) ?_
   refine vg rfl ?_
   refine vgt rfl rfl ?_ ?_
   ·intro c19
    refine vg rfl ?_
    refine mvb rfl ?_
    refine vg rfl ?_
    refine vv (rldb4 rfl ag25 b3 rfl rfl rfl rfl ) ?_
    refine vg rfl ?_
    refine vo ?_
    refine xcall e79 (may_ok ρo ρs TT TT _ _ _ _ _ _ _ _ _ _ _ (hx0.ext z8) (hx1.ext z8)) rfl rfl ?_
    rintro _ Wm2 ⟨qm2, rfl, xm2, hqm2⟩
    refine ⟨_, rfl, ?_⟩
    cases qm2
    ·skip
     have s20 := xm2.sz
     have z21 := z8.trans xm2
     refine vg rfl ?_
     refine vv (rpk (v := .bool false) rfl rfl) ?_
     refine vv (rpk (v := .bool false) rfl rfl) ?_
     refine asb rfl ?_
     refine vnil ?_
     refine V.ret ?_
     refine ⟨[.bool false], ⟨rfl, trivial⟩, ?_⟩
     exact ⟨_, rfl, z21, fun _ => ⟨hql rfl, fun hm => (by have := hqm2.2 hm; cases this)⟩⟩
    ·skip
     have s22 := xm2.sz
     have z23 := z8.trans xm2
     refine vg rfl ?_
     refine vv (rpk (v := .bool true) rfl rfl) ?_
     refine vv (rpk (v := .bool true) rfl rfl) ?_
     refine asb rfl ?_
     refine vnil ?_
     refine V.ret ?_
     refine ⟨[.bool true], ⟨rfl, trivial⟩, ?_⟩
     exact ⟨_, rfl, z23, fun h => (by cases h)⟩
   ·intro c19
    refine vg rfl ?_
    refine mvb rfl ?_
    refine vgn (b := false) rfl rfl ?_
    refine vgn (b := false) rfl rfl ?_
    refine vg rfl ?_
    refine vv (rpk (v := .bool false) rfl rfl) ?_
    refine vv (rpk (v := .bool false) rfl rfl) ?_
    refine asb rfl ?_
    refine vnil ?_
    refine V.ret ?_
    refine ⟨[.bool false], ⟨rfl, trivial⟩, ?_⟩
    exact ⟨_, rfl, z8, fun _ => ⟨hql rfl, fun hm => ⟨by omega, by omega⟩⟩⟩
 ·skip
  have s24 := xl.sz
  have z25 := z6.trans xl
  refine mvb rfl ?_
  refine vgn (b := true) rfl rfl ?_
  refine vgn (b := true) rfl rfl ?_
  refine vgn (b := true) rfl rfl ?_
  refine vgn (b := true) rfl rfl ?_
  refine vgn (b := true) rfl rfl ?_
  refine vgu rfl ?_
  refine vgu rfl ?_
  refine vgn (b := true) rfl rfl ?_
  refine vv (rpk (v := .bool true) rfl rfl) ?_
  refine mvb rfl ?_
  refine vgn (b := true) rfl rfl ?_
  refine vgn (b := true) rfl rfl ?_
  refine vgn (b := true) rfl rfl ?_
  refine vgn (b := true) rfl rfl ?_
  refine vgu rfl ?_
  refine vgu rfl ?_
  refine vgn (b := true) rfl rfl ?_
  refine vv (rpk (v := .bool true) rfl rfl) ?_
  refine asb rfl ?_
  refine vnil ?_
  refine V.ret ?_
  refine ⟨[.bool true], ⟨rfl, trivial⟩, ?_⟩
  exact ⟨_, rfl, z25, fun h => (by cases h)⟩
end Go.Proofs.YtknbjfefeeojlaaGreat
/- append(x, y...) of elements of several cells, to a slice of the call's own. -/
namespace Go.Proofs.YtknbjfefeeojlaaGreat
open Go.RowKit
attribute [local irreducible] RV VH V OpF Calls
theorem All2.app {α β : Type} {p : α → β → Prop} : ∀ {xs xs' : List α} {ys ys' : List β}, All2 p xs ys → All2 p xs' ys' → All2 p (xs ++ xs') (ys ++ ys')
  | [], _, [], _, _, h => h
  | _ :: _, _, _ :: _, _, ⟨h1, h2⟩, h => ⟨h1, All2.app h2 h⟩
section
variable {r : Option Nat} {P : Program} {ρ : Operand → Value} {W W' : World} {d : Option Tmp} {ty T e : TypeId} {pos : String} {af : Array Edge} {g : Option (Nat × Bool)} {x y : Operand} {v : Value} {K : Value → World → Prop} {s B : Nat} {qs ps : List (List Value)} {S S' : Nat → Prop}
theorem xappSN {t1 : TypeId} {m c bytes : Nat} {a : Option Addr} {z : Value} (hS : Sl P t1 e) (hi : ∃ i, P.info? e = some i ∧ i.size = s ∧ i.bytes = bytes ∧ i.zero = some z) (hzs : Nat.beq z.cells.size s = true) (hs0 : Nat.blt 0 s = true) (hO : OS s B W e v qs) (hx : ρ x = v) (hy : ρ y = .slice a m c) (hb : RS s S W a m c ps) (ho : ∀ p ∈ ps, ∀ u ∈ p, u.oneCell' = true)
    (hlen : (qs.length + ps.length) * bytes ≤ 140737488355328) (hbp : 0 < bytes) (hB : B ≤ W.heap.size)
    (hk2 : ∀ v' W', OS s B W' e v' (qs ++ ps) → W.grownBy W' v.ownBlock → (v'.ownBlock = v.ownBlock ∨ v'.ownBlock = some W.heap.size) → K v' W') :
    OpF r P ρ ⟨d, .call ⟨.builtin .append, #[x, y], #[t1, t1]⟩, ty, pos, af, g⟩ W K := by
  obtain ⟨i, h1, h2, h3, h4⟩ := hi
  have hln := hb.len
  have hs1 : 0 < s := by have := Nat.le_of_ble_eq_true hs0; omega
  have hle : qs.length + ps.length ≤ 140737488355328 := Nat.le_trans (Nat.le_mul_of_pos_right _ hbp) hlen
  by_cases hm : 0 < m
  · obtain ⟨b, off, cs, T, fz, rfl, hs, hbb, hc⟩ := hb.at_ hm
    obtain ⟨v', W', hr, h5, h6, h7, h8⟩ := run_append_own_at (P := P) W B t1 ty e i z s bytes hS h1 h4 h2 h3 (Nat.eq_of_beq_eq_true hzs) hs1 v qs.length _ hO.row ⟨b, off, none⟩ m c ps.flatten (by rw [flat_len hb.wd, hln])
      (by
        intro j u hj
        have hj2 : j < m * s := by
          have := (List.getElem?_eq_some_iff.1 hj).1
          rwa [flat_len hb.wd, hln] at this
        have hk : j / s < ps.length := by rw [hln]; exact (Nat.div_lt_iff_lt_mul hs1).2 hj2
        have hd : j / s * s + j % s = j := by rw [Nat.mul_comm]; exact Nat.div_add_mod j s
        have hf := flat_get hb.wd (List.getElem?_eq_getElem hk) (j := j % s) (Nat.mod_lt _ hs1)
        rw [hd, hj] at hf
        have := hc _ _ (List.getElem?_eq_getElem hk) (j % s) u hf.symm
        rw [Nat.add_assoc, hd] at this
        rw [addO]
        simp only [World.cell?, hbb]
        simpa using this)
      (by intro u hu; obtain ⟨p, hp, hup⟩ := List.mem_flatten.1 hu; exact ho p hp u hup) (by simp only [maxLen]; omega) (by rw [← hln]; exact hlen) hB
    unfold OpF execOp
    simp only [resolve, invoke, builtin, Sem.run_bind, Sem.run_pure, Result.andThen_ok, List.map_toArray, List.map_cons, List.map_nil, hx, hy, hr]
    refine hk2 v' W' ⟨by rw [List.length_append, List.flatten_append, hln]; exact h5, ?_⟩ h6 h8
    intro q hq
    rcases List.mem_append.1 hq with hq | hq
    · exact hO.wd q hq
    · exact hb.wd q hq
  · have hm0 : m = 0 := by omega
    subst hm0
    have hys : ps = [] := List.eq_nil_of_length_eq_zero hln
    subst hys
    have hr : (Builtin.append_ #[t1, t1] ty #[v, .slice a 0 c]).run P W = .ok v W := by
      obtain ⟨a', c', rfl⟩ := hO.form
      have hrn : RS s (fun _ => True) W a' qs.length c' qs := hO.rs (fun _ _ _ => trivial)
      have hsrc : Src P i.size t1 (.slice a 0 c) 0 [] W := by
        cases a with
        | none => exact Src.ofNil W hS c
        | some ad => exact Src.ofSlice W hS ad 0 c [] (by simp) (by simp) (by simp)
      exact run_append_nothing W t1 t1 ty e i hS h1 a' qs.length c' hrn.cap _ hsrc
    unfold OpF execOp
    simp only [resolve, invoke, builtin, Sem.run_bind, Sem.run_pure, Result.andThen_ok, List.map_toArray, List.map_cons, List.map_nil, hx, hy, hr]
    exact hk2 v W (by simpa using hO) (World.grownBy.refl _ _) (.inl rfl)
/-- append(x, y...) of rationals. -/
theorem xappQ {t1 : TypeId} {m c bytes : Nat} {a : Option Addr} {z : Value} {xs ys : List Rat} (hS : Sl P t1 e) (hi : ∃ i, P.info? e = some i ∧ i.size = 4 ∧ i.bytes = bytes ∧ i.zero = some z) (hzs : Nat.beq z.cells.size 4 = true) (hO : GO 4 QC S B W e v xs) (hx : ρ x = v) (hy : ρ y = .slice a m c) (hb : GC (SO S v) W a m c ys)
    (hlen : (xs.length + ys.length) * bytes ≤ 140737488355328) (hbp : 0 < bytes) (hB : B ≤ W.heap.size)
    (hk2 : ∀ v' W', GO 4 QC S B W' e v' (xs ++ ys) → KB B W W' → K v' W') :
    OpF r P ρ ⟨d, .call ⟨.builtin .append, #[x, y], #[t1, t1]⟩, ty, pos, af, g⟩ W K := by
  obtain ⟨qs, h1, h2⟩ := hO
  obtain ⟨ps, h3, h4⟩ := hb
  have hl := h2.len; have hl4 := h4.len
  refine xappSN hS hi hzs rfl h1 hx hy h3 (fun p hp u hu => ?_) (by rw [hl, hl4]; exact hlen) hbp hB ?_
  · obtain ⟨i, hi⟩ := List.getElem?_of_mem hp
    obtain ⟨w, _, hq⟩ := h4.get hi
    obtain ⟨n1, a1, l1, c1, n2, a2, l2, c2, rfl⟩ := hq.form
    simp only [List.mem_cons, List.not_mem_nil, or_false] at hu
    rcases hu with rfl | rfl | rfl | rfl <;> rfl
  · intro v' W' hO' hg hown
    refine hk2 v' W' ⟨_, hO', ?_⟩ (KB.grownS h1 hg (Nat.le_refl _) hB)
    refine (h2.app h4).imp fun q r hq => ?_
    have g1 := okQC.sub (S' := fun b => SO S v b ∧ v'.ownBlock ≠ some b) hq (fun b hb hs => ⟨hs, fun e => by
        rcases hown with h | h
        · rw [h] at e; exact hs.2 e
        · rw [h] at e; injection e with e; omega⟩)
    exact okQC.sub (okQC.ck g1 (grown_ck hg fun b e hs => hs.1.2 e)) fun b _ hs => ⟨hs.1.1, hs.2⟩
end
end Go.Proofs.YtknbjfefeeojlaaGreat
/- vec.Resize, mat.MulVec, lp.Evaluate: the result is the call's own. -/
namespace Go.Proofs.YtknbjfefeeojlaaGreat
open Go.RowKit
attribute [local irreducible] RV VH V OpF Calls

set_option maxHeartbeats 400000 in
theorem mMulVec_own (a1 a2 : Option Addr) (n c m d : Nat) (L1 L2 Rw LD : Nat) (rss : List (List Rat)) (xs : List Rat) (S S1 S2 : Nat → Prop) (w : World) (hx : MA L1 S1 w a1 n c rss) (hy : GA L2 S2 w a2 m d xs) (hR : ∀ r ∈ rss, r.length ≤ Rw) (hm : m ≤ Rw) (hRw : Rw ≤ LV) (hLD : (L1 + L2 + 1) * Rw + 1 ≤ LD) (hL : LD + L1 + L2 < LY) (hl1 : 1 ≤ L1) (hl2 : 1 ≤ L2) (hn : n ≤ LV) (hu : Up S w) :
    Calls Tryz.prog 22 #[.slice a1 n c, .slice a2 m d] w (fun e w' => ∃ v, e = .returned v ∧ Ext w w' ∧ GO 4 QC S w.heap.size w' 48 v (mulv rss xs)) := by
 have z0 := Ext.refl w; have hLX : LX = 17592186044416 := rfl; have hLY : LY = 8796093022208 := rfl
 have hLV : LV = 1099511627776 := rfl
 have l1 := hx.len; have l2 := hx.max; have l3 := hy.len
 refine enter (args := [.slice a1 n c, .slice a2 m d]) Tryz.func22 rfl rfl (Nat.le_of_ble_eq_true rfl) ?_
 refine V.seq (V.reg rfl ?_)
 refine ass rfl ?_
 refine vnil ?_
 refine V.seq ?_
 refine V.seq (V.reg rfl ?_)
 refine mvs rfl ?_
 refine vv (rlen sl22 rfl) ?_
 refine mvi rfl ?_
 refine vnil ?_
 refine V.block ?_
 refine V.loopK (ι := Nat × Value) [(1, .slice _ _ _), (7, .slice _ _ _), (8, .int _ _)] (fun ⟨k, v⟩ => [(9, .int .i64 (k : Int)), (4, v)]) (fun ⟨k, v⟩ W => Ext w W ∧ k ≤ n ∧ GO 4 QC S w.heap.size W 48 v ((rss.take k).map fun r => dotv r xs)) (fun ⟨k, v⟩ => n - k) ((0, _)) ⟨rfl, rfl, rfl, trivial⟩ ⟨rfl, rfl, trivial⟩ ⟨Ext.refl _, Nat.zero_le _, GO.nil _ _⟩ ?_
 intro i2 E3 W1 h4
 obtain ⟨k, v⟩ := i2
 simp only at h4
 show V _ _ _ _ _ _ (ups (ups _ _) [(9, .int .i64 (k : Int)), (4, v)]) _
 obtain ⟨x5, hk, hO⟩ := h4
 have s6 := x5.sz
 have z7 := x5
 refine V.seq (V.reg rfl ?_)
 refine vlt rfl rfl ?_ ?_
 ·intro c8
  refine vnil ?_
  refine V.seq ?_
  refine V.condT rfl ?_
  refine V.skip ?_
  refine V.seq ?_
  refine V.block ?_
  refine V.seq (V.reg rfl ?_)
  refine vv (rix sl22 sz23 rfl rfl (by omega) (by omega) ((hx.ext z7).isS (i := 0) (by omega) (by omega))) ?_
  refine vldRow (hx.ext z7) rfl sc23 (by omega) (by omega) ?_
  intro a9 n10 c11 hg12
  have hg12l := hg12.len; have hg12m := hg12.max
  refine ass rfl ?_
  refine vnil ?_
  refine V.reg rfl ?_
  refine vv (rmv (v := v) rfl) ?_
  refine mvs rfl ?_
  refine mvs rfl ?_
  refine vo ?_
  have hrw : (rowat rss ((k : Int)).toNat).length ≤ Rw := row_le hR _
  have hle : max (rowat rss ((k : Int)).toNat).length m ≤ Rw := by omega
  refine xcall e96 (vDot_ok _ _ _ _ _ _ _ _ _ _ _ _ _ _ hg12 (hy.ext z7) LD (by rw [← hg12l]; exact Nat.le_trans (Nat.succ_le_succ (Nat.mul_le_mul_left _ hle)) hLD) (by omega) (by omega) (by omega) (by omega) (by omega) (GO.up hO hu (by omega))) rfl rfl ?_
  rintro _ W14 ⟨_, rfl, x15, hq13⟩
  have s16 := x15.sz
  have z17 := z7.trans x15
  replace hO := hO.ext okQC x15
  obtain ⟨_, _, _, _, _, _, _, _, rfl⟩ := hq13.form
  refine ⟨_, rfl, ?_⟩
  refine vo ?_
  refine xbs (zs := [.bool false, .slice _ _ _, .bool false, .slice _ _ _]) (ps := [(0, .agg #[_, _, _, _])]) (cs := [.bool _, .slice _ _ _, .bool _, .slice _ _ _]) sl23 zr48 sz48 rfl rfl rfl rfl rfl rfl ?_
  intro W18 x19 b20 nn21
  have s22 := x19.sz
  have z23 := z17.trans x19
  replace hO := hO.ext okQC x19
  refine vo ?_
  refine xappG okQC sl23 in48 rfl rfl hO rfl rfl b20 rfl rfl ((QC.cast (r' := dotv (rowat rss ((k : Int)).toNat) xs) (hq13.ext x19) (by rw [← hg12l, ← l3]; rfl))) (by simp; omega) (by decide) (by omega) ?_
  intro v24 W25 hO26 hg27
  have y28 := hg27.below; have s29 := y28.size
  have z30 := z23.below (y28.mono (by omega))
  refine vv (ras (v := v24) rfl) ?_
  refine vnil ?_
  refine V.reg rfl ?_
  refine vv (rbin (bAdd (wi (by omega))) rfl rfl) ?_
  refine mvi rfl ?_
  refine vnil ?_
  refine ⟨rfl, (k + 1, _), ⟨rfl, rfl, rfl, trivial⟩, ⟨rfl, rfl, trivial⟩, ⟨z30, by omega, by rw [take_row _ rss k (by omega)]; exact hO26⟩, ?_⟩
  show n - (k + 1) < n - k
  omega
 ·intro c8
  refine vnil ?_
  refine V.seq ?_
  refine V.condF rfl ?_
  refine V.exit ?_
  refine V.seq (V.reg rfl ?_)
  refine vv (rmv (v := v) rfl) ?_
  refine vv (ras (v := v) rfl) ?_
  refine vnil ?_
  refine V.ret ?_
  refine ⟨[v], ⟨rfl, trivial⟩, ?_⟩
  rw [List.take_of_length_le (by omega)] at hO
  exact ⟨_, rfl, z7, hO.ext okQC (Ext.refl _)⟩
set_option maxHeartbeats 400000 in
theorem eval_own (L L3 LD : Nat) (obj : List (List Rat)) (xs : List Rat) (S S0 S3 : Nat → Prop) (a3 : Option Addr) (n3 c3 : Nat) (nv : Int) (a0 a1 a2 : Option Addr) (n0 c0 n c m d : Nat) (w : World) (ho : MA L S0 w a0 n0 c0 obj) (hz : GA L3 S3 w a3 n3 c3 xs) (hl1 : 1 ≤ L) (hl3 : 1 ≤ L3) (hro : ∀ r ∈ obj, r.length ≤ 1000) (hn0 : n0 ≤ 1000) (hn3 : n3 ≤ 1000) (hLD : (L + L3 + 1) * 1000 + 1 ≤ LD) (hL : LD + L + L3 < LY) (hu : Up S w) :
    Calls Tryz.prog 25 #[.agg #[.int .i64 nv, .slice a0 n0 c0, .slice a1 n c, .slice a2 m d], .slice a3 n3 c3] w (fun e w' => ∃ v, e = .returned v ∧ Ext w w' ∧ GO 4 QC S w.heap.size w' 48 v (mulv obj xs)) := by
 have z0 := Ext.refl w; have hLX : LX = 17592186044416 := rfl; have hLY : LY = 8796093022208 := rfl
 have hLV : LV = 1099511627776 := rfl
 refine enter (args := [.agg #[.int .i64 nv, .slice a0 n0 c0, .slice a1 n c, .slice a2 m d], .slice a3 n3 c3]) Tryz.func25 rfl rfl (Nat.le_of_ble_eq_true rfl) ?_
 refine V.seq (V.reg rfl ?_)
 refine vo ?_
 refine bxa rfl ?_
 intro W1 x2 b3 nn4
 have s5 := x2.sz
 have z6 := x2
 refine ass rfl ?_
 refine vnil ?_
 refine V.seq (V.reg rfl ?_)
 refine vv (rfa rfl fd25_1) ?_
 refine vv (rldb (v := .slice _ _ _) rfl sc22 b3 rfl) ?_
 refine mvs rfl ?_
 refine vo ?_
 refine xcall e22 (mMulVec_own _ _ _ _ _ _ L L3 1000 LD obj xs S _ _ _ (ho.ext z6) (hz.ext z6) hro hn3 (by clear hLD hL; omega) hLD hL hl1 hl3 (by clear hLD hL; omega) (hu.mono (by clear hLD hL; omega))) rfl rfl ?_
 rintro _ W7 ⟨vo, rfl, x8, hv⟩
 have s9 := x8.sz
 have z10 := z6.trans x8
 refine ⟨_, rfl, ?_⟩
 refine vv (ras (v := vo) rfl) ?_
 refine vnil ?_
 refine V.ret ?_
 refine ⟨[vo], ⟨rfl, trivial⟩, ?_⟩
 refine ⟨_, rfl, z10, ?_⟩
 obtain ⟨qs9, h91, h92⟩ := hv.ext okQC (Ext.refl _)
 exact ⟨qs9, ⟨h91.row.mono (by omega), h91.wd⟩, h92⟩
end Go.Proofs.YtknbjfefeeojlaaGreat
/- The law TableauEquations, in plain mathematics. -/
namespace Go.Proofs.YtknbjfefeeojlaaGreat
open Go.RowKit
attribute [local irreducible] RV VH V OpF Calls
/-! ### Sizes -/
theorem LongN.rows {n0 n : Nat} {ρo ρs : List (List RawQ)} {ρb : List RawQ} (h : LongN n0 n ρo ρs ρb) (hl : ρs.length = n) : ∀ r ∈ ρs, smallV r := fun r hr => by
  rcases h.r with ⟨_, h1⟩ | h1
  · exact (h1.2.2 r hr).2
  · obtain ⟨i, hi⟩ := List.getElem?_of_mem hr
    have hlt : i < n := by rw [← hl]; exact (List.getElem?_eq_some_iff.1 hi).1
    have := h1 i hlt
    unfold rowat at this
    rw [List.getD_eq_getElem?_getD, hi] at this
    have e : r = [] := this
    subst e; intro ρ hρ; cases hρ
theorem LongN.valid {nv : Int} {n0 n m : Nat} {ρo ρs : List (List RawQ)} {ρb : List RawQ} (h : LongN n0 n ρo ρs ρb) (hb : ρb.length = m) (hm : MayP nv n0 n m (colsG ρo) (colsG ρs) → n ≤ 5 ∧ nv ≤ 6) (hv : ValidP nv n0 n m (ρo.map (·.map qval)) (ρs.map (·.map qval))) : n ≤ 5 ∧ nv ≤ 6 ∧ smallV ρb := by
  obtain ⟨h1, h2⟩ := hm ⟨hv.sz, by rw [← colsN_raw]; exact hv.co, by rw [← colsN_raw]; exact hv.cr⟩
  have h3 := hv.sz
  refine ⟨h1, h2, ?_⟩
  have := h.b
  rwa [List.take_of_length_le (by omega)] at this
theorem TF.up {Nn M L0 L1 L2 : Nat} {goals rows : List (List Rat)} {piv : List Int} (f : TF Nn M L0 L1 goals rows piv) (h : L1 ≤ L2) (hL : (L2 + L0 + 1) * 200 + 100 < LY) : TF Nn M L0 L2 goals rows piv :=
  ⟨f.hNb, f.hng, f.hn, f.hnp, f.hM, f.hgr, f.hrr, f.hpn, f.hgs, f.hrs.mono h, f.h0, by have := f.h1; omega, hL⟩
/-- The tableau that New makes. -/
theorem TF.start {Nn n : Nat} {rss obj : List (List Rat)} {bs : List Rat} (hN : Nn ≤ 64) (hn : n ≤ 64) (ho : obj.length ≤ 64) (h1 : szR 6 obj) (h2 : szR 6 rss) (h3 : szV 6 bs) : TF Nn (Nn + n) 6 6 (gridm (matI obj) obj.length Nn) (newR rss bs Nn n n) (newP Nn n) where
  hNb := hN
  hng := by rw [len_gridm]; exact ho
  hn := by rw [newR_len]; exact hn
  hnp := by rw [newR_len, newP_len]
  hM := by rw [newR_len]
  hgr := gridm_rect _ _ _
  hrr := newR_rect _ _ _ _ _
  hpn := fun t ht => by rw [newP_len] at ht; rw [wd_newP Nn ht]; omega
  hgs := gridm_sz fun i k => h1.matI (by omega) _ _
  hrs := newR_sz h2 h3 (by omega) _ _ _
  h0 := by omega
  h1 := by omega
  hL := by decide
section
variable {B bw ng cg Nn M L0 L1 : Nat} {ag : Option Addr} {v pw : Value} {goals rows : List (List Rat)} {piv : List Int} {w : World} {S : Nat → Prop}
end
end Go.Proofs.YtknbjfefeeojlaaGreat
/- Package pylonlaw07: TableauEquations. -/
namespace Go.Proofs.YtknbjfefeeojlaaGreat
open Go.RowKit
attribute [local irreducible] RV VH V OpF Calls
def pivF (q : List Value) : Prop := ∃ x y, q = [.int .i64 x, .int .i64 y] ∧ kb .i64 x ∧ kb .i64 y
theorem five_room {k : Nat} (h : k < 12) : (5 * (6 * 5 ^ k) + 6 + 1) * 200 + 100 < LY ∧ 6 * 5 ^ (k + 1) = 5 * (6 * 5 ^ k) := by
  have h1 : 5 ^ k ≤ 5 ^ 11 := Nat.pow_le_pow_right (by omega) (by omega)
  have h2 : (5 : Nat) ^ 11 = 48828125 := by decide
  have hLY : LY = 8796093022208 := rfl
  refine ⟨by omega, ?_⟩
  rw [Nat.pow_succ]; omega
theorem five_all {k : Nat} (h : k ≤ 12) : 6 * 5 ^ k ≤ 1464843750 := by
  have h1 : 5 ^ k ≤ 5 ^ 12 := Nat.pow_le_pow_right (by omega) h
  have h2 : (5 : Nat) ^ 12 = 244140625 := by decide
  omega

end Go.Proofs.YtknbjfefeeojlaaGreat
/- What an argument that reads as data is: a program, a list of pivots. -/
namespace Go.Proofs.YtknbjfefeeojlaaGreat
open Go.ChangeShapes Go.WideShapes Go.ChangeAt Go.RowKit
attribute [local irreducible] RV VH V OpF Calls
section
variable {H : Type} {enc : TypeId × Value → H} {P : Program} {W : World} {t : TypeId} {fuel : Nat} {cs : List Value} {x : DataW H × List MemPlace}
theorem four_fields {fs : Array Field} {f0 f1 f2 f3 : Field} (he : fs.toList = [f0, f1, f2, f3]) {R : Field → (DataW H × List MemPlace) → Prop} {ys : List (DataW H × List MemPlace)} (h : All2 R fs.toList ys) : ∃ y0 y1 y2 y3, R f0 y0 ∧ R f1 y1 ∧ R f2 y2 ∧ R f3 y3 := by
  rw [he] at h
  match ys, h with
  | [y0, y1, y2, y3], h => exact ⟨y0, y1, y2, y3, h.1, h.2.1, h.2.2.1, h.2.2.2.1⟩
theorem open_LP {tm ts ti : TypeId} {fs : Array Field} {f0 f1 f2 f3 : Field} (ht : P.underlying t = some (.struct fs)) (hf : fs.toList = [f0, f1, f2, f3])
    (h0 : f0.type = ti ∧ f0.offset = 0 ∧ f1.type = tm ∧ f1.offset = 1 ∧ f2.type = tm ∧ f2.offset = 2 ∧ f3.type = ts ∧ f3.offset = 3) (hct : P.cellsOf t = 4) (hci : P.cellsOf ti = 1) (hcm : P.cellsOf tm = 1) (hcs : P.cellsOf ts = 1) (hi : P.underlying ti = some (.int .i64))
    (hM : ∀ {fuel : Nat} {cs : List Value} {x : DataW H × List MemPlace}, DataW.trod enc P W 0 (fun _ => true) true fuel tm cs = some x → ∃ a n c ρss, cs = [.slice a n c] ∧ MX TT W a n c ρss)
    (hV : ∀ {fuel : Nat} {cs : List Value} {x : DataW H × List MemPlace}, DataW.trod enc P W 0 (fun _ => true) true fuel ts cs = some x → ∃ a n c ρs, cs = [.slice a n c] ∧ GX TT W a n c ρs)
    (h : DataW.trod enc P W 0 (fun _ => true) true fuel t cs = some x) : ∃ nv a0 n0 c0 ρo a1 n c ρs a2 m d ρb, cs = [.int .i64 nv, .slice a0 n0 c0, .slice a1 n c, .slice a2 m d] ∧ MX TT W a0 n0 c0 ρo ∧ MX TT W a1 n c ρs ∧ GX TT W a2 m d ρb := by
  obtain ⟨a1, a2, a3, a4, a5, a6, a7, a8⟩ := h0
  obtain ⟨fuel', ys, hl, hy⟩ := open_st ht h
  obtain ⟨y0, y1, y2, y3, h1, h2, h3, h4⟩ := four_fields hf hy
  rw [a1, a2, hci] at h1
  rw [a3, a4, hcm] at h2
  rw [a5, a6, hcm] at h3
  rw [a7, a8, hcs] at h4
  rw [hct] at hl
  match cs, hl with
  | [u0, u1, u2, u3], _ =>
    obtain ⟨nv, e1, _⟩ := open_num hi h1 wf_i64
    obtain ⟨b0, n0, c0, ρo, e2, k2⟩ := hM h2
    obtain ⟨b1, n1, c1, ρs, e3, k3⟩ := hM h3
    obtain ⟨b2, n2, c2, ρb, e4, k4⟩ := hV h4
    simp at e1 e2 e3 e4
    subst e1 e2 e3 e4
    exact ⟨nv, b0, n0, c0, ρo, b1, n1, c1, ρs, b2, n2, c2, ρb, rfl, k2, k3, k4⟩
theorem open_PV {ti : TypeId} {fs : Array Field} {f0 f1 : Field} (ht : P.underlying t = some (.struct fs)) (hf : fs.toList = [f0, f1]) (h0 : f0.type = ti ∧ f0.offset = 0 ∧ f1.type = ti ∧ f1.offset = 1) (hct : P.cellsOf t = 2) (hci : P.cellsOf ti = 1) (hi : P.underlying ti = some (.int .i64))
    (h : DataW.trod enc P W 0 (fun _ => true) true fuel t cs = some x) : pivF cs := by
  obtain ⟨a1, a2, a3, a4⟩ := h0
  obtain ⟨fuel', ys, hl, hy⟩ := open_st ht h
  obtain ⟨y0, y1, h1, h2⟩ := two_fields hf hy
  rw [a1, a2, hci] at h1
  rw [a3, a4, hci] at h2
  rw [hct] at hl
  match cs, hl with
  | [u0, u1], _ =>
    obtain ⟨z0, e1, k1⟩ := open_num hi h1 wf_i64
    obtain ⟨z1, e2, k2⟩ := open_num hi h2 wf_i64
    simp at e1 e2
    subst e1 e2
    exact ⟨z0, z1, rfl, k1, k2⟩
end
section
variable {H : Type} {enc : TypeId × Value → H} {W : World} {fuel : Nat} {cs : List Value} {x : DataW H × List MemPlace}
theorem in_LP (h : DataW.trod enc Tryz.prog W 0 (fun _ => true) true fuel 25 cs = some x) : ∃ nv a0 n0 c0 ρo a1 n c ρs a2 m d ρb, cs = [.int .i64 nv, .slice a0 n0 c0, .slice a1 n c, .slice a2 m d] ∧ MX TT W a0 n0 c0 ρo ∧ MX TT W a1 n c ρs ∧ GX TT W a2 m d ρb :=
  open_LP (ti := 3) (tm := 22) (ts := 23) Tryz.underlying25 rfl ⟨rfl, rfl, rfl, rfl, rfl, rfl, rfl, rfl⟩ (by kernel_rfl) (by kernel_rfl) (by kernel_rfl) (by kernel_rfl) (by kernel_rfl) in_MX in_GX h
theorem in_PV (h : DataW.trod enc Tryz.prog W 0 (fun _ => true) true fuel 36 cs = some x) : pivF cs :=
  open_PV (ti := 3) Tryz.underlying36 rfl ⟨rfl, rfl, rfl, rfl⟩ (by kernel_rfl) (by kernel_rfl) (by kernel_rfl) h
theorem in_PVs (h : DataW.trod enc Tryz.prog W 0 (fun _ => true) true fuel 26 cs = some x) : ∃ a n c qs, cs = [.slice a n c] ∧ RS 2 TT W a n c qs ∧ ∀ q ∈ qs, pivF q := by
  obtain ⟨a, n, c, fuel', ys, qs, rfl, h1, h2, h3⟩ := open_sl (e := 36) (s := 2) (by kernel_rfl) (by kernel_rfl) (by omega) h
  refine ⟨a, n, c, qs, rfl, h1, fun q hq => ?_⟩
  obtain ⟨i, hi⟩ := List.getElem?_of_mem hq
  obtain ⟨y, _, hy⟩ := h2.get hi
  exact in_PV hy
end
end Go.Proofs.YtknbjfefeeojlaaGreat
/- Package pylonlaw07: TableauOptimal. -/
namespace Go.Proofs.YtknbjfefeeojlaaGreat
open Go.RowKit
attribute [local irreducible] RV VH V OpF Calls
section
variable {r : Option Nat} {P : Program} {ops : Array Oper} {S : World → Prop} {R : Env → World → Prop} {fuel : Nat} {listed : Array Bool} {E : Env} {W : World} {d : Option Tmp} {op : Op} {ty : TypeId} {pos : String} {af : Array Edge} {bs : List Nat}
theorem efBg {j : Nat} {want : Bool} (i : Nat) (hr : Region.ready .any ops listed = [i]) (hi : ops[i]? = some ⟨d, op, ty, pos, af, some (j, want)⟩) (hg : yE ops E j = some want) (h : OpF r P (ev E) ⟨d, op, ty, pos, af, some (j, want)⟩ W fun v W' => (whole bs (listed.setIfInBounds i true) = true → S W') ∧ VB bs r P ops S R fuel (listed.setIfInBounds i true) (puto E d v) W') : VB bs r P ops S R (fuel + 1) listed E W := by
  refine ⟨fun h0 => (by rw [hr] at h0; cases h0), fun k hk => ?_⟩
  rw [hr] at hk
  obtain rfl : k = i := by simpa using hk
  unfold opI
  simp only [hi]
  rw [if_pos (by simp [wE, Region.wanted, hg])]; exact h
end
theorem rbneS {P : Program} {ρ : Operand → Value} {W : World} {d : Option Tmp} {ty t1 t2 : TypeId} {pos : String} {af : Array Edge} {g : Option (Nat × Bool)} {x y : Operand} {s : Bool} (hB : P.underlying t1 = some .bool) (hx : ρ x = .bool s) (hy : ρ y = .bool s) : (execOp ρ ⟨d, .binOp .neq t1 x y t2, ty, pos, af, g⟩).run P W = .ok (.value (.bool false)) W := rbne hB hx hy (by simp)
theorem TI.valueE {N m : Nat} {rss obj : List (List Rat)} {bs : List Rat} {rows : List (List Rat)} {piv : List Int} (h : TI N m (newR rss bs N m m) rows piv) (j : Nat) : vat (tval (gridm (matI obj) obj.length N) obj.length N rows piv (N + m)) j = vat (worth obj (ySol rows piv N m)) j := by
  by_cases hj : j < obj.length + N
  · exact h.value obj hj
  · rw [vat_ge (by rw [tval_len]; omega), vat_ge (by rw [worth_len, ySol_len]; omega)]

set_option maxHeartbeats 8000000 in
theorem tabOpt_ok (nv : Int) (a0 a1 a2 al ax : Option Addr) (n0 c0 n c m d nl cl nx cx : Nat) (ρo ρs : List (List RawQ)) (ρb ρx : List RawQ) (qsl : List (List Value)) (w : World) (h0 : MX TT w a0 n0 c0 ρo) (h1 : MX TT w a1 n c ρs) (h2 : GX TT w a2 m d ρb) (h3 : RS 2 TT w al nl cl qsl) (h4 : ∀ q ∈ qsl, pivF q) (h5 : GX TT w ax nx cx ρx) :
    Calls Tryz.prog 12 #[.agg #[.int .i64 nv, .slice a0 n0 c0, .slice a1 n c, .slice a2 m d], .slice al nl cl, .slice ax nx cx] w (fun e w' => e = .returned (.bool true) ∧ Ext w w') := by
 have z0 := Ext.refl w; have hLX : LX = 17592186044416 := rfl; have hLY : LY = 8796093022208 := rfl
 have hLV : LV = 1099511627776 := rfl
 have hx0 : MX (fun q => q < w.heap.size) w a0 n0 c0 ρo := MG.sub okRowX h0 fun b hb _ => hb
 have hx1 : MX (fun q => q < w.heap.size) w a1 n c ρs := MG.sub okRowX h1 fun b hb _ => hb
 have hx2 : GX (fun q => q < w.heap.size) w a2 m d ρb := h2.sub fun b hb _ => hb
 have hx3 : GX (fun q => q < w.heap.size) w ax nx cx ρx := h5.sub fun b hb _ => hb
 have hl : RS 2 (fun q => q < w.heap.size) w al nl cl qsl := h3.sub fun b hb _ => hb
 have l0 := hx0.len; have l1 := hx1.len; have l2 := hx2.len; have l3 := hl.len; have l5 := hx3.len; have l4 := hl.cap; have l6 := hl.max
 refine enter (args := [.agg #[.int .i64 nv, .slice a0 n0 c0, .slice a1 n c, .slice a2 m d], .slice al nl cl, .slice ax nx cx]) Tryz.func12 rfl rfl (Nat.le_of_ble_eq_true rfl) ?_
 refine V.seq (V.reg rfl ?_)
 refine vo ?_
 refine bxa rfl ?_
 intro W1 x2 b3 nn4
 have s5 := x2.sz
 have z6 := x2
 refine asb rfl ?_
 refine vnil ?_
 refine V.seq ?_
 refine V.seq (V.reg rfl ?_)
 refine vv (rldb4 rfl ag25 b3 rfl rfl rfl rfl ) ?_
 refine vo ?_
 have hx0t : MX TT W1 a0 n0 c0 ρo := MG.sub okRowX (hx0.ext z6) fun _ _ _ => trivial
 have hx1t : MX TT W1 a1 n c ρs := MG.sub okRowX (hx1.ext z6) fun _ _ _ => trivial
 have hx2t : GX TT W1 a2 m d ρb := GX.sub (hx2.ext z6) fun _ _ _ => trivial
 refine xcall e13 (long07_ok ρo ρs ρb _ _ _ _ _ _ _ _ _ _ _ hx0t hx1t hx2t) rfl rfl ?_
 rintro _ Wl ⟨ql, rfl, xl, hl7⟩
 refine ⟨_, rfl, ?_⟩
 cases ql
 ·skip
  have s7 := xl.sz
  have z8 := z6.trans xl
  replace b3 := b3.ext xl
  refine mvb rfl ?_
  refine vg rfl ?_
  refine mvs rfl ?_
  refine vg rfl ?_
  refine vv (rlen sl26 rfl) ?_
  refine vg rfl ?_
  refine vgt rfl rfl ?_ ?_
  ·intro c9
   refine vv (rpk (v := .bool true) rfl rfl) ?_
   refine mvb rfl ?_
   refine vgn (b := true) rfl rfl ?_
   refine vgn (b := true) rfl rfl ?_
   refine vgn (b := true) rfl rfl ?_
   refine vv (rpk (v := .bool true) rfl rfl) ?_
   refine vnil ?_
   refine V.condT rfl ?_
   refine V.seq (V.reg rfl ?_)
   refine vo ?_
   refine xcall e15 (law7_ok _) rfl rfl ?_
   rintro _ W10 ⟨rfl, x11⟩
   have s12 := x11.sz
   have z13 := z8.trans x11
   refine ⟨_, rfl, ?_⟩
   refine asb rfl ?_
   refine vnil ?_
   refine V.ret ?_
   refine ⟨[.bool true], ⟨rfl, trivial⟩, ?_⟩
   exact ⟨rfl, z13⟩
  ·intro c9
   refine vv (rpk (v := .bool false) rfl rfl) ?_
   refine mvb rfl ?_
   refine vg rfl ?_
   refine mvs rfl ?_
   refine vg rfl ?_
   refine vo ?_
   refine xbs (ps := [(0, .slice _ _ _)]) (cs := [.slice _ _ _]) sl22 zr23 sz23 rfl rfl rfl rfl rfl rfl ?_
   intro W14 x15 b16 nn17
   have s18 := x15.sz
   have z19 := z8.trans x15
   replace b3 := b3.ext x15
   refine vg rfl ?_
   refine vo ?_
   have hm3 : MX TT W14 (some ⟨Wl.heap.size, 0, none⟩) 1 1 [ρx] := ⟨[[.slice _ _ _]], RS.lit (s := 1) (S := TT) (n := 1) _ b16 rfl (by simp) trivial rfl (by omega), ⟨_, _, _, rfl, GX.sub (hx3.ext z19) fun _ _ _ => trivial⟩, trivial⟩
   refine xcall e14 (long3_ok _ _ _ _ _ _ hm3) rfl rfl ?_
   rintro _ Wb4 ⟨bb4, rfl, xb4, hb4⟩
   refine ⟨_, rfl, ?_⟩
   cases bb4
   ·skip
    have s20 := xb4.sz
    have z21 := z19.trans xb4
    replace b3 := b3.ext xb4
    refine vv (rpk (v := .bool false) rfl rfl) ?_
    refine vnil ?_
    refine V.condF rfl ?_
    refine V.skip ?_
    refine V.seq (V.reg rfl ?_)
    refine vv (rldb4 rfl ag25 b3 rfl rfl rfl rfl ) ?_
    refine vo ?_
    obtain ⟨hLg, hMay⟩ := hl7 rfl
    obtain ⟨hX20, hXs⟩ := hb4 rfl ρx (by simp)
    obtain ⟨obj, hobj⟩ : ∃ r, r = ρo.map (·.map qval) := ⟨_, rfl⟩
    obtain ⟨rss, hrss⟩ : ∃ r, r = ρs.map (·.map qval) := ⟨_, rfl⟩
    obtain ⟨bs, hbs⟩ : ∃ r, r = ρb.map qval := ⟨_, rfl⟩
    obtain ⟨xs, hxs⟩ : ∃ r, r = ρx.map qval := ⟨_, rfl⟩
    have hval : ValidP nv n0 n m obj rss → n ≤ 5 ∧ nv ≤ 6 ∧ smallV ρb := fun hv => hLg.valid l2 hMay (by rw [← hobj, ← hrss]; exact hv)
    have ho6 : MA 6 (fun q => q < w.heap.size) Wb4 a0 n0 c0 obj := hobj ▸ MX.ma (hx0.ext z21) (fun r hr => (hLg.o.2.2.2 r hr).2)
    have hr6 : MA 6 (fun q => q < w.heap.size) Wb4 a1 n c rss := hrss ▸ MX.ma (hx1.ext z21) (hLg.rows l1)
    have hx6 : GA 6 (fun q => q < w.heap.size) Wb4 ax nx cx xs := hxs ▸ GX.va (hx3.ext z21) hXs
    have hb6 : ValidP nv n0 n m obj rss → GA 6 (fun q => q < w.heap.size) Wb4 a2 m d bs := fun hv => hbs ▸ GX.va (hx2.ext z21) (hval hv).2.2
    have hl6 := (hl.ext z21)
    refine xcall e16 (tNew_ok 6 obj rss bs (fun q => q < w.heap.size) (fun q => q < w.heap.size) (fun q => q < w.heap.size) _ _ _ _ _ _ _ _ _ _ _ ho6 hr6 hb6 (fun hv => by have := (hval hv).1; omega) (by omega) (by omega)) rfl rfl ?_
    rintro _ Wn ⟨xn, ⟨hnv, rfl⟩ | ⟨hv, bw, ag, cg, v, pw, rfl, hS⟩⟩ <;> refine ⟨_, rfl, ?_⟩
    ·skip
     have s23 := xn.sz
     have z24 := z21.trans xn
     have z25 := xn
     replace b3 := b3.ext xn
     refine mvt rfl ?_
     refine vv (rext (v := .pointer _) rfl rfl) ?_
     refine vv (rext (v := .int _ _) rfl rfl) ?_
     refine asp rfl ?_
     refine asi rfl ?_
     refine vnil ?_
     refine V.seq ?_
     refine V.seq (V.reg rfl ?_)
     refine mvi rfl ?_
     refine vne rfl rfl ?_ ?_
     ·intro c26
      refine mvb rfl ?_
      refine vgn (b := true) rfl rfl ?_
      refine vgn (b := true) rfl rfl ?_
      refine vv (rpk (v := .bool true) rfl rfl) ?_
      refine vnil ?_
      refine V.condT rfl ?_
      refine V.seq (V.reg rfl ?_)
      refine mvi rfl ?_
      refine veq rfl rfl ?_ ?_
      ·intro c27
       refine mvb rfl ?_
       refine vg rfl ?_
       refine vv (rldb4 rfl ag25 b3 rfl rfl rfl rfl ) ?_
       refine vg rfl ?_
       refine vo ?_
       refine xcall e17 (valid_ok 6 obj rss _ _ _ _ _ _ _ _ _ _ _ _ _ (ho6.ext z25) (hr6.ext z25)) rfl rfl ?_
       rintro _ Wq ⟨qv, rfl, xq, hqv⟩
       refine ⟨_, rfl, ?_⟩
       obtain rfl : qv = false := by rw [Bool.eq_false_iff]; intro h; exact hnv (hqv.1 h)
       have s28 := xq.sz
       have z29 := z24.trans xq
       refine vg rfl ?_
       refine vv (rnot (q := true) rfl rfl) ?_
       refine vv (rpk (v := .bool true) rfl rfl) ?_
       refine mvb rfl ?_
       refine vg rfl ?_
       refine vo ?_
       refine xcall e15 (law7_ok _) rfl rfl ?_
       rintro _ W31 ⟨rfl, x32⟩
       have s33 := x32.sz
       have z34 := z29.trans x32
       refine ⟨_, rfl, ?_⟩
       refine vv (rpk (v := .bool true) rfl rfl) ?_
       refine asb rfl ?_
       refine vnil ?_
       refine V.ret ?_
       refine ⟨[.bool true], ⟨rfl, trivial⟩, ?_⟩
       exact ⟨rfl, z34⟩
      ·intro c27
       omega
     ·intro c26
      omega
    ·skip
     obtain ⟨hn5, hnv6, hbV⟩ := hval hv
     replace hb6 := hb6 hv
     have hsz7 := hv.sz
     obtain ⟨Nn, rfl⟩ : ∃ Nn : Nat, nv = (Nn : Int) := ⟨nv.toNat, by omega⟩
     have hol := ho6.len; have hrl := hr6.len; have hbl := hb6.len; have hxl := hx6.len; have hxm := hx6.max
     have hos : szR 6 obj := ho6.rowsz (by omega); have hrs : szR 6 rss := hr6.rowsz (by omega); have hbs6 := hb6.szv (by omega); have hxs6 := hx6.szv (by omega)
     have hcO : colsN obj ≤ 6 := by have := hv.co; omega
     have hcR : colsN rss ≤ 6 := by have := hv.cr; omega
     have hrO : ∀ r ∈ obj, r.length ≤ 1000 := fun r hr => by have := cols_ge r hr; omega
     have hrR : ∀ r ∈ rss, r.length ≤ 1000 := fun r hr => by have := cols_ge r hr; omega
     have s37 := xn.sz
     have z38 := z21.trans xn
     have z39 := xn
     replace b3 := b3.ext xn
     obtain rfl : n0 = obj.length := hol.symm
     have tf0 : TF Nn (Nn + n) 6 (6 * 5 ^ 0) (gridm (matI obj) obj.length Nn) (newR rss bs Nn n n) (newP Nn n) := TF.start (by omega) (by omega) (by omega) hos hrs hbs6
     have ti0 := TI.start rss bs Nn n
     refine mvt rfl ?_
     refine vv (rext (v := .pointer (some ⟨_, _, none⟩)) rfl rfl) ?_
     refine vv (rext (v := .int _ _) rfl rfl) ?_
     refine asp rfl ?_
     refine asi rfl ?_
     refine vnil ?_
     refine V.seq ?_
     refine V.seq (V.reg rfl ?_)
     refine mvi rfl ?_
     refine vne rfl rfl ?_ ?_
     ·intro c40
      omega
     ·intro c40
      refine mvb rfl ?_
      refine vg rfl ?_
      refine mvp rfl ?_
      refine vg rfl ?_
      refine vv (rpnil (q := false) (by kernel_rfl) rfl rfl rfl) ?_
      refine vv (rpk (v := .bool false) rfl rfl) ?_
      refine vnil ?_
      refine V.condF rfl ?_
      refine V.skip ?_
      refine V.seq ?_
      refine V.seq (V.reg rfl ?_)
      refine asi rfl ?_
      refine vnil ?_
      refine V.block ?_
      have zL := z38; have szL := zL.sz; have b3L := b3; have hSL := hS; have lb3 := b3L.lt
      have hoL : MA 6 (fun q => q < w.heap.size) Wn a0 obj.length c0 obj := (ho6.ext z39)
      have hrL : MA 6 (fun q => q < w.heap.size) Wn a1 n c rss := (hr6.ext z39)
      have hbL : GA 6 (fun q => q < w.heap.size) Wn a2 m d bs := (hb6.ext z39)
      have hxL : GA 6 (fun q => q < w.heap.size) Wn ax nx cx xs := (hx6.ext z39)
      have hlL : RS 2 (fun q => q < w.heap.size) Wn al nl cl qsl := (hl6.ext z39)
      refine V.loopK (ι := Nat) [(1, .slice _ _ _), (2, .slice _ _ _), (3, .pointer (some ⟨_, _, none⟩)), (7, .pointer (some ⟨_, _, none⟩))] (fun k => [(9, .int .i64 (k : Int))]) (fun k W => k ≤ nl ∧ ∃ rows piv, TS Wb4.heap.size bw (Nn : Int) ag obj.length cg (gridm (matI obj) obj.length Nn) v pw rows piv W ∧ TF Nn (Nn + n) 6 (6 * 5 ^ k) (gridm (matI obj) obj.length Nn) rows piv ∧ TI Nn n (newR rss bs Nn n n) rows piv ∧ KD (fun q => q < Wb4.heap.size) Wn W) (fun k => nl - k) (0) ⟨rfl, rfl, rfl, rfl, trivial⟩ ⟨rfl, trivial⟩ ⟨Nat.zero_le _, _, _, hSL, tf0, ti0, KD.refl _ _⟩ ?_
      intro k E42 W41 h43
      obtain ⟨hk, rows, piv, hK, fK, tiK, hkd⟩ := h43
      have szk := hkd.size; have hck : CK (fun q => q < w.heap.size) Wn W41 := hkd.ck.sub fun b h => by have h' : b < w.heap.size := h; show b < Wb4.heap.size; omega
      have hoK : MA 6 (fun q => q < w.heap.size) W41 a0 obj.length c0 obj := MG.ck (okRowA 6) hoL hck
      have hrK : MA 6 (fun q => q < w.heap.size) W41 a1 n c rss := MG.ck (okRowA 6) hrL hck
      have hbK := hbL.ck hck; have hxK := hxL.ck hck; have hlK := hlL.ck hck; have b3K := b3L.kd hkd (show w.heap.size < Wb4.heap.size by omega); have zz := Ext.refl W41; have zw : Ext w W41 := KD.low zL hkd (fun q hq => (show q < Wb4.heap.size by omega)) (by omega); have lb3K := b3K.lt; have hxKc := hxK.max
      refine V.seq ?_
      refine V.seq (V.reg rfl ?_)
      refine mvi rfl ?_
      refine mvs rfl ?_
      refine vv (rlen sl26 rfl) ?_
      refine vlt rfl rfl ?_ ?_
      ·intro c44
       obtain ⟨eq0, hq1, hq2, hce⟩ := (hlK).el (i := (k : Int)) (by omega) (by omega); obtain ⟨zr, zc, rfl, hzr, hzc⟩ := h4 _ (List.mem_of_getElem? hq1)
       have ce0 : CE W41 _ _ := hce
       refine vnil ?_
       refine V.condT rfl ?_
       refine V.skip ?_
       refine V.seq ?_
       refine V.block ?_
       refine V.regB [11] mixed rfl ?_
       intro W45 x46
       have s47 := x46.sz
       have z49 := x46
       replace b3K := b3K.ext x46
       have q50 := Ext.refl W45
       have r51 := b3K
       refine tkP 0 rfl (by kernel_rfl) (by kernel_rfl) (fun _ => q50) (pv (fun _ _ => rmv (v := .pointer (some ⟨_, _, none⟩)) rfl)) ?_
       refine tkP 1 rfl (by kernel_rfl) (by kernel_rfl) (fun _ => q50) (pv (fun _ _ => rmv (v := .slice _ _ _) rfl)) ?_
       refine tkP 2 rfl (by kernel_rfl) (by kernel_rfl) (fun _ => q50) (pv (fun _ _ => rmv (v := .int _ _) rfl)) ?_
       refine tkP 3 rfl (by kernel_rfl) (by kernel_rfl) (fun _ => q50) (pv (fun _ _ => rix sl26 sz36 rfl rfl (by omega) (by omega) ((hlK.ext z49).isS (i := 0) (by omega) (by omega)))) ?_
       refine tkP 4 rfl (by kernel_rfl) (by kernel_rfl) (fun _ => q50) (pv (fun _ _ => rfaG rfl fd36_0)) ?_
       refine tkB 5 rfl (by kernel_rfl) q50 (pv (fun _ y57 => rld1 (v := .int _ _) rfl sc3 (((ce0.ext z49).ext y57) 0 _ rfl))) ?_
       refine tkP 6 rfl (by kernel_rfl) (by kernel_rfl) (fun _ => q50) (pv (fun _ _ => rmv (v := .slice _ _ _) rfl)) ?_
       refine tkP 7 rfl (by kernel_rfl) (by kernel_rfl) (fun _ => q50) (pv (fun _ _ => rmv (v := .int _ _) rfl)) ?_
       refine tkP 8 rfl (by kernel_rfl) (by kernel_rfl) (fun _ => q50) (pv (fun _ _ => rix sl26 sz36 rfl rfl (by omega) (by omega) ((hlK.ext z49).isS (i := 0) (by omega) (by omega)))) ?_
       refine tkP 9 rfl (by kernel_rfl) (by kernel_rfl) (fun _ => q50) (pv (fun _ _ => rfaG rfl fd36_1)) ?_
       refine tkB 10 rfl (by kernel_rfl) q50 (pv (fun _ y62 => rld1 (v := .int _ _) rfl sc3 (((ce0.ext z49).ext y62) 1 _ rfl))) ?_
       refine efB 11 (by kernel_rfl) rfl ?_
       refine xcall e18 (((hK.ext z49)).pivC fK zr zc hzr hzc) rfl rfl ?_
       rintro _ Wp ⟨er, rfl, _, hKp, kdp⟩
       refine ⟨_, rfl, ?_⟩
       refine notW (by kernel_rfl) ?_
       refine dnB (by kernel_rfl) ?_
       refine V.reg rfl ?_
       refine mvi rfl ?_
       refine vv (rbin (bAdd (wi (by omega))) rfl rfl) ?_
       refine asi rfl ?_
       refine vnil ?_
       refine ⟨rfl, k + 1, ⟨rfl, rfl, rfl, rfl, trivial⟩, ⟨rfl, trivial⟩, ⟨by omega, _, _, hKp, (by rw [(five_room (k := k) (by omega)).2]; exact fK.pivot (five_room (k := k) (by omega)).1 zr zc), tiK.pivot zr zc, (hkd.trans (Ext.kd z49)).trans (kdp.mono fun q hq => hK.kqB hq)⟩, ?_⟩
       show nl - (k + 1) < nl - k
       omega
      ·intro c44
       have fR := fK.up (five_all (k := k) (by omega)) (by omega)
       have hrl9 := tiK.len; have hpl9 := tiK.plen
       refine vnil ?_
       refine V.condF rfl ?_
       refine V.exit ?_
       refine V.seq (V.reg rfl ?_)
       refine mvp rfl ?_
       refine vo ?_
       refine xcall e73 ((hK).sol (S := TT) fR (TT.up _)) rfl rfl ?_
       rintro _ W63 ⟨ay, ny, cy, rfl, x64, hY⟩
       have s65 := x64.sz
       have z66 := zw.trans x64
       have z67 := x64
       replace b3K := b3K.ext x64
       rw [hpl9] at hY
       obtain ⟨Y, hYd⟩ : ∃ Y, Y = ySol rows piv Nn n := ⟨_, rfl⟩
       replace hY := hY.cast (rs' := Y) hYd.symm
       have hYl : Y.length = Nn := by rw [hYd, ySol_len]
       have hYz : szV 1464843750 Y := by rw [hYd]; exact solT_sz fR.hrs fR.h1 n
       have hYn := hY.len
       obtain rfl : Nn = ny := by omega
       have hYa := hY.va hYz
       refine ⟨_, rfl, ?_⟩
       refine ass rfl ?_
       refine vnil ?_
       refine V.seq ?_
       refine V.seq (V.regB [22] mixed rfl ?_)
       intro W69 x70
       have s71 := x70.sz
       have z72 := z66.trans x70
       have z73 := z67.trans x70
       have z74 := x70
       replace b3K := b3K.ext x70
       have q75 := Ext.refl W69
       have r76 := b3K
       refine tkP 0 rfl (by kernel_rfl) (by kernel_rfl) (fun _ => q75) (pv (fun _ _ => rmv (v := .slice _ _ _) rfl)) ?_
       refine tkP 1 rfl (by kernel_rfl) (by kernel_rfl) (fun _ => q75) (pv (fun _ _ => rlen sl23 rfl)) ?_
       refine tkP 2 rfl (by kernel_rfl) (by kernel_rfl) (fun _ => q75) (pv (fun _ _ => rfa rfl fd25_0)) ?_
       refine tkZ [4, 5, 6, 7, 8, 9, 10, 11, 12, 13, 14, 15, 16, 17, 18, 19, 20, 21, 22, 23, 24, 25] 3 rfl (by kernel_rfl) q75 (pv (fun _ y80 => rldb (v := .int _ _) rfl sc3 (r76.ext y80) rfl)) ?_
       refine tkP 4 rfl (by kernel_rfl) (by kernel_rfl) (fun _ => q75) (pv (fun _ _ => rcmp (cNe (decide_eq_false (by omega))) rfl rfl rfl)) ?_
       refine tkP 5 rfl (by kernel_rfl) (by kernel_rfl) (fun _ => q75) (pv (fun _ _ => rmv (v := .bool false) rfl)) ?_
       refine tkP 6 rfl (by kernel_rfl) (by kernel_rfl) (fun _ => q75) (pg rfl (fun _ _ => rmv (v := .pointer (some ⟨_, _, none⟩)) rfl)) ?_
       refine tkZ [10, 11, 12, 13, 14, 15, 16, 17, 18, 19, 20, 21, 22, 23, 24, 25] 8 rfl (by kernel_rfl) q75 (pg rfl (fun _ y84 => rldb4 rfl ag25 (r76.ext y84) rfl rfl rfl rfl )) ?_
       refine tkP 9 rfl (by kernel_rfl) (by kernel_rfl) (fun _ => q75) (pg rfl (fun _ _ => rmv (v := .slice _ _ _) rfl)) ?_
       refine efBg 7 (by kernel_rfl) rfl rfl ?_
       refine xcall e74 (((hK.ext z73)).feas fR) rfl rfl ?_
       rintro _ Wf1 ⟨qf1, rfl, xf1, hqf1⟩
       refine ⟨_, rfl, ?_⟩
       have s86 := xf1.sz
       have z87 := z72.trans xf1
       have z88 := z73.trans xf1
       have z89 := z74.trans xf1
       replace b3K := b3K.ext xf1
       have q90 := q75.trans xf1
       refine ⟨fun _ => q90, ?_⟩
       refine efBg 10 (by kernel_rfl) rfl rfl ?_
       refine xcall e75 (feas_ok 6 1464843750 1464843757001 obj rss bs Y _ _ _ _ _ _ _ _ _ _ _ _ _ _ _ _ _ _ (hoK.ext z88) (hrK.ext z88) (hbK.ext z88) (hYa.ext z89) (by omega) (by omega) hrR (by omega) (by omega) (by omega) (by omega)) rfl rfl ?_
       rintro _ Wg ⟨qg, rfl, xg, hqg⟩
       refine ⟨_, rfl, ?_⟩
       obtain rfl : qg = qf1 := by
        rw [Bool.eq_iff_iff, hqg, hqf1, tiK.feasible, ← hYd]
        exact ⟨fun h => ⟨h.x, h.s⟩, fun h => ⟨hv, by omega, h.1, h.2⟩⟩
       have s91 := xg.sz
       have z92 := z87.trans xg
       have z93 := z88.trans xg
       have z94 := z89.trans xg
       replace b3K := b3K.ext xg
       have q95 := q90.trans xg
       refine ⟨fun _ => q95, ?_⟩
       refine tkP 11 rfl (by kernel_rfl) (by kernel_rfl) (fun _ => q95) (pg rfl (fun _ _ => rbneS Tryz.underlying4 rfl rfl)) ?_
       refine tkP 12 rfl (by kernel_rfl) (by kernel_rfl) (fun _ => q95) (pv (fun _ _ => rpk (v := .bool false) rfl rfl)) ?_
       refine tkP 13 rfl (by kernel_rfl) (by kernel_rfl) (fun _ => q95) (pv (fun _ _ => rmv (v := .bool false) rfl)) ?_
       refine tkP 14 rfl (by kernel_rfl) (by kernel_rfl) (fun _ => q95) (pg rfl (fun _ _ => rmv (v := .pointer (some ⟨_, _, none⟩)) rfl)) ?_
       refine tkZ [18, 19, 21, 22, 23, 24, 25] 16 rfl (by kernel_rfl) q95 (pg rfl (fun _ y100 => rldb4 rfl ag25 (r76.ext y100) rfl rfl rfl rfl )) ?_
       refine tkP 17 rfl (by kernel_rfl) (by kernel_rfl) (fun _ => q95) (pg rfl (fun _ _ => rmv (v := .slice _ _ _) rfl)) ?_
       refine tkP 20 rfl (by kernel_rfl) (by kernel_rfl) (fun _ => q95) (pg rfl (fun _ _ => rmv (v := .slice _ _ _) rfl)) ?_
       refine efBg 15 (by kernel_rfl) rfl rfl ?_
       refine xcall e29 (((hK.ext z93)).val (S := TT) fR (TT.up _)) rfl rfl ?_
       rintro _ W103 ⟨_, nv9, _, rfl, x104, hTv⟩
       have s105 := x104.sz
       have z106 := z92.trans x104
       have z107 := z93.trans x104
       have z108 := z94.trans x104
       replace b3K := b3K.ext x104
       have q109 := q95.trans x104
       have hTva := hTv.va (L := 8789062536) (fun q hq => ((tval_sz fR.hgs fR.h0 fR.hrs fR.h1) q hq).mono (by rw [hpl9]; have := Nat.mul_le_mul_left (1464843750 + 6 + 1) hn5; omega))
       have hTvl := hTv.len; rw [tval_len] at hTvl
       refine ⟨_, rfl, ?_⟩
       refine ⟨fun _ => q109, ?_⟩
       refine efBg 18 (by kernel_rfl) rfl rfl ?_
       refine xcall e25 (eval_own 6 1464843750 1464843757001 obj Y TT _ _ _ _ _ (Nn : Int) _ _ _ _ _ _ _ _ _ _ (hoK.ext z107) (hYa.ext z108) (by omega) (by omega) hrO (by omega) (by omega) (by omega) (by omega) (TT.up _)) rfl rfl ?_
       rintro _ W111 ⟨vE, rfl, x112, hO2⟩
       have s113 := x112.sz
       have z114 := z106.trans x112
       have z115 := z107.trans x112
       have z116 := z108.trans x112
       have z117 := x112
       replace b3K := b3K.ext x112
       have q118 := q109.trans x112
       refine ⟨_, rfl, ?_⟩
       refine ⟨fun _ => q118, ?_⟩
       refine efBg 19 (by kernel_rfl) rfl rfl ?_
       refine xcall e27 (fFrom_ok (-1) TT _ (by omega) (TT.up _)) rfl rfl ?_
       rintro _ W121 ⟨_, rfl, x122, hq120⟩
       have s123 := x122.sz
       have z124 := z114.trans x122
       have z125 := z115.trans x122
       have z126 := z116.trans x122
       have z127 := z117.trans x122
       replace b3K := b3K.ext x122
       have q129 := q118.trans x122
       obtain ⟨_, _, _, _, _, _, _, _, rfl⟩ := hq120.form
       refine ⟨_, rfl, ?_⟩
       refine ⟨fun _ => q129, ?_⟩
       refine efBg 21 (by kernel_rfl) rfl rfl ?_
       refine xcall e26 (vScale_ok [_, _, _, _] _ _ _ _ 1464843750 1 Y (SO TT vE) _ _ _ (hYa.ext z126) ((hq120).qa (L := 1) (szB_sz (by decide +kernel))) (by omega) (by omega) (by omega) (by omega) ((GO.ext okQC hO2 x122).up (TT.up _) (Nat.le_refl _))) rfl rfl ?_
       rintro _ W131 ⟨_, ns9, _, rfl, x132, hsn⟩
       have s133 := x132.sz
       have z134 := z124.trans x132
       have z135 := z125.trans x132
       have z136 := z126.trans x132
       have z137 := z127.trans x132
       replace b3K := b3K.ext x132
       have q140 := q129.trans x132
       replace hsn := hsn.cast (rs' := sclR (-1) Y) (by unfold sclR; rw [hYl]; rfl)
       have hsnl := hsn.len; rw [sclR_len] at hsnl
       refine ⟨_, rfl, ?_⟩
       refine ⟨fun _ => q140, ?_⟩
       refine efBg 22 (by kernel_rfl) rfl rfl ?_
       refine xappQ sl23 in48 rfl (GO.ext okQC hO2 (x122.trans x132)) rfl rfl hsn (by rw [len_mulv, sclR_len]; omega) (by decide) (by omega) ?_
       intro vB WB hOB hkB
       have hkBb := hkB.below; have hkBs := hkBb.size
       have z143 := z134.below (hkBb.mono (by omega))
       have z144 := z135.below (hkBb.mono (by omega))
       have z145 := z136.below (hkBb.mono (by omega))
       have z146 := z137.below (hkBb.mono (by omega))
       replace b3K := b3K.bl hkBb (by omega)
       refine notW (by kernel_rfl) ?_
       refine efBg 23 (by kernel_rfl) rfl rfl ?_
       obtain ⟨aB, cB, rfl⟩ := hOB.form
       have hWo : GC TT WB aB _ cB (worth obj Y) := GO.fin okQC hOB fun _ _ _ => trivial
       have hWoz : szV 1464843757001 (worth obj Y) := fun q hq => by
        rcases List.mem_append.1 hq with h | h
        ·exact mulv_szD hos hYz (by omega) (by omega) hrO (by omega) (by omega) q h
        ·exact sclR_sz (a := 1) (b := 1464843750) (sz_neg sz_one) hYz (by omega) (by omega) q h
       have hWoa := hWo.va hWoz
       have hWol : (mulv obj Y ++ sclR (-1) Y).length = obj.length + Nn := by rw [List.length_append, len_mulv, sclR_len, hYl]
       refine xcall e21 (vEq_true _ (hTva.ext z146) hWoa (by omega) (by omega) (by omega) (by omega) (by omega) (fun j => by rw [hYd]; exact tiK.valueE j)) rfl rfl ?_
       rintro _ W147 ⟨rfl, x148⟩
       have s149 := x148.sz
       have z150 := z143.trans x148
       have z151 := z144.trans x148
       have z152 := z145.trans x148
       replace b3K := b3K.ext x148
       refine ⟨_, rfl, ?_⟩
       refine notW (by kernel_rfl) ?_
       refine tkP 24 rfl (by kernel_rfl) (by kernel_rfl) (notWf (by kernel_rfl)) (pg rfl (fun _ _ => rnot (q := false) rfl rfl)) ?_
       refine tkP 25 rfl (by kernel_rfl) (by kernel_rfl) (notWf (by kernel_rfl)) (pv (fun _ _ => rpk (v := .bool false) rfl rfl)) ?_
       refine dnB (by kernel_rfl) ?_
       refine V.condF rfl ?_
       refine V.skip ?_
       refine V.seq (V.reg rfl ?_)
       refine mvp rfl ?_
       refine vo ?_
       refine xcall e74 (((hK.ext z151)).feas fR) rfl rfl ?_
       rintro _ Wf2 ⟨qf2, rfl, xf2, hqf2⟩
       refine ⟨_, rfl, ?_⟩
       cases qf2
       ·skip
        have s157 := xf2.sz
        have z158 := z150.trans xf2
        refine vv (rnot (q := true) rfl rfl) ?_
        refine mvb rfl ?_
        refine vgn (b := true) rfl rfl ?_
        refine vgn (b := true) rfl rfl ?_
        refine vgn (b := true) rfl rfl ?_
        refine vv (rpk (v := .bool true) rfl rfl) ?_
        refine mvb rfl ?_
        refine vgn (b := true) rfl rfl ?_
        refine vgn (b := true) rfl rfl ?_
        refine vgn (b := true) rfl rfl ?_
        refine vgn (b := true) rfl rfl ?_
        refine vv (rpk (v := .bool true) rfl rfl) ?_
        refine mvb rfl ?_
        refine vgn (b := true) rfl rfl ?_
        refine vgn (b := true) rfl rfl ?_
        refine vgn (b := true) rfl rfl ?_
        refine vgn (b := true) rfl rfl ?_
        refine vgn (b := true) rfl rfl ?_
        refine vv (rpk (v := .bool true) rfl rfl) ?_
        refine mvb rfl ?_
        refine vgn (b := true) rfl rfl ?_
        refine vgn (b := true) rfl rfl ?_
        refine vgn (b := true) rfl rfl ?_
        refine vv (rpk (v := .bool true) rfl rfl) ?_
        refine mvb rfl ?_
        refine vg rfl ?_
        refine vo ?_
        refine xcall e15 (law7_ok _) rfl rfl ?_
        rintro _ W162 ⟨rfl, x163⟩
        have s164 := x163.sz
        have z165 := z158.trans x163
        refine ⟨_, rfl, ?_⟩
        refine vv (rpk (v := .bool true) rfl rfl) ?_
        refine asb rfl ?_
        refine vnil ?_
        refine V.ret ?_
        refine ⟨[.bool true], ⟨rfl, trivial⟩, ?_⟩
        exact ⟨rfl, z165⟩
       ·skip
        have s169 := xf2.sz
        have z170 := z150.trans xf2
        have z171 := z151.trans xf2
        have z172 := z152.trans xf2
        replace b3K := b3K.ext xf2
        refine vv (rnot (q := false) rfl rfl) ?_
        refine mvb rfl ?_
        refine vg rfl ?_
        refine mvp rfl ?_
        refine vg rfl ?_
        refine vo ?_
        refine xcall e76 (((hK.ext z171)).opt fR) rfl rfl ?_
        rintro _ Wo ⟨qo, rfl, xo, hqo⟩
        refine ⟨_, rfl, ?_⟩
        cases qo
        ·skip
         have s174 := xo.sz
         have z175 := z170.trans xo
         refine vg rfl ?_
         refine vv (rnot (q := true) rfl rfl) ?_
         refine vv (rpk (v := .bool true) rfl rfl) ?_
         refine mvb rfl ?_
         refine vgn (b := true) rfl rfl ?_
         refine vgn (b := true) rfl rfl ?_
         refine vgn (b := true) rfl rfl ?_
         refine vgn (b := true) rfl rfl ?_
         refine vv (rpk (v := .bool true) rfl rfl) ?_
         refine mvb rfl ?_
         refine vgn (b := true) rfl rfl ?_
         refine vgn (b := true) rfl rfl ?_
         refine vgn (b := true) rfl rfl ?_
         refine vgn (b := true) rfl rfl ?_
         refine vgn (b := true) rfl rfl ?_
         refine vv (rpk (v := .bool true) rfl rfl) ?_
         refine mvb rfl ?_
         refine vgn (b := true) rfl rfl ?_
         refine vgn (b := true) rfl rfl ?_
         refine vgn (b := true) rfl rfl ?_
         refine vv (rpk (v := .bool true) rfl rfl) ?_
         refine mvb rfl ?_
         refine vg rfl ?_
         refine vo ?_
         refine xcall e15 (law7_ok _) rfl rfl ?_
         rintro _ W179 ⟨rfl, x180⟩
         have s181 := x180.sz
         have z182 := z175.trans x180
         refine ⟨_, rfl, ?_⟩
         refine vv (rpk (v := .bool true) rfl rfl) ?_
         refine asb rfl ?_
         refine vnil ?_
         refine V.ret ?_
         refine ⟨[.bool true], ⟨rfl, trivial⟩, ?_⟩
         exact ⟨rfl, z182⟩
        ·skip
         have s186 := xo.sz
         have z187 := z170.trans xo
         have z188 := z171.trans xo
         have z189 := z172.trans xo
         replace b3K := b3K.ext xo
         refine vg rfl ?_
         refine vv (rnot (q := false) rfl rfl) ?_
         refine vv (rpk (v := .bool false) rfl rfl) ?_
         refine mvb rfl ?_
         refine vg rfl ?_
         refine vv (rldb4 rfl ag25 b3K rfl rfl rfl rfl ) ?_
         refine vg rfl ?_
         refine mvs rfl ?_
         refine vg rfl ?_
         refine vo ?_
         refine xcall e75 (feas_ok 6 6 13001 obj rss bs xs _ _ _ _ _ _ _ _ _ _ _ _ _ _ _ _ _ _ (hoK.ext z188) (hrK.ext z188) (hbK.ext z188) (hxK.ext z188) (by omega) (by omega) hrR (by omega) (by omega) (by omega) (by omega)) rfl rfl ?_
         rintro _ Wh ⟨qh, rfl, xh, hqh⟩
         refine ⟨_, rfl, ?_⟩
         cases qh
         ·skip
          have s191 := xh.sz
          have z192 := z187.trans xh
          refine vg rfl ?_
          refine vv (rnot (q := true) rfl rfl) ?_
          refine vv (rpk (v := .bool true) rfl rfl) ?_
          refine mvb rfl ?_
          refine vgn (b := true) rfl rfl ?_
          refine vgn (b := true) rfl rfl ?_
          refine vgn (b := true) rfl rfl ?_
          refine vgn (b := true) rfl rfl ?_
          refine vgn (b := true) rfl rfl ?_
          refine vv (rpk (v := .bool true) rfl rfl) ?_
          refine mvb rfl ?_
          refine vgn (b := true) rfl rfl ?_
          refine vgn (b := true) rfl rfl ?_
          refine vgn (b := true) rfl rfl ?_
          refine vv (rpk (v := .bool true) rfl rfl) ?_
          refine mvb rfl ?_
          refine vg rfl ?_
          refine vo ?_
          refine xcall e15 (law7_ok _) rfl rfl ?_
          rintro _ W196 ⟨rfl, x197⟩
          have s198 := x197.sz
          have z199 := z192.trans x197
          refine ⟨_, rfl, ?_⟩
          refine vv (rpk (v := .bool true) rfl rfl) ?_
          refine asb rfl ?_
          refine vnil ?_
          refine V.ret ?_
          refine ⟨[.bool true], ⟨rfl, trivial⟩, ?_⟩
          exact ⟨rfl, z199⟩
         ·skip
          have s203 := xh.sz
          have z204 := z187.trans xh
          have z205 := z188.trans xh
          have z206 := z189.trans xh
          replace b3K := b3K.ext xh
          refine vg rfl ?_
          refine vv (rnot (q := false) rfl rfl) ?_
          refine vv (rpk (v := .bool false) rfl rfl) ?_
          refine mvb rfl ?_
          refine vg rfl ?_
          refine vv (rldb4 rfl ag25 b3K rfl rfl rfl rfl ) ?_
          refine vg rfl ?_
          refine mvs rfl ?_
          refine vg rfl ?_
          refine mvs rfl ?_
          refine vg rfl ?_
          refine vo ?_
          refine xcall e77 (compare_ok 6 1464843750 1464843757001 obj xs Y _ _ _ _ _ _ _ _ _ (Nn : Int) _ _ _ _ _ _ _ _ _ _ (hoK.ext z205) (GA.mono (hxK.ext z205) (by omega)) (hYa.ext z206) (by omega) (by omega) hrO (by omega) (by omega) (by omega) (by omega) (by omega)) rfl rfl ?_
          rintro _ W208 ⟨sC, tC, rfl, x209, hL1, hL2, hL3⟩
          have s210 := x209.sz
          have z211 := z204.trans x209
          have z212 := z205.trans x209
          have z213 := z206.trans x209
          have hfx := hqh.1 rfl
          have hopt := tiK.optimal (obj := obj) (xs := xs) (s := sC) (t := tC) (n4 := Nn) (hqo.1 rfl) (by have := hfx.len; omega) hfx.x hfx.s rfl (by rw [← hYd]; exact hL1) hL2 (fun h => by rw [← hYd, hxl]; exact hL3 h)
          rw [← hYd] at hopt
          refine ⟨_, rfl, ?_⟩
          refine vg rfl ?_
          refine vlt rfl rfl ?_ ?_
          ·intro c216
           refine vv (rpk (v := .bool true) rfl rfl) ?_
           refine mvb rfl ?_
           refine vgn (b := true) rfl rfl ?_
           refine vgn (b := true) rfl rfl ?_
           refine vgn (b := true) rfl rfl ?_
           refine vv (rpk (v := .bool true) rfl rfl) ?_
           refine mvb rfl ?_
           refine vg rfl ?_
           refine vo ?_
           refine xcall e15 (law7_ok _) rfl rfl ?_
           rintro _ W217 ⟨rfl, x218⟩
           have s219 := x218.sz
           have z220 := z211.trans x218
           refine ⟨_, rfl, ?_⟩
           refine vv (rpk (v := .bool true) rfl rfl) ?_
           refine asb rfl ?_
           refine vnil ?_
           refine V.ret ?_
           refine ⟨[.bool true], ⟨rfl, trivial⟩, ?_⟩
           exact ⟨rfl, z220⟩
          ·intro c216
           refine vv (rpk (v := .bool false) rfl rfl) ?_
           refine mvb rfl ?_
           refine vg rfl ?_
           refine mvs rfl ?_
           refine vg rfl ?_
           refine mvs rfl ?_
           refine vg rfl ?_
           refine vo ?_
           refine xcall e21 (vEq_true _ (hxK.ext z212) (hYa.ext z213) (by omega) (by omega) (by omega) (by omega) (by omega) ((eqv_all (by omega) (by omega)).1 (hopt.resolve_left (by omega)))) rfl rfl ?_
           rintro _ W225 ⟨rfl, x226⟩
           have s227 := x226.sz
           have z228 := z211.trans x226
           refine ⟨_, rfl, ?_⟩
           refine vv (rpk (v := .bool true) rfl rfl) ?_
           refine mvb rfl ?_
           refine vg rfl ?_
           refine vo ?_
           refine xcall e15 (law7_ok _) rfl rfl ?_
           rintro _ W233 ⟨rfl, x234⟩
           have s235 := x234.sz
           have z236 := z228.trans x234
           refine ⟨_, rfl, ?_⟩
           refine vv (rpk (v := .bool true) rfl rfl) ?_
           refine asb rfl ?_
           refine vnil ?_
           refine V.ret ?_
           refine ⟨[.bool true], ⟨rfl, trivial⟩, ?_⟩
           exact ⟨rfl, z236⟩
   ·skip
    have s241 := xb4.sz
    have z242 := z19.trans xb4
    refine vv (rpk (v := .bool true) rfl rfl) ?_
    refine vnil ?_
    refine V.condT rfl ?_
    refine V.seq (V.reg rfl ?_)
    refine vo ?_
    refine xcall e15 (law7_ok _) rfl rfl ?_
    rintro _ W243 ⟨rfl, x244⟩
    have s245 := x244.sz
    have z246 := z242.trans x244
    refine ⟨_, rfl, ?_⟩
    refine asb rfl ?_
    refine vnil ?_
    refine V.ret ?_
    refine ⟨[.bool true], ⟨rfl, trivial⟩, ?_⟩
    exact ⟨rfl, z246⟩
 ·skip
  have s247 := xl.sz
  have z248 := z6.trans xl
  refine mvb rfl ?_
  refine vgn (b := true) rfl rfl ?_
  refine vgn (b := true) rfl rfl ?_
  refine vgn (b := true) rfl rfl ?_
  refine vv (rpk (v := .bool true) rfl rfl) ?_
  refine mvb rfl ?_
  refine vgn (b := true) rfl rfl ?_
  refine vgn (b := true) rfl rfl ?_
  refine vgn (b := true) rfl rfl ?_
  refine vv (rpk (v := .bool true) rfl rfl) ?_
  refine vnil ?_
  refine V.condT rfl ?_
  refine V.seq (V.reg rfl ?_)
  refine vo ?_
  refine xcall e15 (law7_ok _) rfl rfl ?_
  rintro _ W249 ⟨rfl, x250⟩
  have s251 := x250.sz
  have z252 := z248.trans x250
  refine ⟨_, rfl, ?_⟩
  refine asb rfl ?_
  refine vnil ?_
  refine V.ret ?_
  refine ⟨[.bool true], ⟨rfl, trivial⟩, ?_⟩
  exact ⟨rfl, z252⟩
end Go.Proofs.YtknbjfefeeojlaaGreat

/- Package mat: products. -/
import Derived.Test.YtknbjfefeeojlaaMa
namespace Go.Proofs.Ytknbjfefeeojlaa
open Go.RowKit
attribute [local irreducible] RV VH V OpF Calls
def dotv (r xs : List Rat) : Rat := dotk r xs (max r.length xs.length)
def mulv (rss : List (List Rat)) (xs : List Rat) : List Rat := rss.map fun r => dotv r xs
theorem take_row {α : Type} (f : List Rat → α) (rss : List (List Rat)) (k : Nat) (h : k < rss.length) : (rss.take (k + 1)).map f = (rss.take k).map f ++ [f (rowat rss k)] := by
  rw [List.take_succ_eq_append_getElem h, List.map_append]; simp [rowat, h]
theorem row_le {rss : List (List Rat)} {Rw : Nat} (h : ∀ r ∈ rss, r.length ≤ Rw) (i : Nat) : (rowat rss i).length ≤ Rw := by
  unfold rowat; rw [List.getD_eq_getElem?_getD]
  cases hq : rss[i]? with
  | none => simp
  | some r => exact h r (List.mem_of_getElem? hq)

set_option maxHeartbeats 400000 in
theorem mMulVec_ok (a1 a2 : Option Addr) (n c m d : Nat) (L1 L2 Rw LD : Nat) (rss : List (List Rat)) (xs : List Rat) (S S1 S2 : Nat → Prop) (w : World) (hx : MA L1 S1 w a1 n c rss) (hy : GA L2 S2 w a2 m d xs) (hR : ∀ r ∈ rss, r.length ≤ Rw) (hm : m ≤ Rw) (hRw : Rw ≤ LV) (hLD : (L1 + L2 + 1) * Rw + 1 ≤ LD) (hL : LD + L1 + L2 < LY) (hl1 : 1 ≤ L1) (hl2 : 1 ≤ L2) (hn : n ≤ LV) (hu : Up S w) :
    Calls Try.prog 16 #[.slice a1 n c, .slice a2 m d] w (fun e w' => ∃ ra rk rc, e = .returned (.slice ra rk rc) ∧ Ext w w' ∧ GC S w' ra rk rc (mulv rss xs)) := by
  have z0 := Ext.refl w; have hLX : LX = 17592186044416 := rfl; have hLY : LY = 8796093022208 := rfl
  have hLV : LV = 1099511627776 := rfl
  have l1 := hx.len; have l2 := hx.max; have l3 := hy.len
  refine enter (args := [.slice a1 n c, .slice a2 m d]) Try.func16 rfl rfl (Nat.le_of_ble_eq_true rfl) ?_
  refine V.seq (V.reg rfl ?_)
  refine ass rfl ?_
  refine vnil ?_
  refine V.seq ?_
  refine V.seq (V.reg rfl ?_)
  refine mvs rfl ?_
  refine vv (rlen sl25 rfl) ?_
  refine mvi rfl ?_
  refine vnil ?_
  refine V.block ?_
  refine V.loopK (ι := Nat × Value) [(1, .slice _ _ _), (7, .slice _ _ _), (8, .int _ _)] (fun ⟨k, v⟩ => [(9, .int .i64 (k : Int)), (4, v)]) (fun ⟨k, v⟩ W => Ext w W ∧ k ≤ n ∧ GO 4 QC S w.heap.size W 43 v ((rss.take k).map fun r => dotv r xs)) (fun ⟨k, v⟩ => n - k) ((0, _)) ⟨rfl, rfl, rfl, trivial⟩ ⟨rfl, rfl, trivial⟩ ⟨Ext.refl _, Nat.zero_le _, GO.nil _ _⟩ ?_
  intro i2 E3 W1 h4
  obtain ⟨k, v⟩ := i2
  simp only at h4
  show V _ _ _ _ _ _ (ups (ups _ _) [(9, .int .i64 (k : Int)), (4, v)]) _
  obtain ⟨x5, hk, hO⟩ := h4
  have s6 := x5.sz
  have z7 := x5
  refine V.seq (V.reg rfl ?_)
  refine vlt rfl rfl ?_ ?_
  · intro c8
    refine vnil ?_
    refine V.seq ?_
    refine V.condT rfl ?_
    refine V.skip ?_
    refine V.seq ?_
    refine V.block ?_
    refine V.seq (V.reg rfl ?_)
    refine vv (rix sl25 sz30 rfl rfl (by omega) (by omega) ((hx.ext z7).isS (i := 0) (by omega) (by omega))) ?_
    refine vldRow (hx.ext z7) rfl sc30 (by omega) (by omega) ?_
    intro a9 n10 c11 hg12
    have hg12l := hg12.len; have hg12m := hg12.max
    refine ass rfl ?_
    refine vnil ?_
    refine V.reg rfl ?_
    refine vv (rmv (v := v) rfl) ?_
    refine mvs rfl ?_
    refine mvs rfl ?_
    refine vo ?_
    have hrw : (rowat rss ((k : Int)).toNat).length ≤ Rw := row_le hR _
    have hle : max (rowat rss ((k : Int)).toNat).length m ≤ Rw := by omega
    refine xcall e35 (vDot_ok _ _ _ _ _ _ _ _ _ _ _ _ _ _ hg12 (hy.ext z7) LD (by rw [← hg12l]; exact Nat.le_trans (Nat.succ_le_succ (Nat.mul_le_mul_left _ hle)) hLD) (by omega) (by omega) (by omega) (by omega) (by omega) (GO.up hO hu (by omega))) rfl rfl ?_
    rintro _ W14 ⟨_, rfl, x15, hq13⟩
    have s16 := x15.sz
    have z17 := z7.trans x15
    replace hO := hO.ext okQC x15
    obtain ⟨_, _, _, _, _, _, _, _, rfl⟩ := hq13.form
    refine ⟨_, rfl, ?_⟩
    refine vo ?_
    refine xbs (ps := [(0, .agg #[_, _, _, _])]) (cs := [.bool _, .slice _ _ _, .bool _, .slice _ _ _]) sl30 zr43 sz43 rfl rfl rfl rfl rfl rfl ?_
    intro W18 x19 b20 nn21
    have s22 := x19.sz
    have z23 := z17.trans x19
    replace hO := hO.ext okQC x19
    refine vo ?_
    refine xappG okQC sl30 in43 rfl rfl hO rfl rfl b20 rfl rfl ((QC.cast (r' := dotv (rowat rss ((k : Int)).toNat) xs) (hq13.ext x19) (by rw [← hg12l, ← l3]; rfl))) (by simp; omega) (by decide) (by omega) ?_
    intro v24 W25 hO26 hg27
    have y28 := hg27.below; have s29 := y28.size
    have z30 := z23.below (y28.mono (by omega))
    refine vv (ras (v := v24) rfl) ?_
    refine vnil ?_
    refine V.reg rfl ?_
    refine vv (rbin (bAdd (wi (by omega))) rfl rfl) ?_
    refine mvi rfl ?_
    refine vnil ?_
    refine ⟨rfl, (k + 1, _), ⟨rfl, rfl, rfl, trivial⟩, ⟨rfl, rfl, trivial⟩, ⟨z30, by omega, by rw [take_row _ rss k (by omega)]; exact hO26⟩, ?_⟩
    show n - (k + 1) < n - k
    omega
  · intro c8
    refine vnil ?_
    refine V.seq ?_
    refine V.condF rfl ?_
    refine V.exit ?_
    refine V.seq (V.reg rfl ?_)
    refine vv (rmv (v := v) rfl) ?_
    refine vv (ras (v := v) rfl) ?_
    refine vnil ?_
    refine V.ret ?_
    refine ⟨[v], ⟨rfl, trivial⟩, ?_⟩
    obtain ⟨a', c', rfl⟩ := hO.form
    have hf := hO.fin okQC (fun b hb _ => hu b (by omega))
    refine ⟨_, _, _, rfl, z7, ?_⟩
    rw [List.take_of_length_le (by omega)] at hf ⊢
    exact hf

/-- y m, row by row. -/
def vmk (ys : List Rat) (rss : List (List Rat)) (N : Nat) : Nat → List Rat
  | 0 => List.replicate N 0
  | k + 1 => if k < ys.length then zipf (fun a b => vat ys k * a + b) (rowat rss k) (vmk ys rss N k) (max (rowat rss k).length (vmk ys rss N k).length) else vmk ys rss N k
theorem vmk_len {ys : List Rat} {rss : List (List Rat)} {N : Nat} (h : ∀ r ∈ rss, r.length ≤ N) : ∀ k, (vmk ys rss N k).length = N
  | 0 => by simp [vmk]
  | k + 1 => by
    unfold vmk
    have := row_le h k
    have ih := vmk_len (ys := ys) h k
    split
    · rw [zipf_len]; omega
    · exact ih
theorem vmk_sz {a b : Nat} {ys : List Rat} {rss : List (List Rat)} {N : Nat} (hy : szV a ys) (hr : ∀ i, szV b (rowat rss i)) (ha : 1 ≤ a) (hb : 1 ≤ b) : ∀ k, szV ((a + b + 1) * k + 1) (vmk ys rss N k)
  | 0 => by intro r hr; simp only [vmk] at hr; rw [(List.mem_replicate.1 hr).2]; exact sz_zero
  | k + 1 => by
    have ih := vmk_sz (N := N) hy hr ha hb k
    have e : a + b + ((a + b + 1) * k + 1) + 1 = (a + b + 1) * (k + 1) + 1 := by rw [Nat.mul_add]; omega
    unfold vmk
    split
    · refine szV_zip fun i _ => ?_
      have h1 := sz_add (sz_mul (szV_at hy ha k) (szV_at (hr k) hb i)) (szV_at ih (by omega) i)
      rw [e] at h1; exact h1
    · intro r hr; exact (ih r hr).mono (by rw [Nat.mul_add]; omega)
theorem cols_ge {rss : List (List Rat)} : ∀ r ∈ rss, r.length ≤ colsN rss := by
  have key : ∀ (l : List (List Rat)) (m : Nat), m ≤ l.foldl (fun m r => max m r.length) m ∧ ∀ r ∈ l, r.length ≤ l.foldl (fun m r => max m r.length) m := by
    intro l
    induction l with
    | nil => intro m; simp
    | cons x l ih =>
      intro m
      have := ih (max m x.length)
      simp only [List.foldl_cons, List.mem_cons]
      refine ⟨by omega, ?_⟩
      rintro r (rfl | hr)
      · omega
      · exact this.2 r hr
  exact (key rss 0).2


theorem GA.rows {L : Nat} {S : Nat → Prop} {W : World} {a : Option Addr} {n c : Nat} {rss : List (List Rat)} (h : MA L S W a n c rss) (hL : 1 ≤ L) (i : Nat) : szV L (rowat rss i) := by
  by_cases hi : i < n
  · obtain ⟨a', n', c', _, hg⟩ := h.el (i := (i : Int)) (by omega) (by omega)
    exact hg.szv hL
  · have := h.len
    unfold rowat; rw [List.getD_eq_getElem?_getD, List.getElem?_eq_none (by omega)]; intro r hr; simp at hr

set_option maxHeartbeats 400000 in
theorem mVecMul_ok (a1 a2 : Option Addr) (n c m d : Nat) (L1 L2 LD : Nat) (ys : List Rat) (rss : List (List Rat)) (S S1 S2 : Nat → Prop) (w : World) (hy : GA L1 S1 w a2 m d ys) (hx : MA L2 S2 w a1 n c rss) (hR : colsN rss ≤ LV) (hLD : (L1 + L2 + 1) * n + 1 ≤ LD) (hL : L2 + LD + L1 < LY) (hl1 : 1 ≤ L1) (hl2 : 1 ≤ L2) (hu : Up S w) :
    Calls Try.prog 29 #[.slice a2 m d, .slice a1 n c] w (fun e w' => ∃ ra rk rc, e = .returned (.slice ra rk rc) ∧ Ext w w' ∧ GC S w' ra rk rc (vmk ys rss (colsN rss) n)) := by
  have z0 := Ext.refl w; have hLX : LX = 17592186044416 := rfl; have hLY : LY = 8796093022208 := rfl
  have hLV : LV = 1099511627776 := rfl
  have l1 := hx.len; have l2 := hx.max; have l3 := hy.len; have l4 := hy.max
  have hsy := hy.szv hl1; have hsr := fun i => GA.rows hx hl2 i
  refine enter (args := [.slice a2 m d, .slice a1 n c]) Try.func29 rfl rfl (Nat.le_of_ble_eq_true rfl) ?_
  refine V.seq (V.reg rfl ?_)
  refine ass rfl ?_
  refine vnil ?_
  refine V.seq (V.reg rfl ?_)
  refine mvs rfl ?_
  refine vo ?_
  refine xcall e18 (mCols_ok _ _ _ _ _ _ _ hx) rfl rfl ?_
  rintro _ W1 ⟨rfl, x2⟩
  have s3 := x2.sz
  have z4 := x2
  refine ⟨_, rfl, ?_⟩
  refine vo ?_
  refine xmkS (zs := [.bool false, .slice _ _ _, .bool false, .slice _ _ _]) ((colsN rss)) sl30 in43 rfl rfl rfl rfl rfl (by omega) (by omega) (by omega) ?_
  intro W5 x6 out n7
  have s8 := x6.sz
  have z9 := z4.trans x6
  refine ass rfl ?_
  refine vnil ?_
  refine V.seq ?_
  refine V.seq (V.reg rfl ?_)
  refine mvs rfl ?_
  refine vv (rlen sl25 rfl) ?_
  refine mvi rfl ?_
  refine vnil ?_
  refine V.block ?_
  refine V.loopK (ι := Nat × Option Addr × Nat × Nat) [(0, .slice _ _ _), (4, .slice _ _ _), (11, .slice _ _ _), (12, .int _ _)] (fun ⟨k, oa, on, oc⟩ => [(13, .int .i64 (k : Int)), (5, .slice oa on oc)]) (fun ⟨k, oa, on, oc⟩ W => Ext W5 W ∧ k ≤ n ∧ GC S W oa on oc (vmk ys rss (colsN rss) k)) (fun ⟨k, oa, on, oc⟩ => n - k) ((0, _, _, _)) ⟨rfl, rfl, rfl, rfl, trivial⟩ ⟨rfl, rfl, trivial⟩ ⟨Ext.refl _, Nat.zero_le _, _, out.rs (hu _ (by omega)), All2.rep (QC.zero S _) _⟩ ?_
  intro i11 E12 W10 h13
  obtain ⟨k, oa, on, oc⟩ := i11
  simp only at h13
  show V _ _ _ _ _ _ (ups (ups _ _) [(13, .int .i64 (k : Int)), (5, .slice oa on oc)]) _
  obtain ⟨x14, hk, hG⟩ := h13
  have s15 := x14.sz
  have z16 := z9.trans x14
  have z17 := x14
  replace out := out.ext x14
  have z18 := Ext.refl W10
  have lG := hG.len; rw [vmk_len cols_ge] at lG
  refine V.seq (V.reg rfl ?_)
  refine vlt rfl rfl ?_ ?_
  · intro c19
    refine vnil ?_
    refine V.seq ?_
    refine V.condT rfl ?_
    refine V.skip ?_
    refine V.seq ?_
    refine V.block ?_
    refine V.seq (V.reg rfl ?_)
    refine mvi rfl ?_
    refine vv (rix sl25 sz30 rfl rfl (by omega) (by omega) ((hx.ext z16).isS (i := 0) (by omega) (by omega))) ?_
    refine vldRow (hx.ext z16) rfl sc30 (by omega) (by omega) ?_
    intro a20 n21 c22 hg23
    have hg23l := hg23.len; have hg23m := hg23.max
    refine asi rfl ?_
    refine ass rfl ?_
    refine vnil ?_
    refine V.seq (V.reg rfl ?_)
    refine mvi rfl ?_
    refine mvs rfl ?_
    refine vv (rlen sl30 rfl) ?_
    refine vlt rfl rfl ?_ ?_
    · intro c24
      refine vnil ?_
      refine V.condT rfl ?_
      refine V.reg rfl ?_
      refine mvs rfl ?_
      refine mvi rfl ?_
      refine vv (rix sl30 sz43 rfl rfl (by omega) (by omega) ((hy.ext z16).isS (i := 0) (by omega) (by omega))) ?_
      refine vldQ (hy.ext z16) rfl ag43 (by omega) (by omega) ?_
      intro n25 a26 l27 c28 n29 a30 l31 c32 hq33
      refine mvs rfl ?_
      refine mvs rfl ?_
      have hkn : k < n := (by omega); have hrw := row_le (cols_ge (rss := rss)) k; have hr2 : (rowat rss ((k : Int)).toNat).length ≤ colsN rss := hrw
      have hga := (hG).va (L := LD) (fun r hr => (vmk_sz hsy hsr hl1 hl2 k r hr).mono (Nat.le_trans (Nat.succ_le_succ (Nat.mul_le_mul_left _ (Nat.le_of_lt hkn))) hLD))
      refine vo ?_
      refine xcall e55 (vScl_ok _ _ _ _ _ _ _ _ _ _ _ _ _ _ _ _ _ _ hg23 hga hq33 (by omega) (by omega) (by omega) (by omega) (by omega) (by omega) (hu.mono (by omega))) rfl rfl ?_
      rintro _ W35 ⟨_, _, _, rfl, x36, hv34⟩
      have s37 := x36.sz
      have z38 := z16.trans x36
      have z39 := z17.trans x36
      have z40 := x36
      replace out := out.ext x36
      have hv34l := hv34.len
      refine ⟨_, rfl, ?_⟩
      refine ass rfl ?_
      refine vnil ?_
      refine V.reg rfl ?_
      refine vv (rbin (bAdd (wi (by omega))) rfl rfl) ?_
      refine mvi rfl ?_
      refine vnil ?_
      refine ⟨rfl, (k + 1, _, _, _), ⟨rfl, rfl, rfl, rfl, trivial⟩, ⟨rfl, rfl, trivial⟩, ⟨z39, by omega, (hv34).cast (by rw [vmk, if_pos (by omega), vmk_len cols_ge, ← lG, ← hg23l]; rfl)⟩, ?_⟩
      show n - (k + 1) < n - k
      omega
    · intro c24
      refine vnil ?_
      refine V.condF rfl ?_
      refine V.skip ?_
      refine V.reg rfl ?_
      refine vv (rbin (bAdd (wi (by omega))) rfl rfl) ?_
      refine mvi rfl ?_
      refine vnil ?_
      refine ⟨rfl, (k + 1, _, _, _), ⟨rfl, rfl, rfl, rfl, trivial⟩, ⟨rfl, rfl, trivial⟩, ⟨z17, by omega, (hG).cast (by rw [vmk, if_neg (by omega)])⟩, ?_⟩
      show n - (k + 1) < n - k
      omega
  · intro c19
    refine vnil ?_
    refine V.seq ?_
    refine V.condF rfl ?_
    refine V.exit ?_
    refine V.seq (V.reg rfl ?_)
    refine mvs rfl ?_
    refine ass rfl ?_
    refine vnil ?_
    refine V.ret ?_
    refine ⟨[.slice _ _ _], ⟨rfl, trivial⟩, ?_⟩
    obtain rfl : k = n := by omega
    exact ⟨_, _, _, rfl, z16, hG⟩

def mulm (rss mss : List (List Rat)) : List (List Rat) := rss.map fun r => vmk r mss (colsN mss) mss.length

set_option maxHeartbeats 400000 in
theorem mMul_ok (a1 a2 : Option Addr) (n c m d : Nat) (L1 L2 LD : Nat) (rss mss : List (List Rat)) (S S1 S2 : Nat → Prop) (w : World) (hx : MA L1 S1 w a1 n c rss) (hy : MA L2 S2 w a2 m d mss) (hR : colsN mss ≤ LV) (hLD : (L1 + L2 + 1) * m + 1 ≤ LD) (hL : L2 + LD + L1 < LY) (hl1 : 1 ≤ L1) (hl2 : 1 ≤ L2) (hn : n ≤ LV) (hu : Up S w) :
    Calls Try.prog 15 #[.slice a1 n c, .slice a2 m d] w (fun e w' => ∃ ra rk rc, e = .returned (.slice ra rk rc) ∧ Ext w w' ∧ MC S w' ra rk rc (mulm rss mss)) := by
  have z0 := Ext.refl w; have hLX : LX = 17592186044416 := rfl; have hLY : LY = 8796093022208 := rfl
  have hLV : LV = 1099511627776 := rfl
  have l1 := hx.len; have l2 := hx.max; have l3 := hy.len
  refine enter (args := [.slice a1 n c, .slice a2 m d]) Try.func15 rfl rfl (Nat.le_of_ble_eq_true rfl) ?_
  refine V.seq (V.reg rfl ?_)
  refine ass rfl ?_
  refine vnil ?_
  refine V.seq ?_
  refine V.seq (V.reg rfl ?_)
  refine mvs rfl ?_
  refine vv (rlen sl25 rfl) ?_
  refine mvi rfl ?_
  refine vnil ?_
  refine V.block ?_
  refine V.loopK (ι := Nat × Value) [(1, .slice _ _ _), (7, .slice _ _ _), (8, .int _ _)] (fun ⟨k, v⟩ => [(9, .int .i64 (k : Int)), (4, v)]) (fun ⟨k, v⟩ W => Ext w W ∧ k ≤ n ∧ GO 1 (RowOf GC) S w.heap.size W 30 v ((rss.take k).map fun r => vmk r mss (colsN mss) m)) (fun ⟨k, v⟩ => n - k) ((0, _)) ⟨rfl, rfl, rfl, trivial⟩ ⟨rfl, rfl, trivial⟩ ⟨Ext.refl _, Nat.zero_le _, GO.nil _ _⟩ ?_
  intro i2 E3 W1 h4
  obtain ⟨k, v⟩ := i2
  simp only at h4
  show V _ _ _ _ _ _ (ups (ups _ _) [(9, .int .i64 (k : Int)), (4, v)]) _
  obtain ⟨x5, hk, hO⟩ := h4
  have s6 := x5.sz
  have z7 := x5
  refine V.seq (V.reg rfl ?_)
  refine vlt rfl rfl ?_ ?_
  · intro c8
    refine vnil ?_
    refine V.seq ?_
    refine V.condT rfl ?_
    refine V.skip ?_
    refine V.seq ?_
    refine V.block ?_
    refine V.seq (V.reg rfl ?_)
    refine vv (rix sl25 sz30 rfl rfl (by omega) (by omega) ((hx.ext z7).isS (i := 0) (by omega) (by omega))) ?_
    refine vldRow (hx.ext z7) rfl sc30 (by omega) (by omega) ?_
    intro a9 n10 c11 hg12
    have hg12l := hg12.len; have hg12m := hg12.max
    refine ass rfl ?_
    refine vnil ?_
    refine V.reg rfl ?_
    refine vv (rmv (v := v) rfl) ?_
    refine mvs rfl ?_
    refine mvs rfl ?_
    refine vo ?_
    refine xcall e29 (mVecMul_ok _ _ _ _ _ _ _ _ LD _ _ _ _ _ _ hg12 (hy.ext z7) (by omega) hLD (by omega) (by omega) (by omega) (GO.up hO hu (by omega))) rfl rfl ?_
    rintro _ W14 ⟨_, _, _, rfl, x15, hv13⟩
    have s16 := x15.sz
    have z17 := z7.trans x15
    replace hO := hO.ext okRowC x15
    have hv13l := hv13.len
    refine ⟨_, rfl, ?_⟩
    refine vo ?_
    refine xbs (ps := [(0, .slice _ _ _)]) (cs := [.slice _ _ _]) sl25 zr30 sz30 rfl rfl rfl rfl rfl rfl ?_
    intro W18 x19 b20 nn21
    have s22 := x19.sz
    have z23 := z17.trans x19
    replace hO := hO.ext okRowC x19
    refine vo ?_
    refine xappG okRowC sl25 in30 rfl rfl hO rfl rfl b20 rfl rfl ((⟨_, _, _, rfl, (hv13.ext x19)⟩ : RowOf GC _ _ _ _)) (by simp; omega) (by decide) (by omega) ?_
    intro v24 W25 hO26 hg27
    have y28 := hg27.below; have s29 := y28.size
    have z30 := z23.below (y28.mono (by omega))
    refine vv (ras (v := v24) rfl) ?_
    refine vnil ?_
    refine V.reg rfl ?_
    refine vv (rbin (bAdd (wi (by omega))) rfl rfl) ?_
    refine mvi rfl ?_
    refine vnil ?_
    refine ⟨rfl, (k + 1, _), ⟨rfl, rfl, rfl, trivial⟩, ⟨rfl, rfl, trivial⟩, ⟨z30, by omega, by rw [take_row _ rss k (by omega)]; exact hO26⟩, ?_⟩
    show n - (k + 1) < n - k
    omega
  · intro c8
    refine vnil ?_
    refine V.seq ?_
    refine V.condF rfl ?_
    refine V.exit ?_
    refine V.seq (V.reg rfl ?_)
    refine vv (rmv (v := v) rfl) ?_
    refine vv (ras (v := v) rfl) ?_
    refine vnil ?_
    refine V.ret ?_
    refine ⟨[v], ⟨rfl, trivial⟩, ?_⟩
    obtain ⟨a', c', rfl⟩ := hO.form
    have hf := hO.fin okRowC (fun b hb _ => hu b (by omega))
    refine ⟨_, _, _, rfl, z7, ?_⟩
    rw [mulm, l3]
    rw [List.take_of_length_le (by omega)] at hf ⊢
    exact hf
end Go.Proofs.Ytknbjfefeeojlaa

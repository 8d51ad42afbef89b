/- Package solve: Det. -/
import Derived.Test.YtknbjfefeeojlaaGreatMgqt6
namespace Go.Proofs.YtknbjfefeeojlaaGreat
open Go.RowKit
attribute [local irreducible] RV VH V OpF Calls
def CXd (bd lo : Nat) (L : Nat) (S : Nat → Prop) (W : World) (δ : Rat) : Prop := ∃ cs, BoxAt W bd cs 48 ∧ QC (fun b => S b ∧ b ≠ bd ∧ lo < b) W cs δ ∧ sz L δ ∧ 1 ≤ L ∧ lo < bd
theorem WS.re {B bw L L' : Nat} {fs fd fs' fd' v pv : Value} {xd xd' : Nat → Prop} {CX CX' : Nat → (Nat → Prop) → World → Rat → Prop} {rows : List (List Rat)} {piv : List Int} {δ δ' : Rat} {W W' : World} (h : WS B bw fs fd xd CX v pv L rows piv δ W) (k : KD (fun b => b ≠ bw) W W') (hb : BoxAt W' bw [v, pv, fs', fd'] 141) (cl' : CL xd' fs' fd' CX') (c' : CX' L' (KQ bw v pv) W' δ') (hx' : ∀ b, xd' b → b < B) : WS B bw fs' fd' xd' CX' v pv L' rows piv δ' W' := by
  refine ⟨cl', hb, ?_, h.p.ck k.ck (fun b e hh => h.pb (hh ▸ e)), c', h.hB, hx'⟩
  obtain ⟨qs, h1, h2⟩ := h.g
  exact ⟨qs, h1.ck k.ck fun b e hh => h.vb (hh ▸ e), h2.imp fun _ _ hq => okRowC.ck hq (k.ck.sub fun b hs => hs.1.2.1)⟩

set_option maxHeartbeats 400000 in
theorem det1_ok (bd lo L : Nat) (S : Nat → Prop) (δ : Rat) (w : World) (h : CXd bd lo L S w δ) (hu : Up S w) (hL : L + 1 < LY) :
    Calls Tryz.prog 130 #[.pointer (some ⟨bd, 0, none⟩)] w (fun e w' => e = .returned (.tuple #[]) ∧ KD (fun b => ¬ b = bd) w w' ∧ CXd bd lo L S w' (-δ)) := by
 have z0 := Ext.refl w; have hLX : LX = 17592186044416 := rfl; have hLY : LY = 8796093022208 := rfl
 obtain ⟨cs, hbd, hq, hs, hL1, hlo⟩ := h
 obtain ⟨m1, e1, f1, g1, m2, e2, f2, g2, rfl⟩ := hq.form
 have hqa := hq.qa hs; have lbd := hbd.lt
 have hu2 : ∀ W : World, w.heap.size ≤ W.heap.size → Up (fun b => S b ∧ b ≠ bd ∧ lo < b) W := fun W hW b hb => ⟨hu b (by omega), by omega, by omega⟩
 refine enter (args := [.pointer (some ⟨bd, 0, none⟩)]) Tryz.func130 rfl rfl (Nat.le_of_ble_eq_true rfl) ?_
 refine V.reg rfl ?_
 refine vv (rldb4 rfl ag48 hbd rfl rfl rfl rfl ) ?_
 refine vo ?_
 refine xcall e72 (fNeg_ok _ _ _ _ _ _ hqa (by omega) (by omega) (hu2 _ (by omega))) rfl rfl ?_
 rintro _ W2 ⟨_, rfl, x3, hq1⟩
 have s4 := x3.sz
 replace hbd := hbd.ext x3
 obtain ⟨_, _, _, _, _, _, _, _, rfl⟩ := hq1.form
 refine ⟨_, rfl, ?_⟩
 refine vo ?_
 refine sta (cs' := [_, _, _, _]) hbd rfl rfl sz48 rfl rfl rfl ?_
 intro W6 y7 hbd
 have s8 := y7.size
 refine vnil ?_
 refine ⟨[], trivial, ?_⟩
 exact ⟨rfl, (Ext.kd x3).trans (y7.kd fun h => h rfl), _, hbd, (hq1.ext (Ext.refl _)).ck (y7.ck (fun h => h.2.1 rfl)), sz_neg hs, by omega, by omega⟩
set_option maxHeartbeats 400000 in
theorem det2_ok (bd lo L M : Nat) (S : Nat → Prop) (δ : Rat) (q : List Value) (r : Rat) (w : World) (h : CXd bd lo L S w δ) (hu : Up S w) (hr : QA M TT w q r) (hM : 1 ≤ M) (hL : L + M + 1 < LY) :
    Calls Tryz.prog 131 #[.agg q.toArray, .pointer (some ⟨bd, 0, none⟩)] w (fun e w' => e = .returned (.tuple #[]) ∧ KD (fun b => ¬ b = bd) w w' ∧ CXd bd lo (L + M) S w' (δ * r)) := by
 have z0 := Ext.refl w; have hLX : LX = 17592186044416 := rfl; have hLY : LY = 8796093022208 := rfl
 obtain ⟨n1, a1, l1, c1, n2, a2, l2, c2, rfl⟩ := hr.form
 obtain ⟨cs, hbd, hq, hs, hL1, hlo⟩ := h
 obtain ⟨m1, e1, f1, g1, m2, e2, f2, g2, rfl⟩ := hq.form
 have hqa := hq.qa hs; have lbd := hbd.lt
 have hu2 : ∀ W : World, w.heap.size ≤ W.heap.size → Up (fun b => S b ∧ b ≠ bd ∧ lo < b) W := fun W hW b hb => ⟨hu b (by omega), by omega, by omega⟩
 refine enter (args := [.agg #[.bool n1, .slice a1 l1 c1, .bool n2, .slice a2 l2 c2], .pointer (some ⟨bd, 0, none⟩)]) Tryz.func131 rfl rfl (Nat.le_of_ble_eq_true rfl) ?_
 refine V.seq (V.reg rfl ?_)
 refine vo ?_
 refine bxa rfl ?_
 intro W1 x2 b3 nn4
 have s5 := x2.sz
 have z6 := x2
 replace hbd := hbd.ext x2
 refine vnil ?_
 refine V.reg rfl ?_
 refine vv (rldb4 rfl ag48 hbd rfl rfl rfl rfl ) ?_
 refine vv (rldb4 rfl ag48 b3 rfl rfl rfl rfl ) ?_
 refine vo ?_
 refine xcall e71 (fMul_ok _ _ _ _ _ _ _ _ _ _ (hqa.ext z6) (hr.ext z6) (by omega) (by omega) (by omega) (hu2 _ (by omega))) rfl rfl ?_
 rintro _ W8 ⟨_, rfl, x9, hq7⟩
 have s10 := x9.sz
 replace hbd := hbd.ext x9
 obtain ⟨_, _, _, _, _, _, _, _, rfl⟩ := hq7.form
 refine ⟨_, rfl, ?_⟩
 refine vo ?_
 refine sta (cs' := [_, _, _, _]) hbd rfl rfl sz48 rfl rfl rfl ?_
 intro W12 y13 hbd
 have s14 := y13.size
 refine vnil ?_
 refine ⟨[], trivial, ?_⟩
 exact ⟨rfl, (Ext.kd (x2.trans x9)).trans (y13.kd fun h => h rfl), _, hbd, (hq7.ext (Ext.refl _)).ck (y13.ck (fun h => h.2.1 rfl)), sz_mul hs (hr.sz' hM), by omega, by omega⟩

theorem CL.det (bd lo : Nat) : CL (fun b => b = bd) (.func (.func 130) #[] #[.pointer (some ⟨bd, 0, none⟩)]) (.func (.func 131) #[] #[.pointer (some ⟨bd, 0, none⟩)]) (CXd bd lo) where
  ck := fun {L S S' W W' δ} ⟨cs, h1, h2, h3, h4⟩ k hS hx => ⟨cs, h1.ck k (hx _ rfl), ((h2.sub (S' := fun b => (S b ∧ b ≠ bd ∧ lo < b) ∧ S' b) fun b hb hs => ⟨hs, hS b hb hs.1⟩).ck (k.sub fun b hs => hs.2)).sub (fun b _ hs => hs.1), h3, h4⟩
  sub := fun ⟨cs, h1, h2, h3, h4⟩ hS => ⟨cs, h1, h2.sub fun b hb hs => ⟨hS b hb hs.1, hs.2⟩, h3, h4⟩
  mono := fun ⟨cs, h1, h2, h3, h4, h5⟩ hL => ⟨cs, h1, h2, h3.mono hL, by omega, h5⟩
  sw := ⟨_, [.pointer (some ⟨bd, 0, none⟩)], rfl, e130, fun L S W δ h hu hL => det1_ok bd lo L S δ W h hu hL⟩
  dv := ⟨_, [.pointer (some ⟨bd, 0, none⟩)], rfl, e131, fun L M S W δ q r h hu hq hM hL => det2_ok bd lo L M S δ q r W h hu hq hM hL⟩
/-- What Det reckons. -/
def detS (rows : List (List Rat)) (n : Nat) : Rat := if (redS rows n).2.1.length < n then 0 else (redS rows n).2.2

set_option maxHeartbeats 400000 in
theorem sDet_ok (a1 : Option Addr) (n c L : Nat) (rss : List (List Rat)) (S S1 : Nat → Prop) (w : World) (hx : MA L S1 w a1 n c rss) (hl1 : 1 ≤ L) (hn : n ≤ 1024) (hc : colsN rss ≤ 1024) (hL5 : 15 * (L * 5 ^ colsN rss) + 2 < LY) (hu : Up S w) :
    Calls Tryz.prog 55 #[.slice a1 n c] w (fun e w' => ∃ q, e = .returned (.tuple #[.agg q.toArray, .int .i64 (if n = colsN rss then 0 else 13)]) ∧ Ext w w' ∧ QC S w' q (if n = colsN rss then detS (gridm (matI rss) n (colsN rss)) (colsN rss) else 0)) := by
 have z0 := Ext.refl w; have hLX : LX = 17592186044416 := rfl; have hLY : LY = 8796093022208 := rfl
 have hLV : LV = 1099511627776 := rfl
 have h51 : L * 1 ≤ L * 5 ^ colsN rss := Nat.mul_le_mul_left _ (Nat.pow_pos (by omega))
 refine enter (args := [.slice a1 n c]) Tryz.func55 rfl rfl (Nat.le_of_ble_eq_true rfl) ?_
 refine V.seq (V.reg rfl ?_)
 refine vo ?_
 refine xal zc48 ?_
 intro W1 x2 b3 nn4
 have s5 := x2.sz
 have z6 := x2
 refine asi rfl ?_
 refine vnil ?_
 refine V.seq ?_
 refine V.seq (V.reg rfl ?_)
 refine mvs rfl ?_
 refine vv (rlen sl22 rfl) ?_
 refine mvs rfl ?_
 refine vo ?_
 refine xcall e35 (mCols_ok _ _ _ _ _ _ _ (hx.ext z6)) rfl rfl ?_
 rintro _ W7 ⟨rfl, x8⟩
 have s9 := x8.sz
 have z10 := z6.trans x8
 replace b3 := b3.ext x8
 refine ⟨_, rfl, ?_⟩
 refine vne rfl rfl ?_ ?_
 ·intro c11
  refine vnil ?_
  refine V.condT rfl ?_
  refine V.seq (V.reg rfl ?_)
  refine vv (rbd (ps := []) (cs := [.bool false, .slice _ _ _, .bool false, .slice _ _ _]) pl48 rfl rfl) ?_
  refine vo ?_
  refine sta (cs' := [_, _, _, _]) b3 rfl rfl sz48 rfl rfl rfl ?_
  intro W12 y13 b3
  have z14 := z10.below (y13.below (by omega))
  have s15 := y13.size
  refine asi rfl ?_
  refine vnil ?_
  refine V.ret ?_
  refine ⟨[_, .int _ _], ⟨⟨_, rfl, lvb ag48 b3 rfl⟩, rfl, trivial⟩, ?_⟩
  rw [if_neg (show ¬ n = colsN rss by omega), if_neg (show ¬ n = colsN rss by omega)]
  exact ⟨_, rfl, z14, QC.zero S _⟩
 ·intro c11
  refine vnil ?_
  refine V.condF rfl ?_
  refine V.skip ?_
  refine V.seq (V.reg rfl ?_)
  refine vo ?_
  refine xcall e27 (fFrom_ok 1 (fun b => W7.heap.size ≤ b) _ (by omega) (fun b hb => hb)) rfl rfl ?_
  rintro _ W17 ⟨_, rfl, x18, hq16⟩
  have s19 := x18.sz
  have z20 := z10.trans x18
  replace b3 := b3.ext x18
  obtain ⟨_, _, _, _, _, _, _, _, rfl⟩ := hq16.form
  refine ⟨_, rfl, ?_⟩
  have hq1 := (hq16).sub (S' := fun b => b < W17.heap.size ∧ w.heap.size < b) (fun b hb hs => ⟨hb, by omega⟩)
  refine vo ?_
  refine xal zc48 ?_
  intro W22 x23 b24 nn25
  have s26 := x23.sz
  have z27 := z20.trans x23
  have z28 := x23
  replace b3 := b3.ext x23
  refine vo ?_
  refine sta (cs' := [_, _, _, _]) b24 rfl rfl sz48 rfl rfl rfl ?_
  intro W29 y30 b24
  have z31 := z27.below (y30.below (by omega))
  have z32 := z28.below (y30.below (by omega))
  replace b3 := b3.wr y30 (by omega)
  have s33 := y30.size
  refine vnil ?_
  refine V.seq (V.reg rfl ?_)
  refine mvs rfl ?_
  refine vo ?_
  refine xcall e123 (begin_ok _ _ _ L _ _ _ (hx.ext z31) (by omega) (by omega) (by omega) (by omega)) rfl rfl ?_
  rintro _ W35 ⟨bw, vw, rfl, x36, hbw, hbx, hbG⟩
  have s37 := x36.sz
  have z38 := z31.trans x36
  have z39 := z32.trans x36
  replace b3 := b3.ext x36
  replace b24 := b24.ext x36
  have hK0 := WS.begin hbx hbG hbw L; have lbw := hbx.lt
  refine ⟨_, rfl, ?_⟩
  obtain ⟨rows, hrows⟩ : ∃ r, r = gridm (matI rss) n (colsN rss) := ⟨_, rfl⟩
  have hrect : rect (colsN rss) rows := by rw [hrows]; exact gridm_rect _ _ _
  have hszr : szR L rows := by rw [hrows]; exact gridm_sz (fun i k => szMI (hx.ext z38) (by omega) _ _)
  have hrl : rows.length ≤ 1024 := by rw [hrows, len_gridm]; exact hn
  rw [← hrows] at hbG hK0
  have hK00 := hK0
  refine asp rfl ?_
  refine vnil ?_
  refine V.seq (V.reg rfl ?_)
  refine mvp rfl ?_
  refine vv (rmk1 (v := .pointer (some ⟨_, _, none⟩)) rfl) ?_
  refine vv (rnc (v := .pointer (some ⟨_, _, none⟩)) rfl rfl) ?_
  refine vv (rfa rfl fd141_2) ?_
  refine vo ?_
  refine st1 (v := .func _ _ _) (cs' := [_, _, _, _]) hbx rfl rfl sz1 rfl rfl rfl rfl ?_
  intro W41 y42 hbx
  have z43 := z38.below (y42.below (by omega))
  have z44 := z39.below (y42.below (by omega))
  replace b3 := b3.wr y42 (by omega)
  replace b24 := b24.wr y42 (by omega)
  have s46 := y42.size
  refine vnil ?_
  refine V.seq (V.reg rfl ?_)
  refine mvp rfl ?_
  refine vv (rmk1 (v := .pointer (some ⟨_, _, none⟩)) rfl) ?_
  refine vv (rnc (v := .pointer (some ⟨_, _, none⟩)) rfl rfl) ?_
  refine vv (rfa rfl fd141_3) ?_
  refine vo ?_
  refine st1 (v := .func _ _ _) (cs' := [_, _, _, _]) hbx rfl rfl sz139 rfl rfl rfl rfl ?_
  intro W47 y48 hbx
  have z49 := z43.below (y48.below (by omega))
  have z50 := z44.below (y48.below (by omega))
  replace b3 := b3.wr y48 (by omega)
  replace b24 := b24.wr y48 (by omega)
  have s52 := y48.size
  refine vnil ?_
  refine V.seq ?_
  refine V.seq (V.reg rfl ?_)
  refine mvp rfl ?_
  refine mvs rfl ?_
  refine vv (rlen sl22 rfl) ?_
  refine vo ?_
  obtain ⟨bd, ebd⟩ : ∃ b, b = W17.heap.size := ⟨_, rfl⟩
  have hbx1 := hbx; have hbd1 := b24; rw [← ebd] at hbx1 hbd1
  have hbB : bd < W29.heap.size := by omega
  have hq3 := (hq1.ext z50)
  have hS1 : WS W29.heap.size bw _ _ (fun b => b = bd) (CXd bd w.heap.size) vw (.slice none 0 0) L rows [] 1 W47 := hK00.re ((y42.kd fun h => h rfl).trans (y48.kd fun h => h rfl)) hbx1 (CL.det bd w.heap.size) ⟨_, hbd1, hq3.sub (fun b hb hs => ⟨hK00.kq (by omega), by omega, hs.2⟩), sz_one.mono hl1, hl1, by omega⟩ (fun b h => by subst h; exact hbB)
  refine xcall e125 (all5_ok _ bw _ _ _ _ vw L (colsN rss) (colsN rss) rows _ hS1 hrect hszr (by omega) (by omega) hL5 hrl (by omega)) rfl (by rw [show n = colsN rss by omega]; rfl) ?_
  rintro _ Wal ⟨pvw, rfl, kdal, hK, hpval⟩
  refine ⟨_, rfl, ?_⟩
  have hbl := hS1.below (B0 := w.heap.size) kdal (by omega) (fun b h => by subst h; omega); have szal := kdal.size
  have z53 := z49.below hbl
  replace b3 := b3.kd kdal ⟨b3.lt, by omega, (hS1.nb b3 (by decide) (by decide) (by omega)).2.1, by omega⟩
  obtain ⟨av, cv, rfl⟩ := hK.g.form; obtain ⟨ap, cp, rfl⟩ := hK.p.form
  obtain ⟨s, hs⟩ : ∃ s, s = redS rows (colsN rss) := ⟨_, rfl⟩; rw [← hs] at hK; have hall := redS_all hrect hszr (by omega) (colsN rss); rw [← hs] at hall; have hKx := hK.x; obtain ⟨cd, hbd, hqd, hsd, hLd⟩ := hK.c; have hql := hK.p.form
  obtain ⟨m1, e1, f1, g1, m2, e2, f2, g2, rfl⟩ := hqd.form
  subst ebd
  refine vv (rnc (v := .pointer (some ⟨_, _, none⟩)) rfl rfl) ?_
  refine vv (rfa rfl fd141_1) ?_
  refine vv (rldb (v := .slice ap _ cp) rfl sc73 hKx rfl) ?_
  refine vv (rlen sl73 rfl) ?_
  refine mvs rfl ?_
  refine vv (rlen sl22 rfl) ?_
  refine vlt rfl rfl ?_ ?_
  ·intro c57
   refine vnil ?_
   refine V.condT rfl ?_
   refine V.seq (V.reg rfl ?_)
   refine vv (rbd (ps := []) (cs := [.bool false, .slice _ _ _, .bool false, .slice _ _ _]) pl48 rfl rfl) ?_
   refine vo ?_
   refine sta (cs' := [_, _, _, _]) b3 rfl rfl sz48 rfl rfl rfl ?_
   intro W58 y59 b3
   have z60 := z53.below (y59.below (by omega))
   replace hKx := hKx.wr y59 (by omega)
   replace hbd := hbd.wr y59 (by omega)
   have s61 := y59.size
   refine asi rfl ?_
   refine vnil ?_
   refine V.ret ?_
   refine ⟨[_, .int _ _], ⟨⟨_, rfl, lvb ag48 b3 rfl⟩, rfl, trivial⟩, ?_⟩
   rw [if_pos (show n = colsN rss by omega), if_pos (show n = colsN rss by omega)]
   exact ⟨_, rfl, z60, by rw [← hrows, detS, ← hs, if_pos (by omega)]; exact QC.zero S _⟩
  ·intro c57
   refine vnil ?_
   refine V.condF rfl ?_
   refine V.skip ?_
   refine V.seq (V.reg rfl ?_)
   refine vv (rldb4 rfl ag48 hbd rfl rfl rfl rfl ) ?_
   refine vo ?_
   refine sta (cs' := [_, _, _, _]) b3 rfl rfl sz48 rfl rfl rfl ?_
   intro W62 y63 b3
   have z64 := z53.below (y63.below (by omega))
   replace hKx := hKx.wr y63 (by omega)
   replace hbd := hbd.wr y63 (by omega)
   have s65 := y63.size
   refine asi rfl ?_
   refine vnil ?_
   refine V.ret ?_
   refine ⟨[_, .int _ _], ⟨⟨_, rfl, lvb ag48 b3 rfl⟩, rfl, trivial⟩, ?_⟩
   rw [if_pos (show n = colsN rss by omega), if_pos (show n = colsN rss by omega)]
   refine ⟨_, rfl, z64, ?_⟩
   rw [← hrows, detS, ← hs, if_neg (by omega)]
   exact ((hqd.ext (Ext.refl _)).ck (y63.ck (fun h => by have := h.2.2; omega))).sub (fun b hb hs => hu b (by have := hs.2.2; omega))
end Go.Proofs.YtknbjfefeeojlaaGreat
/- Package solve: Inverse and the augmented matrix. -/
namespace Go.Proofs.YtknbjfefeeojlaaGreat
open Go.RowKit
attribute [local irreducible] RV VH V OpF Calls
def catM (rss mss : List (List Rat)) (R : Nat) : List (List Rat) := gridm (catI rss mss (colsN rss)) R (colsN rss + colsN mss)
def invS (rss : List (List Rat)) (n : Nat) : List (List Rat) × Int :=
  if n ≠ colsN rss then ([], 13)
  else if (redS (gridm (matI (catM rss (identm n) n)) n (colsN (catM rss (identm n) n))) n).2.1.length < n then ([], 8)
  else ((redS (gridm (matI (catM rss (identm n) n)) n (colsN (catM rss (identm n) n))) n).1.map (·.drop n), 0)
theorem MC.nil (S : Nat → Prop) (W : World) : MC S W none 0 0 [] := ⟨[], RS.nil _ _ _ _ _ (by omega), trivial⟩
theorem identm_rect (n : Nat) : rect n (identm n) := by
  intro r hr
  obtain ⟨i, _, rfl⟩ := List.mem_map.1 hr
  exact unitv_len _ _
theorem identm_len (n : Nat) : (identm n).length = n := by simp [identm]
theorem identm_sz (n : Nat) : szR 1 (identm n) := by
  intro r hr
  obtain ⟨i, _, rfl⟩ := List.mem_map.1 hr
  exact unitv_sz _ _
theorem colsN_rect {N : Nat} {rss : List (List Rat)} (h : rect N rss) : colsN rss = N ∨ rss = [] := by
  cases rss with
  | nil => exact .inr rfl
  | cons r l =>
    left
    have h1 : colsN (r :: l) ≤ N := colsN_le fun x hx => by rw [h x hx]; exact Nat.le_refl _
    have h2 := cols_ge (rss := r :: l) r (by simp)
    have h3 := h r (by simp)
    omega
theorem colsN_rect_le {N : Nat} {rss : List (List Rat)} (h : rect N rss) : colsN rss ≤ N := colsN_le fun x hx => by rw [h x hx]; exact Nat.le_refl _

set_option maxHeartbeats 400000 in
theorem sInverse_ok (a1 : Option Addr) (n c L : Nat) (rss : List (List Rat)) (S S1 : Nat → Prop) (w : World) (hx : MA L S1 w a1 n c rss) (hl1 : 1 ≤ L) (hn : n ≤ 512) (hc : colsN rss ≤ 1024) (hL5 : 15 * (L * 5 ^ n) + 2 < LY) (hu : Up S w) :
    Calls Tryz.prog 54 #[.slice a1 n c] w (fun e w' => ∃ ar nr cr, e = .returned (.tuple #[.slice ar nr cr, .int .i64 (invS rss n).2]) ∧ Ext w w' ∧ MC S w' ar nr cr (invS rss n).1) := by
 have z0 := Ext.refl w; have hLX : LX = 17592186044416 := rfl; have hLY : LY = 8796093022208 := rfl
 have hLV : LV = 1099511627776 := rfl
 have h51 : L * 1 ≤ L * 5 ^ n := Nat.mul_le_mul_left _ (Nat.pow_pos (by omega))
 refine enter (args := [.slice a1 n c]) Tryz.func54 rfl rfl (Nat.le_of_ble_eq_true rfl) ?_
 refine V.seq (V.reg rfl ?_)
 refine ass rfl ?_
 refine asi rfl ?_
 refine vnil ?_
 refine V.seq (V.reg rfl ?_)
 refine mvs rfl ?_
 refine vv (rlen sl22 rfl) ?_
 refine asi rfl ?_
 refine vnil ?_
 refine V.seq ?_
 refine V.seq (V.reg rfl ?_)
 refine mvi rfl ?_
 refine mvs rfl ?_
 refine vo ?_
 refine xcall e35 (mCols_ok _ _ _ _ _ _ _ hx) rfl rfl ?_
 rintro _ W1 ⟨rfl, x2⟩
 have s3 := x2.sz
 have z4 := x2
 refine ⟨_, rfl, ?_⟩
 refine vne rfl rfl ?_ ?_
 ·intro c5
  refine vnil ?_
  refine V.condT rfl ?_
  refine V.seq (V.reg rfl ?_)
  refine ass rfl ?_
  refine asi rfl ?_
  refine vnil ?_
  refine V.ret ?_
  refine ⟨[.slice _ _ _, .int _ _], ⟨rfl, rfl, trivial⟩, ?_⟩
  unfold invS; rw [if_pos (by omega)]
  exact ⟨_, _, _, rfl, z4, MC.nil _ _⟩
 ·intro c5
  refine vnil ?_
  refine V.condF rfl ?_
  refine V.skip ?_
  refine V.seq (V.reg rfl ?_)
  refine mvs rfl ?_
  refine mvi rfl ?_
  refine vo ?_
  refine xcall e47 (mIdent_ok _ n TT _ (by omega) (TT.up _)) rfl rfl ?_
  rintro _ W6 ⟨_, ni, _, rfl, x7, hid⟩
  have s8 := x7.sz
  have z9 := z4.trans x7
  have hida := hid.ma (identm_sz n); have hidl := hid.len; rw [identm_len] at hidl; have hic := colsN_rect_le (identm_rect n)
  refine ⟨_, rfl, ?_⟩
  refine vo ?_
  obtain ⟨CM, hCM⟩ : ∃ c, c = catM rss (identm n) n := ⟨_, rfl⟩
  refine xcall e84 (mConcat_ok _ _ _ _ _ _ L 1 rss (identm n) TT S1 TT _ (hx.ext z9) ((hid).ma (identm_sz n)) (by omega) (by omega) (by omega) (by omega) (by omega) (by omega) (by omega) (TT.up _)) rfl rfl ?_
  rintro _ W10 ⟨_, nc, _, rfl, x11, hcm⟩
  have s12 := x11.sz
  have z13 := z9.trans x11
  have hcml := hcm.len; rw [len_gridm] at hcml
  obtain rfl : n = nc := by omega
  have hcmM := hcm; rw [show max n ni = n by omega, show gridm (catI rss (identm n) (colsN rss)) n (colsN rss + colsN (identm n)) = CM from hCM.symm] at hcmM
  have hcma := hcmM.ma (L := L) (by rw [hCM]; exact gridm_sz fun i k => szCat (hx.ext z13) (((hid.ext x11)).ma (identm_sz n)) (by omega) (by omega) (by omega) _ _ _)
  have hcC : colsN CM = (colsN rss + colsN (identm n)) * min n 1 := by rw [hCM]; exact colsN_gridm _ _ _
  have hcC2 : colsN CM ≤ 1024 ∧ n ≤ colsN CM := by rcases Nat.eq_zero_or_pos n with h | h; rw [hcC, h]; simp; rw [hcC, Nat.min_eq_right h]; omega
  refine ⟨_, rfl, ?_⟩
  refine vo ?_
  refine xcall e123 (begin_ok _ _ _ L _ _ _ hcma (by omega) (by omega) (by omega) (by omega)) rfl rfl ?_
  rintro _ W15 ⟨bw, vw, rfl, x16, hbw, hbx, hbG⟩
  have s17 := x16.sz
  have z18 := z13.trans x16
  have z19 := x16
  have hK0 := WS.begin hbx hbG hbw L; have lbw := hbx.lt
  refine ⟨_, rfl, ?_⟩
  obtain ⟨rows, hrows⟩ : ∃ r, r = gridm (matI CM) n (colsN CM) := ⟨_, rfl⟩
  have hrect : rect (colsN CM) rows := by rw [hrows]; exact gridm_rect _ _ _
  have hszr : szR L rows := by rw [hrows]; exact gridm_sz (fun i k => szMI (hcma.ext z19) (by omega) _ _)
  have hrl : rows.length ≤ 1024 := by rw [hrows, len_gridm]; omega
  have hrln : rows.length = n := by rw [hrows, len_gridm]
  rw [← hrows] at hbG hK0
  refine mvi rfl ?_
  refine vo ?_
  have hS1 := hK0
  refine xcall e125 (all5_ok _ bw _ _ _ _ vw L (colsN CM) n rows _ hS1 hrect hszr (by omega) (by omega) hL5 hrl (by omega)) rfl rfl ?_
  rintro _ Wal ⟨pvw, rfl, kdal, hK, hpval⟩
  refine ⟨_, rfl, ?_⟩
  have hbl := hS1.below (B0 := W10.heap.size) kdal (Nat.le_refl _) (fun _ h => h.elim); have szal := kdal.size
  have z20 := z18.below (hbl.mono (by omega))
  obtain ⟨av, cv, rfl⟩ := hK.g.form; obtain ⟨ap, cp, rfl⟩ := hK.p.form
  obtain ⟨s, hs⟩ : ∃ s, s = redS rows n := ⟨_, rfl⟩; rw [← hs] at hK; have hall := redS_all hrect hszr (by omega) n; rw [← hs] at hall; have hKx := hK.x; have hKm := (hK.mc rfl).max; have hKq := (hK.pn rfl).cap; have hKq2 := (hK.pn rfl).max
  refine asp rfl ?_
  refine vnil ?_
  refine V.seq ?_
  refine V.seq (V.reg rfl ?_)
  refine mvp rfl ?_
  refine vv (rnc (v := .pointer (some ⟨_, _, none⟩)) rfl rfl) ?_
  refine vv (rfa rfl fd141_1) ?_
  refine vv (rldb (v := .slice ap _ cp) rfl sc73 hKx rfl) ?_
  refine vv (rlen sl73 rfl) ?_
  refine mvi rfl ?_
  refine vlt rfl rfl ?_ ?_
  ·intro c23
   refine vnil ?_
   refine V.condT rfl ?_
   refine V.seq (V.reg rfl ?_)
   refine ass rfl ?_
   refine asi rfl ?_
   refine vnil ?_
   refine V.ret ?_
   refine ⟨[.slice _ _ _, .int _ _], ⟨rfl, rfl, trivial⟩, ?_⟩
   have ei : invS rss n = ([], 8) := by unfold invS; rw [if_neg (by omega), ← hCM, ← hrows, ← hs, if_pos (by omega)]
   rw [ei]
   exact ⟨_, _, _, rfl, z20, MC.nil _ _⟩
  ·intro c23
   refine vnil ?_
   refine V.condF rfl ?_
   refine V.skip ?_
   refine V.seq (V.reg rfl ?_)
   refine ass rfl ?_
   refine vnil ?_
   refine V.seq ?_
   refine V.seq (V.reg rfl ?_)
   refine mvp rfl ?_
   refine vv (rnc (v := .pointer (some ⟨_, _, none⟩)) rfl rfl) ?_
   refine vv (rfa rfl fd141_0) ?_
   refine vv (rldb (v := .slice av _ cv) rfl sc22 hKx rfl) ?_
   refine vv (rlen sl22 rfl) ?_
   refine mvi rfl ?_
   refine vnil ?_
   refine V.block ?_
   have hM2 := ((hK).fin (S := fun b => b < Wal.heap.size ∧ w.heap.size ≤ b) (fun b hb hb2 => ⟨hb2, by omega⟩)).1
   have hnr : s.1.length = n := by omega
   refine V.loopK (ι := Nat × Value) [(2, .slice _ _ _), (3, .int _ _), (4, .int _ _), (32, .slice av _ cv), (33, .int _ _)] (fun ⟨k, v⟩ => [(34, .int .i64 (k : Int)), (6, v)]) (fun ⟨k, v⟩ W => Ext Wal W ∧ k ≤ n ∧ GO 1 (RowOf GC) S Wal.heap.size W 23 v ((s.1.take k).map (·.drop n))) (fun ⟨k, v⟩ => n - k) ((0, _)) ⟨rfl, rfl, rfl, rfl, rfl, trivial⟩ ⟨rfl, rfl, trivial⟩ ⟨Ext.refl _, Nat.zero_le _, GO.nil _ _⟩ ?_
   intro i25 E26 W24 h27
   obtain ⟨k, v⟩ := i25
   simp only at h27
   show V _ _ _ _ _ _ (ups (ups _ _) [(34, .int .i64 (k : Int)), (6, v)]) _
   obtain ⟨x28, hk, hO⟩ := h27
   have s29 := x28.sz
   have z30 := z20.trans x28
   have z32 := x28
   replace hKx := hKx.ext x28
   refine V.seq (V.reg rfl ?_)
   refine vlt rfl rfl ?_ ?_
   ·intro c33
    refine vnil ?_
    refine V.seq ?_
    refine V.condT rfl ?_
    refine V.skip ?_
    refine V.seq ?_
    refine V.block ?_
    refine V.seq (V.reg rfl ?_)
    refine vv (rix sl22 sz23 rfl rfl (by omega) (by omega) ((hM2.ext z32).isS (i := 0) (by omega) (by omega))) ?_
    refine vldRow (hM2.ext z32) rfl sc23 (by omega) (by omega) ?_
    intro a34 n35 c36 hg37
    have hg37l := hg37.len; have hg37m := hg37.max
    refine ass rfl ?_
    refine vnil ?_
    refine V.reg rfl ?_
    refine vv (rmv (v := v) rfl) ?_
    refine mvs rfl ?_
    refine mvi rfl ?_
    have hrn : (rowat s.1 ((k : Nat) : Int).toNat).length = colsN CM := hall.2.2.1.row (by omega)
    have hcut := (hg37).cut (l := n) (m := n35) (by omega) (by omega)
    refine vv (rsl0 (l := n) sl23 sz48 rfl rfl rfl (by omega)) ?_
    refine vo ?_
    refine xbs (ps := [(0, .slice _ _ _)]) (cs := [.slice _ _ _]) sl22 zr23 sz23 rfl rfl rfl rfl rfl rfl ?_
    intro W39 x40 b41 nn42
    have s43 := x40.sz
    have z46 := z32.trans x40
    have z47 := x40
    replace hKx := hKx.ext x40
    replace hO := hO.ext okRowC x40
    refine vo ?_
    refine xappG okRowC sl22 in23 rfl rfl hO rfl rfl b41 rfl rfl ((⟨_, _, _, rfl, (((hcut.ext z47)).sub (S' := SO S v) (fun b hb hs => ⟨hu b hs.2, hO.old b hs.1⟩)).cast (by rw [List.take_of_length_le (by omega)]; rfl)⟩ : RowOf GC _ _ _ ((rowat s.1 k).drop n))) (by simp; omega) (by decide) (by omega) ?_
    intro v48 W49 hO50 hg51
    have y52 := hg51.below; have s53 := y52.size
    have z56 := z46.below (y52.mono (by omega))
    refine vv (ras (v := v48) rfl) ?_
    refine vnil ?_
    refine V.reg rfl ?_
    refine vv (rbin (bAdd (wi (by omega))) rfl rfl) ?_
    refine mvi rfl ?_
    refine vnil ?_
    refine ⟨rfl, (k + 1, _), ⟨rfl, rfl, rfl, rfl, rfl, trivial⟩, ⟨rfl, rfl, trivial⟩, ⟨z56, by omega, by rw [take_rowG (·.drop n) s.1 k (by omega)]; exact hO50⟩, ?_⟩
    show n - (k + 1) < n - k
    omega
   ·intro c33
    refine vnil ?_
    refine V.seq ?_
    refine V.condF rfl ?_
    refine V.exit ?_
    refine V.seq (V.reg rfl ?_)
    refine vv (rmv (v := v) rfl) ?_
    refine vv (ras (v := v) rfl) ?_
    refine asi rfl ?_
    refine vnil ?_
    refine V.ret ?_
    refine ⟨[v, .int _ _], ⟨rfl, rfl, trivial⟩, ?_⟩
    have ei : invS rss n = (s.1.map (·.drop n), 0) := by unfold invS; rw [if_neg (by omega), ← hCM, ← hrows, ← hs, if_neg (by omega)]
    rw [ei]
    obtain ⟨a', c', rfl⟩ := hO.form
    have hfin := hO.fin okRowC (fun b hb _ => hu b (by omega))
    rw [List.take_of_length_le (by omega)] at hfin ⊢
    exact ⟨_, _, _, rfl, z30, hfin⟩
end Go.Proofs.YtknbjfefeeojlaaGreat
/- Package solve: the augmented matrix. -/
namespace Go.Proofs.YtknbjfefeeojlaaGreat
open Go.RowKit
attribute [local irreducible] RV VH V OpF Calls
def wideF (rss : List (List Rat)) (bs : List Rat) (N : Nat) (i k : Int) : Rat := if k < N then matI rss i k else vat bs i.toNat
/-- The augmented matrix, of M rows and N + 1 columns. -/
def wideM (rss : List (List Rat)) (bs : List Rat) (M N : Nat) : List (List Rat) := gridm (wideF rss bs N) M (N + 1)
theorem gridm_congr {f g : Int → Int → Rat} {R C : Nat} (h : ∀ i k : Nat, i < R → k < C → f i k = g i k) : gridm f R C = gridm g R C := by
  unfold gridm
  refine List.map_congr_left fun i hi => ?_
  exact List.map_congr_left fun k hk => h i k (List.mem_range.1 hi) (List.mem_range.1 hk)
theorem wide_eq (rss : List (List Rat)) (bs : List Rat) (M N : Nat) :
    gridm (catI (gridm (matI rss) M N) (gridm (fun i k => matI [resz bs M] k i) (colsN [resz bs M]) 1) (colsN (gridm (matI rss) M N))) (max M (colsN [resz bs M])) (colsN (gridm (matI rss) M N) + colsN (gridm (fun i k => matI [resz bs M] k i) (colsN [resz bs M]) 1)) = wideM rss bs M N := by
  have hc : colsN [resz bs M] = M := by simp [colsN, resz_len]
  rw [hc, Nat.max_self, colsN_gridm, colsN_gridm]
  rcases Nat.eq_zero_or_pos M with h0 | h0
  · subst h0; rfl
  · rw [Nat.min_eq_right h0, Nat.mul_one, Nat.mul_one, wideM]
    refine gridm_congr fun i k hi hk => ?_
    unfold catI wideF
    split
    · rename_i hlt
      rw [matI_nat, matI_nat, mat_gridm, if_pos ⟨hi, by omega⟩, matI_nat]
    · rename_i hge
      have hk2 : k = N := by omega
      subst hk2
      rw [show (k : Int) - (k : Int) = ((0 : Nat) : Int) by omega, matI_nat, mat_gridm, if_pos ⟨hi, by omega⟩, matI_nat]
      show vat (resz bs M) i = vat bs ((i : Int)).toNat
      rw [Int.toNat_natCast]
      unfold resz; simp [vat, hi]
theorem wideF_sz {L : Nat} {rss : List (List Rat)} {bs : List Rat} {N : Nat} (h1 : ∀ r ∈ rss, szV L r) (h2 : szV L bs) (hL : 1 ≤ L) (i k : Int) : sz L (wideF rss bs N i k) := by
  unfold wideF matI
  split
  · split
    · exact (show szR L rss from h1).at hL _ _
    · exact sz_zero.mono hL
  · exact szV_at h2 hL _


theorem resz_sz {L : Nat} {bs : List Rat} (h : szV L bs) (hL : 1 ≤ L) (k : Nat) : szV L (resz bs k) := by
  intro r hr
  unfold resz at hr
  obtain ⟨i, _, rfl⟩ := List.mem_map.1 hr
  exact szV_at h hL i


theorem szR.matI {L : Nat} {rows : List (List Rat)} (h : szR L rows) (hL : 1 ≤ L) (i k : Int) : sz L (Proofs.YtknbjfefeeojlaaGreat.matI rows i k) := by
  unfold Proofs.YtknbjfefeeojlaaGreat.matI
  split
  · exact h.at hL _ _
  · exact sz_zero.mono hL

set_option maxHeartbeats 400000 in
theorem sWide_ok (a1 a2 : Option Addr) (n c m d L : Nat) (rss : List (List Rat)) (bs : List Rat) (S S1 S2 : Nat → Prop) (w : World) (hx : MA L S1 w a1 n c rss) (hy : GA L S2 w a2 m d bs) (hl1 : 1 ≤ L) (hL : L < LY) (hn : n ≤ 1000) (hm : m ≤ 1000) (hc : colsN rss ≤ 1000) (hu : Up S w) :
    Calls Tryz.prog 124 #[.slice a1 n c, .slice a2 m d] w (fun e w' => ∃ ra rk rc, e = .returned (.slice ra rk rc) ∧ Ext w w' ∧ MC S w' ra rk rc (wideM rss bs (max n m) (colsN rss))) := by
 have z0 := Ext.refl w; have hLX : LX = 17592186044416 := rfl; have hLY : LY = 8796093022208 := rfl
 have hLV : LV = 1099511627776 := rfl
 refine enter (args := [.slice a1 n c, .slice a2 m d]) Tryz.func124 rfl rfl (Nat.le_of_ble_eq_true rfl) ?_
 refine V.seq (V.reg rfl ?_)
 refine ass rfl ?_
 refine vnil ?_
 refine V.seq (V.reg rfl ?_)
 refine mvs rfl ?_
 refine mvs rfl ?_
 refine vv (rlen sl22 rfl) ?_
 refine mvs rfl ?_
 refine vv (rlen sl23 rfl) ?_
 refine vv (rmax rfl rfl (show max (n : Int) (m : Int) = ((max n m : Nat) : Int) by omega)) ?_
 refine mvs rfl ?_
 refine vo ?_
 refine xcall e35 (mCols_ok _ _ _ _ _ _ _ hx) rfl rfl ?_
 rintro _ W1 ⟨rfl, x2⟩
 have s3 := x2.sz
 have z4 := x2
 refine ⟨_, rfl, ?_⟩
 refine vo ?_
 refine xcall e43 (mResize_ok _ _ _ _ _ (max n m) (colsN rss) L rss TT S1 _ (hx.ext z4) (by omega) (by omega) hL hl1 (fun i k => szMI (hx.ext z4) hl1 _ _) (TT.up _)) rfl rfl ?_
 rintro _ W5 ⟨_, nz, _, rfl, x6, hrz⟩
 have s7 := x6.sz
 have z8 := z4.trans x6
 have hrl := hrz.len; rw [len_gridm] at hrl
 refine ⟨_, rfl, ?_⟩
 refine mvs rfl ?_
 refine mvs rfl ?_
 refine vv (rlen sl22 rfl) ?_
 refine mvs rfl ?_
 refine vv (rlen sl23 rfl) ?_
 refine vv (rmax rfl rfl (show max (n : Int) (m : Int) = ((max n m : Nat) : Int) by omega)) ?_
 refine vo ?_
 refine xcall e19 (vResize_ok _ _ _ _ (max n m) L bs TT S2 _ (hy.ext z8) (by omega) hL hl1 (TT.up _)) rfl rfl ?_
 rintro _ W9 ⟨_, nv, _, rfl, x10, hvr⟩
 have s11 := x10.sz
 have z12 := z8.trans x10
 refine ⟨_, rfl, ?_⟩
 refine vo ?_
 refine xbs (ps := [(0, .slice _ _ _)]) (cs := [.slice _ _ _]) sl22 zr23 sz23 rfl rfl rfl rfl rfl rfl ?_
 intro W13 x14 b15 nn16
 have s17 := x14.sz
 have z18 := z12.trans x14
 refine vo ?_
 have hlit : MC TT W13 (some ⟨W9.heap.size, 0, none⟩) 1 1 [resz bs (max n m)] := ⟨[[.slice _ _ _]], RS.lit (S := TT) _ b15 rfl (by simp) trivial rfl (by omega), ⟨_, _, _, rfl, (hvr.ext x14)⟩, trivial⟩
 have hcl : colsN [resz bs (max n m)] = max n m := by simp [colsN, resz_len]
 have hlz : ∀ r ∈ [resz bs (max n m)], szV L r := by intro r hr; simp only [List.mem_singleton] at hr; subst hr; exact resz_sz (hy.szv hl1) hl1 _
 refine xcall e45 (mTr_ok _ _ _ L _ TT TT _ ((hlit).ma hlz) (by omega) (by omega) (by omega) (by omega) (TT.up _)) rfl rfl ?_
 rintro _ W20 ⟨_, nt, _, rfl, x21, htr⟩
 have s22 := x21.sz
 have z23 := z18.trans x21
 have htl := htr.len; rw [len_gridm, hcl] at htl
 refine ⟨_, rfl, ?_⟩
 refine vo ?_
 have hca : colsN (gridm (matI rss) (max n m) (colsN rss)) ≤ colsN rss := colsN_rect_le (gridm_rect _ _ _)
 have hct : colsN (gridm (fun i k => matI [resz bs (max n m)] k i) (colsN [resz bs (max n m)]) 1) ≤ 1 := colsN_rect_le (gridm_rect _ _ _)
 refine xcall e84 (mConcat_ok _ _ _ _ _ _ L L _ _ S TT TT _ (((hrz.ext ((x10.trans x14).trans x21))).ma (gridm_sz fun i k => szMI (hx.ext z23) hl1 _ _)) ((htr).ma (gridm_sz fun i k => (show szR L [resz bs (max n m)] from hlz).matI hl1 _ _)) (by omega) (by omega) (by omega) (by omega) (by omega) (by omega) (by omega) (hu.mono (by omega))) rfl rfl ?_
 rintro _ W25 ⟨_, nc, _, rfl, x26, hcm⟩
 have s27 := x26.sz
 have z28 := z23.trans x26
 refine ⟨_, rfl, ?_⟩
 refine ass rfl ?_
 refine vnil ?_
 refine V.ret ?_
 refine ⟨[.slice _ _ _], ⟨rfl, trivial⟩, ?_⟩
 refine ⟨_, _, _, rfl, z28, ?_⟩
 have h := hcm
 rw [show max nz nt = max (max n m) (colsN [resz bs (max n m)]) by omega, wide_eq] at h
 exact h
end Go.Proofs.YtknbjfefeeojlaaGreat
/- Loops that leave records behind; the basis of the null space, as it is reckoned. -/
namespace Go.Proofs.YtknbjfefeeojlaaGreat
open Go.RowKit
section
variable {r : Option Nat} {P : Program} {N : Nat} {ds : List Deferred} {Q : EQ} {E : Env} {W : World}
theorem V.loopD {c : Code} {ι : Type} (F : List (Nat × Value)) (L : ι → List (Nat × Value)) (I : ι → List Deferred → World → Prop) (μ : ι → Nat) (i₀ : ι) (hF : agree E F) (h₀ : agree E (L i₀)) (hI : I i₀ ds W)
    (round : ∀ i E0 ds W, I i ds W → V r P N ds c (thenV (fun E' ds' W' => ∃ j, agree E' F ∧ agree E' (L j) ∧ I j ds' W' ∧ μ j < μ i) Q) (ups (ups E0 F) (L i)) W) : V r P N ds (.loop c) Q E W := fun a hrep hd => by
  let p : Act → World → Nat → Prop := fun a W m => ∃ i E, Rep N a E ∧ agree E (L i ++ F) ∧ I i a.defers W ∧ μ i = m
  refine wpIn_loop (fun a W => ∃ m, p a W m) (fun a W => leastOf (p a W)) ⟨_, i₀, E, hrep, agree_append h₀ hF, by rw [hd]; exact hI, rfl⟩ ?_
  rintro a W ⟨m, hm⟩
  obtain ⟨i, E, hrep, hag, hI, hmu⟩ := (leastOf_spec hm).1
  have hr := round i E a.defers W hI
  rw [← ups_append, ups_agree hag] at hr
  refine wpIn_mono (hr a hrep rfl) fun x a' W' hx => ?_
  obtain ⟨E', h1, h2⟩ := hx
  cases x with
  | normal =>
    obtain ⟨j, hj1, hj2, hIj, hlt⟩ := h2
    have hp : p a' W' (μ j) := ⟨j, E', h1, agree_append hj2 hj1, hIj, rfl⟩
    exact ⟨⟨_, hp⟩, by have := (leastOf_spec hp).2 _ hp; omega⟩
  | _ => exact ⟨E', h1, h2⟩
/-- Records of loops that are over. -/
structure MkO (B : Nat) (Ds : List Nat) (W : World) : Prop where
  at' : ∀ D ∈ Ds, B ≤ D ∧ W.heap[D]? = some (.deferred (some []))
  nd : Ds.Nodup
theorem MkO.nil (B : Nat) (W : World) : MkO B [] W := ⟨by simp, List.nodup_nil⟩
theorem MkO.ext {B : Nat} {Ds : List Nat} {W W' : World} (h : MkO B Ds W) (x : Ext W W') : MkO B Ds W' := ⟨fun D hD => ⟨(h.at' D hD).1, (x.block _ (Array.getElem?_eq_some_iff.1 (h.at' D hD).2).1).trans (h.at' D hD).2⟩, h.nd⟩
theorem MkO.kb {B B' : Nat} {Ds : List Nat} {W W' : World} (h : MkO B Ds W) (x : KB B' W W') : MkO B Ds W' := ⟨fun D hD => ⟨(h.at' D hD).1, x.recs _ _ (h.at' D hD).2 rfl⟩, h.nd⟩
theorem MkO.cons {B D : Nat} {Ds : List Nat} {W : World} (h : MkO B Ds W) (hD : W.heap[D]? = some (.deferred (some []))) (hB : B ≤ D) (hn : D ∉ Ds) : MkO B (D :: Ds) W := ⟨fun D' h' => by
  rcases List.mem_cons.1 h' with rfl | h'
  · exact ⟨hB, hD⟩
  · exact h.at' D' h', List.nodup_cons.2 ⟨hn, h.nd⟩⟩
theorem MkO.lt {B : Nat} {Ds : List Nat} {W : World} (h : MkO B Ds W) : ∀ D ∈ Ds, D < W.heap.size := fun D hD => (Array.getElem?_eq_some_iff.1 (h.at' D hD).2).1
theorem Lv_all {fn : Func} {Rr : Ending → World → Prop} {B : Nat} : ∀ {Ds : List Nat} {W : World}, MkO B Ds W → (∀ W', Tn B W W' → ∃ vs, Res P E W' fn.results.toList vs ∧ Rr (.returned (one vs)) W') → Lv P fn Rr E (Ds.map mark) W
  | [], W, _, h => h W (Tn.of_ext (Ext.refl _) B)
  | D :: Ds, W, hm, h => by
    have hD := hm.at' D (by simp)
    have hn := List.nodup_cons.1 hm.nd
    have t := Tn.putObj (B := B) (.deferred none) hD.2 hD.1 rfl
    refine ⟨D, rfl, hD.2, Lv_all ⟨fun D' h' => ⟨(hm.at' D' (by simp [h'])).1, ?_⟩, hn.2⟩ fun W' t' => h W' (t.trans t')⟩
    have hne : D' ≠ D := fun e => hn.1 (by rw [← e]; exact h')
    exact (World.putObj_heap_other hne).trans (hm.at' D' (by simp [h'])).2
end
/-! ### The basis of the null space -/
/-- For each column: the row of its pivot, plus one. -/
def pvA (piv : List Int) (N : Nat) : Nat → List Int
  | 0 => List.replicate N 0
  | i + 1 => (pvA piv N i).set (wd piv i).toNat ((i : Int) + 1)
theorem pvA_len (piv : List Int) (N i : Nat) : (pvA piv N i).length = N := by induction i with
  | zero => simp [pvA]
  | succ i ih => simp [pvA, ih]
theorem pvA_pos (piv : List Int) (N : Nat) (hp : ∀ j, j < piv.length → 0 ≤ wd piv j ∧ wd piv j < N) (k : Nat) (hk : k < N) : ∀ i, i ≤ piv.length → (0 < wd (pvA piv N i) k ↔ ∃ j, j < i ∧ wd piv j = k)
  | 0, _ => by
    have : wd (pvA piv N 0) k = 0 := by simp [pvA, wd, hk]
    rw [this]; simp
  | i + 1, hi => by
    have ih := pvA_pos piv N hp k hk i (by omega)
    have hpi := hp i (by omega)
    have e : wd (pvA piv N (i + 1)) k = if wd piv i = k then (i : Int) + 1 else wd (pvA piv N i) k := by
      show wd ((pvA piv N i).set (wd piv i).toNat ((i : Int) + 1)) k = _
      have hl := pvA_len piv N i
      by_cases h : wd piv i = k
      · rw [if_pos h, h]; simp [wd, hl, hk]
      · rw [if_neg h]
        have h2 : (wd piv i).toNat ≠ k := fun e => h (by omega)
        simp only [wd, Int.toNat_natCast]
        rw [List.getD_eq_getElem?_getD, List.getElem?_set_ne (by simpa [wd] using h2), ← List.getD_eq_getElem?_getD]
    rw [e]
    split
    · rename_i h; exact ⟨fun _ => ⟨i, by omega, h⟩, fun _ => by omega⟩
    · rename_i h
      rw [ih]
      refine ⟨fun ⟨j, h1, h2⟩ => ⟨j, by omega, h2⟩, fun ⟨j, h1, h2⟩ => ⟨j, ?_, h2⟩⟩
      rcases Nat.lt_succ_iff_lt_or_eq.1 h1 with h3 | rfl
      · exact h3
      · exact absurd h2 h
theorem wd_mem {piv : List Int} {k : Int} : (∃ j, j < piv.length ∧ wd piv j = k) ↔ k ∈ piv := by
  constructor
  · rintro ⟨j, hj, rfl⟩
    simp [wd, hj]
  · intro h
    obtain ⟨j, hj⟩ := List.getElem?_of_mem h
    have hl := (List.getElem?_eq_some_iff.1 hj).1
    refine ⟨j, hl, ?_⟩
    simp only [wd, Int.toNat_natCast]; rw [List.getD_eq_getElem?_getD, hj]; rfl
/-- The vector of the free column k, after i pivots. -/
def nvec (rows : List (List Rat)) (piv : List Int) (N k : Nat) : Nat → List Rat
  | 0 => unitv N k
  | i + 1 => (nvec rows piv N k i).set (wd piv i).toNat (-(mat rows i k))
def nullL (rows : List (List Rat)) (piv : List Int) (N : Nat) : Nat → List (List Rat)
  | 0 => []
  | k + 1 => if (k : Int) ∈ piv then nullL rows piv N k else nullL rows piv N k ++ [nvec rows piv N k piv.length]
theorem nullL_len (rows : List (List Rat)) (piv : List Int) (N k : Nat) : (nullL rows piv N k).length ≤ k := by induction k with
  | zero => simp [nullL]
  | succ k ih =>
    unfold nullL
    split
    · omega
    · rw [List.length_append, List.length_singleton]; omega
/-- The null space. -/
def nullS (rss : List (List Rat)) (n : Nat) : List (List Rat) := nullL (redS (gridm (matI rss) n (colsN rss)) (colsN rss)).1 (redS (gridm (matI rss) n (colsN rss)) (colsN rss)).2.1 (colsN rss) (colsN rss)
/-- The pivots are columns, in increasing order. -/
theorem redS_piv (rows : List (List Rat)) : ∀ n, (∀ j, j < (redS rows n).2.1.length → ∃ k : Nat, wd (redS rows n).2.1 j = (k : Int) ∧ k < n) ∧ ∀ i j, i < j → j < (redS rows n).2.1.length → wd (redS rows n).2.1 i < wd (redS rows n).2.1 j
  | 0 => ⟨fun j hj => by simp [redS] at hj, fun i j _ hj => by simp [redS] at hj⟩
  | n + 1 => by
    obtain ⟨h1, h2⟩ := redS_piv rows n
    unfold redS colS
    split
    · have e1 : ∀ j, j < (redS rows n).2.1.length → wd ((redS rows n).2.1 ++ [(n : Int)]) j = wd (redS rows n).2.1 j := fun j hj => by
        simp only [wd, Int.toNat_natCast]; rw [List.getD_eq_getElem?_getD, List.getElem?_append_left hj, ← List.getD_eq_getElem?_getD]
      have e2 : wd ((redS rows n).2.1 ++ [(n : Int)]) (((redS rows n).2.1.length : Nat) : Int) = n := by
        simp [wd]
      refine ⟨fun j hj => ?_, fun i j hij hj => ?_⟩
      · simp only [List.length_append, List.length_singleton] at hj
        rcases Nat.lt_succ_iff_lt_or_eq.1 hj with h | rfl
        · obtain ⟨k, h3, h4⟩ := h1 j h; exact ⟨k, by rw [e1 j h]; exact h3, by omega⟩
        · exact ⟨n, e2, by omega⟩
      · simp only [List.length_append, List.length_singleton] at hj
        rcases Nat.lt_succ_iff_lt_or_eq.1 hj with h | rfl
        · rw [e1 i (by omega), e1 j h]; exact h2 i j hij h
        · obtain ⟨k, h3, h4⟩ := h1 i hij
          rw [e1 i hij]
          have e3 := e2
          simp only [] at e3 ⊢
          omega
    · exact ⟨fun j hj => by obtain ⟨k, h3, h4⟩ := h1 j hj; exact ⟨k, h3, by omega⟩, h2⟩
end Go.Proofs.YtknbjfefeeojlaaGreat
/- The reduced row echelon form: plain mathematics. -/
namespace Go.Proofs.YtknbjfefeeojlaaGreat
/-! ### Entries -/
def sw (p d i : Nat) : Nat := if i = d then p else if i = p then d else i
theorem mat_swapR {rows : List (List Rat)} {p d i k : Nat} (hp : p < rows.length) (hd : d < rows.length) (hi : i < rows.length) : mat (swapR rows p d) i k = mat rows (sw p d i) k := by
  unfold mat swapR sw
  rw [rowat_set (by simpa using hd)]
  by_cases e : i = d
  · rw [if_pos e, if_pos e]
  · rw [if_neg e, if_neg e, rowat_set hp]
    by_cases e2 : i = p
    · rw [if_pos e2, if_pos e2]
    · rw [if_neg e2, if_neg e2]
theorem vat_sclR (r : Rat) (xs : List Rat) (k : Nat) : vat (sclR r xs) k = r * vat xs k := by
  unfold sclR
  rcases Nat.lt_or_ge k (max xs.length 0) with h | h
  · rw [vat_zipf _ _ _ h, show vat [] k = 0 from rfl, Rat.add_zero]
  · rw [vat_ge (by rw [zipf_len]; omega), vat_ge (rs := xs) (by omega), Rat.mul_zero]
theorem vat_axR (r : Rat) (xs ys : List Rat) (k : Nat) : vat (axR r xs ys) k = r * vat xs k + vat ys k := by
  unfold axR
  rcases Nat.lt_or_ge k (max xs.length ys.length) with h | h
  · rw [vat_zipf _ _ _ h]
  · rw [vat_ge (by rw [zipf_len]; omega), vat_ge (rs := xs) (by omega), vat_ge (rs := ys) (by omega), Rat.mul_zero, Rat.add_zero]
theorem mat_divR {rows : List (List Rat)} {d k i c : Nat} (hd : d < rows.length) : mat (divR rows d k) i c = if i = d then 1 / mat rows d k * mat rows d c else mat rows i c := by
  unfold mat divR
  rw [rowat_set hd]
  split
  · rw [vat_sclR]; rfl
  · rfl
theorem mat_elimS {rows : List (List Rat)} {d k i j c : Nat} (hj : j < rows.length) : mat (elimS rows d k i) j c = if j < i ∧ j ≠ d then mat rows j c - mat rows j k * mat rows d c else mat rows j c := by
  unfold mat
  rw [elimS_row hj]
  by_cases h1 : j < i
  · rw [if_pos h1]
    unfold elimT
    by_cases h2 : j = d
    · rw [if_pos (Or.inl h2), if_neg (fun h => h.2 h2)]
    · by_cases h3 : mat rows j k = 0
      · rw [if_pos (Or.inr h3), if_pos ⟨h1, h2⟩]
        have h4 : vat (rowat rows j) k = 0 := h3
        rw [h4]; grind
      · rw [if_neg (fun h => h.elim h2 h3), if_pos ⟨h1, h2⟩, vat_axR]
        show -(vat (rowat rows j) k) * _ + _ = _
        grind
  · rw [if_neg h1, if_neg (fun h => h1 h.1)]
theorem mat_colR {rows : List (List Rat)} {d k p i c : Nat} (hp : p < rows.length) (hd : d < rows.length) (hi : i < rows.length) :
    mat (colR rows d k p) i c = if i = d then mat rows p c / mat rows p k else mat rows (sw p d i) c - mat rows (sw p d i) k * (mat rows p c / mat rows p k) := by
  have e : ∀ c, mat (divR (swapR rows p d) d k) d c = mat rows p c / mat rows p k := fun c => by
    rw [mat_divR (by rw [swapR_len]; exact hd), if_pos rfl, mat_swapR hp hd hd, mat_swapR hp hd hd]
    unfold sw; rw [if_pos rfl, Rat.div_def, Rat.div_def]; grind
  unfold colR
  rw [mat_elimS (by rw [divR_len, swapR_len]; exact hi)]
  by_cases h : i = d
  · rw [if_pos h, if_neg (by omega), h, e]
  · rw [if_neg h, if_pos ⟨hi, h⟩, e, mat_divR (by rw [swapR_len]; exact hd), if_neg h, mat_divR (by rw [swapR_len]; exact hd), if_neg h, mat_swapR hp hd hi, mat_swapR hp hd hi]
/-! ### Rows that are combinations of rows -/
theorem choose_fn {α : Type} [Inhabited α] {m : Nat} {p : Nat → α → Prop} (h : ∀ t, t < m → ∃ c, p t c) : ∃ D : Nat → α, ∀ t, t < m → p t (D t) := by
  induction m with
  | zero => exact ⟨fun _ => default, fun t ht => absurd ht (Nat.not_lt_zero _)⟩
  | succ m ih =>
    obtain ⟨D, hD⟩ := ih fun t ht => h t (by omega)
    obtain ⟨c, hc⟩ := h m (by omega)
    refine ⟨fun t => if t = m then c else D t, fun t ht => ?_⟩
    by_cases e : t = m
    · subst e; simpa using hc
    · simp only [if_neg e]; exact hD t (by omega)
def Sub (A B : List (List Rat)) : Prop := ∀ i, i < A.length → ∃ c : Nat → Rat, ∀ k, mat A i k = sumk (fun t => c t * mat B t k) B.length
theorem Sub.trans {A B C : List (List Rat)} (h1 : Sub A B) (h2 : Sub B C) : Sub A C := fun i hi => by
  obtain ⟨c, hc⟩ := h1 i hi
  have hD : ∃ D : Nat → Nat → Rat, ∀ t, t < B.length → ∀ k, mat B t k = sumk (fun s => D t s * mat C s k) C.length :=
    choose_fn fun t ht => h2 t ht
  obtain ⟨D, hD⟩ := hD
  refine ⟨fun s => sumk (fun t => c t * D t s) B.length, fun k => ?_⟩
  rw [hc k, sumk_ext (g := fun t => sumk (fun s => c t * D t s * mat C s k) C.length) fun t ht => by
    rw [hD t ht k, ← sumk_mul]; exact sumk_ext fun s _ => by grind]
  rw [sumk_comm]
  exact sumk_ext fun s _ => sumk_mulr _ _ _
theorem Sub.two {A B : List (List Rat)} (h : ∀ i, i < A.length → ∃ p q x y, p < B.length ∧ q < B.length ∧ ∀ k, mat A i k = x * mat B p k + y * mat B q k) : Sub A B := fun i hi => by
  obtain ⟨p, q, x, y, hp, hq, h⟩ := h i hi
  refine ⟨fun t => (if t = p then x else 0) + (if t = q then y else 0), fun k => ?_⟩
  rw [h k, sumk_ext (g := fun t => (if t = p then x else 0) * mat B t k + (if t = q then y else 0) * mat B t k) fun t _ => by grind, sumk_add]
  rw [sumk_only hp fun t _ ht => by rw [if_neg ht, Rat.zero_mul], sumk_only hq fun t _ ht => by rw [if_neg ht, Rat.zero_mul], if_pos rfl, if_pos rfl]
theorem Sub.refl (A : List (List Rat)) : Sub A A := Sub.two fun i hi => ⟨i, i, 1, 0, hi, hi, fun k => by grind⟩
theorem Sub.swap {rows : List (List Rat)} {p d : Nat} (hp : p < rows.length) (hd : d < rows.length) : Sub (swapR rows p d) rows ∧ Sub rows (swapR rows p d) := by
  have hs : ∀ i, i < rows.length → sw p d i < rows.length := fun i hi => by unfold sw; split; exact hp; split; exact hd; exact hi
  have hss : ∀ i, sw p d (sw p d i) = i := fun i => by unfold sw; split <;> split <;> (try split) <;> omega
  refine ⟨Sub.two fun i hi => ?_, Sub.two fun i hi => ?_⟩
  · rw [swapR_len] at hi
    exact ⟨_, _, 1, 0, hs i hi, hs i hi, fun k => by rw [mat_swapR hp hd hi]; grind⟩
  · exact ⟨sw p d i, sw p d i, 1, 0, by rw [swapR_len]; exact hs i hi, by rw [swapR_len]; exact hs i hi, fun k => by rw [mat_swapR hp hd (hs i hi), hss]; grind⟩
theorem Sub.div {rows : List (List Rat)} {d k : Nat} (hd : d < rows.length) (hk : mat rows d k ≠ 0) : Sub (divR rows d k) rows ∧ Sub rows (divR rows d k) := by
  refine ⟨Sub.two fun i hi => ?_, Sub.two fun i hi => ?_⟩
  · rw [divR_len] at hi
    by_cases e : i = d
    · exact ⟨d, d, 1 / mat rows d k, 0, hd, hd, fun c => by rw [mat_divR hd, if_pos e]; grind⟩
    · exact ⟨i, i, 1, 0, hi, hi, fun c => by rw [mat_divR hd, if_neg e]; grind⟩
  · by_cases e : i = d
    · subst e
      refine ⟨i, i, mat rows i k, 0, by rw [divR_len]; exact hd, by rw [divR_len]; exact hd, fun c => ?_⟩
      rw [mat_divR hd, if_pos rfl, Rat.div_def, Rat.one_mul, ← Rat.mul_assoc, Rat.mul_inv_cancel _ hk]; grind
    · exact ⟨i, i, 1, 0, by rw [divR_len]; exact hi, by rw [divR_len]; exact hi, fun c => by rw [mat_divR hd, if_neg e]; grind⟩
theorem Sub.elim {rows : List (List Rat)} {d k i : Nat} (hd : d < rows.length) : Sub (elimS rows d k i) rows ∧ Sub rows (elimS rows d k i) := by
  refine ⟨Sub.two fun j hj => ?_, Sub.two fun j hj => ?_⟩
  · rw [elimS_len] at hj
    by_cases h : j < i ∧ j ≠ d
    · exact ⟨j, d, 1, -(mat rows j k), hj, hd, fun c => by rw [mat_elimS hj, if_pos h]; grind⟩
    · exact ⟨j, j, 1, 0, hj, hj, fun c => by rw [mat_elimS hj, if_neg h]; grind⟩
  · have hj' : j < (elimS rows d k i).length := by rw [elimS_len]; exact hj
    have hd' : d < (elimS rows d k i).length := by rw [elimS_len]; exact hd
    have ed : ∀ c, mat (elimS rows d k i) d c = mat rows d c := fun c => by rw [mat_elimS hd, if_neg (by omega)]
    by_cases h : j < i ∧ j ≠ d
    · exact ⟨j, d, 1, mat rows j k, hj', hd', fun c => by rw [mat_elimS hj, if_pos h, ed]; grind⟩
    · exact ⟨j, j, 1, 0, hj', hj', fun c => by rw [mat_elimS hj, if_neg h]; grind⟩
theorem Sub.col {rows : List (List Rat)} {d k p : Nat} (hp : p < rows.length) (hd : d < rows.length) (hk : mat rows p k ≠ 0) : Sub (colR rows d k p) rows ∧ Sub rows (colR rows d k p) := by
  have h1 := Sub.swap hp hd
  have h2 := Sub.div (rows := swapR rows p d) (d := d) (k := k) (by rw [swapR_len]; exact hd) (by rw [mat_swapR hp hd hd]; unfold sw; rw [if_pos rfl]; exact hk)
  have h3 := Sub.elim (rows := divR (swapR rows p d) d k) (d := d) (k := k) (i := rows.length) (by rw [divR_len, swapR_len]; exact hd)
  exact ⟨(h3.1.trans h2.1).trans h1.1, (h1.2.trans h2.2).trans h3.2⟩
/-! ### The state after n columns -/
def pvt (piv : List Int) (j : Nat) : Nat := (wd piv j).toNat
structure RI (rows0 rows : List (List Rat)) (piv : List Int) (n : Nat) : Prop where
  len : rows.length = rows0.length
  pl : piv.length ≤ rows.length
  nn : ∀ j, j < piv.length → wd piv j = (pvt piv j : Int)
  lt : ∀ j, j < piv.length → pvt piv j < n
  inc : ∀ i j, i < j → j < piv.length → pvt piv i < pvt piv j
  one : ∀ i j, i < rows.length → j < piv.length → mat rows i (pvt piv j) = if i = j then 1 else 0
  low : ∀ i k, piv.length ≤ i → k < n → mat rows i k = 0
  lead : ∀ i k, i < piv.length → k < pvt piv i → mat rows i k = 0
  fwd : Sub rows rows0
  bwd : Sub rows0 rows
theorem pf_nz {rows : List (List Rat)} {k d : Nat} (hd : d ≤ rows.length) (h : pf rows k d < rows.length) : d ≤ pf rows k d ∧ mat rows (pf rows k d) k ≠ 0 := ⟨(pf_is hd).1, (pf_is hd).2.2.2 h⟩
theorem RI.step {rows0 rows : List (List Rat)} {piv : List Int} {δ : Rat} {n : Nat} (h : RI rows0 rows piv n) : RI rows0 (colS (rows, piv, δ) n).1 (colS (rows, piv, δ) n).2.1 (n + 1) := by
  unfold colS
  split
  · rename_i hp
    simp only at hp
    obtain ⟨hdp, hnz⟩ := pf_nz h.pl hp
    generalize hP : pf rows n piv.length = p at *
    simp only [hP]
    have hd : piv.length < rows.length := by omega
    have e1 : ∀ j, j < piv.length → pvt (piv ++ [(n : Int)]) j = pvt piv j := fun j hj => by simp [pvt, wd, hj, List.getElem?_append_left hj]
    have e2 : pvt (piv ++ [(n : Int)]) piv.length = n := by simp [pvt, wd]
    have hm : ∀ i c, i < rows.length → mat (colR rows piv.length n p) i c = if i = piv.length then mat rows p c / mat rows p n else mat rows (sw p piv.length i) c - mat rows (sw p piv.length i) n * (mat rows p c / mat rows p n) := fun i c hi => mat_colR hp hd hi
    have hz : ∀ c, c < n → mat rows p c = 0 := fun c hc => h.low p c (by omega) hc
    have hz2 : ∀ c, c < n → mat rows p c / mat rows p n = 0 := fun c hc => by rw [hz c hc, Rat.div_def, Rat.zero_mul]
    have hlow : ∀ i k, piv.length + 1 ≤ i → k < n + 1 → mat (colR rows piv.length n p) i k = 0 := fun i k hi hk => by
      rcases Nat.lt_or_ge i rows.length with hl | hl
      · rw [hm i k hl, if_neg (by omega)]
        rcases Nat.lt_succ_iff_lt_or_eq.1 hk with hk | rfl
        · rw [hz2 k hk, Rat.mul_zero, h.low _ k (by unfold sw; split; omega; split <;> omega) hk]; grind
        · rw [Rat.div_def, Rat.mul_inv_cancel _ hnz]; grind
      · exact mat_ge1 (by rw [colR_len]; exact hl)
    have hc := Sub.col (d := piv.length) (k := n) hp hd hnz
    refine ⟨by rw [colR_len]; exact h.len, by simp only [List.length_append, List.length_singleton, colR_len]; omega, ?_, ?_, ?_, ?_, ?_, ?_, hc.1.trans h.fwd, h.bwd.trans hc.2⟩
    · intro j hj
      simp only [List.length_append, List.length_singleton] at hj
      rcases Nat.lt_succ_iff_lt_or_eq.1 hj with hj | rfl
      · rw [e1 j hj, ← h.nn j hj]; simp [wd, hj, List.getElem?_append_left hj]
      · rw [e2]; simp [wd]
    · intro j hj
      simp only [List.length_append, List.length_singleton] at hj
      rcases Nat.lt_succ_iff_lt_or_eq.1 hj with hj | rfl
      · rw [e1 j hj]; have := h.lt j hj; omega
      · rw [e2]; omega
    · intro i j hij hj
      simp only [List.length_append, List.length_singleton] at hj
      rcases Nat.lt_succ_iff_lt_or_eq.1 hj with hj | rfl
      · rw [e1 j hj, e1 i (by omega)]; exact h.inc i j hij hj
      · rw [e2, e1 i hij]; exact h.lt i hij
    · intro i j hi hj
      rw [colR_len] at hi
      simp only [List.length_append, List.length_singleton] at hj
      rcases Nat.lt_succ_iff_lt_or_eq.1 hj with hj | rfl
      · have hjn := h.lt j hj
        rw [e1 j hj, hm i _ hi, hz2 _ hjn]
        by_cases e : i = piv.length
        · rw [if_pos e, if_neg (by omega)]
        · rw [if_neg e]
          by_cases e3 : i = p
          · rw [show sw p piv.length i = piv.length by unfold sw; rw [if_neg e, if_pos e3], h.one _ j hd hj, if_neg (by omega), if_neg (by omega)]; grind
          · rw [show sw p piv.length i = i by unfold sw; rw [if_neg e, if_neg e3], h.one _ j hi hj]; grind
      · rw [e2, hm i _ hi]
        by_cases e : i = piv.length
        · rw [if_pos e, if_pos e, Rat.div_def, Rat.mul_inv_cancel _ hnz]
        · rw [if_neg e, if_neg e, Rat.div_def, Rat.mul_inv_cancel _ hnz]; grind
    · intro i k hi hk
      simp only [List.length_append, List.length_singleton] at hi
      exact hlow i k hi hk
    · intro i k hi hk
      simp only [List.length_append, List.length_singleton] at hi
      rcases Nat.lt_succ_iff_lt_or_eq.1 hi with hi | rfl
      · rw [e1 i hi] at hk
        have hin := h.lt i hi
        rw [hm i k (by omega), if_neg (by omega), hz2 k (by omega), show sw p piv.length i = i by unfold sw; rw [if_neg (by omega), if_neg (by omega)], h.lead i k hi hk]; grind
      · rw [e2] at hk
        rw [hm _ k hd, if_pos rfl, hz2 k hk]
  · rename_i hp
    simp only at hp
    have hp2 := pf_is (rows := rows) (k := n) h.pl
    refine ⟨h.len, h.pl, h.nn, fun j hj => Nat.lt_succ_of_lt (h.lt j hj), h.inc, h.one, fun i k hi hk => ?_, h.lead, h.fwd, h.bwd⟩
    rcases Nat.lt_succ_iff_lt_or_eq.1 hk with hk | rfl
    · exact h.low i k hi hk
    · rcases Nat.lt_or_ge i rows.length with hl | hl
      · exact hp2.2.2.1 i hi (by have := hp2.2.1; omega)
      · exact mat_ge1 hl
theorem redS_RI (rows : List (List Rat)) : ∀ n, RI rows (redS rows n).1 (redS rows n).2.1 n
  | 0 => ⟨rfl, Nat.zero_le _, fun _ h => absurd h (Nat.not_lt_zero _), fun _ h => absurd h (Nat.not_lt_zero _), fun _ _ _ h => absurd h (Nat.not_lt_zero _), fun _ _ _ h => absurd h (Nat.not_lt_zero _), fun _ _ _ h => absurd h (Nat.not_lt_zero _), fun _ _ h => absurd h (Nat.not_lt_zero _), Sub.refl _, Sub.refl _⟩
  | n + 1 => (redS_RI rows n).step (δ := (redS rows n).2.2)
theorem rect_ge {N : Nat} {rows : List (List Rat)} (h : rect N rows) {i k : Nat} (hk : N ≤ k) : mat rows i k = 0 := by
  rcases Nat.lt_or_ge i rows.length with hl | hl
  · exact mat_ge2 (by rw [h.row hl]; exact hk)
  · exact mat_ge1 hl
section
variable {rows0 rows : List (List Rat)} {piv : List Int} {n : Nat}
theorem RI.zero {N : Nat} (h : RI rows0 rows piv n) (hr : rect N rows) (hN : N ≤ n) (t k : Nat) (ht : piv.length ≤ t) : mat rows t k = 0 := by
  rcases Nat.lt_or_ge k n with hk | hk
  · exact h.low t k ht hk
  · exact rect_ge hr (by omega)
end
def rank (rows : List (List Rat)) (n : Nat) : Nat := (redS rows n).2.1.length
end Go.Proofs.YtknbjfefeeojlaaGreat
/- The determinant is what the elimination reckons; products, transposes, operations on rows: plain mathematics. -/
namespace Go.Proofs.YtknbjfefeeojlaaGreat
/-- Rows as columns. -/
def trA (rows : List (List Rat)) : MF := fun i j => mat rows j i
def detR (rows : List (List Rat)) (n : Nat) : Rat := if rank rows n < n then 0 else (redS rows n).2.2
section
variable {n : Nat} {g : MF → Rat}
theorem ColP.swapR (hg : ColP n g) {rows : List (List Rat)} (hl : rows.length = n) {p d : Nat} (hp : p < n) (hd : d < n) : g (trA (swapR rows p d)) = if p = d then g (trA rows) else - g (trA rows) := by
  split
  · rename_i h; subst h; rw [swapR_self]
  · rename_i h
    rw [← hg.swap _ d p hd hp (Ne.symm h)]
    refine hg.congr _ _ fun i j _ hj => ?_
    unfold trA swapc
    rw [mat_swapR (by omega) (by omega) (by omega)]; rfl
theorem ColP.divR (hg : ColP n g) {rows : List (List Rat)} (hl : rows.length = n) {d k : Nat} (hd : d < n) (hk : mat rows d k ≠ 0) : g (trA rows) = mat rows d k * g (trA (divR rows d k)) := by
  have h := hg.mul (trA rows) d (1 / mat rows d k) hd
  rw [show g (trA (Proofs.YtknbjfefeeojlaaGreat.divR rows d k)) = g (setc (trA rows) d fun i => 1 / mat rows d k * trA rows i d) from hg.congr _ _ fun i j _ hj => by
    unfold trA setc; rw [mat_divR (by omega)], h, Rat.div_def, Rat.one_mul, ← Rat.mul_assoc, Rat.mul_inv_cancel _ hk, Rat.one_mul]
theorem ColP.elim (hg : ColP n g) {rows : List (List Rat)} (hl : rows.length = n) {d k : Nat} (hd : d < n) : ∀ i, i ≤ n → g (trA (elimS rows d k i)) = g (trA rows)
  | 0, _ => by rw [elimS_zero]
  | i + 1, hi => by
    rw [← ColP.elim hg hl hd i (by omega)]
    by_cases e : i = d
    · rw [elimS_keep (by omega) (.inl e)]
    · rw [← hg.add (trA (elimS rows d k i)) i d (-(mat rows i k)) (by omega) hd e]
      refine hg.congr _ _ fun a j _ hj => ?_
      show mat (elimS rows d k (i + 1)) j a = if j = i then mat (elimS rows d k i) i a + -(mat rows i k) * mat (elimS rows d k i) d a else mat (elimS rows d k i) j a
      rw [mat_elimS (j := j) (by omega), mat_elimS (j := i) (by omega), mat_elimS (j := d) (by omega), mat_elimS (j := j) (by omega)]
      by_cases e2 : j = i
      · subst e2
        rw [if_pos ⟨by omega, e⟩, if_pos rfl, if_neg (by omega), if_neg (by omega)]; grind
      · rw [if_neg e2]
        by_cases e3 : j < i ∧ j ≠ d
        · rw [if_pos e3, if_pos ⟨by omega, e3.2⟩]
        · rw [if_neg e3, if_neg (by omega)]
theorem ColP.red (hg : ColP n g) {rows : List (List Rat)} (hl : rows.length = n) : ∀ k, g (trA rows) = (redS rows k).2.2 * g (trA (redS rows k).1)
  | 0 => by simp [redS]
  | k + 1 => by
    have ih := ColP.red hg hl k
    have hR := redS_RI rows k
    rw [redS, show redS rows k = ((redS rows k).1, (redS rows k).2.1, (redS rows k).2.2) from rfl]
    generalize (redS rows k).1 = R at *
    generalize (redS rows k).2.1 = p at *
    generalize (redS rows k).2.2 = δ at *
    have hRl : R.length = n := by rw [hR.len, hl]
    unfold colS
    split
    · rename_i hp
      simp only at hp
      obtain ⟨h1, h2⟩ := pf_nz hR.pl hp
      have hid : pf R k p.length < R.length := hp
      generalize pf R k p.length = q at *
      have hd : p.length < n := by omega
      have hq : q < n := by omega
      show _ = ((if q = p.length then δ else -δ) * mat (Proofs.YtknbjfefeeojlaaGreat.swapR R q p.length) p.length k) * g (trA (colR R p.length k q))
      have hs := hg.swapR hRl hq hd
      have hsl : (Proofs.YtknbjfefeeojlaaGreat.swapR R q p.length).length = n := by rw [swapR_len, hRl]
      have hnz : mat (Proofs.YtknbjfefeeojlaaGreat.swapR R q p.length) p.length k ≠ 0 := by
        rw [mat_swapR hp (by omega) (by omega)]; unfold sw; rw [if_pos rfl]; exact h2
      have hv := hg.divR hsl hd hnz
      have he := hg.elim (rows := Proofs.YtknbjfefeeojlaaGreat.divR (Proofs.YtknbjfefeeojlaaGreat.swapR R q p.length) p.length k) (by rw [divR_len, hsl]) hd (k := k) n (Nat.le_refl _)
      unfold colR
      rw [show R.length = n from hRl, he, ih]
      have e : g (trA R) = (if q = p.length then 1 else -1) * g (trA (Proofs.YtknbjfefeeojlaaGreat.swapR R q p.length)) := by
        rw [hs]; split <;> grind
      rw [e, hv]
      split <;> grind
    · exact ih
end
theorem gap (piv : List Int) (n : Nat) (h1 : ∀ i j, i < j → j < piv.length → pvt piv i < pvt piv j) (h2 : ∀ j, j < piv.length → pvt piv j < n) (hl : piv.length = n) : ∀ j, j < n → pvt piv j = j := by
  have lo : ∀ j, j < n → j ≤ pvt piv j := by
    intro j
    induction j with
    | zero => intro _; omega
    | succ j ih => intro hj; have := ih (by omega); have := h1 j (j + 1) (by omega) (by omega); omega
  have hi : ∀ d j, j < n → n - 1 - j = d → pvt piv j ≤ j := by
    intro d
    induction d with
    | zero => intro j hj he; have := h2 j (by omega); omega
    | succ d ih => intro j hj he; have := ih (j + 1) (by omega) (by omega); have := h1 j (j + 1) (by omega) (by omega); omega
  exact fun j hj => by have := lo j hj; have := hi _ j hj rfl; omega
/-- All columns bear pivots: the first n columns are those of the identity. -/
theorem RI.full {rows0 rows : List (List Rat)} {piv : List Int} {n : Nat} (h : RI rows0 rows piv n) (hp : piv.length = n) {i j : Nat} (hi : i < rows.length) (hj : j < n) : mat rows i j = if i = j then 1 else 0 := by
  have := h.one i j hi (by omega)
  rwa [gap piv n h.inc h.lt hp j hj] at this
theorem rank_le (rows : List (List Rat)) (n : Nat) : rank rows n ≤ n := by
  have hR := redS_RI rows n
  unfold rank
  generalize (redS rows n).2.1 = p at *
  have lo : ∀ j, j < p.length → j ≤ pvt p j := by
    intro j
    induction j with
    | zero => intro _; omega
    | succ j ih => intro hj; have := ih (by omega); have := hR.inc j (j + 1) (by omega) (by omega); omega
  rcases Nat.eq_zero_or_pos p.length with h | h
  · omega
  · have := lo (p.length - 1) (by omega); have := hR.lt (p.length - 1) (by omega); omega
/-- What the elimination reckons is what every such function is, up to its value at the identity. -/
theorem ColP.eq {n : Nat} {g : MF → Rat} (hg : ColP n g) {rows : List (List Rat)} (hl : rows.length = n) : g (trA rows) = detR rows n * g idf := by
  have hR := redS_RI rows n
  have h := hg.red hl n
  have hle := rank_le rows n
  unfold detR
  rw [h]
  unfold rank at *
  generalize (redS rows n).1 = R at *
  generalize (redS rows n).2.1 = p at *
  generalize (redS rows n).2.2 = δ at *
  split
  · rename_i hlt
    have h0 : g (trA R) = 0 := by
      have := hg.mul (trA R) (n - 1) 0 (by omega)
      rw [Rat.zero_mul] at this
      rw [← this]
      refine hg.congr _ _ fun i j hi hj => ?_
      unfold trA setc
      by_cases e : j = n - 1
      · rw [if_pos e, e, hR.low (n - 1) i (by omega) hi]; grind
      · rw [if_neg e]
    rw [h0, Rat.mul_zero, Rat.zero_mul]
  · rename_i hge
    rw [hg.congr (trA R) idf fun i j hi hj => by
      unfold trA idf
      rw [hR.full (by omega) (by rw [hR.len]; omega) hi]
      by_cases e : j = i
      · rw [if_pos e, if_pos e.symm]
      · rw [if_neg e, if_neg (Ne.symm e)]]
/-- A matrix of n rows and n columns. -/
def sqm (n : Nat) (A : MF) : List (List Rat) := (List.range n).map fun i => (List.range n).map fun j => A i j
theorem sqm_len (n : Nat) (A : MF) : (sqm n A).length = n := by simp [sqm]
theorem mat_sqm {n : Nat} {A : MF} {i j : Nat} (hi : i < n) (hj : j < n) : mat (sqm n A) i j = A i j := by
  simp [mat, rowat, vat, sqm, hi, hj]
theorem ColP.det {n : Nat} {g : MF → Rat} (hg : ColP n g) (A : MF) : g A = det n A * g idf := by
  have e : ∀ {f : MF → Rat}, ColP n f → f A = f (trA (sqm n fun i j => A j i)) := fun hf => hf.congr _ _ fun i j hi hj => by unfold trA; rw [mat_sqm hj hi]
  rw [e hg, hg.eq (sqm_len _ _), e (det_col n), (det_col n).eq (sqm_len _ _), det_id, Rat.mul_one]
theorem mulF_col (n : Nat) (B : MF) : ColP n fun A => det n (mulF n B A) where
  congr := fun A C h => det_congr n _ _ fun i j hi hj => sumk_ext fun t ht => by rw [h t j ht hj]
  swap := fun A a b ha hb hab => by rw [← (det_col n).swap _ a b ha hb hab]; rfl
  mul := fun A a s ha => by
    rw [← (det_col n).mul _ a s ha]
    congr 1
    funext i j
    unfold mulF setc
    by_cases e : j = a
    · rw [if_pos e]
      show _ = s * sumk (fun t => B i t * A t a) n
      rw [← sumk_mul]; exact sumk_ext fun t _ => by rw [if_pos e]; grind
    · rw [if_neg e]; exact sumk_ext fun t _ => by rw [if_neg e]
  add := fun A a b s ha hb hab => by
    rw [← (det_col n).add (mulF n B A) a b s ha hb hab]
    congr 1
    funext i j
    unfold mulF setc
    by_cases e : j = a
    · rw [if_pos e]
      show _ = sumk (fun t => B i t * A t a) n + s * sumk (fun t => B i t * A t b) n
      rw [← sumk_mul, ← sumk_add]; exact sumk_ext fun t _ => by rw [if_pos e]; grind
    · rw [if_neg e]; exact sumk_ext fun t _ => by rw [if_neg e]
theorem mulF_id {n : Nat} (B : MF) {i j : Nat} (hj : j < n) : mulF n B idf i j = B i j := by
  unfold mulF idf
  rw [sumk_only hj fun t _ ht => by rw [if_neg ht, Rat.mul_zero], if_pos rfl, Rat.mul_one]
theorem det_mul (n : Nat) (B A : MF) : det n (mulF n B A) = det n B * det n A := by
  rw [(mulF_col n B).det A, det_congr n (mulF n B idf) B fun i j _ hj => mulF_id B hj, Rat.mul_comm]
theorem det_row (n : Nat) : ColP n fun A => det n fun i j => A j i where
  congr := fun A C h => det_congr n _ _ fun i j hi hj => h j i hj hi
  swap := fun A a b ha hb hab => by
    have h1 := det_mul n (swapc idf a b) fun i j => A j i
    rw [(det_col n).swap _ a b ha hb hab, det_id] at h1
    rw [show det n (fun i j => swapc A a b j i) = det n (mulF n (swapc idf a b) fun i j => A j i) from det_congr n _ _ fun i j hi hj => by
      have hsw : (if i = a then b else if i = b then a else i) < n := by split; exact hb; split; exact ha; exact hi
      have h2 : ∀ t, idf i (if t = a then b else if t = b then a else t) = if t = (if i = a then b else if i = b then a else i) then 1 else 0 := fun t => by
        unfold idf
        by_cases e1 : t = a
        · subst e1
          rw [if_pos rfl]
          by_cases e2 : i = t
          · subst e2; rw [if_neg hab, if_pos rfl, if_neg hab]
          · rw [if_neg e2]
            by_cases e3 : i = b
            · subst e3; rw [if_pos rfl, if_pos rfl, if_pos rfl]
            · rw [if_neg e3, if_neg e3, if_neg (Ne.symm e2)]
        · rw [if_neg e1]
          by_cases e4 : t = b
          · subst e4
            rw [if_pos rfl]
            by_cases e2 : i = a
            · rw [if_pos e2, if_pos e2, if_pos rfl]
            · rw [if_neg e2, if_neg e2]
              by_cases e3 : i = t
              · rw [if_pos e3, if_neg e1]
              · rw [if_neg e3, if_neg (Ne.symm e3)]
          · rw [if_neg e4]
            by_cases e2 : i = a
            · rw [if_pos e2, if_neg e4, if_neg (fun h => e1 (by rw [← h, e2]))]
            · rw [if_neg e2]
              by_cases e3 : i = b
              · rw [if_pos e3, if_neg e1, if_neg (fun h => e4 (by rw [← h, e3]))]
              · rw [if_neg e3]
                by_cases e5 : i = t
                · rw [if_pos e5, if_pos e5.symm]
                · rw [if_neg e5, if_neg (Ne.symm e5)]
      show A j (if i = a then b else if i = b then a else i) = sumk (fun t => idf i (if t = a then b else if t = b then a else t) * A j t) n
      rw [sumk_only hsw fun t _ ht => by rw [h2, if_neg ht, Rat.zero_mul], h2, if_pos rfl, Rat.one_mul]]
    rw [h1]; grind
  mul := fun A a s ha => by
    have h1 := det_mul n (setc idf a fun i => s * idf i a) fun i j => A j i
    rw [(det_col n).mul _ a s ha, det_id] at h1
    rw [show det n (fun i j => setc A a (fun i => s * A i a) j i) = det n (mulF n (setc idf a fun i => s * idf i a) fun i j => A j i) from det_congr n _ _ fun i j hi hj => by
      show (if i = a then s * A j a else A j i) = sumk (fun t => (if t = a then s * (if i = a then 1 else 0) else if i = t then 1 else 0) * A j t) n
      rw [sumk_only hi fun t _ ht => by
        by_cases h3 : t = a
        · rw [if_pos h3, if_neg (by omega), Rat.mul_zero, Rat.zero_mul]
        · rw [if_neg h3, if_neg (Ne.symm ht), Rat.zero_mul]]
      by_cases h3 : i = a
      · rw [if_pos h3, if_pos h3, if_pos h3, h3]; grind
      · rw [if_neg h3, if_neg h3, if_pos rfl]; grind]
    rw [h1]; grind
  add := fun A a b s ha hb hab => by
    have h1 := det_mul n (setc idf b fun i => idf i b + s * idf i a) fun i j => A j i
    rw [(det_col n).add _ b a s hb ha (Ne.symm hab), det_id] at h1
    rw [show det n (fun i j => setc A a (fun i => A i a + s * A i b) j i) = det n (mulF n (setc idf b fun i => idf i b + s * idf i a) fun i j => A j i) from det_congr n _ _ fun i j hi hj => by
      show (if i = a then A j a + s * A j b else A j i) = sumk (fun t => (if t = b then (if i = b then 1 else 0) + s * (if i = a then 1 else 0) else if i = t then 1 else 0) * A j t) n
      rw [sumk_ext (g := fun t => (if i = t then 1 else 0) * A j t + (if t = b then (if i = a then s else 0) * A j t else 0)) fun t _ => by
        by_cases h3 : t = b
        · rw [if_pos h3, if_pos h3, h3]
          by_cases h4 : i = a
          · rw [if_pos h4, if_pos h4]; grind
          · rw [if_neg h4, if_neg h4]; grind
        · rw [if_neg h3, if_neg h3]; grind, sumk_add]
      rw [sumk_only hi fun t _ ht => by rw [if_neg (Ne.symm ht), Rat.zero_mul], sumk_only hb fun t _ ht => by rw [if_neg ht], if_pos rfl, if_pos rfl]
      by_cases h4 : i = a
      · rw [if_pos h4, if_pos h4, h4]; grind
      · rw [if_neg h4, if_neg h4]; grind]
    rw [h1]; grind
theorem det_tr (n : Nat) (A : MF) : det n (fun i j => A j i) = det n A := by
  have h := (det_row n).det A
  rw [show det n (fun i j => idf j i) = 1 from (det_congr n _ idf fun i j _ _ => by unfold idf; by_cases e : j = i; rw [if_pos e, if_pos e.symm]; rw [if_neg e, if_neg (Ne.symm e)]).trans (det_id n), Rat.mul_one] at h
  exact h
/-- The elimination reckons the determinant. -/
theorem detR_det {rows : List (List Rat)} {n : Nat} (hl : rows.length = n) : detR rows n = det n fun i j => mat rows i j := by
  have h := (det_col n).eq hl
  rw [det_id, Rat.mul_one] at h
  rw [← h, ← det_tr]; rfl
end Go.Proofs.YtknbjfefeeojlaaGreat
/- Package solve: NullSpace. -/
namespace Go.Proofs.YtknbjfefeeojlaaGreat
open Go.RowKit
attribute [local irreducible] RV VH V OpF Calls
theorem GO.tn {ρt : Type} {El : (Nat → Prop) → World → List Value → ρt → Prop} {S : Nat → Prop} {s B B' : Nat} {W W' : World} {e : TypeId} {v : Value} {rs : List ρt} (ok : ElOK El) (h : GO s El S B W e v rs) (t : Tn B' W W') : GO s El S B W' e v rs := by
  obtain ⟨qs, h1, h2⟩ := h
  exact ⟨qs, h1.ck (t.ck fun _ => True) fun _ _ => trivial, h2.imp fun _ _ hq => ok.ck hq (t.ck _)⟩
theorem AR.tn {k : IntKind} {W W' : World} {b e n B : Nat} {xs : List Int} (h : AR k W b e n xs) (t : Tn B W W') : AR k W' b e n xs := h.ck (t.ck fun _ => True) trivial
theorem redS_pv (rows : List (List Rat)) (n : Nat) : ∀ j, j < (redS rows n).2.1.length → 0 ≤ wd (redS rows n).2.1 j ∧ wd (redS rows n).2.1 j < n := fun j hj => by
  obtain ⟨k, h1, h2⟩ := (redS_piv rows n).1 j hj; omega

set_option maxHeartbeats 400000 in
theorem vUnit_own (z k : Int) (N : Nat) (S : Nat → Prop) (w : World) (hN : min (max z 0) 65536 = (N : Int)) (hu : Up S w) :
    Calls Tryz.prog 118 #[.int .i64 z, .int .i64 k] w (fun e w' => ∃ b qs, e = .returned (.slice (some ⟨b, 0, none⟩) N N) ∧ Ext w w' ∧ w.heap.size ≤ b ∧ AQ 4 w' b 48 N qs ∧ All2 (QC (SX S [b]) w') qs (unitv N k)) := by
 have z0 := Ext.refl w; have hLX : LX = 17592186044416 := rfl; have hLY : LY = 8796093022208 := rfl
 have hNN : N ≤ 65536 := by omega
 have hu2 : ∀ W : World, w.heap.size + 1 ≤ W.heap.size → Up (SX S [w.heap.size]) W := fun W hW => SX.up (hu.mono (by omega)) (by simp <;> omega)
 refine enter (args := [.int .i64 z, .int .i64 k]) Tryz.func118 rfl rfl (Nat.le_of_ble_eq_true rfl) ?_
 refine V.seq (V.reg rfl ?_)
 refine ass rfl ?_
 refine vnil ?_
 refine V.seq (V.reg rfl ?_)
 refine mvi rfl ?_
 refine vv (rmax rfl rfl rfl) ?_
 refine vv (rmin rfl rfl hN) ?_
 refine vo ?_
 refine xmkS (zs := [.bool false, .slice _ _ _, .bool false, .slice _ _ _]) (N) sl23 in48 rfl rfl rfl rfl rfl (by omega) (by omega) (by omega) ?_
 intro W1 x2 out n3
 have s4 := x2.sz
 have z5 := x2
 refine ass rfl ?_
 refine vnil ?_
 refine V.seq ?_
 refine V.seq (V.reg rfl ?_)
 refine mvi rfl ?_
 refine vge rfl rfl ?_ ?_
 ·intro c6
  refine mvb rfl ?_
  refine vg rfl ?_
  refine mvi rfl ?_
  refine vg rfl ?_
  refine mvs rfl ?_
  refine vg rfl ?_
  refine vv (rlen sl23 rfl) ?_
  refine vg rfl ?_
  refine vlt rfl rfl ?_ ?_
  ·intro c7
   refine vv (rpk (v := .bool true) rfl rfl) ?_
   refine vnil ?_
   refine V.condT rfl ?_
   refine V.reg rfl ?_
   refine mvs rfl ?_
   refine mvi rfl ?_
   refine vo ?_
   refine xcall e27 (fFrom_ok _ _ _ (by omega) (hu2 _ (by omega))) rfl rfl ?_
   rintro _ W9 ⟨_, rfl, x10, hq8⟩
   have s11 := x10.sz
   have z12 := z5.trans x10
   replace out := out.ext x10
   obtain ⟨_, _, _, _, _, _, _, _, rfl⟩ := hq8.form
   refine ⟨_, rfl, ?_⟩
   refine vv (rix sl23 sz48 rfl rfl (by omega) (by omega) rfl) ?_
   refine vo ?_
   refine xstq (q := [.bool _, .slice _ _ _, .bool _, .slice _ _ _]) out rfl rfl rfl sz48 rfl rfl (by omega) (by omega) ?_
   intro W13 y14 out
   have z15 := z12.below (y14.below (by omega))
   have s16 := y14.size
   refine vnil ?_
   refine V.seq (V.reg rfl ?_)
   refine mvs rfl ?_
   refine ass rfl ?_
   refine vnil ?_
   refine V.ret ?_
   refine ⟨[.slice _ _ _], ⟨rfl, trivial⟩, ?_⟩
   refine ⟨_, _, rfl, z15, Nat.le_refl _, out, ?_⟩
   rw [unitv, if_pos (show 0 ≤ k ∧ k < (N : Int) from ⟨by omega, by omega⟩)]
   exact (All2.rep (QC.zero _ _) N).set (hq8.ck (y14.ck (by intro hh; first | (simp [SX] at hh <;> omega) | omega)))
  ·intro c7
   refine vv (rpk (v := .bool false) rfl rfl) ?_
   refine vnil ?_
   refine V.condF rfl ?_
   refine V.skip ?_
   refine V.seq (V.reg rfl ?_)
   refine mvs rfl ?_
   refine ass rfl ?_
   refine vnil ?_
   refine V.ret ?_
   refine ⟨[.slice _ _ _], ⟨rfl, trivial⟩, ?_⟩
   refine ⟨_, _, rfl, z5, Nat.le_refl _, out, ?_⟩
   rw [unitv, if_neg (show ¬ (0 ≤ k ∧ k < (N : Int)) from by omega)]
   exact All2.rep (QC.zero _ _) N
 ·intro c6
  refine mvb rfl ?_
  refine vgn (b := false) rfl rfl ?_
  refine vgn (b := false) rfl rfl ?_
  refine vgn (b := false) rfl rfl ?_
  refine vgn (b := false) rfl rfl ?_
  refine vv (rpk (v := .bool false) rfl rfl) ?_
  refine vnil ?_
  refine V.condF rfl ?_
  refine V.skip ?_
  refine V.seq (V.reg rfl ?_)
  refine mvs rfl ?_
  refine ass rfl ?_
  refine vnil ?_
  refine V.ret ?_
  refine ⟨[.slice _ _ _], ⟨rfl, trivial⟩, ?_⟩
  refine ⟨_, _, rfl, z5, Nat.le_refl _, out, ?_⟩
  rw [unitv, if_neg (show ¬ (0 ≤ k ∧ k < (N : Int)) from by omega)]
  exact All2.rep (QC.zero _ _) N
set_option maxHeartbeats 2000000 in
theorem sNull_ok (a1 : Option Addr) (n c L : Nat) (rss : List (List Rat)) (S S1 : Nat → Prop) (w : World) (hx : MA L S1 w a1 n c rss) (hl1 : 1 ≤ L) (hn : n ≤ 1024) (hc : colsN rss ≤ 1024) (hL5 : 15 * (L * 5 ^ colsN rss) + 2 < LY) (hu : Up S w) :
    Calls Tryz.prog 64 #[.slice a1 n c] w (fun e w' => ∃ ra rk rc, e = .returned (.slice ra rk rc) ∧ Ext w w' ∧ MC S w' ra rk rc (nullS rss n)) := by
 have z0 := Ext.refl w; have hLX : LX = 17592186044416 := rfl; have hLY : LY = 8796093022208 := rfl
 have hLV : LV = 1099511627776 := rfl
 have h51 : L * 1 ≤ L * 5 ^ colsN rss := Nat.mul_le_mul_left _ (Nat.pow_pos (by omega))
 refine enter (args := [.slice a1 n c]) Tryz.func64 rfl rfl (Nat.le_of_ble_eq_true rfl) ?_
 refine V.seq (V.reg rfl ?_)
 refine ass rfl ?_
 refine vnil ?_
 refine V.seq (V.reg rfl ?_)
 refine mvs rfl ?_
 refine vo ?_
 refine xcall e35 (mCols_ok _ _ _ _ _ _ _ hx) rfl rfl ?_
 rintro _ W1 ⟨rfl, x2⟩
 have s3 := x2.sz
 have z4 := x2
 refine ⟨_, rfl, ?_⟩
 refine asi rfl ?_
 refine vnil ?_
 refine V.seq (V.reg rfl ?_)
 refine mvs rfl ?_
 refine vo ?_
 refine xcall e123 (begin_ok _ _ _ L _ _ _ (hx.ext z4) (by omega) (by omega) (by omega) (by omega)) rfl rfl ?_
 rintro _ W6 ⟨bw, vw, rfl, x7, hbw, hbx, hbG⟩
 have s8 := x7.sz
 have z9 := z4.trans x7
 have hK0 := WS.begin hbx hbG hbw L; have lbw := hbx.lt
 refine ⟨_, rfl, ?_⟩
 obtain ⟨rows, hrows⟩ : ∃ r, r = gridm (matI rss) n (colsN rss) := ⟨_, rfl⟩
 have hrect : rect (colsN rss) rows := by rw [hrows]; exact gridm_rect _ _ _
 have hszr : szR L rows := by rw [hrows]; exact gridm_sz (fun i k => szMI (hx.ext z9) (by omega) _ _)
 have hrl : rows.length ≤ 1024 := by rw [hrows, len_gridm]; exact hn
 rw [← hrows] at hbG hK0
 refine mvi rfl ?_
 refine vo ?_
 have hS1 := hK0
 refine xcall e125 (all5_ok _ bw _ _ _ _ vw L (colsN rss) (colsN rss) rows _ hS1 hrect hszr (by omega) (by omega) hL5 hrl (by omega)) rfl rfl ?_
 rintro _ Wal ⟨pvw, rfl, kdal, hK, hpval⟩
 refine ⟨_, rfl, ?_⟩
 have hbl := hS1.below (B0 := W1.heap.size) kdal (Nat.le_refl _) (fun _ h => h.elim); have szal := kdal.size
 have z11 := z9.below (hbl.mono (by omega))
 obtain ⟨av, cv, rfl⟩ := hK.g.form; obtain ⟨ap, cp, rfl⟩ := hK.p.form
 obtain ⟨s, hs⟩ : ∃ s, s = redS rows (colsN rss) := ⟨_, rfl⟩; rw [← hs] at hK; have hall := redS_all hrect hszr (by omega) (colsN rss); rw [← hs] at hall; have hKx := hK.x; have hKm := (hK.mc rfl).max; have hKq := (hK.pn rfl).cap; have hKq2 := (hK.pn rfl).max
 have hrp := hK.p.rn (S := fun b => b < Wal.heap.size) (fun b _ h => h)
 have hpv : ∀ j, j < s.2.1.length → 0 ≤ wd s.2.1 j ∧ wd s.2.1 j < colsN rss := by rw [hs]; exact redS_pv rows _
 have hal1 := Nat.le_refl Wal.heap.size
 refine vo ?_
 refine xal zc132 ?_
 intro W14 x15 b16 nn17
 have s18 := x15.sz
 have z19 := z11.trans x15
 have z21 := x15
 replace hKx := hKx.ext x15
 refine vo ?_
 refine st1 (v := .pointer (some ⟨_, _, none⟩)) (cs' := [_]) b16 rfl rfl sz132 rfl rfl rfl rfl ?_
 intro W22 y23 b16
 have z24 := z19.below (y23.below (by omega))
 have z26 := z21.below (y23.below (by omega))
 replace hKx := hKx.wr y23 (by omega)
 have s27 := y23.size
 refine vnil ?_
 refine V.seq (V.reg rfl ?_)
 refine mvi rfl ?_
 have hK3 := (hK.ext z26); have b4r := b16; have bxr := hKx; have z3 := z24; have hrp3 := (hrp.ext z26); have s3z := z3.sz; have lb4r := b4r.lt
 refine vo ?_
 refine xmk ((colsN rss)) sl73 in3 (by simp [kb]) rfl rfl (by omega) (by omega) (by omega) ?_
 intro W29 x30 pva n31
 have s32 := x30.sz
 have z36 := x30
 replace hKx := hKx.ext x30
 replace b16 := b16.ext x30
 refine vo ?_
 refine xal zc73 ?_
 intro W37 x38 b39 nn40
 have s41 := x38.sz
 have z45 := z36.trans x38
 replace hKx := hKx.ext x38
 replace b16 := b16.ext x38
 replace pva := pva.ext x38
 refine vo ?_
 refine st1 (v := .slice _ _ _) (cs' := [_]) b39 rfl rfl sz73 rfl rfl rfl rfl ?_
 intro W46 y47 b39
 have z51 := z45.below (y47.below (by omega))
 replace hKx := hKx.wr y47 (by omega)
 replace b16 := b16.wr y47 (by omega)
 replace pva := pva.wr y47 (by omega)
 have s52 := y47.size
 refine vnil ?_
 refine V.seq ?_
 refine V.seq (V.reg rfl ?_)
 refine vv (rldb (v := .pointer (some ⟨_, _, none⟩)) rfl sc132 b16 rfl) ?_
 refine vo ?_
 refine xcall e126 (places_ok bw _) rfl rfl ?_
 rintro _ W53 ⟨b1, eb1, rfl, x54, hb1⟩
 have s55 := x54.sz
 have z59 := z51.trans x54
 replace hKx := hKx.ext x54
 replace pva := pva.ext x54
 replace b39 := b39.ext x54
 have lb1 := hb1.lt
 refine ⟨_, rfl, ?_⟩
 refine vnil ?_
 refine V.block ?_
 have lpv := pva.box.lt; have lb5 := b39.lt
 have lbx := (hKx).lt
 refine V.rf (gf := 170) rfl e170 (places_iter (D := fun q => q < W53.heap.size ∧ q ≠ W22.heap.size) (hb1) hKx ((hrp3.ext z59).sub (fun b _ h => ⟨by omega, by omega⟩)) ⟨by omega, by omega⟩ ⟨by omega, by omega⟩) (Ext.refl _) (by rintro k ⟨h, _⟩; exact h) rfl (fun i X => Ext W22 X ∧ AR .i64 X (W22.heap.size) 3 (colsN rss) (pvA s.2.1 (colsN rss) i) ∧ BoxAt X (W29.heap.size) [.slice (some ⟨W22.heap.size, 0, none⟩) (colsN rss) (colsN rss)] 73) (fun _ _ _ => False) (fun i X Y ⟨h1, h2, h3⟩ t => ⟨t.ext h1 (by omega), h2.tn t, h3.tn t⟩) (fun _ _ _ _ h _ => h) (⟨z59, pva, b39⟩) ?_ ?_ ?_
 ·intro l60 i61 X62 hi63 hM64 hk65 hs66
  refine V.seq (V.reg rfl ?_)
  refine asi rfl ?_
  refine vnil ?_
  refine V.reg rfl ?_
  refine asi rfl ?_
  refine vnil ?_
  refine ⟨rfl, Kf.refl _ _ _, ?_⟩
  intro Z67 t68
  obtain ⟨hX0, hA, h5⟩ := hi63
  replace hX0 := t68.ext hX0 (by omega); replace hA := hA.tn t68; replace h5 := h5.tn t68; have hAb := hA.box; have hwi := hpv i61 (by omega); have hAl := hA.box.lt; have sX0 := hX0.sz
  refine V.block ?_
  refine V.reg rfl ?_
  refine vv (rldb (v := .slice _ _ _) rfl sc73 h5 rfl) ?_
  refine mvi rfl ?_
  refine mvi rfl ?_
  refine vv (rbin (bAdd (wi (by omega))) rfl rfl) ?_
  refine vv (rix sl73 sz3 rfl rfl (by omega) (by omega) rfl) ?_
  refine vo ?_
  refine xsti hA rfl rfl sz3 (by simp only [kb]; omega) (by omega) (by omega) ?_
  intro W69 y70 hA
  replace h5 := h5.wr y70 (by omega)
  have s71 := y70.size
  refine vnil ?_
  exact ⟨Kf.wr y70 hAb (by rintro ⟨_, h⟩; exact h rfl), hX0.below (y70.below (by omega)), hA, h5⟩
 ·intro D72 X73 hD74 hI75 hdf76 hs77
  obtain ⟨hX0, hA, h5⟩ := hI75
  have zR := z3.trans hX0; have hKr := hK3.ext hX0; have b4x := b4r.ext hX0; have bxx := bxr.ext hX0; have sR := zR.sz; have sR2 := hX0.sz; have hMr := hKr.fin (S := fun b => b < X73.heap.size ∧ w.heap.size ≤ b) (fun b hb hb2 => ⟨hb2, by omega⟩)
  obtain ⟨hM0, hP0⟩ := hMr
  have hmk0 := (MkO.nil w.heap.size X73).cons hdf76 (by omega) (by simp)
  refine V.seq ?_
  refine V.seq (V.reg rfl ?_)
  refine mvi rfl ?_
  refine mvi rfl ?_
  refine vnil ?_
  refine V.block ?_
  refine V.loopD (ι := Nat × Value) [(3, .int _ _), (4, .pointer (some ⟨_, _, none⟩)), (5, .pointer (some ⟨_, _, none⟩)), (29, .int _ _)] (fun ⟨k, v⟩ => [(30, .int .i64 (k : Int)), (2, v)]) (fun ⟨k, v⟩ ds W => ∃ Ds, ds = Ds.map mark ∧ MkO w.heap.size Ds W ∧ k ≤ colsN rss ∧ Ext w W ∧ X73.heap.size ≤ W.heap.size ∧ MC (fun b => b < X73.heap.size ∧ w.heap.size ≤ b) W av s.1.length cv s.1 ∧ RN .i64 (fun b => b < X73.heap.size ∧ w.heap.size ≤ b) W ap s.2.1.length cp s.2.1 ∧ BoxAt W bw [.slice av s.1.length cv, .slice ap s.2.1.length cp, .func (.func 167) #[] #[], .func (.func 168) #[] #[]] 141 ∧ BoxAt W (Wal.heap.size) [.pointer (some ⟨bw, 0, none⟩)] 132 ∧ BoxAt W (W29.heap.size) [.slice (some ⟨W22.heap.size, 0, none⟩) (colsN rss) (colsN rss)] 73 ∧ AR .i64 W (W22.heap.size) 3 (colsN rss) (pvA s.2.1 (colsN rss) s.2.1.length) ∧ GO 1 (RowOf GC) S X73.heap.size W 23 v (nullL s.1 s.2.1 (colsN rss) k)) (fun ⟨k, v⟩ => colsN rss - k) ((0, _)) ⟨rfl, rfl, rfl, rfl, trivial⟩ ⟨rfl, rfl, trivial⟩ ⟨[D72], rfl, hmk0, Nat.zero_le _, zR, Nat.le_refl _, hM0, hP0, bxx, b4x, h5, hA, GO.nil _ _⟩ ?_
  intro i79 E80 ds W78 h81
  obtain ⟨k, v⟩ := i79
  simp only at h81
  show V _ _ _ _ _ _ (ups (ups _ _) [(30, .int .i64 (k : Int)), (2, v)]) _
  obtain ⟨Ds, rfl, hmk, hk, hzw, hWL, hM, hP, bxk, b4k, b5k, hA, hO⟩ := h81
  have zzk := Ext.refl W78; have szw := hzw.sz; have lb4k := b4k.lt; have lb5k := b5k.lt; have lAk := hA.box.lt; have lbxk := bxk.lt; have hO0 := hO; have b4k0 := b4k; have b5k0 := b5k; have bxk0 := bxk; have hA0 := hA
  refine V.seq (V.reg rfl ?_)
  refine vlt rfl rfl ?_ ?_
  ·intro c82
   refine vnil ?_
   refine V.seq ?_
   refine V.condT rfl ?_
   refine V.skip ?_
   refine V.seq ?_
   refine V.block ?_
   refine V.seq (V.reg rfl ?_)
   refine mvi rfl ?_
   refine vo ?_
   refine xal zc3 ?_
   intro W83 x84 b85 nn86
   have s87 := x84.sz
   have z88 := hzw.trans x84
   have z89 := x84
   replace b4k := b4k.ext x84
   replace b5k := b5k.ext x84
   replace hA := hA.ext x84
   replace bxk := bxk.ext x84
   refine vo ?_
   refine st1 (v := .int _ _) (cs' := [_]) b85 rfl rfl sz3 rfl rfl rfl rfl ?_
   intro W90 y91 b85
   have z92 := z88.below (y91.below (by omega))
   have z93 := z89.below (y91.below (by omega))
   replace b4k := b4k.wr y91 (by omega)
   replace b5k := b5k.wr y91 (by omega)
   replace hA := hA.wr y91 (by omega)
   replace bxk := bxk.wr y91 (by omega)
   have s94 := y91.size
   refine vnil ?_
   refine V.seq ?_
   refine V.seq (V.reg rfl ?_)
   refine vv (rldb (v := .slice _ _ _) rfl sc73 b5k rfl) ?_
   refine vv (rldb (v := .int _ _) rfl sc3 b85 rfl) ?_
   refine vv (rix sl73 sz3 rfl rfl (by omega) (by omega) rfl) ?_
   refine vldN (hA.rn (S := fun _ => True) trivial) rfl sc3 (by omega) (by omega) ?_
   intro q95 hq95 hk96
   simp only [kb] at hk96
   refine vgt rfl rfl ?_ ?_
   ·intro c97
    have hnp0 := pvA_pos s.2.1 (colsN rss) hpv k (by omega) s.2.1.length (Nat.le_refl _)
    rw [wd_mem, ← hq95] at hnp0
    have hnp : (k : Int) ∈ s.2.1 := hnp0.1 (by omega)
    refine vnil ?_
    refine V.condT rfl ?_
    refine V.exit ?_
    refine V.reg rfl ?_
    refine vv (rbin (bAdd (wi (by omega))) rfl rfl) ?_
    refine mvi rfl ?_
    refine vnil ?_
    refine ⟨(k + 1, _), ⟨rfl, rfl, rfl, rfl, trivial⟩, ⟨rfl, rfl, trivial⟩, ⟨Ds, rfl, hmk.ext z93, by omega, z92, by omega, (hM.ext z93), (hP.ext z93), bxk, b4k, b5k, hA, (by rw [nullL, if_pos hnp]; exact hO0.ext okRowC z93)⟩, ?_⟩
    show colsN rss - (k + 1) < colsN rss - k
    omega
   ·intro c97
    have hnp0 := pvA_pos s.2.1 (colsN rss) hpv k (by omega) s.2.1.length (Nat.le_refl _)
    rw [wd_mem, ← hq95] at hnp0
    have hnp : ¬ (k : Int) ∈ s.2.1 := fun h => by have := hnp0.2 h; omega
    refine vnil ?_
    refine V.condF rfl ?_
    refine V.skip ?_
    refine V.seq (V.reg rfl ?_)
    refine mvi rfl ?_
    refine vv (rldb (v := .int _ _) rfl sc3 b85 rfl) ?_
    refine vo ?_
    refine xcall e118 (vUnit_own _ _ (colsN rss) (fun b => W78.heap.size ≤ b) _ (by omega) (fun b hb => by omega)) rfl rfl ?_
    rintro _ W98 ⟨bx, qs0, rfl, x99, hbx0, hAx, hQx⟩
    have s100 := x99.sz
    have z102 := z93.trans x99
    replace b4k := b4k.ext x99
    replace b5k := b5k.ext x99
    replace hA := hA.ext x99
    replace bxk := bxk.ext x99
    replace b85 := b85.ext x99
    have lAx := hAx.box.lt
    refine ⟨_, rfl, ?_⟩
    refine vo ?_
    refine xal zc23 ?_
    intro W104 x105 b106 nn107
    have s108 := x105.sz
    have z110 := z102.trans x105
    have z111 := x105
    replace b4k := b4k.ext x105
    replace b5k := b5k.ext x105
    replace hA := hA.ext x105
    replace bxk := bxk.ext x105
    replace b85 := b85.ext x105
    replace hAx := hAx.ext x105
    refine vo ?_
    refine st1 (v := .slice _ _ _) (cs' := [_]) b106 rfl rfl sz23 rfl rfl rfl rfl ?_
    intro W112 y113 b106
    have z115 := z110.below (y113.below (by omega))
    have z116 := z111.below (y113.below (by omega))
    replace b4k := b4k.wr y113 (by omega)
    replace b5k := b5k.wr y113 (by omega)
    replace hA := hA.wr y113 (by omega)
    replace bxk := bxk.wr y113 (by omega)
    replace b85 := b85.wr y113 (by omega)
    replace hAx := hAx.wr y113 (by omega)
    have s117 := y113.size
    refine vnil ?_
    refine V.seq ?_
    refine V.seq (V.reg rfl ?_)
    refine vv (rldb (v := .pointer (some ⟨_, _, none⟩)) rfl sc132 b4k rfl) ?_
    refine vo ?_
    refine xcall e126 (places_ok bw _) rfl rfl ?_
    rintro _ W118 ⟨b1, eb1, rfl, x119, hb1⟩
    have s120 := x119.sz
    have z122 := z115.trans x119
    have z123 := z116.trans x119
    replace b4k := b4k.ext x119
    replace b5k := b5k.ext x119
    replace hA := hA.ext x119
    replace bxk := bxk.ext x119
    replace b85 := b85.ext x119
    replace hAx := hAx.ext x119
    replace b106 := b106.ext x119
    have lb1 := hb1.lt
    refine ⟨_, rfl, ?_⟩
    refine vnil ?_
    refine V.block ?_
    have lb8 := b85.lt; have lb9 := b106.lt; have zk1 := z122; have szk1 := zk1.sz; have bx1 := bxk; have b41 := b4k; have b51 := b5k; have pv1 := hA
    refine V.rf (gf := 170) rfl e170 (places_iter (D := fun q => q < W118.heap.size ∧ q ≠ bx) (hb1) bx1 ((hP.ext zk1).sub (fun b _ h => ⟨by omega, by omega⟩)) ⟨by omega, by omega⟩ ⟨by omega, by omega⟩) (Ext.refl _) (by rintro k ⟨h, _⟩; exact h) rfl (fun i X => Ext W78 X ∧ BoxAt X (W78.heap.size) [.int .i64 (k : Int)] 3 ∧ BoxAt X (W98.heap.size) [.slice (some ⟨bx, 0, none⟩) (colsN rss) (colsN rss)] 23 ∧ ∃ qs, AQ 4 X bx 48 (colsN rss) qs ∧ All2 (QC (SX (fun b => W78.heap.size ≤ b) [bx]) X) qs (nvec s.1 s.2.1 (colsN rss) k i)) (fun _ _ _ => False) (fun i X Y ⟨h1, h2, h3, qs, h4, h5⟩ t => ⟨t.ext h1 (by omega), h2.tn t, h3.tn t, qs, h4.tn t, h5.imp fun _ _ h => h.ck (t.ck _)⟩) (fun _ _ _ _ h _ => h) (⟨zk1, b85, b106, _, hAx, hQx.imp fun _ _ h => h.ext z123⟩) ?_ ?_ ?_
    ·intro l124 i125 X126 hi127 hM128 hk129 hs130
     refine V.seq (V.reg rfl ?_)
     refine asi rfl ?_
     refine vnil ?_
     refine V.reg rfl ?_
     refine asi rfl ?_
     refine vnil ?_
     refine ⟨rfl, Kf.refl _ _ _, ?_⟩
     intro Z131 t132
     obtain ⟨hX0, h8, h9, qs, hA2, hQ2⟩ := hi127
     replace hX0 := t132.ext hX0 (by omega); replace hA2 := hA2.tn t132; replace h8 := h8.tn t132; replace h9 := h9.tn t132; replace hQ2 := hQ2.imp fun _ _ h => h.ck (t132.ck _); have hAb := hA2.box; have hwi := hpv i125 (by omega); have hAl := hA2.box.lt; have sX0 := hX0.sz; have hM2 := hM.ext hX0; have b42 := b4k0.ext hX0; have bx2 := bxk0.ext hX0
     have hzz := Ext.refl Z131
     have hrw := hall.2.2.1.row (i := ((i125 : Nat) : Int).toNat) (by omega)
     obtain ⟨ra5, rk5, rc5, hc5, hg5⟩ := hM2.el (i := (i125 : Int)) (by omega) (by omega)
     have ce5 : C1 Z131 _ _ := hc5; have hga5 := hg5.va (hall.2.2.2.row _); have hgl5 := hg5.len
     obtain ⟨en0, ea0, el0, ec0, em0, eb0, ek0, ed0, hq0, hc0⟩ := hga5.el (i := (k : Int)) (by omega) (by omega)
     have ce0 : CE Z131 _ _ := hc0
     have hux : ∀ W : World, Z131.heap.size ≤ W.heap.size → Up (SX (fun b => W78.heap.size ≤ b) [bx]) W := fun W hW b hb => ⟨by omega, by simp; omega⟩
     refine V.block ?_
     refine V.regD mixed rfl ?_
     intro W133 x134
     have s135 := x134.sz
     have z136 := x134
     replace hA2 := hA2.ext x134
     replace h8 := h8.ext x134
     replace h9 := h9.ext x134
     replace b42 := b42.ext x134
     replace bx2 := bx2.ext x134
     have q137 := Ext.refl W133
     have r138 := hA2
     have r139 := h8
     have r140 := h9
     have r141 := b42
     have r142 := bx2
     refine tk 0 rfl (by kernel_rfl) q137 (pv (fun _ y143 => rldb (v := .slice _ _ _) rfl sc23 (r140.ext y143) rfl)) ?_
     refine tk 1 rfl (by kernel_rfl) q137 (pv (fun _ y144 => rmv (v := .int _ _) rfl)) ?_
     refine tk 2 rfl (by kernel_rfl) q137 (pv (fun _ y145 => rldb (v := .pointer (some ⟨_, _, none⟩)) rfl sc132 (r141.ext y145) rfl)) ?_
     refine tk 3 rfl (by kernel_rfl) q137 (pv (fun _ y146 => rnc (v := .pointer (some ⟨_, _, none⟩)) rfl rfl)) ?_
     refine tk 4 rfl (by kernel_rfl) q137 (pv (fun _ y147 => rfa rfl fd141_0)) ?_
     refine tk 5 rfl (by kernel_rfl) q137 (pv (fun _ y148 => rldb (v := .slice av _ cv) rfl sc22 (r142.ext y148) rfl)) ?_
     refine tk 6 rfl (by kernel_rfl) q137 (pv (fun _ y149 => rmv (v := .int _ _) rfl)) ?_
     refine tk 7 rfl (by kernel_rfl) q137 (pv (fun _ y150 => rix sl22 sz23 rfl rfl (by omega) (by omega) (((hM2.ext z136).ext y150).isS (i := 0) (by omega) (by omega)))) ?_
     refine tk 8 rfl (by kernel_rfl) q137 (pv (fun _ y151 => rld1 (v := .slice _ _ _) rfl sc23 ((ce5.ext z136).ext y151))) ?_
     refine tk 9 rfl (by kernel_rfl) q137 (pv (fun _ y152 => rldb (v := .int _ _) rfl sc3 (r139.ext y152) rfl)) ?_
     refine tk 10 rfl (by kernel_rfl) q137 (pv (fun _ y153 => rix sl23 sz48 rfl rfl (by omega) (by omega) (((hga5.ext z136).ext y153).isS (i := 0) (by omega) (by omega)))) ?_
     refine tk 11 rfl (by kernel_rfl) q137 (pv (fun _ y154 => rldn (l := [.bool _, .slice _ _ _, .bool _, .slice _ _ _]) rfl ag48 rfl ((ce0.ext z136).ext y154))) ?_
     refine ef 12 (by kernel_rfl) rfl ?_
     refine xcall e72 (fNeg_ok _ _ _ _ _ _ (hq0.ext z136) (by omega) (by omega) (hux _ (by omega))) rfl rfl ?_
     rintro _ W156 ⟨_, rfl, x157, hq155⟩
     have s158 := x157.sz
     replace hA2 := hA2.ext x157
     replace h8 := h8.ext x157
     replace h9 := h9.ext x157
     have q160 := q137.trans x157
     obtain ⟨_, _, _, _, _, _, _, _, rfl⟩ := hq155.form
     refine ⟨_, rfl, ?_⟩
     refine ⟨fun _ => q160, ?_⟩
     refine tk 13 rfl (by kernel_rfl) q160 (pv (fun _ y161 => rix sl23 sz48 rfl rfl (by omega) (by omega) rfl)) ?_
     refine ef 14 (by kernel_rfl) rfl ?_
     refine xstq (q := [.bool _, .slice _ _ _, .bool _, .slice _ _ _]) hA2 rfl rfl rfl sz48 rfl rfl (by omega) (by omega) ?_
     intro W162 y163 hA2
     replace h8 := h8.wr y163 (by omega)
     replace h9 := h9.wr y163 (by omega)
     have s164 := y163.size
     refine lastT (by kernel_rfl) ?_
     refine dn (by kernel_rfl) ?_
     exact ⟨(Kf.ext (x134.trans x157)).trans (Kf.wr y163 (hAb.ext (x134.trans x157)) (by rintro ⟨_, h⟩; exact h rfl)), (hX0.trans (x134.trans x157)).below (y163.below (by omega)), h8, h9, _, hA2, ((hQ2.imp fun _ _ h => h.ext (x134.trans x157)).set (hq155.ext (Ext.refl _))).imp fun _ _ h => h.ck (y163.ck (fun hh => hh.2 (by simp)))⟩
    ·intro D165 X166 hD167 hI168 hdf169 hs170
     obtain ⟨hX0, h8, h9, qs, hA2, hQ2⟩ := hI168
     have zw2 := hzw.trans hX0; have sX0 := hX0.sz; have lA2 := hA2.box.lt; have b42 := b4k0.ext hX0; have b52 := b5k0.ext hX0; have pv2 := hA0.ext hX0; have bx2 := bxk0.ext hX0; have hO2 := hO0.ext okRowC hX0; have zx2 := Ext.refl X166
     have hmk2 := (hmk.ext hX0).cons hdf169 (by omega) (fun h => by have := hmk.lt _ h; omega)
     refine V.reg rfl ?_
     refine vv (rmv (v := v) rfl) ?_
     refine vv (rldb (v := .slice _ _ _) rfl sc23 h9 rfl) ?_
     refine vo ?_
     refine xbs (ps := [(0, .slice _ _ _)]) (cs := [.slice _ _ _]) sl22 zr23 sz23 rfl rfl rfl rfl rfl rfl ?_
     intro W171 x172 b173 nn174
     have s175 := x172.sz
     have z176 := zw2.trans x172
     have z177 := hX0.trans x172
     have z178 := x172
     replace b42 := b42.ext x172
     replace b52 := b52.ext x172
     replace pv2 := pv2.ext x172
     replace bx2 := bx2.ext x172
     replace hA2 := hA2.ext x172
     replace h9 := h9.ext x172
     replace hO2 := hO2.ext okRowC x172
     have hMb := (hM.ext z177); have hPb := (hP.ext z177); have hmkb := hmk2.ext z178; have bxb := bx2
     refine vo ?_
     refine xappG okRowC sl22 in23 rfl rfl hO2 rfl rfl b173 rfl rfl ((⟨_, _, _, rfl, _, hA2.rs (S := SO S v) ⟨hu _ (by omega), fun e => by obtain ⟨qs', hg', _⟩ := hO0; have := (hg'.low _ e).2; omega⟩, hQ2.imp fun _ _ h => (h.ext z178).sub fun b hb hs => ⟨hu _ (by have := hs.1; omega), fun e => by obtain ⟨qs', hg', _⟩ := hO0; have := (hg'.low _ e).2; have := hs.1; omega⟩⟩ : RowOf GC _ _ _ _)) (by have := nullL_len s.1 s.2.1 (colsN rss) k; omega) (by decide) (by omega) ?_
     intro v179 W180 hO181 hg182
     have y183 := hg182.below; have s184 := y183.size
     have z185 := z176.below (y183.mono (by omega))
     replace b42 := b42.bl y183 (by omega)
     replace b52 := b52.bl y183 (by omega)
     replace pv2 := pv2.bl y183 (by omega)
     replace bx2 := bx2.bl y183 (by omega)
     refine vv (ras (v := v179) rfl) ?_
     refine vnil ?_
     refine V.reg rfl ?_
     refine vv (rbin (bAdd (wi (by omega))) rfl rfl) ?_
     refine mvi rfl ?_
     refine vnil ?_
     refine ⟨(k + 1, _), ⟨rfl, rfl, rfl, rfl, trivial⟩, ⟨rfl, rfl, trivial⟩, ⟨D165 :: Ds, rfl, hmkb.kb hg182, by omega, z185, by omega, hMb.ck (Below.kd (D := fun b => b < X73.heap.size ∧ w.heap.size ≤ b) y183 (fun k h _ => h.1)).ck, hPb.ck (Below.kd (D := fun b => b < X73.heap.size ∧ w.heap.size ≤ b) y183 (fun k h _ => h.1)).ck, bx2, b42, b52, pv2, (by rw [nullL, if_neg hnp]; exact hO181)⟩, ?_⟩
     show colsN rss - (k + 1) < colsN rss - k
     omega
    ·intro _ _ _ _ _ _ h; exact h.elim
  ·intro c82
   refine vnil ?_
   refine V.seq ?_
   refine V.condF rfl ?_
   refine V.exit ?_
   refine V.seq (V.reg rfl ?_)
   refine vv (rmv (v := v) rfl) ?_
   refine vv (ras (v := v) rfl) ?_
   refine vnil ?_
   refine V.ret ?_
   refine Lv_all hmk fun Wl tl => ?_
   refine ⟨[v], ⟨rfl, trivial⟩, ?_⟩
   have hO9 := hO.tn okRowC tl
   obtain ⟨a', c', rfl⟩ := hO9.form
   refine ⟨_, _, _, rfl, tl.ext hzw (Nat.le_refl _), ?_⟩
   have hfin := hO9.fin okRowC (fun b hb _ => hu b (by omega))
   have ek : k = colsN rss := by omega
   unfold nullS; rw [← hrows, ← hs]; subst ek; exact hfin
 ·intro _ _ _ _ _ _ h; exact h.elim
end Go.Proofs.YtknbjfefeeojlaaGreat
/- Package solve: Solve. -/
namespace Go.Proofs.YtknbjfefeeojlaaGreat
open Go.RowKit
attribute [local irreducible] RV VH V OpF Calls
/-- The vector of the solution, after i pivots. -/
def svec (rows : List (List Rat)) (piv : List Int) (N : Nat) : Nat → List Rat
  | 0 => List.replicate N 0
  | i + 1 => (svec rows piv N i).set (wd piv i).toNat (mat rows i N)
/-- The reduced augmented matrix. -/
def solW (rss : List (List Rat)) (bs : List Rat) (M : Nat) : List (List Rat) × List Int × Rat :=
  redS (gridm (matI (wideM rss bs M (colsN rss))) M (colsN (wideM rss bs M (colsN rss)))) (colsN rss + 1)

def solX (rss : List (List Rat)) (bs : List Rat) (M : Nat) : List Rat := if (colsN rss : Int) ∈ (solW rss bs M).2.1 then [] else svec (solW rss bs M).1 (solW rss bs M).2.1 (colsN rss) (solW rss bs M).2.1.length

def solF (rss : List (List Rat)) (bs : List Rat) (n M : Nat) : List (List Rat) := if (colsN rss : Int) ∈ (solW rss bs M).2.1 then [] else nullS rss n

def solE (rss : List (List Rat)) (bs : List Rat) (M : Nat) : Int := if (colsN rss : Int) ∈ (solW rss bs M).2.1 then 8 else 0
theorem wide_rect (rss : List (List Rat)) (bs : List Rat) (M N : Nat) : rect (N + 1) (gridm (matI (wideM rss bs M N)) M (colsN (wideM rss bs M N))) := by
  rcases Nat.eq_zero_or_pos M with h0 | h0
  · subst h0; intro r hr; simp [gridm] at hr
  · have : colsN (wideM rss bs M N) = N + 1 := by rw [wideM, colsN_gridm, Nat.min_eq_right h0]; omega
    rw [this]; exact gridm_rect _ _ _
theorem wide_cols (rss : List (List Rat)) (bs : List Rat) (M N : Nat) : colsN (wideM rss bs M N) ≤ N + 1 := colsN_rect_le (gridm_rect _ _ _)
/-- A box that holds a pointer is none of the blocks of a matrix. -/
theorem RN.np {k : IntKind} {S : Nat → Prop} {W : World} {a : Option Addr} {n c nb : Nat} {xs : List Int} {p : Option Addr} {T : TypeId} (h : RN k S W a n c xs) (hb : BoxAt W nb [.pointer p] T) : RN k (fun b => S b ∧ b ≠ nb) W a n c xs :=
  ⟨h.len, h.cap, h.max, h.wf, fun hn => by
    obtain ⟨b, off, cs, T', fz, e, h1, h2, hc⟩ := h.at_ hn
    refine ⟨b, off, cs, T', fz, e, ⟨h1, fun eb => ?_⟩, h2, hc⟩
    subst eb
    have h3 := hc 0 hn
    unfold BoxAt at hb
    rw [hb] at h2; cases h2
    rcases off with _ | o <;> simp at h3⟩
theorem QC.np {S : Nat → Prop} {W : World} {q : List Value} {r : Rat} {nb : Nat} {p : Option Addr} {T : TypeId} (h : QC S W q r) (hb : BoxAt W nb [.pointer p] T) : QC (fun b => S b ∧ b ≠ nb) W q r := by
  obtain ⟨a1, l1, c1, a2, l2, c2, e, h1, h2⟩ := h
  exact ⟨a1, l1, c1, a2, l2, c2, e, h1.np hb, h2.np hb⟩
theorem GC.np {S : Nat → Prop} {W : World} {a : Option Addr} {n c nb : Nat} {rs : List Rat} {p : Option Addr} {T : TypeId} (h : GC S W a n c rs) (hb : BoxAt W nb [.pointer p] T) : GC (fun b => S b ∧ b ≠ nb) W a n c rs := by
  obtain ⟨qs, h1, h2⟩ := h
  refine ⟨qs, ⟨h1.len, h1.cap, h1.max, h1.wd, fun hn => ?_⟩, h2.imp fun _ _ hq => hq.np hb⟩
  obtain ⟨b, off, cs, T', fz, e, h3, h4, hc⟩ := h1.at_ hn
  refine ⟨b, off, cs, T', fz, e, ⟨h3, fun eb => ?_⟩, h4, hc⟩
  subst eb
  have hl : 0 < qs.length := by rw [h1.len]; exact hn
  obtain ⟨r, _, hq⟩ := h2.get (List.getElem?_eq_getElem hl)
  obtain ⟨n1, a1, l1, c1, n2, a2, l2, c2, eq⟩ := hq.form
  have h5 := hc 0 _ (List.getElem?_eq_getElem hl) 0 (.bool n1) (by rw [eq]; rfl)
  unfold BoxAt at hb
  rw [hb] at h4; cases h4
  rcases off with _ | o <;> simp at h5
theorem WS.wrp {B bw L nb : Nat} {fs fd v pv : Value} {CX : Nat → (Nat → Prop) → World → Rat → Prop} {rows : List (List Rat)} {piv : List Int} {δ : Rat} {W W' : World} {xd : Nat → Prop} {p : Option Addr} {T : TypeId} (h : WS B bw fs fd xd CX v pv L rows piv δ W) (hb : BoxAt W nb [.pointer p] T) (h1 : T ≠ 23) (h2 : T ≠ 3) (h3 : nb ≠ bw) (hx : ¬ xd nb) (y : Wr nb W W') (hc : CX L (fun b => KQ bw v pv b ∧ b ≠ nb) W δ) : WS B bw fs fd xd CX v pv L rows piv δ W' := by
  have kq := h.nb hb h1 h2 h3
  have k : KD (fun b => b ≠ nb) W W' := y.kd fun h => h rfl
  refine ⟨h.cl, h.x.kd k (Ne.symm h3), ?_, h.p.ck k.ck (fun b e hh => kq.2.2 (hh ▸ e)), h.cl.sub (h.cl.ck hc (S' := fun b => b ≠ nb) k.ck (fun b _ hs => hs.2) (fun b hb' e => hx (e ▸ hb'))) (fun b _ hs => hs.1), h.hB, h.hx⟩
  obtain ⟨qs, h4, h5⟩ := h.g
  refine ⟨qs, h4.ck k.ck fun b e hh => kq.2.1 (hh ▸ e), h5.imp fun _ _ hq => ?_⟩
  obtain ⟨a, n, c, e, hg⟩ := hq
  exact ⟨a, n, c, e, ((hg.np hb).ck (k.ck.sub fun b hs => hs.2)).sub fun b _ hs => hs.1⟩
theorem KD.low {D : Nat → Prop} {B : Nat} {X Y Z : World} (h : Below B X Y) (k : KD D Y Z) (hD : ∀ q, q < B → D q) (hs : B ≤ Y.heap.size) : Below B X Z := h.trans (k.below hD hs)

set_option maxHeartbeats 2000000 in
theorem sSolve_ok (a1 a2 : Option Addr) (n c m d L : Nat) (rss : List (List Rat)) (bs : List Rat) (S S1 S2 : Nat → Prop) (w : World) (hx : MA L S1 w a1 n c rss) (hy : GA L S2 w a2 m d bs) (hl1 : 1 ≤ L) (hn : n ≤ 1000) (hm : m ≤ 1000) (hc : colsN rss ≤ 1000) (hL5 : 15 * (L * 5 ^ (colsN rss + 1)) + 2 < LY) (hu : Up S w) :
    Calls Tryz.prog 51 #[.slice a1 n c, .slice a2 m d] w (fun e w' => ∃ ax nx cx af nf cf er, e = .returned (.tuple #[.slice ax nx cx, .slice af nf cf, .int .i64 er]) ∧ Ext w w' ∧ GC S w' ax nx cx (solX rss bs (max n m)) ∧ MC S w' af nf cf (solF rss bs n (max n m)) ∧ er = solE rss bs (max n m)) := by
 have z0 := Ext.refl w; have hLX : LX = 17592186044416 := rfl; have hLY : LY = 8796093022208 := rfl
 have hLV : LV = 1099511627776 := rfl
 have h51 : L * 1 ≤ L * 5 ^ (colsN rss + 1) := Nat.mul_le_mul_left _ (Nat.pow_pos (by omega))
 have h52 : L * 5 ^ colsN rss ≤ L * 5 ^ (colsN rss + 1) := Nat.mul_le_mul_left _ (Nat.pow_le_pow_right (by omega) (by omega))
 refine enter (args := [.slice a1 n c, .slice a2 m d]) Tryz.func51 rfl rfl (Nat.le_of_ble_eq_true rfl) ?_
 refine V.seq (V.reg rfl ?_)
 refine vo ?_
 refine xal zc23 ?_
 intro W1 x2 b3 nn4
 have s5 := x2.sz
 have z6 := x2
 refine vo ?_
 refine xal zc22 ?_
 intro W7 x8 b9 nn10
 have s11 := x8.sz
 have z12 := z6.trans x8
 replace b3 := b3.ext x8
 refine vo ?_
 refine xal zc31 ?_
 intro W13 x14 b15 nn16
 have s17 := x14.sz
 have z18 := z12.trans x14
 replace b3 := b3.ext x14
 replace b9 := b9.ext x14
 refine vnil ?_
 refine V.seq (V.reg rfl ?_)
 refine mvs rfl ?_
 refine vo ?_
 refine xcall e35 (mCols_ok _ _ _ _ _ _ _ (hx.ext z18)) rfl rfl ?_
 rintro _ W19 ⟨rfl, x20⟩
 have s21 := x20.sz
 have z22 := z18.trans x20
 replace b3 := b3.ext x20
 replace b9 := b9.ext x20
 replace b15 := b15.ext x20
 refine ⟨_, rfl, ?_⟩
 refine vo ?_
 refine xal zc3 ?_
 intro W23 x24 b25 nn26
 have s27 := x24.sz
 have z28 := z22.trans x24
 replace b3 := b3.ext x24
 replace b9 := b9.ext x24
 replace b15 := b15.ext x24
 refine vo ?_
 refine st1 (v := .int _ _) (cs' := [_]) b25 rfl rfl sz3 rfl rfl rfl rfl ?_
 intro W29 y30 b25
 have z31 := z28.below (y30.below (by omega))
 replace b3 := b3.wr y30 (by omega)
 replace b9 := b9.wr y30 (by omega)
 replace b15 := b15.wr y30 (by omega)
 have s32 := y30.size
 refine vnil ?_
 obtain ⟨rows, hrows⟩ : ∃ r, r = gridm (matI (wideM rss bs (max n m) (colsN rss))) (max n m) (colsN (wideM rss bs (max n m) (colsN rss))) := ⟨_, rfl⟩
 have hrect : rect (colsN rss + 1) rows := by rw [hrows]; exact wide_rect _ _ _ _
 have hwsz : szR L (wideM rss bs (max n m) (colsN rss)) := gridm_sz fun i k => wideF_sz (hx.rowsz hl1) (hy.szv hl1) hl1 _ _
 have hszr : szR L rows := by rw [hrows]; exact gridm_sz (fun i k => hwsz.matI hl1 _ _)
 have hrl : rows.length ≤ 1024 := by rw [hrows, len_gridm]; omega
 have hwc := wide_cols rss bs (max n m) (colsN rss)
 obtain ⟨s, hs⟩ : ∃ s, s = redS rows (colsN rss + 1) := ⟨_, rfl⟩
 have hall := redS_all hrect hszr hl1 (colsN rss + 1); rw [← hs] at hall
 have hsol : solW rss bs (max n m) = s := by rw [hs, hrows]; rfl
 have hpv : ∀ j, j < s.2.1.length → 0 ≤ wd s.2.1 j ∧ wd s.2.1 j < ((colsN rss + 1 : Nat) : Int) := by rw [hs]; exact redS_pv rows _
 refine V.seq (V.regJ (ι := Nat × Nat × Option Addr × Nat × Option Addr × Nat × Nat) [(0, .slice _ _ _), (1, .slice _ _ _), (4, .pointer (some ⟨_, _, none⟩)), (5, .pointer (some ⟨_, _, none⟩)), (6, .pointer (some ⟨_, _, none⟩)), (7, .pointer (some ⟨_, _, none⟩))] (fun ⟨nb, bw, av, cv, ap, cp, B0⟩ => [(8, .pointer (some ⟨nb, 0, none⟩))]) (fun ⟨nb, bw, av, cv, ap, cp, B0⟩ W => Ext W29 W ∧ W29.heap.size ≤ nb ∧ W29.heap.size ≤ B0 ∧ nb ≠ bw ∧ WS B0 bw (.func (.func 167) #[] #[]) (.func (.func 168) #[] #[]) (fun _ => False) (fun _ _ _ _ => True) (.slice av s.1.length cv) (.slice ap s.2.1.length cp) (L * 5 ^ (colsN rss + 1)) s.1 s.2.1 s.2.2 W ∧ BoxAt W nb [.pointer (some ⟨bw, 0, none⟩)] 132) mixed rfl ⟨rfl, rfl, rfl, rfl, rfl, rfl, trivial⟩ ?_ ?_)
 ·skip
  intro W34 x35
  have s36 := x35.sz
  have z37 := z31.trans x35
  have z38 := x35
  replace b3 := b3.ext x35
  replace b9 := b9.ext x35
  replace b15 := b15.ext x35
  replace b25 := b25.ext x35
  have q39 := Ext.refl W34
  have r40 := b3
  have r41 := b9
  have r42 := b15
  have r43 := b25
  refine tk 0 rfl (by kernel_rfl) q39 (pv (fun _ y44 => rmv (v := .slice _ _ _) rfl)) ?_
  refine tk 1 rfl (by kernel_rfl) q39 (pv (fun _ y45 => rmv (v := .slice _ _ _) rfl)) ?_
  refine tk 4 rfl (by kernel_rfl) q39 (pv (fun _ y46 => rldb (v := .int _ _) rfl sc3 (r43.ext y46) rfl)) ?_
  refine tk 5 rfl (by kernel_rfl) q39 (pv (fun _ y47 => rbin (bAdd (wi (by omega))) rfl rfl)) ?_
  refine efs 2 [7] (by kernel_rfl) ⟨?_, ?_, trivial⟩
  ·skip
   refine efI rfl ?_
   refine xcall e124 (sWide_ok _ _ _ _ _ _ L rss bs TT S1 S2 _ (hx.ext z37) (hy.ext z37) hl1 (by omega) (by omega) (by omega) (by omega) (TT.up _)) rfl rfl ?_
   rintro _ W48 ⟨_, nw, _, rfl, x49, hwm⟩
   have s50 := x49.sz
   have z52 := z38.trans x49
   have q53 := q39.trans x49
   have hwl := hwm.len; rw [wideM, len_gridm] at hwl
   have hwma := hwm.ma (L := L) hwsz
   refine ⟨_, rfl, ?_⟩
   refine ⟨fun _ => q53, ?_⟩
   refine efs 3 [7] (by kernel_rfl) ⟨?_, ?_, trivial⟩
   ·skip
    refine efI rfl ?_
    refine xcall e123 (begin_ok _ _ _ L _ _ _ ((hwm).ma (L := L) hwsz) (by omega) (by omega) (by omega) (by omega)) rfl rfl ?_
    rintro _ W55 ⟨bw, vw, rfl, x56, hbw, hbx, hbG⟩
    have s57 := x56.sz
    have z59 := z52.trans x56
    have q61 := q53.trans x56
    rw [show nw = max n m by omega, ← hrows] at hbG
    have hK0 := WS.begin hbx hbG hbw L; have lbw := hbx.lt
    refine ⟨_, rfl, ?_⟩
    refine ⟨fun _ => q61, ?_⟩
    refine efs 6 [7] (by kernel_rfl) ⟨?_, ?_, trivial⟩
    ·skip
     refine efI rfl ?_
     have hS1 := hK0
     refine xcall e125 (all5_ok _ bw _ _ _ _ vw L (colsN rss + 1) (colsN rss + 1) rows _ hS1 hrect hszr (Nat.le_refl _) hl1 hL5 hrl (by omega)) rfl rfl ?_
     rintro _ Wal ⟨pvw, rfl, kdal, hK, hpval⟩
     refine ⟨_, rfl, ?_⟩
     have hbl := hS1.below (B0 := W48.heap.size) kdal (Nat.le_refl _) (fun _ h => h.elim); have szal := kdal.size
     have z63 := z59.below (hbl.mono (by omega))
     have q65 := q61.below (hbl.mono (by omega))
     obtain ⟨av, cv, rfl⟩ := hK.g.form; obtain ⟨ap, cp, rfl⟩ := hK.p.form
     rw [← hs] at hK
     refine ⟨fun _ => q65, ?_⟩
     refine ef 7 (by kernel_rfl) rfl ?_
     refine xal zc132 ?_
     intro W67 x68 b69 nn70
     have s71 := x68.sz
     have z73 := z63.trans x68
     have z75 := x68
     have q76 := q65.trans x68
     refine ⟨fun _ => q76, ?_⟩
     refine ef 8 (by kernel_rfl) rfl ?_
     have hK8 := (hK.ext z75); have hb80 := b69
     refine st1 (v := .pointer (some ⟨_, _, none⟩)) (cs' := [_]) b69 rfl rfl sz132 rfl rfl rfl rfl ?_
     intro W77 y78 b69
     have z80 := z73.below (y78.below (by omega))
     have s83 := y78.size
     refine lastT (by kernel_rfl) ?_
     refine dn (by kernel_rfl) ?_
     have hKj := hK8.wrp hb80 (by decide) (by decide) (by omega) (fun h => h) y78 trivial
     exact ⟨(Wal.heap.size, bw, av, cv, ap, cp, W48.heap.size), ⟨rfl, rfl, rfl, rfl, rfl, rfl, trivial⟩, ⟨rfl, trivial⟩, z80, by omega, by omega, by omega, hKj, b69⟩
    ·skip
     refine efI rfl ?_
     refine xal zc132 ?_
     intro W84 x85 b86 nn87
     have s88 := x85.sz
     have z90 := z59.trans x85
     have q92 := q61.trans x85
     refine ⟨fun _ => q92, ?_⟩
     refine ef 6 (by kernel_rfl) rfl ?_
     have hS1 := (hK0.ext x85)
     refine xcall e125 (all5_ok _ bw _ _ _ _ vw L (colsN rss + 1) (colsN rss + 1) rows _ hS1 hrect hszr (Nat.le_refl _) hl1 hL5 hrl (by omega)) rfl rfl ?_
     rintro _ Wal ⟨pvw, rfl, kdal, hK, hpval⟩
     refine ⟨_, rfl, ?_⟩
     have hbl := hS1.below (B0 := W48.heap.size) kdal (Nat.le_refl _) (fun _ h => h.elim); have szal := kdal.size
     have z94 := z90.below (hbl.mono (by omega))
     replace b86 := b86.kd kdal ⟨b86.lt, by omega, (hS1.nb b86 (by decide) (by decide) (by omega)).2.1, fun h => h⟩
     have q96 := q92.below (hbl.mono (by omega))
     obtain ⟨av, cv, rfl⟩ := hK.g.form; obtain ⟨ap, cp, rfl⟩ := hK.p.form
     rw [← hs] at hK
     refine ⟨fun _ => q96, ?_⟩
     refine ef 8 (by kernel_rfl) rfl ?_
     have hK8 := hK; have hb80 := b86
     refine st1 (v := .pointer (some ⟨_, _, none⟩)) (cs' := [_]) b86 rfl rfl sz132 rfl rfl rfl rfl ?_
     intro W98 y99 b86
     have z101 := z94.below (y99.below (by omega))
     have s103 := y99.size
     refine lastT (by kernel_rfl) ?_
     refine dn (by kernel_rfl) ?_
     have hKj := hK8.wrp hb80 (by decide) (by decide) (by omega) (fun h => h) y99 trivial
     exact ⟨(W55.heap.size, bw, av, cv, ap, cp, W48.heap.size), ⟨rfl, rfl, rfl, rfl, rfl, rfl, trivial⟩, ⟨rfl, trivial⟩, z101, by omega, by omega, by omega, hKj, b86⟩
   ·skip
    refine efI rfl ?_
    refine xal zc132 ?_
    intro W104 x105 b106 nn107
    have s108 := x105.sz
    have z110 := z52.trans x105
    have q111 := q53.trans x105
    refine ⟨fun _ => q111, ?_⟩
    refine ef 3 (by kernel_rfl) rfl ?_
    refine xcall e123 (begin_ok _ _ _ L _ _ _ (((hwm.ext x105)).ma (L := L) hwsz) (by omega) (by omega) (by omega) (by omega)) rfl rfl ?_
    rintro _ W113 ⟨bw, vw, rfl, x114, hbw, hbx, hbG⟩
    have s115 := x114.sz
    have z117 := z110.trans x114
    replace b106 := b106.ext x114
    have q119 := q111.trans x114
    rw [show nw = max n m by omega, ← hrows] at hbG
    have hK0 := WS.begin hbx hbG hbw L; have lbw := hbx.lt
    refine ⟨_, rfl, ?_⟩
    refine ⟨fun _ => q119, ?_⟩
    refine ef 6 (by kernel_rfl) rfl ?_
    have hS1 := hK0
    refine xcall e125 (all5_ok _ bw _ _ _ _ vw L (colsN rss + 1) (colsN rss + 1) rows _ hS1 hrect hszr (Nat.le_refl _) hl1 hL5 hrl (by omega)) rfl rfl ?_
    rintro _ Wal ⟨pvw, rfl, kdal, hK, hpval⟩
    refine ⟨_, rfl, ?_⟩
    have hbl := hS1.below (B0 := W104.heap.size) kdal (Nat.le_refl _) (fun _ h => h.elim); have szal := kdal.size
    have z121 := z117.below (hbl.mono (by omega))
    replace b106 := b106.bl hbl (by omega)
    have q123 := q119.below (hbl.mono (by omega))
    obtain ⟨av, cv, rfl⟩ := hK.g.form; obtain ⟨ap, cp, rfl⟩ := hK.p.form
    rw [← hs] at hK
    refine ⟨fun _ => q123, ?_⟩
    refine ef 8 (by kernel_rfl) rfl ?_
    have hK8 := hK; have hb80 := b106
    refine st1 (v := .pointer (some ⟨_, _, none⟩)) (cs' := [_]) b106 rfl rfl sz132 rfl rfl rfl rfl ?_
    intro W125 y126 b106
    have z128 := z121.below (y126.below (by omega))
    have s129 := y126.size
    refine lastT (by kernel_rfl) ?_
    refine dn (by kernel_rfl) ?_
    have hKj := hK8.wrp hb80 (by decide) (by decide) (by omega) (fun h => h) y126 trivial
    exact ⟨(W48.heap.size, bw, av, cv, ap, cp, W104.heap.size), ⟨rfl, rfl, rfl, rfl, rfl, rfl, trivial⟩, ⟨rfl, trivial⟩, z128, by omega, by omega, by omega, hKj, b106⟩
  ·skip
   refine efI rfl ?_
   refine xal zc132 ?_
   intro W130 x131 b132 nn133
   have s134 := x131.sz
   have z135 := z37.trans x131
   have z136 := z38.trans x131
   have q137 := q39.trans x131
   refine ⟨fun _ => q137, ?_⟩
   refine ef 2 (by kernel_rfl) rfl ?_
   refine xcall e124 (sWide_ok _ _ _ _ _ _ L rss bs TT S1 S2 _ (hx.ext z135) (hy.ext z135) hl1 (by omega) (by omega) (by omega) (by omega) (TT.up _)) rfl rfl ?_
   rintro _ W138 ⟨_, nw, _, rfl, x139, hwm⟩
   have s140 := x139.sz
   have z142 := z136.trans x139
   replace b132 := b132.ext x139
   have q143 := q137.trans x139
   have hwl := hwm.len; rw [wideM, len_gridm] at hwl
   have hwma := hwm.ma (L := L) hwsz
   refine ⟨_, rfl, ?_⟩
   refine ⟨fun _ => q143, ?_⟩
   refine ef 3 (by kernel_rfl) rfl ?_
   refine xcall e123 (begin_ok _ _ _ L _ _ _ ((hwm).ma (L := L) hwsz) (by omega) (by omega) (by omega) (by omega)) rfl rfl ?_
   rintro _ W145 ⟨bw, vw, rfl, x146, hbw, hbx, hbG⟩
   have s147 := x146.sz
   have z149 := z142.trans x146
   replace b132 := b132.ext x146
   have q151 := q143.trans x146
   rw [show nw = max n m by omega, ← hrows] at hbG
   have hK0 := WS.begin hbx hbG hbw L; have lbw := hbx.lt
   refine ⟨_, rfl, ?_⟩
   refine ⟨fun _ => q151, ?_⟩
   refine ef 6 (by kernel_rfl) rfl ?_
   have hS1 := hK0
   refine xcall e125 (all5_ok _ bw _ _ _ _ vw L (colsN rss + 1) (colsN rss + 1) rows _ hS1 hrect hszr (Nat.le_refl _) hl1 hL5 hrl (by omega)) rfl rfl ?_
   rintro _ Wal ⟨pvw, rfl, kdal, hK, hpval⟩
   refine ⟨_, rfl, ?_⟩
   have hbl := hS1.below (B0 := W138.heap.size) kdal (Nat.le_refl _) (fun _ h => h.elim); have szal := kdal.size
   have z153 := z149.below (hbl.mono (by omega))
   replace b132 := b132.bl hbl (by omega)
   have q155 := q151.below (hbl.mono (by omega))
   obtain ⟨av, cv, rfl⟩ := hK.g.form; obtain ⟨ap, cp, rfl⟩ := hK.p.form
   rw [← hs] at hK
   refine ⟨fun _ => q155, ?_⟩
   refine ef 8 (by kernel_rfl) rfl ?_
   have hK8 := hK; have hb80 := b132
   refine st1 (v := .pointer (some ⟨_, _, none⟩)) (cs' := [_]) b132 rfl rfl sz132 rfl rfl rfl rfl ?_
   intro W157 y158 b132
   have z160 := z153.below (y158.below (by omega))
   have s161 := y158.size
   refine lastT (by kernel_rfl) ?_
   refine dn (by kernel_rfl) ?_
   have hKj := hK8.wrp hb80 (by decide) (by decide) (by omega) (fun h => h) y158 trivial
   exact ⟨(W34.heap.size, bw, av, cv, ap, cp, W138.heap.size), ⟨rfl, rfl, rfl, rfl, rfl, rfl, trivial⟩, ⟨rfl, trivial⟩, z160, by omega, by omega, by omega, hKj, b132⟩
 ·skip
  intro i164 E165 W163 h166
  obtain ⟨nb, bw, av, cv, ap, cp, B0⟩ := i164
  simp only at h166
  show thenV _ _ .normal (ups (ups _ _) [(8, .pointer (some ⟨nb, 0, none⟩))]) _ _
  obtain ⟨x167, hnb, hB0, hnbw, hK, hb8⟩ := h166
  have s168 := x167.sz
  have z169 := z31.trans x167
  replace b3 := b3.ext x167
  replace b9 := b9.ext x167
  replace b15 := b15.ext x167
  replace b25 := b25.ext x167
  have hKx := hK.x; have lnb := hb8.lt; have lKx := hKx.lt; have hKB := hK.hB
  have hrp := hK.p.rn (S := fun b => B0 ≤ b ∧ b < W163.heap.size) (fun b h1 h => ⟨h1, h⟩)
  have hMr := (hK.fin (S := fun b => B0 ≤ b ∧ b < W163.heap.size) (fun b h1 h => ⟨h1, h⟩)).1
  have hKq := hrp.cap; have hKq2 := hrp.max
  refine V.seq (V.reg rfl ?_)
  refine vv (rldb (v := .int _ _) rfl sc3 b25 rfl) ?_
  refine vo ?_
  refine xmkS (zs := [.bool false, .slice _ _ _, .bool false, .slice _ _ _]) ((colsN rss)) sl23 in48 rfl rfl rfl rfl rfl (by omega) (by omega) (by omega) ?_
  intro W172 x173 xa n174
  have s175 := x173.sz
  have z176 := z169.trans x173
  have z178 := x173
  replace b3 := b3.ext x173
  replace b9 := b9.ext x173
  replace b15 := b15.ext x173
  replace b25 := b25.ext x173
  replace hKx := hKx.ext x173
  replace hb8 := hb8.ext x173
  refine vo ?_
  refine st1 (v := .slice _ _ _) (cs' := [_]) b3 rfl rfl sz23 rfl rfl rfl rfl ?_
  intro W179 y180 b3
  have z181 := z176.below (y180.below (by omega))
  replace b9 := b9.wr y180 (by omega)
  replace b15 := b15.wr y180 (by omega)
  replace b25 := b25.wr y180 (by omega)
  replace hKx := hKx.wr y180 (by omega)
  replace hb8 := hb8.wr y180 (by omega)
  replace xa := xa.wr y180 (by omega)
  have s182 := y180.size
  refine vnil ?_
  refine V.seq ?_
  refine V.seq (V.reg rfl ?_)
  refine vv (rldb (v := .pointer (some ⟨_, _, none⟩)) rfl sc132 hb8 rfl) ?_
  refine vo ?_
  refine xcall e126 (places_ok bw _) rfl rfl ?_
  rintro _ W183 ⟨b1, eb1, rfl, x184, hb1⟩
  have s185 := x184.sz
  have z186 := z181.trans x184
  replace b3 := b3.ext x184
  replace b9 := b9.ext x184
  replace b15 := b15.ext x184
  replace b25 := b25.ext x184
  replace hKx := hKx.ext x184
  replace hb8 := hb8.ext x184
  replace xa := xa.ext x184
  have lb1 := hb1.lt
  refine ⟨_, rfl, ?_⟩
  refine vnil ?_
  refine V.block ?_
  have l4 := b3.lt; have l5 := b9.lt; have l6 := b15.lt; have l7 := b25.lt; have l8 := hb8.lt; have lxa := xa.box.lt; have lxw := hKx.lt; have zR := z186; have b7r := b25; have b8r := hb8; have bxr := hKx; have hMR := ((hMr.ext z178).ck ((y180.ck (by intro hh; first | (simp [SX] at hh <;> omega) | omega)).trans (x184.ck _))); have szR := zR.sz
  have hxR := (hx.ext z186)
  refine V.rf (gf := 170) rfl e170 (places_iter (D := (fun q => q < W183.heap.size ∧ q ≠ W163.heap.size ∧ q ≠ w.heap.size ∧ q ≠ W1.heap.size ∧ q ≠ W7.heap.size)) (hb1) bxr ((((hrp.ext z178).ck ((y180.ck (by intro hh; first | (simp [SX] at hh <;> omega) | omega)).trans (x184.ck _)))).sub (fun b hb h => ⟨hb, by omega, by omega, by omega, by omega⟩)) ⟨by omega, by omega, by omega, by omega, by omega⟩ ⟨by omega, by omega, by omega, by omega, by omega⟩) (Ext.refl _) (by rintro k ⟨h, _⟩; exact h) rfl (fun i X => KD (fun q => q < W183.heap.size ∧ q ≠ W163.heap.size ∧ q ≠ w.heap.size ∧ q ≠ W1.heap.size ∧ q ≠ W7.heap.size) W183 X ∧ (∀ j, j < i → wd s.2.1 j ≠ (colsN rss : Int)) ∧ BoxAt X (w.heap.size) [.slice (some ⟨W163.heap.size, 0, none⟩) (colsN rss) (colsN rss)] 23 ∧ BoxAt X (W1.heap.size) [.slice none 0 0] 22 ∧ BoxAt X (W7.heap.size) [.int .i64 0] 31 ∧ ∃ qs, AQ 4 X (W163.heap.size) 48 (colsN rss) qs ∧ All2 (QC (fun b => B0 ≤ b ∧ b < W163.heap.size) X) qs (svec s.1 s.2.1 (colsN rss) i)) (fun cd i X => cd = .ret ∧ KD (fun q => q < W183.heap.size ∧ q ≠ W163.heap.size ∧ q ≠ w.heap.size ∧ q ≠ W1.heap.size ∧ q ≠ W7.heap.size) W183 X ∧ wd s.2.1 i = (colsN rss : Int) ∧ i < s.2.1.length ∧ BoxAt X (w.heap.size) [.slice none 0 0] 23 ∧ BoxAt X (W1.heap.size) [.slice none 0 0] 22 ∧ BoxAt X (W7.heap.size) [.int .i64 8] 31) (fun i X Y ⟨h1, h2, h3, h4, h5, qs, h6, h7⟩ t => ⟨h1.trans (t.kd fun k h => h.1), h2, h3.tn t, h4.tn t, h5.tn t, qs, h6.tn t, h7.imp fun _ _ h => h.ck (t.ck _)⟩) (fun cd i X Y ⟨h0, h1, h2, h3, h4, h5, h6⟩ t => ⟨h0, h1.trans (t.kd fun k h => h.1), h2, h3, h4.tn t, h5.tn t, h6.tn t⟩) (⟨KD.refl _ _, fun j hj => absurd hj (Nat.not_lt_zero _), b3, b9, b15, _, xa, All2.rep (QC.zero _ _) _⟩) ?_ ?_ ?_
  ·intro l187 i188 X189 hi190 hM191 hk192 hs193
   refine V.seq (V.reg rfl ?_)
   refine asi rfl ?_
   refine vnil ?_
   refine V.reg rfl ?_
   refine asi rfl ?_
   refine vnil ?_
   refine ⟨rfl, Kf.refl _ _ _, ?_⟩
   intro Z194 t195
   obtain ⟨hkx, hne, h4, h5, h6, qs, hA2, hQ2⟩ := hi190
   replace hkx := hkx.trans (t195.kd fun k h => h.1); replace hA2 := hA2.tn t195; replace h4 := h4.tn t195; replace h5 := h5.tn t195; replace h6 := h6.tn t195; replace hQ2 := hQ2.imp fun _ _ h => h.ck (t195.ck _); have hAb := hA2.box; have hwi := hpv i188 (by omega); have hAl := hA2.box.lt; have sX0 := hkx.size
   have h7 := b7r.kd hkx ⟨by omega, by omega, by omega, by omega, by omega⟩; have h8 := b8r.kd hkx ⟨by omega, by omega, by omega, by omega, by omega⟩; have hxx := bxr.kd hkx ⟨by omega, by omega, by omega, by omega, by omega⟩; have hM2 := hMR.ck (hkx.ck.sub fun b hb => ⟨by omega, by omega, by omega, by omega, by omega⟩); have hzz := Ext.refl Z194
   refine V.block ?_
   refine V.seq ?_
   refine V.seq (V.reg rfl ?_)
   refine mvi rfl ?_
   refine vv (rldb (v := .int _ _) rfl sc3 h7 rfl) ?_
   refine veq rfl rfl ?_ ?_
   ·intro c7
    refine vnil ?_
    refine V.condT rfl ?_
    refine V.seq (V.reg rfl ?_)
    have hj4 := h4
    refine vo ?_
    refine st1 (v := .slice _ _ _) (cs' := [_]) h4 rfl rfl sz23 rfl rfl rfl rfl ?_
    intro W196 y197 h4
    replace hA2 := hA2.wr y197 (by omega)
    replace h5 := h5.wr y197 (by omega)
    replace h6 := h6.wr y197 (by omega)
    replace h7 := h7.wr y197 (by omega)
    replace h8 := h8.wr y197 (by omega)
    replace hxx := hxx.wr y197 (by omega)
    have s198 := y197.size
    have hj5 := h5
    refine vo ?_
    refine st1 (v := .slice _ _ _) (cs' := [_]) h5 rfl rfl sz22 rfl rfl rfl rfl ?_
    intro W199 y200 h5
    replace hA2 := hA2.wr y200 (by omega)
    replace h4 := h4.wr y200 (by omega)
    replace h6 := h6.wr y200 (by omega)
    replace h7 := h7.wr y200 (by omega)
    replace h8 := h8.wr y200 (by omega)
    replace hxx := hxx.wr y200 (by omega)
    have s201 := y200.size
    have hj6 := h6
    refine vo ?_
    refine st1 (v := .int _ _) (cs' := [_]) h6 rfl rfl sz31 rfl rfl rfl rfl ?_
    intro W202 y203 h6
    replace hA2 := hA2.wr y203 (by omega)
    replace h4 := h4.wr y203 (by omega)
    replace h5 := h5.wr y203 (by omega)
    replace h7 := h7.wr y203 (by omega)
    replace h8 := h8.wr y203 (by omega)
    replace hxx := hxx.wr y203 (by omega)
    have s204 := y203.size
    refine vnil ?_
    refine V.ret ?_
    exact ⟨((Kf.wr y197 hj4 (fun h => h.2.2.1 rfl)).trans (Kf.wr y200 hj5 (fun h => h.2.2.2.1 rfl))).trans (Kf.wr y203 hj6 (fun h => h.2.2.2.2 rfl)), rfl, ((hkx.trans (y197.kd fun h => h.2.2.1 rfl)).trans (y200.kd fun h => h.2.2.2.1 rfl)).trans (y203.kd fun h => h.2.2.2.2 rfl), c7, by omega, h4, h5, h6⟩
   ·intro c7
    have hMz := hM2
    have hrw := hall.2.2.1.row (i := ((i188 : Nat) : Int).toNat) (by omega)
    obtain ⟨ra5, rk5, rc5, hc5, hg5⟩ := hMz.el (i := (i188 : Int)) (by omega) (by omega)
    have ce5 : C1 Z194 _ _ := hc5; have hgl5 := hg5.len
    obtain ⟨qsr, hrs5, hqr5⟩ := hg5
    obtain ⟨qel, hqe1, hqe2, hqe3⟩ := hrs5.el (i := ((colsN rss : Nat) : Int)) (by omega) (by omega)
    obtain ⟨rel, hre1, hqel⟩ := hqr5.get hqe1
    obtain ⟨en0, ea0, el0, ec0, em0, eb0, ek0, ed0, rfl⟩ := hqel.form
    have ce0 : CE Z194 _ _ := hqe3
    obtain rfl : mat s.1 i188 (colsN rss) = rel := by have h : vat (rowat s.1 i188) (colsN rss) = rel := (by unfold vat; rw [List.getD_eq_getElem?_getD]; simp only [Int.toNat_natCast] at hre1; rw [hre1]; rfl); exact h
    refine vnil ?_
    refine V.condF rfl ?_
    refine V.skip ?_
    refine V.regD mixed rfl ?_
    intro W205 x206
    have s207 := x206.sz
    have z208 := x206
    replace hA2 := hA2.ext x206
    replace h4 := h4.ext x206
    replace h5 := h5.ext x206
    replace h6 := h6.ext x206
    replace h7 := h7.ext x206
    replace h8 := h8.ext x206
    replace hxx := hxx.ext x206
    have q209 := Ext.refl W205
    have r210 := hA2
    have r211 := h4
    have r212 := h5
    have r213 := h6
    have r214 := h7
    have r215 := h8
    have r216 := hxx
    refine tk 0 rfl (by kernel_rfl) q209 (pv (fun _ y217 => rldb (v := .slice _ _ _) rfl sc23 (r211.ext y217) rfl)) ?_
    refine tk 1 rfl (by kernel_rfl) q209 (pv (fun _ y218 => rmv (v := .int _ _) rfl)) ?_
    refine tk 2 rfl (by kernel_rfl) q209 (pv (fun _ y219 => rldb (v := .pointer (some ⟨_, _, none⟩)) rfl sc132 (r215.ext y219) rfl)) ?_
    refine tk 3 rfl (by kernel_rfl) q209 (pv (fun _ y220 => rnc (v := .pointer (some ⟨_, _, none⟩)) rfl rfl)) ?_
    refine tk 4 rfl (by kernel_rfl) q209 (pv (fun _ y221 => rfa rfl fd141_0)) ?_
    refine tk 5 rfl (by kernel_rfl) q209 (pv (fun _ y222 => rldb (v := .slice av _ cv) rfl sc22 (r216.ext y222) rfl)) ?_
    refine tk 6 rfl (by kernel_rfl) q209 (pv (fun _ y223 => rmv (v := .int _ _) rfl)) ?_
    refine tk 7 rfl (by kernel_rfl) q209 (pv (fun _ y224 => rix sl22 sz23 rfl rfl (by omega) (by omega) (((hM2.ext z208).ext y224).isS (i := 0) (by omega) (by omega)))) ?_
    refine tk 8 rfl (by kernel_rfl) q209 (pv (fun _ y225 => rld1 (v := .slice _ _ _) rfl sc23 ((ce5.ext z208).ext y225))) ?_
    refine tk 9 rfl (by kernel_rfl) q209 (pv (fun _ y226 => rldb (v := .int _ _) rfl sc3 (r214.ext y226) rfl)) ?_
    refine tk 10 rfl (by kernel_rfl) q209 (pv (fun _ y227 => rix sl23 sz48 rfl rfl (by omega) (by omega) (hrs5.isS (i := 0) (by omega) (by omega)))) ?_
    refine tk 11 rfl (by kernel_rfl) q209 (pv (fun _ y228 => rldn (l := [.bool _, .slice _ _ _, .bool _, .slice _ _ _]) rfl ag48 rfl ((ce0.ext z208).ext y228))) ?_
    refine tk 12 rfl (by kernel_rfl) q209 (pv (fun _ y229 => rix sl23 sz48 rfl rfl (by omega) (by omega) rfl)) ?_
    refine ef 13 (by kernel_rfl) rfl ?_
    refine xstq (q := [.bool _, .slice _ _ _, .bool _, .slice _ _ _]) hA2 rfl rfl rfl sz48 rfl rfl (by omega) (by omega) ?_
    intro W230 y231 hA2
    replace h4 := h4.wr y231 (by omega)
    replace h5 := h5.wr y231 (by omega)
    replace h6 := h6.wr y231 (by omega)
    replace h7 := h7.wr y231 (by omega)
    replace h8 := h8.wr y231 (by omega)
    replace hxx := hxx.wr y231 (by omega)
    have s232 := y231.size
    refine lastT (by kernel_rfl) ?_
    refine dn (by kernel_rfl) ?_
    exact ⟨(Kf.ext x206).trans (Kf.wr y231 (hAb.ext x206) (fun h => h.2.1 rfl)), (hkx.trans (Ext.kd x206)).trans (y231.kd fun h => h.2.1 rfl), fun j hj => (by rcases Nat.lt_succ_iff_lt_or_eq.1 hj with h | rfl; exact hne j h; exact c7), h4, h5, h6, _, hA2, ((hQ2.imp fun _ _ h => h.ext x206).set (hqel.ext x206)).imp fun _ _ h => h.ck (y231.ck (fun hh => by omega))⟩
  ·intro D233 X234 hD235 hI236 hdf237 hs238
   obtain ⟨hkx, hne, h4, h5, h6, qs, hA2, hQ2⟩ := hI236
   have szx := hkx.size; have hlw : Ext w X234 := KD.low zR hkx (fun q hq => ⟨by omega, by omega, by omega, by omega, by omega⟩) (by omega)
   have hx2 := hx.ext hlw; have lA2 := hA2.box.lt; have zX := Ext.refl X234
   refine V.seq (V.regB [3] mixed rfl ?_)
   intro W239 x240
   have s241 := x240.sz
   have z242 := hlw.trans x240
   have z243 := x240
   replace hA2 := hA2.ext x240
   replace h4 := h4.ext x240
   replace h5 := h5.ext x240
   replace h6 := h6.ext x240
   have hd244 := x240.obj hdf237
   have q245 := Ext.refl W239
   have r246 := hA2
   have r247 := h4
   have r248 := h5
   have r249 := h6
   refine tkB 0 rfl (by kernel_rfl) q245 (pv (fun _ y250 => rldb (v := .slice _ _ _) rfl sc23 (r247.ext y250) rfl)) ?_
   refine tkP 1 rfl (by kernel_rfl) (by kernel_rfl) (fun _ => q245) (pv (fun _ _ => rmv (v := .slice _ _ _) rfl)) ?_
   refine efB 2 (by kernel_rfl) rfl ?_
   refine xcall e64 (sNull_ok _ _ _ L rss (fun b => W239.heap.size ≤ b) S1 _ (hx2.ext z243) hl1 (by omega) (by omega) (by omega) (fun b hb => by omega)) rfl rfl ?_
   rintro _ W252 ⟨an, nn, cn, rfl, x253, hN⟩
   have s254 := x253.sz
   have z255 := z242.trans x253
   replace hA2 := hA2.ext x253
   replace h4 := h4.ext x253
   replace h5 := h5.ext x253
   replace h6 := h6.ext x253
   have hd257 := x253.obj hd244
   have q258 := q245.trans x253
   refine ⟨_, rfl, ?_⟩
   refine ⟨fun _ => q258, ?_⟩
   refine efB 3 (by kernel_rfl) rfl ?_
   refine st1 (v := .slice _ _ _) (cs' := [_]) h4 rfl rfl sz23 rfl rfl rfl rfl ?_
   intro W259 y260 h4
   have z261 := z255.below (y260.below (by omega))
   replace hA2 := hA2.wr y260 (by omega)
   replace h5 := h5.wr y260 (by omega)
   replace h6 := h6.wr y260 (by omega)
   have hd262 := y260.obj hd257 (by omega)
   have s263 := y260.size
   refine notW (by kernel_rfl) ?_
   refine efB 4 (by kernel_rfl) rfl ?_
   refine st1 (v := .slice _ _ _) (cs' := [_]) h5 rfl rfl sz22 rfl rfl rfl rfl ?_
   intro W264 y265 h5
   have z266 := z261.below (y265.below (by omega))
   replace hA2 := hA2.wr y265 (by omega)
   replace h4 := h4.wr y265 (by omega)
   replace h6 := h6.wr y265 (by omega)
   have hd267 := y265.obj hd262 (by omega)
   have s268 := y265.size
   refine notW (by kernel_rfl) ?_
   refine efB 5 (by kernel_rfl) rfl ?_
   refine st1 (v := .int _ _) (cs' := [_]) h6 rfl rfl sz31 rfl rfl rfl rfl ?_
   intro W269 y270 h6
   have z271 := z266.below (y270.below (by omega))
   replace hA2 := hA2.wr y270 (by omega)
   replace h4 := h4.wr y270 (by omega)
   replace h5 := h5.wr y270 (by omega)
   have hd272 := y270.obj hd267 (by omega)
   have s273 := y270.size
   refine notW (by kernel_rfl) ?_
   refine dnB (by kernel_rfl) ?_
   refine V.ret ?_
   refine ⟨D233, rfl, hd272, ?_⟩
   have tp := Tn.putObj (B := w.heap.size) (.deferred none) hd272 (by omega) rfl
   have hA2 := hA2.tn tp
   have h4 := h4.tn tp
   have h5 := h5.tn tp
   have h6 := h6.tn tp
   have z274 := tp.ext z271 (Nat.le_refl _)
   refine ⟨[.slice _ _ _, .slice _ _ _, .int _ _], ⟨⟨_, rfl, lv1 sc23 h4 rfl⟩, ⟨_, rfl, lv1 sc22 h5 rfl⟩, ⟨_, rfl, lv1 sc31 h6 rfl⟩, trivial⟩, ?_⟩
   have hN9 := (hN.ck (((y260.ck (by intro hh; first | (simp [SX] at hh <;> omega) | omega)).trans (y265.ck (by intro hh; first | (simp [SX] at hh <;> omega) | omega))).trans (y270.ck (by intro hh; first | (simp [SX] at hh <;> omega) | omega)))); have hQ9 := hQ2.imp fun _ _ h => h.ck (((((x240.ck _).trans (x253.ck _)).trans (y260.ck (fun hh => by have := hh.1; omega))).trans (y265.ck (fun hh => by have := hh.1; omega))).trans (y270.ck (fun hh => by have := hh.1; omega)))
   have hni : ¬ (colsN rss : Int) ∈ (solW rss bs (max n m)).2.1 := by rw [hsol]; intro h; obtain ⟨j, hj, e⟩ := wd_mem.2 h; exact hne j hj e
   refine ⟨_, _, _, _, _, _, 0, rfl, z274, ?_, ?_, ?_⟩
   ·rw [solX, if_neg hni, hsol]; exact ⟨qs, hA2.rs (hu _ (by omega)), hQ9.imp fun _ _ h => (h.ck (tp.ck _)).sub fun b hb hs => hu b (by omega)⟩
   ·rw [solF, if_neg hni]; exact MG.sub okRowC (hN9.ck (tp.ck _)) fun b hb hs => hu b (by omega)
   ·rw [solE, if_neg hni]
  ·rintro D' cd i X hD' hi ⟨rfl, hkx, c7, hil, h4, h5, h6⟩ hdf hs
   have szx := hkx.size; have hlw : Ext w X := KD.low zR hkx (fun q hq => ⟨by omega, by omega, by omega, by omega, by omega⟩) (by omega)
   refine V.ret ?_
   refine ⟨D', rfl, hdf, ?_⟩
   have tp := Tn.putObj (B := w.heap.size) (.deferred none) hdf (by omega) rfl
   have h4 := h4.tn tp
   have h5 := h5.tn tp
   have h6 := h6.tn tp
   have z275 := tp.ext hlw (Nat.le_refl _)
   refine ⟨[.slice _ _ _, .slice _ _ _, .int _ _], ⟨⟨_, rfl, lv1 sc23 h4 rfl⟩, ⟨_, rfl, lv1 sc22 h5 rfl⟩, ⟨_, rfl, lv1 sc31 h6 rfl⟩, trivial⟩, ?_⟩
   have hin : (colsN rss : Int) ∈ (solW rss bs (max n m)).2.1 := by rw [hsol]; exact wd_mem.1 ⟨i, hil, c7⟩
   refine ⟨none, 0, 0, none, 0, 0, 8, rfl, z275, ?_, ?_, ?_⟩
   ·rw [solX, if_pos hin]; exact ⟨[], RS.nil _ _ _ _ _ (by omega), trivial⟩
   ·rw [solF, if_pos hin]; exact MC.nil _ _
   ·rw [solE, if_pos hin]
end Go.Proofs.YtknbjfefeeojlaaGreat
/- Systems of equations and the reduced form: plain mathematics for the laws of layer 5. -/
namespace Go.Proofs.YtknbjfefeeojlaaGreat
theorem mat_pad (rss : List (List Rat)) (i k : Nat) {M : Nat} (hM : rss.length ≤ M) : mat (gridm (matI rss) M (colsN rss)) i k = mat rss i k := by
  rw [mat_gridm]
  split
  · exact matI_nat _ _ _
  · rename_i h
    by_cases hi : i < rss.length
    · exact (mat_ge2 (by have := row_le (cols_ge (rss := rss)) i; omega)).symm
    · exact (mat_ge1 (by omega)).symm
section
variable {rows0 rows : List (List Rat)} {piv : List Int} {n N : Nat}
end
def padm (rss : List (List Rat)) : List (List Rat) := gridm (matI rss) rss.length (colsN rss)
theorem padm_rect (rss : List (List Rat)) : rect (colsN rss) (padm rss) := fun r hr => by
  obtain ⟨i, _, rfl⟩ := List.mem_map.1 hr; simp
end Go.Proofs.YtknbjfefeeojlaaGreat
/- A guarded call in a region that draws its order; a literal of two rationals. -/
namespace Go.Proofs.YtknbjfefeeojlaaGreat
open Go.RowKit
section
variable {r : Option Nat} {P : Program} {ops : Array Oper} {S : World → Prop} {R : Env → World → Prop} {fuel : Nat} {listed : Array Bool} {E : Env} {W : World} {d : Option Tmp} {op : Op} {ty : TypeId} {pos : String} {af : Array Edge}
theorem efg {j : Nat} {want : Bool} (i : Nat) (hr : Region.ready .any ops listed = [i]) (hi : ops[i]? = some ⟨d, op, ty, pos, af, some (j, want)⟩) (hg : yE ops E j = some want) (h : OpF r P (ev E) ⟨d, op, ty, pos, af, some (j, want)⟩ W fun v W' => (lastOp ops i = false → S W') ∧ VH r P ops S R fuel (listed.setIfInBounds i true) (puto E d v) W') : VH r P ops S R (fuel + 1) listed E W := by
  refine ⟨fun h0 => (by rw [hr] at h0; cases h0), fun k hk => ?_⟩
  rw [hr] at hk
  obtain rfl : k = i := by simpa using hk
  unfold opI
  simp only [hi]
  rw [if_pos (by simp [wE, Region.wanted, hg])]; exact h
end
theorem fillS2 (z0 z1 z2 z3 u0 u1 u2 u3 v0 v1 v2 v3 : Value) : Instr.fill (fun i => some (i * 4, 4)) (List.replicate 2 [z0, z1, z2, z3]).flatten.toArray [(0, .agg #[u0, u1, u2, u3]), (1, .agg #[v0, v1, v2, v3])] = some [u0, u1, u2, u3, v0, v1, v2, v3].toArray := fill24 _ _ _ _ _ _ _ _ _ _ _ _ _ _ _ _
end Go.Proofs.YtknbjfefeeojlaaGreat

/- Package mat: Concat, Transpose, Identity, FromInts, Equal. -/
import Derived.Test.YtknbjfefeeojlaaGreatRows
import Derived.ProofKit
import Derived.JoinedCond
import Derived.Test.YtknbjfefeeojlaaGreatMgqll3
namespace Go.Proofs.YtknbjfefeeojlaaGreat
open Go.RowKit
attribute [local irreducible] RV VH V OpF Calls

set_option maxHeartbeats 400000 in
theorem mConcat_ok (a1 a2 : Option Addr) (n c m d : Nat) (L1 L2 : Nat) (rss mss : List (List Rat)) (S S1 S2 : Nat → Prop) (w : World) (hx : MA L1 S1 w a1 n c rss) (hy : MA L2 S2 w a2 m d mss) (hL : L1 < LY) (hl1 : 1 ≤ L1) (hL2 : L2 < LY) (hl2 : 1 ≤ L2) (hn : n ≤ LV) (hm : m ≤ LV) (hc : colsN rss + colsN mss ≤ LV) (hu : Up S w) :
    Calls Tryz.prog 84 #[.slice a1 n c, .slice a2 m d] w (fun e w' => ∃ ra rk rc, e = .returned (.slice ra rk rc) ∧ Ext w w' ∧ MC S w' ra rk rc (gridm (catI rss mss (colsN rss)) (max n m) (colsN rss + colsN mss))) := by
 have z0 := Ext.refl w; have hLX : LX = 17592186044416 := rfl; have hLY : LY = 8796093022208 := rfl;have hLV : LV = 1099511627776 := rfl;refine enter (args := [.slice a1 n c, .slice a2 m d]) Tryz.func84 rfl rfl (Nat.le_of_ble_eq_true rfl) (V.seq (V.reg rfl ?_));refine vo (bxs rfl ?_);intro W1 x2 b3 nn4;have s5 := x2.sz;have z6 := x2;refine vo (bxs rfl ?_);intro W7 x8 b9 nn10;have s11 := x8.sz;have z12 := z6.trans x8;replace b3 := b3.ext x8;refine ass rfl (vnil (V.seq (V.reg rfl ?_)));refine vv (rldb (v := .slice _ _ _) rfl sc22 b3 rfl) (vo (xcall e35 (mCols_ok _ _ _ _ _ _ _ (hx.ext z12)) rfl rfl ?_));rintro _ W13 ⟨rfl, x14⟩;have s15 := x14.sz;have z16 := z12.trans x14;replace b3 := b3.ext x14;replace b9 := b9.ext x14;refine ⟨_, rfl, ?_⟩;refine vo (xal zc3 ?_);intro W17 x18 b19 nn20;have s21 := x18.sz;have z22 := z16.trans x18;replace b3 := b3.ext x18;replace b9 := b9.ext x18;refine vo (st1 (v := .int _ _) (cs' := [_]) b19 rfl rfl sz3 rfl rfl rfl rfl ?_);intro W23 y24 b19;have z25 := z22.below (y24.below (by omega));replace b3 := b3.wr y24 (by omega);replace b9 := b9.wr y24 (by omega);have s26 := y24.size;refine vnil (V.seq (V.regD mixed rfl ?_));intro W27 x28;have s29 := x28.sz;have z30 := z25.trans x28;replace b3 := b3.ext x28;replace b9 := b9.ext x28;replace b19 := b19.ext x28;have q31 := Ext.refl W27;have r32 := b3;have r33 := b9;have r34 := b19;refine tk 0 rfl (by kernel_rfl) q31 (pv (fun _ y35 => rldb (v := .slice _ _ _) rfl sc22 (r32.ext y35) rfl)) ?_;refine tk 1 rfl (by kernel_rfl) q31 (pv (fun _ y36 => rlen sl22 rfl)) ?_;refine tk 2 rfl (by kernel_rfl) q31 (pv (fun _ y37 => rldb (v := .slice _ _ _) rfl sc22 (r33.ext y37) rfl)) ?_;refine tk 3 rfl (by kernel_rfl) q31 (pv (fun _ y38 => rlen sl22 rfl)) ?_;refine tk 4 rfl (by kernel_rfl) q31 (pv (fun _ y39 => rmax rfl rfl (show max (n : Int) (m : Int) = ((max n m : Nat) : Int) by omega))) ?_;refine tk 5 rfl (by kernel_rfl) q31 (pv (fun _ y40 => rldb (v := .int _ _) rfl sc3 (r34.ext y40) rfl)) ?_;refine tk 6 rfl (by kernel_rfl) q31 (pv (fun _ y41 => rldb (v := .slice _ _ _) rfl sc22 (r33.ext y41) rfl)) ?_;refine tk 9 rfl (by kernel_rfl) q31 (pv (fun _ y42 => rmk3 (v := .pointer (some ⟨_, _, none⟩)) (u := .pointer (some ⟨_, _, none⟩)) (u3 := .pointer (some ⟨_, _, none⟩)) rfl rfl rfl)) ?_;refine ef 7 (by kernel_rfl) rfl ?_;refine xcall e35 (mCols_ok _ _ _ _ _ _ _ (hy.ext z30)) rfl rfl ?_;rintro _ W43 ⟨rfl, x44⟩;have s45 := x44.sz;have z46 := z30.trans x44;replace b3 := b3.ext x44;replace b9 := b9.ext x44;replace b19 := b19.ext x44;have q47 := q31.trans x44;refine ⟨_, rfl, ?_⟩;refine ⟨fun _ => q47, ?_⟩;refine tk 8 rfl (by kernel_rfl) q47 (pv (fun _ y48 => rbin (bAdd (show IntKind.i64.wrap ((colsN rss : Int) + (colsN mss : Int)) = ((colsN rss + colsN mss : Nat) : Int) by rw [wi (by omega)]; omega)) rfl rfl)) ?_;refine tk 10 rfl (by kernel_rfl) q47 (pv (fun _ y49 => rbd (ps := [(0, .int _ _), (1, .int _ _), (2, .func _ _ _)]) (cs := [.int _ _, .int _ _, .func _ _ _]) pl128 rfl rfl)) ?_;refine ef 11 (by kernel_rfl) rfl ?_;refine xcall e113 (gmade_ok (max n m) (colsN rss + colsN mss) 151 [.pointer (some ⟨W13.heap.size, 0, none⟩), .pointer (some ⟨w.heap.size, 0, none⟩), .pointer (some ⟨W1.heap.size, 0, none⟩)] (catI rss mss (colsN rss)) (max L1 L2) S _ e151 (fun W i k S' x u _ hk => mCat1_ok _ _ _ _ _ _ i k (colsN rss) _ _ _ L1 L2 rss mss S' S1 S2 W (b19.ext x) (b3.ext x) (b9.ext x) ((hx.ext z46).ext x) ((hy.ext z46).ext x) hL hl1 hL2 hl2 (by omega) u) (fun i k => szCat hx hy hl1 hl2 (Nat.le_refl _) _ _ _) (by omega) (by omega) (by omega) (by omega) (hu.mono (by omega))) rfl rfl ?_;rintro _ W50 ⟨_, _, _, rfl, x51, hv⟩;have s52 := x51.sz;have z53 := z46.trans x51;have q54 := q47.trans x51;refine ⟨_, rfl, ?_⟩;refine ⟨fun _ => q54, ?_⟩;refine tk 12 rfl (by kernel_rfl) q54 (pv (fun _ y55 => ras (v := .slice _ _ _) rfl)) ?_;refine dn (by kernel_rfl) ?_;refine V.ret ⟨[.slice _ _ _], ⟨rfl, trivial⟩, ?_⟩;exact ⟨_, _, _, rfl, z53, hv⟩
set_option maxHeartbeats 400000 in
theorem mTr1_ok (a1 : Option Addr) (n c : Nat) (i k : Int) (b : Nat) (L1 : Nat) (rss : List (List Rat)) (S S1 : Nat → Prop) (w : World) (hb : BoxAt w b [.slice a1 n c] 22) (hx : MA L1 S1 w a1 n c rss) (hL : L1 < LY) (hl1 : 1 ≤ L1) (hu : Up S w) :
    Calls Tryz.prog 117 #[.int .i64 i, .int .i64 k, .pointer (some ⟨b, 0, none⟩)] w (PQ S (matI rss k i) w) := by
 have z0 := Ext.refl w; have hLX : LX = 17592186044416 := rfl; have hLY : LY = 8796093022208 := rfl;have lb := hb.lt;have hu2 : ∀ W : World, w.heap.size + 1 ≤ W.heap.size → Up (SX S [w.heap.size]) W := fun W hW => SX.up (hu.mono (by omega)) (by simp <;> omega)
 refine enter (args := [.int .i64 i, .int .i64 k, .pointer (some ⟨b, 0, none⟩)]) Tryz.func117 rfl rfl (Nat.le_of_ble_eq_true rfl) (V.seq (V.reg rfl ?_));refine vo (xal zc48 ?_);intro W1 x2 b3 nn4;have s5 := x2.sz;have z6 := x2;replace hb := hb.ext x2;refine vnil (V.seq (V.reg rfl ?_));refine vv (rldb (v := .slice _ _ _) rfl sc22 hb rfl) (mvi rfl (mvi rfl (vo (xcall e38 (mAt_ok _ _ _ _ _ _ _ _ _ _ (hx.ext z6) (by omega) (by omega) (hu2 _ (by omega))) rfl rfl ?_))));rintro _ W8 ⟨_, rfl, x9, hq7⟩;have s10 := x9.sz;have z11 := z6.trans x9;replace hb := hb.ext x9;replace b3 := b3.ext x9;obtain ⟨_, _, _, _, _, _, _, _, rfl⟩ := hq7.form;refine ⟨_, rfl, ?_⟩;refine vo (sta (cs' := [_, _, _, _]) b3 rfl rfl sz48 rfl rfl rfl ?_);intro W12 y13 b3;have z14 := z11.below (y13.below (by omega));replace hb := hb.wr y13 (by omega);have s15 := y13.size;refine vnil (V.ret ⟨[_], ⟨⟨_, rfl, lvb ag48 b3 rfl⟩, trivial⟩, ?_⟩);exact ⟨_, rfl, z14, ((hq7.ck (y13.ck (by intro hh; first | (simp [SX] at hh <;> omega) | omega)))).un⟩
set_option maxHeartbeats 400000 in
theorem mTr_ok (a1 : Option Addr) (n c : Nat) (L1 : Nat) (rss : List (List Rat)) (S S1 : Nat → Prop) (w : World) (hx : MA L1 S1 w a1 n c rss) (hL : L1 < LY) (hl1 : 1 ≤ L1) (hn : n ≤ LV) (hc : colsN rss ≤ LV) (hu : Up S w) :
    Calls Tryz.prog 45 #[.slice a1 n c] w (fun e w' => ∃ ra rk rc, e = .returned (.slice ra rk rc) ∧ Ext w w' ∧ MC S w' ra rk rc (gridm (fun i k => matI rss k i) (colsN rss) n)) := by
 have z0 := Ext.refl w; have hLX : LX = 17592186044416 := rfl; have hLY : LY = 8796093022208 := rfl;have hLV : LV = 1099511627776 := rfl;refine enter (args := [.slice a1 n c]) Tryz.func45 rfl rfl (Nat.le_of_ble_eq_true rfl) (V.seq (V.reg rfl ?_));refine vo (bxs rfl ?_);intro W1 x2 b3 nn4;have s5 := x2.sz;have z6 := x2;refine ass rfl (vnil (V.seq (V.regD mixed rfl ?_)));intro W7 x8;have s9 := x8.sz;have z10 := z6.trans x8;replace b3 := b3.ext x8;have q11 := Ext.refl W7;have r12 := b3;refine tk 0 rfl (by kernel_rfl) q11 (pv (fun _ y13 => rldb (v := .slice _ _ _) rfl sc22 (r12.ext y13) rfl)) ?_;refine tk 2 rfl (by kernel_rfl) q11 (pv (fun _ y14 => rldb (v := .slice _ _ _) rfl sc22 (r12.ext y14) rfl)) ?_;refine tk 3 rfl (by kernel_rfl) q11 (pv (fun _ y15 => rlen sl22 rfl)) ?_;refine tk 4 rfl (by kernel_rfl) q11 (pv (fun _ y16 => rmk1 (v := .pointer (some ⟨_, _, none⟩)) rfl)) ?_;refine ef 1 (by kernel_rfl) rfl ?_;refine xcall e35 (mCols_ok _ _ _ _ _ _ _ (hx.ext z10)) rfl rfl ?_;rintro _ W17 ⟨rfl, x18⟩;have s19 := x18.sz;have z20 := z10.trans x18;replace b3 := b3.ext x18;have q21 := q11.trans x18;refine ⟨_, rfl, ?_⟩;refine ⟨fun _ => q21, ?_⟩;refine tk 5 rfl (by kernel_rfl) q21 (pv (fun _ y22 => rbd (ps := [(0, .int _ _), (1, .int _ _), (2, .func _ _ _)]) (cs := [.int _ _, .int _ _, .func _ _ _]) pl128 rfl rfl)) ?_;refine ef 6 (by kernel_rfl) rfl ?_;refine xcall e113 (gmade_ok (colsN rss) n 117 [.pointer (some ⟨w.heap.size, 0, none⟩)] (fun i k => matI rss k i) L1 S _ e117 (fun W i k S' x u _ _ => mTr1_ok _ _ _ i k _ L1 rss S' S1 W (b3.ext x) ((hx.ext z20).ext x) hL hl1 u) (fun i k => szMI hx hl1 _ _) hL hl1 (by omega) (by omega) (hu.mono (by omega))) rfl rfl ?_;rintro _ W23 ⟨_, _, _, rfl, x24, hv⟩;have s25 := x24.sz;have z26 := z20.trans x24;have q27 := q21.trans x24;refine ⟨_, rfl, ?_⟩;refine ⟨fun _ => q27, ?_⟩;refine tk 7 rfl (by kernel_rfl) q27 (pv (fun _ y28 => ras (v := .slice _ _ _) rfl)) ?_;refine dn (by kernel_rfl) ?_;refine V.ret ⟨[.slice _ _ _], ⟨rfl, trivial⟩, ?_⟩;exact ⟨_, _, _, rfl, z26, hv⟩
set_option maxHeartbeats 400000 in
theorem mIdent_ok (z : Int) (N : Nat) (S : Nat → Prop) (w : World) (hN : min (max z 0) 1024 = (N : Int)) (hu : Up S w) :
    Calls Tryz.prog 47 #[.int .i64 z] w (fun e w' => ∃ ra rk rc, e = .returned (.slice ra rk rc) ∧ Ext w w' ∧ MC S w' ra rk rc (identm N)) := by
 have z0 := Ext.refl w; have hLX : LX = 17592186044416 := rfl; have hLY : LY = 8796093022208 := rfl;have hLV : LV = 1099511627776 := rfl;refine enter (args := [.int .i64 z]) Tryz.func47 rfl rfl (Nat.le_of_ble_eq_true rfl) (V.seq (V.reg rfl ?_));refine ass rfl (vnil (V.seq (V.seq (V.reg rfl ?_))));refine mvi rfl (vo (xcall e111 (mcut_ok' _ N _ hN) rfl rfl ?_));rintro _ _ ⟨rfl, rfl⟩;refine ⟨_, rfl, ?_⟩;refine mvi rfl (vnil (V.block (V.loopK (ι := Nat × Value) [(0, .int _ _), (5, .int _ _)] (fun ⟨k, v⟩ => [(6, .int .i64 (k : Int)), (2, v)]) (fun ⟨k, v⟩ W => Ext w W ∧ k ≤ N ∧ GO 1 (RowOf GC) S w.heap.size W 23 v ((List.range k).map fun i : Nat => unitv N (i : Int))) (fun ⟨k, v⟩ => N - k) ((0, _)) ⟨rfl, rfl, trivial⟩ ⟨rfl, rfl, trivial⟩ ⟨Ext.refl _, Nat.zero_le _, GO.nil _ _⟩ ?_)));intro i3 E4 W2 h5;obtain ⟨k, v⟩ := i3;simp only at h5
 show V _ _ _ _ _ _ (ups (ups _ _) [(6, .int .i64 (k : Int)), (2, v)]) _
 obtain ⟨x6, hk, hO⟩ := h5;have s7 := x6.sz;have z8 := x6;refine V.seq (V.reg rfl ?_);refine vlt rfl rfl ?_ ?_
 ·intro c9;refine vnil (V.seq (V.condT rfl (V.skip (V.seq (V.block (V.seq (V.reg rfl ?_)))))));refine mvi rfl (asi rfl (vnil (V.reg rfl (vv (rmv (v := v) rfl) (mvi rfl (vo (xcall e111 (mcut_ok' _ N _ hN) rfl rfl ?_)))))));rintro _ _ ⟨rfl, rfl⟩;refine ⟨_, rfl, ?_⟩;refine mvi rfl (vo (xcall e118 (vUnit_ok _ _ N _ _ (by omega) (GO.up hO hu (by omega))) rfl rfl ?_));rintro _ W11 ⟨_, _, _, rfl, x12, hvu⟩;have s13 := x12.sz;have z14 := z8.trans x12;replace hO := hO.ext okRowC x12;refine ⟨_, rfl, ?_⟩;refine vo (xbs (ps := [(0, .slice _ _ _)]) (cs := [.slice _ _ _]) sl22 zr23 sz23 rfl rfl rfl rfl rfl rfl ?_);intro W15 x16 b17 nn18;have s19 := x16.sz;have z20 := z14.trans x16;replace hO := hO.ext okRowC x16;refine vo (xappG okRowC sl22 in23 rfl rfl hO rfl rfl b17 rfl rfl ((⟨_, _, _, rfl, (hvu.ext x16)⟩ : RowOf GC _ _ _ _)) (by simp; omega) (by decide) (by omega) ?_);intro v21 W22 hO23 hg24;have y25 := hg24.below; have s26 := y25.size;have z27 := z20.below (y25.mono (by omega));refine vv (ras (v := v21) rfl) (vnil (V.reg rfl (vv (rbin (bAdd (wi (by omega))) rfl rfl) ?_)));refine mvi rfl (vnil ⟨rfl, (k + 1, _), ⟨rfl, rfl, trivial⟩, ⟨rfl, rfl, trivial⟩, ⟨z27, by omega, by rw [identm_succ]; exact hO23⟩, ?_⟩)
  show N - (k + 1) < N - k
  omega
 ·intro c9;refine vnil (V.seq (V.condF rfl (V.exit (V.seq (V.reg rfl ?_)))));refine vv (rmv (v := v) rfl) (vv (ras (v := v) rfl) (vnil (V.ret ⟨[v], ⟨rfl, trivial⟩, ?_⟩)));obtain ⟨a', c', rfl⟩ := hO.form;have hf := hO.fin okRowC (fun b hb _ => hu b (by omega));have ek : k = N := (by omega);subst ek;exact ⟨_, _, _, rfl, z8, hf⟩
end Go.Proofs.YtknbjfefeeojlaaGreat
/- Digits in base 65536: plain mathematics. -/
namespace Go.Proofs.YtknbjfefeeojlaaGreat
abbrev b16 : Int := 65536
/-- Any block. -/
def TT (_ : Nat) : Prop := True
theorem TT.up (w : Go.World) : Up TT w := fun _ _ => trivial
/-- Each word in two halves. -/
def h2 (xs : List Int) : List Int := xs.flatMap fun x => [x % 65536, x / 65536]
theorem h2_cons (x : Int) (xs : List Int) : h2 (x :: xs) = x % 65536 :: x / 65536 :: h2 xs := by simp [h2]
theorem h2_snoc (xs : List Int) (x : Int) : h2 (xs ++ [x]) = h2 xs ++ [x % 65536, x / 65536] := by simp [h2]
theorem h2_len (xs : List Int) : (h2 xs).length = 2 * xs.length := by
  induction xs with
  | nil => rfl
  | cons x xs ih => rw [h2_cons]; simp only [List.length_cons, ih]; omega
theorem h2_vl (xs : List Int) : vl b16 (h2 xs) = vl b32 xs := by
  induction xs with
  | nil => rfl
  | cons x xs ih =>
    rw [h2_cons];simp only [vl, ih]
    unfold b16 b32
    omega
theorem h2_dg {xs : List Int} (h : Dg b32 xs) : Dg b16 (h2 xs) := by
  induction xs with
  | nil => exact Dg.nil _
  | cons x xs ih =>
    obtain ⟨h1, h3⟩ := Dg.cons.1 h;rw [h2_cons]
    unfold b32 at h1
    exact Dg.cons.2 ⟨by unfold b16; omega, Dg.cons.2 ⟨by unfold b16; omega, ih h3⟩⟩
theorem h2_tr {xs : List Int} (h : Dg b32 xs) : tr (h2 xs) = dg b16 (vl b32 xs) := by rw [← h2_vl, dg_vl (by decide) (h2_dg h)]
/-- Two halves to a word. -/
def p2 : List Int → List Int
  | [] => []
  | [a] => [a]
  | a :: b :: l => (a + b * 65536) :: p2 l
theorem p2_vl : ∀ (l : List Int), vl b32 (p2 l) = vl b16 l
  | [] => rfl
  | [a] => by simp [p2, vl]
  | a :: b :: l => by
    simp only [p2, vl, p2_vl l]
    unfold b16 b32
    omega
theorem p2_dg : ∀ {l : List Int}, Dg b16 l → Dg b32 (p2 l)
  | [], _ => Dg.nil _
  | [a], h => by
    have := (Dg.cons.1 h).1
    unfold b16 at this
    exact Dg.cons.2 ⟨by unfold b32; omega, Dg.nil _⟩
  | a :: b :: l, h => by
    have h1 := Dg.cons.1 h;have h3 := Dg.cons.1 h1.2;have e1 := h1.1;have e2 := h3.1
    unfold b16 at e1 e2
    exact Dg.cons.2 ⟨by unfold b32; omega, p2_dg h3.2⟩
theorem last_of_tr {l : List Int} (h : tr l = l) : ∀ y, l.getLast? = some y → y ≠ 0 := by
  rcases List.eq_nil_or_concat l with rfl | ⟨ys, z, rfl⟩
  · intro y hy; simp at hy
  · intro y hy h0;rw [List.concat_eq_append] at hy h
    simp at hy
    subst hy h0;rw [tr_snoc_zero] at h;have := tr_length_le ys;rw [h] at this
    simp at this
    omega
theorem p2_ne : ∀ {l : List Int}, l ≠ [] → p2 l ≠ []
  | [], h => absurd rfl h
  | [_], _ => by simp [p2]
  | _ :: _ :: _, _ => by simp [p2]
theorem p2_last : ∀ {l : List Int}, Dg b16 l → (∀ y, l.getLast? = some y → y ≠ 0) → ∀ y, (p2 l).getLast? = some y → y ≠ 0
  | [], _, _ => by simp [p2]
  | [a], _, h => by intro y hy; exact h y (by simpa [p2] using hy)
  | [a, b], hd, h => by
    intro y hy;have h1 := Dg.cons.1 hd;have h3 := Dg.cons.1 h1.2;have e1 := h1.1;have e2 := h3.1
    unfold b16 at e1 e2
    have := h b (by simp)
    simp [p2] at hy
    omega
  | a :: b :: c :: l, hd, h => by
    intro y hy;have h1 := Dg.cons.1 hd;have h3 := Dg.cons.1 h1.2;refine p2_last (l := c :: l) h3.2 (fun z hz => h z (by simpa [List.getLast?_cons_cons] using hz)) y ?_;have hn := p2_ne (l := c :: l) (by simp);simp only [p2] at hy;obtain ⟨u, us, e⟩ := List.exists_cons_of_ne_nil hn;rw [e] at hy ⊢
    rwa [List.getLast?_cons_cons] at hy
theorem p2_tr {l : List Int} (hd : Dg b16 l) (h : tr l = l) : p2 l = dg b32 (vl b16 l) := by
  rw [← p2_vl, dg_vl (by decide) (p2_dg hd)];exact (tr_eq_self_of_last (p2_last hd (last_of_tr h))).symm
theorem p2_step : ∀ (k : Nat) (l : List Int), 2 * k < l.length → p2 (l.take (2 * (k + 1))) = p2 (l.take (2 * k)) ++ [(l[2 * k]?).getD 0 + (l[2 * k + 1]?).getD 0 * 65536]
  | 0, [], h => by simp at h
  | 0, [a], _ => by simp [p2]
  | 0, a :: b :: l, _ => by simp [p2]
  | k + 1, [], h => by simp at h
  | k + 1, [a], h => by simp at h
  | k + 1, a :: b :: l, h => by
    have ih := p2_step k l (by simp at h; omega);rw [show 2 * (k + 1 + 1) = 2 * (k + 1) + 1 + 1 by omega, show 2 * (k + 1) = 2 * k + 1 + 1 by omega];simp only [List.take_succ_cons, p2, List.cons_append];rw [show 2 * k + 1 + 1 = 2 * (k + 1) by omega, ih];have e1 : (a :: b :: l)[2 * (k + 1)]? = l[2 * k]? := by rw [show 2 * (k + 1) = 2 * k + 1 + 1 by omega]; simp
    have e2 : (a :: b :: l)[2 * (k + 1) + 1]? = l[2 * k + 1]? := by rw [show 2 * (k + 1) + 1 = 2 * k + 1 + 1 + 1 by omega]; simp
    rw [e1, e2]
theorem p2_wd (k : Nat) (l : List Int) (h : 2 * k < l.length) : p2 (l.take (2 * (k + 1))) = p2 (l.take (2 * k)) ++ [wd l (2 * (k : Int)) + wd l (2 * (k : Int) + 1) * 65536] := by
  rw [p2_step k l h]
  unfold wd
  rw [List.getD_eq_getElem?_getD, List.getD_eq_getElem?_getD, show (2 * (k : Int)).toNat = 2 * k by omega, show (2 * (k : Int) + 1).toNat = 2 * k + 1 by omega]
theorem p2_le : ∀ (l : List Int), (p2 l).length ≤ l.length
  | [] => Nat.le_refl _
  | [_] => Nat.le_refl _
  | _ :: _ :: l => by have := p2_le l; simp only [p2, List.length_cons]; omega
theorem p2_len (k : Nat) (l : List Int) : (p2 (l.take (2 * k))).length ≤ 2 * k := by
  have := p2_le (l.take (2 * k)); rw [List.length_take] at this; omega
theorem wd_dg {B : Int} {xs : List Int} (hB : 0 < B) (h : Dg B xs) (i : Int) : 0 ≤ wd xs i ∧ wd xs i < B := by
  unfold wd
  rw [List.getD_eq_getElem?_getD]
  cases hq : xs[i.toNat]? with
  | none => exact ⟨Int.le_refl _, hB⟩
  | some x => exact h x (List.mem_of_getElem? hq)
theorem w32q {z u : Int} (h : 0 ≤ z ∧ z ≤ 4294967295) (e : z = u) : IntKind.u32.wrap z = u := by rw [w32 h, e]
theorem h2_wd (k : Nat) (xs : List Int) (h : k < xs.length) : h2 (xs.take (k + 1)) = h2 (xs.take k) ++ [wd xs k % 65536, wd xs k / 65536] := by rw [take_succ_wd xs k h, h2_snoc]
end Go.Proofs.YtknbjfefeeojlaaGreat
/- Package pylonref01: trim, at, halves, of, Least, From, Same. -/
namespace Go.Proofs.YtknbjfefeeojlaaGreat
open Go.RowKit
attribute [local irreducible] RV VH V OpF Calls

set_option maxHeartbeats 400000 in
theorem rtrim_ok (a : Option Addr) (n c : Nat) (xs : List Int) (S : Nat → Prop) (w : World) (h : RN .i64 S w a n c xs) :
    Calls Tryz.prog 211 #[.slice a n c] w (fun e w' => ∃ m, e = .returned (.slice a m c) ∧ RN .i64 S w' a m c (tr xs) ∧ m ≤ n ∧ w = w') := by
 have z0 := Ext.refl w; have hLX : LX = 17592186044416 := rfl; have hLY : LY = 8796093022208 := rfl;have hl := h.len; have hcp := h.cap; have hmx := h.max;refine enter (args := [.slice a n c]) Tryz.func211 rfl rfl (Nat.le_of_ble_eq_true rfl) (V.seq (V.reg rfl ?_));refine ass rfl (vnil (V.seq (V.reg rfl ?_)));refine mvs rfl (vv (rlen sl73 rfl) (asi rfl (vnil (V.seq (V.block (V.loopK (ι := Nat) [(0, .slice _ _ _)] (fun i => [(3, .int .i64 (i : Int))]) (fun i W => w = W ∧ i ≤ n ∧ tr (xs.take i) = tr xs) (fun i => i) (n) ⟨rfl, trivial⟩ ⟨rfl, trivial⟩ ⟨rfl, Nat.le_refl _, by rw [List.take_of_length_le (by omega)]⟩ ?_))))));intro i E2 W1 h3;obtain ⟨rfl, hm, ht⟩ := h3;refine V.seq (V.seq (V.reg rfl ?_));refine mvi rfl (vgt rfl rfl ?_ ?_)
 ·intro c4;refine mvb rfl (vg rfl (mvs rfl (vg rfl (mvi rfl (vg rfl (vv (rbin (bSub (wi (by omega))) rfl rfl) ?_))))));refine vg rfl (vv (rixn h sl73 sz3 rfl rfl (by omega) (by omega)) ?_);refine vg rfl (vldN h rfl sc3 (by omega) (by omega) ?_);intro q5 hq5 hk6;simp only [kb] at hk6;refine vg rfl (veq rfl rfl ?_ ?_)
  ·intro cz;refine vv (rpk (v := .bool true) rfl rfl) (vnil (V.condT rfl (V.skip (V.block (V.reg rfl (mvi rfl (vv (rbin (bSub (show IntKind.i64.wrap ((i : Int) - 1) = ((i - 1 : Nat) : Int) by rw [wi (by omega)]; omega)) rfl rfl) ?_)))))));refine asi rfl (vnil ⟨rfl, i - 1, ⟨rfl, trivial⟩, ⟨rfl, trivial⟩, ⟨rfl, by omega, trim_step (n := n) (by omega) ht (by omega) (by rw [wd_take (by omega), ← hq5]; exact cz)⟩, ?_⟩)
   show i - 1 < i
   omega
  ·intro cz;refine vv (rpk (v := .bool false) rfl rfl) (vnil (V.condF rfl (V.exit (V.seq (V.reg rfl ?_)))));refine mvs rfl (mvi rfl ?_);have hs := (h).take (i) (by omega);refine vv (rslh (m := i) h sl73 sz3 rfl rfl rfl (by omega) (by omega)) ?_;refine ass rfl (vnil (V.ret ⟨[.slice _ _ _], ⟨rfl, trivial⟩, ?_⟩));refine ⟨_, rfl, hs.cast ?_, hm, rfl⟩;exact trim_last (by omega) ht (by omega) (by rw [wd_take (by omega), ← hq5]; exact cz)
 ·intro c4;refine mvb rfl (vgn (b := false) rfl rfl (vgn (b := false) rfl rfl (vgn (b := false) rfl rfl (vgn (b := false) rfl rfl (vgn (b := false) rfl rfl (vgn (b := false) rfl rfl (vv (rpk (v := .bool false) rfl rfl) (vnil (V.condF rfl (V.exit (V.seq (V.reg rfl ?_))))))))))));refine mvs rfl (mvi rfl ?_);have hs := (h).take (i) (by omega);refine vv (rslh (m := i) h sl73 sz3 rfl rfl rfl (by omega) (by omega)) ?_;refine ass rfl (vnil (V.ret ⟨[.slice _ _ _], ⟨rfl, trivial⟩, ?_⟩));refine ⟨_, rfl, hs.cast ?_, hm, rfl⟩;have e0 : i = 0 := by omega
  subst e0;exact ht
set_option maxHeartbeats 400000 in
theorem rat_ok (a : Option Addr) (n c : Nat) (xs : List Int) (i : Int) (S : Nat → Prop) (w : World) (h : RN .i64 S w a n c xs) (hi : 0 ≤ i) :
    Calls Tryz.prog 212 #[.slice a n c, .int .i64 i] w (fun e w' => e = .returned (.int .i64 (wd xs i)) ∧ w = w') := by
 have z0 := Ext.refl w; have hLX : LX = 17592186044416 := rfl; have hLY : LY = 8796093022208 := rfl;have hl := h.len;refine enter (args := [.slice a n c, .int .i64 i]) Tryz.func212 rfl rfl (Nat.le_of_ble_eq_true rfl) (V.seq (V.reg rfl ?_));refine asi rfl (vnil (V.seq (V.seq (V.reg rfl ?_))));refine mvi rfl (mvs rfl (vv (rlen sl73 rfl) (vlt rfl rfl ?_ ?_)))
 ·intro c1;refine vnil (V.condT rfl (V.seq (V.reg rfl ?_)));refine mvs rfl (mvi rfl (vv (rixn h sl73 sz3 rfl rfl (by omega) (by omega)) ?_));refine vldN h rfl sc3 (by omega) (by omega) ?_;intro q2 hq2 hk3;simp only [kb] at hk3;refine asi rfl (vnil (V.ret ⟨[.int _ _], ⟨rfl, trivial⟩, ?_⟩));exact ⟨by rw [hq2]; rfl, rfl⟩
 ·intro c1;refine vnil (V.condF rfl (V.skip (V.seq (V.reg rfl ?_))));refine asi rfl (vnil (V.ret ⟨[.int _ _], ⟨rfl, trivial⟩, ?_⟩));exact ⟨by rw [wd_ge (by omega)]; rfl, rfl⟩
set_option maxHeartbeats 400000 in
theorem halves_ok (a : Option Addr) (N c : Nat) (xs : List Int) (S S1 : Nat → Prop) (w : World) (h0 : RN .u32 S1 w a N c xs) (hn : N ≤ LX / 8) (hu : Up S w) :
    Calls Tryz.prog 198 #[.slice a N c] w (fun e w' => ∃ a n c, e = .returned (.slice a n c) ∧ Ext w w' ∧ RN .i64 S w' a n c (dg b16 (vl b32 xs)) ∧ n ≤ 2 * N) := by
 have z0 := Ext.refl w; have hLX : LX = 17592186044416 := rfl; have hLY : LY = 8796093022208 := rfl;have h := h0.sub (S' := fun q => q < w.heap.size) (fun b hb _ => hb);have hl := h.len;refine enter (args := [.slice a N c]) Tryz.func198 rfl rfl (Nat.le_of_ble_eq_true rfl) (V.seq (V.reg rfl ?_));refine ass rfl (vnil (V.seq (V.reg rfl ?_)));refine ass rfl (vnil (V.seq (V.seq (V.reg rfl ?_))));refine asi rfl (vnil (V.block (V.loopK (ι := Nat × Value) [(0, .slice _ _ _)] (fun ⟨k, v⟩ => [(4, .int .i64 (k : Int)), (3, v)]) (fun ⟨k, v⟩ W => Ext w W ∧ k ≤ N ∧ OI .i64 w.heap.size W 3 v (h2 (xs.take k))) (fun ⟨k, v⟩ => N - k) ((0, _)) ⟨rfl, trivial⟩ ⟨rfl, rfl, trivial⟩ ⟨Ext.refl _, by omega, OI.nil .i64 _ _ _⟩ ?_)));intro i2 E3 W1 h4;obtain ⟨k, v⟩ := i2;simp only at h4
 show V _ _ _ _ _ _ (ups (ups _ _) [(4, .int .i64 (k : Int)), (3, v)]) _
 obtain ⟨x5, hk, hO⟩ := h4;have s6 := x5.sz;have z7 := x5;refine V.seq (V.seq (V.reg rfl ?_));refine mvi rfl (mvs rfl (vv (rlen sl44 rfl) (vlt rfl rfl ?_ ?_)))
 ·intro c8;have hw := h.kb' (i := (k : Int)) (by omega) (by omega);simp only [kb] at hw;have hln := h2_len (xs.take k);rw [List.length_take] at hln;refine vnil (V.condT rfl (V.skip (V.seq (V.block (V.regS (fun W => KD (fun q => q < w.heap.size) W) mixed rfl ?_)))));intro W9 x10;have s11 := x10.sz;have z12 := z7.trans x10;replace hO := hO.ext x10;have q14 := KD.refl (fun q => q < w.heap.size) W9;refine tk 0 rfl (by kernel_rfl) q14 (pv (fun _ y15 => rmv (v := v) rfl)) ?_;refine tk 1 rfl (by kernel_rfl) q14 (pv (fun _ y16 => rmv (v := .slice _ _ _) rfl)) ?_;refine tk 2 rfl (by kernel_rfl) q14 (pv (fun _ y17 => rmv (v := .int _ _) rfl)) ?_;refine tk 3 rfl (by kernel_rfl) q14 (pv (fun _ y18 => rixn ((h.ext z12).ck (y18).ck) sl44 sz164 rfl rfl (by omega) (by omega))) ?_;refine tk 4 rfl (by kernel_rfl) q14 (pv (fun _ y19 => rldN ((h.ext z12).ck (y19).ck) rfl sc164 (by omega) (by omega))) ?_;refine tk 5 rfl (by kernel_rfl) q14 (pv (fun _ y20 => rbin (bRem (by omega) (Int.tmod_eq_emod_of_nonneg (by omega))) rfl rfl)) ?_;refine tk 6 rfl (by kernel_rfl) q14 (pv (fun _ y21 => rcv Tryz.underlying164 Tryz.underlying3 rfl (wi (by omega)))) ?_;refine tk 7 rfl (by kernel_rfl) q14 (pv (fun _ y22 => rmv (v := .slice _ _ _) rfl)) ?_;refine tk 8 rfl (by kernel_rfl) q14 (pv (fun _ y23 => rmv (v := .int _ _) rfl)) ?_;refine tk 9 rfl (by kernel_rfl) q14 (pv (fun _ y24 => rixn ((h.ext z12).ck (y24).ck) sl44 sz164 rfl rfl (by omega) (by omega))) ?_;refine tk 10 rfl (by kernel_rfl) q14 (pv (fun _ y25 => rldN ((h.ext z12).ck (y25).ck) rfl sc164 (by omega) (by omega))) ?_;refine tk 11 rfl (by kernel_rfl) q14 (pv (fun _ y26 => rbin (bQuo (by omega) (w32q (by rw [Int.tdiv_eq_ediv_of_nonneg (by omega)]; omega) (Int.tdiv_eq_ediv_of_nonneg (by omega)))) rfl rfl)) ?_;refine tk 12 rfl (by kernel_rfl) q14 (pv (fun _ y27 => rcv Tryz.underlying164 Tryz.underlying3 rfl (wi (by omega)))) ?_;refine ef 13 (by kernel_rfl) rfl ?_;refine xbs (ps := [(0, .int _ _), (1, .int _ _)]) (cs := [.int _ _, .int _ _]) sl73 zr3 sz3 rfl rfl rfl rfl rfl rfl ?_;intro W28 x29 b30 nn31;have s32 := x29.sz;have z33 := z12.trans x29;replace hO := hO.ext x29;have q34 := q14.trans x29.kd;refine ⟨fun _ => q34, ?_⟩;refine ef 14 (by kernel_rfl) rfl ?_;have hl35 := RN.lit (k := .i64) (xs := [_, _]) 2 b30 (by intro q hq; simp only [List.mem_cons, List.not_mem_nil, or_false] at hq; simp only [kb]; omega) (TT.up W9 _ (Nat.le_refl _));refine xappN sl73 in3 hO rfl rfl hl35 (by simp only [List.length_nil, List.length_cons, List.length_append]; omega) (by decide) (by omega) ?_;intro v36 W37 hO38 hg39 ho40;have y41 := grown_below hg39 (by omega) (fun b e => (hO.low b e).1);have s42 := y41.size;have q43 := q34.trans (Below.kd y41 (fun k hk _ => Nat.lt_of_lt_of_le hk (by omega)));have z44 := z33.below (y41.mono (by omega));refine ⟨fun _ => q43, ?_⟩;refine tk 15 rfl (by kernel_rfl) q43 (pv (fun _ y45 => ras (v := v36) rfl)) ?_;refine dn (by kernel_rfl) ?_;refine V.reg rfl (mvi rfl (vv (rbin (bAdd (wi (by omega))) rfl rfl) ?_));refine asi rfl (vnil ⟨rfl, (k + 1, _), ⟨rfl, trivial⟩, ⟨rfl, rfl, trivial⟩, ⟨z44, by omega, by rw [h2_wd k xs (by omega)]; exact hO38⟩, ?_⟩)
  show N - (k + 1) < N - k
  omega
 ·intro c8;refine vnil (V.condF rfl (V.exit (V.seq (V.reg rfl ?_))));refine vv (rmv (v := v) rfl) (vo ?_);obtain ⟨a', c', rfl⟩ := hO.form;have hrn := hO.rn (S := S) (fun b hb _ => hu b (by omega));refine xcall e211 (rtrim_ok _ _ _ _ _ _ hrn) rfl rfl ?_;rintro _ _ ⟨m1, rfl, hr1, hm1, rfl⟩;refine ⟨_, rfl, ?_⟩;refine ass rfl (vnil (V.ret ⟨[.slice _ _ _], ⟨rfl, trivial⟩, ?_⟩));exact ⟨_, _, _, rfl, z7, (hr1).cast (by rw [List.take_of_length_le (by omega), h2_tr h0.dg32]), by have hq := h2_len (xs.take k); rw [List.length_take] at hq; omega⟩
set_option maxHeartbeats 400000 in
theorem rof_ok (neg : Bool) (a : Option Addr) (n c : Nat) (xs : List Int) (S S1 : Nat → Prop) (w : World) (h : RN .i64 S1 w a n c xs) (hd : Dg b16 xs) (hn : n ≤ LX) (hu : Up S w) :
    Calls Tryz.prog 197 #[.bool neg, .slice a n c] w (PZ S (if neg then -(vl b16 xs) else vl b16 xs) w) := by
 have z0 := Ext.refl w; have hLX : LX = 17592186044416 := rfl; have hLY : LY = 8796093022208 := rfl;have hv := vl_nonneg (B := b16) (by decide) hd;have hl := h.len;have hdt := wd_dg (B := b16) (by decide) hd.tr;have hu2 : ∀ W : World, w.heap.size + 1 ≤ W.heap.size → Up (SX S [w.heap.size]) W := fun W hW => SX.up (hu.mono (by omega)) (by simp; omega)
 cases neg
 ·skip;refine enter (args := [.bool false, .slice a n c]) Tryz.func197 rfl rfl (Nat.le_of_ble_eq_true rfl) (V.seq (V.reg rfl ?_));refine vo (xal zc46 ?_);intro W1 x2 b3 nn4;have s5 := x2.sz;have z6 := x2;refine vnil (V.seq (V.reg rfl ?_));refine mvs rfl (vo (xcall e211 (rtrim_ok _ _ _ _ _ _ (h.ext z6)) rfl rfl ?_));rintro _ _ ⟨m8, rfl, hr7, hm9, rfl⟩;refine ⟨_, rfl, ?_⟩;refine ass rfl (vnil (V.seq (V.reg rfl ?_)));refine ass rfl (vnil (V.seq (V.seq (V.reg rfl ?_))));refine asi rfl (vnil (V.block (V.loopK (ι := Nat × Value) [(0, .bool false), (1, .slice _ _ _), (4, .pointer (some ⟨_, _, none⟩))] (fun ⟨k, v⟩ => [(6, .int .i64 (2 * (k : Int))), (5, v)]) (fun ⟨k, v⟩ W => Ext W1 W ∧ 2 * k ≤ n + 1 ∧ OI .u32 W1.heap.size W 164 v (p2 ((tr xs).take (2 * k)))) (fun ⟨k, v⟩ => n - k) ((0, _)) ⟨rfl, rfl, rfl, trivial⟩ ⟨rfl, rfl, trivial⟩ ⟨Ext.refl _, by omega, OI.nil .u32 _ _ _⟩ ?_)));intro i13 E14 W12 h15;obtain ⟨k, v⟩ := i13;simp only at h15
  show V _ _ _ _ _ _ (ups (ups _ _) [(6, .int .i64 (2 * (k : Int))), (5, v)]) _
  obtain ⟨x16, hk, hO⟩ := h15;have s17 := x16.sz;have z18 := z6.trans x16;have z19 := x16;replace b3 := b3.ext x16;have hlt := hr7.len;refine V.seq (V.seq (V.reg rfl ?_));refine mvi rfl (mvs rfl (vv (rlen sl73 rfl) (vlt rfl rfl ?_ ?_)))
  ·intro c20;have hb0 := hdt (2 * (k : Int)); have hb1 := hdt (2 * (k : Int) + 1); have hlp : (p2 ((tr xs).take (2 * k))).length ≤ 2 * k := p2_len k _
   unfold b16 at hb0 hb1
   refine vnil (V.condT rfl (V.skip (V.seq (V.block (V.reg rfl (vv (rmv (v := v) rfl) (mvs rfl (mvi rfl (vo (xcall e212 (rat_ok _ _ _ _ _ _ _ (hr7.ext z19) (by omega)) rfl rfl ?_))))))))));rintro _ _ ⟨rfl, rfl⟩;refine ⟨_, rfl, ?_⟩;refine vv (rcv Tryz.underlying3 Tryz.underlying164 rfl (w32 (by omega))) ?_;refine mvs rfl (mvi rfl (vv (rbin (bAdd (wi (by omega))) rfl rfl) ?_));refine vo (xcall e212 (rat_ok _ _ _ _ _ _ _ (hr7.ext z19) (by omega)) rfl rfl ?_);rintro _ _ ⟨rfl, rfl⟩;refine ⟨_, rfl, ?_⟩;refine vv (rcv Tryz.underlying3 Tryz.underlying164 rfl (w32 (by omega))) ?_;refine vv (rbin (bMul (w32 (by omega))) rfl rfl) ?_;refine vv (rbin (bAdd (w32 (by omega))) rfl rfl) ?_;refine vo (xbs (ps := [(0, .int _ _)]) (cs := [.int _ _]) sl44 zr164 sz164 rfl rfl rfl rfl rfl rfl ?_);intro W23 x24 b25 nn26;have s27 := x24.sz;have z29 := z19.trans x24;replace hO := hO.ext x24;refine vo (xapp sl44 in164 hO rfl rfl b25 (by simp only [kb]; omega) (by omega) (by decide) (by omega) ?_);intro v30 W31 hO32 hg33 ho34;have y35 := grown_below hg33 (by omega) (fun b e => (hO.low b e).1);have s36 := y35.size;have z38 := z29.below (y35.mono (by omega));refine vv (ras (v := v30) rfl) (vnil (V.reg rfl (mvi rfl (vv (rbin (bAdd (wi (by omega))) rfl rfl) ?_))));refine asi rfl (vnil ⟨rfl, (k + 1, _), ⟨rfl, rfl, rfl, trivial⟩, ⟨rfl, rfl, trivial⟩, ⟨z38, by omega, by rw [p2_wd k _ (by omega)]; exact hO32⟩, ?_⟩)
   show n - (k + 1) < n - k
   omega
  ·intro c20;obtain ⟨a', c', rfl⟩ := hO.form;refine vnil (V.condF rfl (V.exit (V.seq (V.reg rfl ?_))));refine mvb rfl (mvb rfl (vgn (b := false) rfl rfl (vgn (b := false) rfl rfl (vgn (b := false) rfl rfl (vv (rpk (v := .bool false) rfl rfl) (mvs rfl (vv (rbd (ps := [(0, .bool false), (1, .slice _ _ _)]) (cs := [.bool false, .slice _ _ _]) pl46 rfl rfl) (vo (sta (cs' := [_, _]) b3 rfl rfl sz46 rfl rfl rfl ?_)))))))));intro W39 y40 b3;have z41 := z18.below (y40.below (by omega));have s42 := y40.size;refine vnil (V.ret ⟨[_], ⟨⟨_, rfl, lvb ag46 b3 rfl⟩, trivial⟩, ?_⟩);have hp : p2 ((tr xs).take (2 * k)) = dg b32 (vl b16 xs) := by rw [List.take_of_length_le (by omega), p2_tr hd.tr (by rw [← dg_vl (by decide) hd, tr_dg (by decide) hv]), vl_tr]
   have hrn := (hO.rn (S := SX S [w.heap.size]) (fun b hb _ => hu2 W1 (by omega) b hb)).cast hp;exact ⟨_, _, _, _, rfl, z41, ZC.mk' ((hrn.ck (y40.ck (by intro hh; simp [SX] at hh))).un) hv (by first | rfl | (simp only [Bool.true_and]; first | exact (decide_eq_true (by omega)).symm | exact (decide_eq_false (by omega)).symm))⟩
 ·skip;refine enter (args := [.bool true, .slice a n c]) Tryz.func197 rfl rfl (Nat.le_of_ble_eq_true rfl) (V.seq (V.reg rfl ?_));refine vo (xal zc46 ?_);intro W43 x44 b45 nn46;have s47 := x44.sz;have z48 := x44;refine vnil (V.seq (V.reg rfl ?_));refine mvs rfl (vo (xcall e211 (rtrim_ok _ _ _ _ _ _ (h.ext z48)) rfl rfl ?_));rintro _ _ ⟨m50, rfl, hr49, hm51, rfl⟩;refine ⟨_, rfl, ?_⟩;refine ass rfl (vnil (V.seq (V.reg rfl ?_)));refine ass rfl (vnil (V.seq (V.seq (V.reg rfl ?_))));refine asi rfl (vnil (V.block (V.loopK (ι := Nat × Value) [(0, .bool true), (1, .slice _ _ _), (4, .pointer (some ⟨_, _, none⟩))] (fun ⟨k, v⟩ => [(6, .int .i64 (2 * (k : Int))), (5, v)]) (fun ⟨k, v⟩ W => Ext W43 W ∧ 2 * k ≤ n + 1 ∧ OI .u32 W43.heap.size W 164 v (p2 ((tr xs).take (2 * k)))) (fun ⟨k, v⟩ => n - k) ((0, _)) ⟨rfl, rfl, rfl, trivial⟩ ⟨rfl, rfl, trivial⟩ ⟨Ext.refl _, by omega, OI.nil .u32 _ _ _⟩ ?_)));intro i55 E56 W54 h57;obtain ⟨k, v⟩ := i55;simp only at h57
  show V _ _ _ _ _ _ (ups (ups _ _) [(6, .int .i64 (2 * (k : Int))), (5, v)]) _
  obtain ⟨x58, hk, hO⟩ := h57;have s59 := x58.sz;have z60 := z48.trans x58;have z61 := x58;replace b45 := b45.ext x58;have hlt := hr49.len;refine V.seq (V.seq (V.reg rfl ?_));refine mvi rfl (mvs rfl (vv (rlen sl73 rfl) (vlt rfl rfl ?_ ?_)))
  ·intro c62;have hb0 := hdt (2 * (k : Int)); have hb1 := hdt (2 * (k : Int) + 1); have hlp : (p2 ((tr xs).take (2 * k))).length ≤ 2 * k := p2_len k _
   unfold b16 at hb0 hb1
   refine vnil (V.condT rfl (V.skip (V.seq (V.block (V.reg rfl (vv (rmv (v := v) rfl) (mvs rfl (mvi rfl (vo (xcall e212 (rat_ok _ _ _ _ _ _ _ (hr49.ext z61) (by omega)) rfl rfl ?_))))))))));rintro _ _ ⟨rfl, rfl⟩;refine ⟨_, rfl, ?_⟩;refine vv (rcv Tryz.underlying3 Tryz.underlying164 rfl (w32 (by omega))) ?_;refine mvs rfl (mvi rfl (vv (rbin (bAdd (wi (by omega))) rfl rfl) ?_));refine vo (xcall e212 (rat_ok _ _ _ _ _ _ _ (hr49.ext z61) (by omega)) rfl rfl ?_);rintro _ _ ⟨rfl, rfl⟩;refine ⟨_, rfl, ?_⟩;refine vv (rcv Tryz.underlying3 Tryz.underlying164 rfl (w32 (by omega))) ?_;refine vv (rbin (bMul (w32 (by omega))) rfl rfl) ?_;refine vv (rbin (bAdd (w32 (by omega))) rfl rfl) ?_;refine vo (xbs (ps := [(0, .int _ _)]) (cs := [.int _ _]) sl44 zr164 sz164 rfl rfl rfl rfl rfl rfl ?_);intro W65 x66 b67 nn68;have s69 := x66.sz;have z71 := z61.trans x66;replace hO := hO.ext x66;refine vo (xapp sl44 in164 hO rfl rfl b67 (by simp only [kb]; omega) (by omega) (by decide) (by omega) ?_);intro v72 W73 hO74 hg75 ho76;have y77 := grown_below hg75 (by omega) (fun b e => (hO.low b e).1);have s78 := y77.size;have z80 := z71.below (y77.mono (by omega));refine vv (ras (v := v72) rfl) (vnil (V.reg rfl (mvi rfl (vv (rbin (bAdd (wi (by omega))) rfl rfl) ?_))));refine asi rfl (vnil ⟨rfl, (k + 1, _), ⟨rfl, rfl, rfl, trivial⟩, ⟨rfl, rfl, trivial⟩, ⟨z80, by omega, by rw [p2_wd k _ (by omega)]; exact hO74⟩, ?_⟩)
   show n - (k + 1) < n - k
   omega
  ·intro c62;obtain ⟨a', c', rfl⟩ := hO.form;refine vnil (V.condF rfl (V.exit (V.seq (V.reg rfl ?_))));refine mvb rfl (mvb rfl (vg rfl (mvs rfl (vg rfl (vv (rlen sl44 rfl) (vg rfl (vgt rfl rfl ?_ ?_)))))))
   ·intro c81;refine vv (rpk (v := .bool true) rfl rfl) (mvs rfl (vv (rbd (ps := [(0, .bool true), (1, .slice _ _ _)]) (cs := [.bool true, .slice _ _ _]) pl46 rfl rfl) (vo (sta (cs' := [_, _]) b45 rfl rfl sz46 rfl rfl rfl ?_))));intro W82 y83 b45;have z84 := z60.below (y83.below (by omega));have s85 := y83.size;refine vnil (V.ret ⟨[_], ⟨⟨_, rfl, lvb ag46 b45 rfl⟩, trivial⟩, ?_⟩);have hp : p2 ((tr xs).take (2 * k)) = dg b32 (vl b16 xs) := by rw [List.take_of_length_le (by omega), p2_tr hd.tr (by rw [← dg_vl (by decide) hd, tr_dg (by decide) hv]), vl_tr]
    have hrn := (hO.rn (S := SX S [w.heap.size]) (fun b hb _ => hu2 W43 (by omega) b hb)).cast hp;exact ⟨_, _, _, _, rfl, z84, ZC.mk' ((hrn.ck (y83.ck (by intro hh; simp [SX] at hh))).un) hv (by first | rfl | (simp only [Bool.true_and]; first | exact (decide_eq_true (by omega)).symm | exact (decide_eq_false (by omega)).symm))⟩
   ·intro c81;refine vv (rpk (v := .bool false) rfl rfl) (mvs rfl (vv (rbd (ps := [(0, .bool false), (1, .slice _ _ _)]) (cs := [.bool false, .slice _ _ _]) pl46 rfl rfl) (vo (sta (cs' := [_, _]) b45 rfl rfl sz46 rfl rfl rfl ?_))));intro W86 y87 b45;have z88 := z60.below (y87.below (by omega));have s89 := y87.size;refine vnil (V.ret ⟨[_], ⟨⟨_, rfl, lvb ag46 b45 rfl⟩, trivial⟩, ?_⟩);have hp : p2 ((tr xs).take (2 * k)) = dg b32 (vl b16 xs) := by rw [List.take_of_length_le (by omega), p2_tr hd.tr (by rw [← dg_vl (by decide) hd, tr_dg (by decide) hv]), vl_tr]
    have hrn := (hO.rn (S := SX S [w.heap.size]) (fun b hb _ => hu2 W43 (by omega) b hb)).cast hp;exact ⟨_, _, _, _, rfl, z88, ZC.mk' ((hrn.ck (y87.ck (by intro hh; simp [SX] at hh))).un) hv (by first | rfl | (simp only [Bool.true_and]; first | exact (decide_eq_true (by omega)).symm | exact (decide_eq_false (by omega)).symm))⟩
set_option maxHeartbeats 400000 in
theorem rLeast_ok (neg : Bool) (a : Option Addr) (n c : Nat) (xs : List Int) (S S1 : Nat → Prop) (w : World) (h : RN .u32 S1 w a n c xs) (hn : n ≤ LX / 8) (hu : Up S w) :
    Calls Tryz.prog 194 #[.agg #[.bool neg, .slice a n c]] w (PZ S (if neg then -(vl b32 xs) else vl b32 xs) w) := by
 have z0 := Ext.refl w; have hLX : LX = 17592186044416 := rfl; have hLY : LY = 8796093022208 := rfl;have hu2 : ∀ W : World, w.heap.size + 2 ≤ W.heap.size → Up (SX S [w.heap.size + 1]) W := fun W hW => SX.up (hu.mono (by omega)) (by simp <;> omega)
 have hv := vl_nonneg (B := b32) (by decide) h.dg32;refine enter (args := [.agg #[.bool neg, .slice a n c]]) Tryz.func194 rfl rfl (Nat.le_of_ble_eq_true rfl) (V.seq (V.reg rfl ?_));refine vo (bxa rfl ?_);intro W1 x2 b3 nn4;have s5 := x2.sz;have z6 := x2;refine vo (xal zc46 ?_);intro W7 x8 b9 nn10;have s11 := x8.sz;have z12 := z6.trans x8;replace b3 := b3.ext x8;refine vnil (V.seq (V.regD mixed rfl ?_));intro W13 x14;have s15 := x14.sz;have z16 := z12.trans x14;replace b3 := b3.ext x14;replace b9 := b9.ext x14;have q17 := Ext.refl W13;have r18 := b3;have r19 := b9;refine tk 0 rfl (by kernel_rfl) q17 (pv (fun _ y20 => rfa rfl fd46_0)) ?_;refine tk 1 rfl (by kernel_rfl) q17 (pv (fun _ y21 => rldb (v := .bool _) rfl sc4 (r18.ext y21) rfl)) ?_;refine tk 2 rfl (by kernel_rfl) q17 (pv (fun _ y22 => rfa rfl fd46_1)) ?_;refine tk 3 rfl (by kernel_rfl) q17 (pv (fun _ y23 => rldb (v := .slice _ _ _) rfl sc44 (r18.ext y23) rfl)) ?_;refine ef 4 (by kernel_rfl) rfl ?_;refine xcall e198 (halves_ok _ _ _ _ _ _ _ (h.ext z16) (by omega) (TT.up _)) rfl rfl ?_;rintro _ W25 ⟨_, _, _, rfl, x26, hh24, hh24n⟩;have s27 := x26.sz;have z28 := z16.trans x26;replace b9 := b9.ext x26;have q29 := q17.trans x26;refine ⟨_, rfl, ?_⟩;refine ⟨fun _ => q29, ?_⟩;refine ef 5 (by kernel_rfl) rfl ?_;refine xcall e197 (rof_ok _ _ _ _ _ _ _ _ hh24 (Dg.dg (by decide) _) (by omega) (hu2 _ (by omega))) rfl rfl ?_;rintro _ W31 ⟨_, _, _, _, rfl, x32, hz30⟩;have s33 := x32.sz;have z34 := z28.trans x32;replace b9 := b9.ext x32;have q35 := q29.trans x32;refine ⟨_, rfl, ?_⟩;refine ⟨fun _ => q35, ?_⟩;refine ef 6 (by kernel_rfl) rfl ?_;refine sta (cs' := [_, _]) b9 rfl rfl sz46 rfl rfl rfl ?_;intro W36 y37 b9;have z38 := z34.below (y37.below (by omega));have s39 := y37.size;refine lastT (by kernel_rfl) ?_;refine dn (by kernel_rfl) ?_;refine V.ret ⟨[_], ⟨⟨_, rfl, lvb ag46 b9 rfl⟩, trivial⟩, ?_⟩;exact ⟨_, _, _, _, rfl, z38, ((hz30.ck (y37.ck (by intro hh; first | (simp [SX] at hh <;> omega) | omega)))).un.cast (by rw [vl_dg (by decide) hv])⟩
set_option maxHeartbeats 400000 in
theorem rFrom_ok (x : Int) (S : Nat → Prop) (w : World) (hx : -9223372036854775808 ≤ x ∧ x ≤ 9223372036854775807) (hu : Up S w) :
    Calls Tryz.prog 165 #[.int .i64 x] w (PZ S x w) := by
 have z0 := Ext.refl w; have hLX : LX = 17592186044416 := rfl; have hLY : LY = 8796093022208 := rfl;have hu2 : ∀ W : World, w.heap.size + 1 ≤ W.heap.size → Up (SX S [w.heap.size]) W := fun W hW => SX.up (hu.mono (by omega)) (by simp <;> omega)
 refine enter (args := [.int .i64 x]) Tryz.func165 rfl rfl (Nat.le_of_ble_eq_true rfl) (V.seq (V.reg rfl ?_));refine vo (xal zc46 ?_);intro W1 x2 b3 nn4;have s5 := x2.sz;have z6 := x2;refine vnil (V.seq (V.reg rfl ?_));refine mvi rfl (vv (rcv Tryz.underlying2 Tryz.underlying162 rfl (m64 _)) (asi rfl (vnil (V.seq (V.seq (V.reg rfl ?_))))));refine mvi rfl (vlt rfl rfl ?_ ?_)
 ·intro c7;refine vnil (V.condT rfl (V.reg rfl (mvi rfl (vv (rneg rfl (m64 _)) (asi rfl (vnil (V.seq (V.reg rfl ?_))))))));refine mvi rfl (vlt rfl rfl ?_ ?_)
  ·intro c8;refine mvi rfl (vv (rbin (bRem (by omega) (Int.tmod_eq_emod_of_nonneg (by omega))) rfl rfl) ?_);refine vv (rcv Tryz.underlying162 Tryz.underlying164 rfl (m32 _)) (mvi rfl (vv (rbin (bQuo (by omega) (wuq (by rw [Int.tdiv_eq_ediv_of_nonneg (by omega)]; omega) (Int.tdiv_eq_ediv_of_nonneg (by omega)))) rfl rfl) ?_));refine vv (rcv Tryz.underlying162 Tryz.underlying164 rfl (m32 _)) (vo (xbs (ps := [(0, .int _ _), (1, .int _ _)]) (cs := [.int _ _, .int _ _]) sl44 zr164 sz164 rfl rfl rfl rfl rfl rfl ?_));intro W9 x10 b11 nn12;have s13 := x10.sz;have z14 := z6.trans x10;replace b3 := b3.ext x10;refine vv (rbd (ps := [(0, .bool true), (1, .slice _ _ _)]) (cs := [.bool true, .slice _ _ _]) pl46 rfl rfl) (vo ?_);have hl16 := RN.lit (k := .u32) (xs := [_, _]) 2 b11 (by intro q hq; simp only [List.mem_cons, List.not_mem_nil, or_false] at hq; simp only [kb]; omega) (TT.up W1 _ (Nat.le_refl _));refine xcall e194 (rLeast_ok _ _ _ _ _ _ _ _ hl16 (by omega) (hu2 _ (by omega))) rfl rfl ?_;rintro _ W17 ⟨_, _, _, _, rfl, x18, hz15⟩;have s19 := x18.sz;have z20 := z14.trans x18;replace b3 := b3.ext x18;refine ⟨_, rfl, ?_⟩;refine vo (sta (cs' := [_, _]) b3 rfl rfl sz46 rfl rfl rfl ?_);intro W21 y22 b3;have z23 := z20.below (y22.below (by omega));have s24 := y22.size;refine vnil (V.ret ⟨[_], ⟨⟨_, rfl, lvb ag46 b3 rfl⟩, trivial⟩, ?_⟩);exact ⟨_, _, _, _, rfl, z23, ((hz15.ck (y22.ck (by intro hh; first | (simp [SX] at hh <;> omega) | omega)))).un.cast (by simp [vl, b32]; omega)⟩
  ·intro c8;omega
 ·intro c7;refine vnil (V.condF rfl (V.skip (V.seq (V.reg rfl ?_))));refine mvi rfl (vlt rfl rfl ?_ ?_)
  ·intro c25;omega
  ·intro c25;refine mvi rfl (vv (rbin (bRem (by omega) (Int.tmod_eq_emod_of_nonneg (by omega))) rfl rfl) ?_);refine vv (rcv Tryz.underlying162 Tryz.underlying164 rfl (m32 _)) (mvi rfl (vv (rbin (bQuo (by omega) (wuq (by rw [Int.tdiv_eq_ediv_of_nonneg (by omega)]; omega) (Int.tdiv_eq_ediv_of_nonneg (by omega)))) rfl rfl) ?_));refine vv (rcv Tryz.underlying162 Tryz.underlying164 rfl (m32 _)) (vo (xbs (ps := [(0, .int _ _), (1, .int _ _)]) (cs := [.int _ _, .int _ _]) sl44 zr164 sz164 rfl rfl rfl rfl rfl rfl ?_));intro W26 x27 b28 nn29;have s30 := x27.sz;have z31 := z6.trans x27;replace b3 := b3.ext x27;refine vv (rbd (ps := [(0, .bool false), (1, .slice _ _ _)]) (cs := [.bool false, .slice _ _ _]) pl46 rfl rfl) (vo ?_);have hl33 := RN.lit (k := .u32) (xs := [_, _]) 2 b28 (by intro q hq; simp only [List.mem_cons, List.not_mem_nil, or_false] at hq; simp only [kb]; omega) (TT.up W1 _ (Nat.le_refl _));refine xcall e194 (rLeast_ok _ _ _ _ _ _ _ _ hl33 (by omega) (hu2 _ (by omega))) rfl rfl ?_;rintro _ W34 ⟨_, _, _, _, rfl, x35, hz32⟩;have s36 := x35.sz;have z37 := z31.trans x35;replace b3 := b3.ext x35;refine ⟨_, rfl, ?_⟩;refine vo (sta (cs' := [_, _]) b3 rfl rfl sz46 rfl rfl rfl ?_);intro W38 y39 b3;have z40 := z37.below (y39.below (by omega));have s41 := y39.size;refine vnil (V.ret ⟨[_], ⟨⟨_, rfl, lvb ag46 b3 rfl⟩, trivial⟩, ?_⟩);exact ⟨_, _, _, _, rfl, z40, ((hz32.ck (y39.ck (by intro hh; first | (simp [SX] at hh <;> omega) | omega)))).un.cast (by simp [vl, b32]; omega)⟩
set_option maxHeartbeats 400000 in
theorem rSame_ok (s t : Bool) (a : Option Addr) (n c : Nat) (xs : List Int) (b : Option Addr) (m d : Nat) (ys : List Int) (S1 S2 : Nat → Prop) (w : World) (h1 : RN .u32 S1 w a n c xs) (h2 : RN .u32 S2 w b m d ys) :
    Calls Tryz.prog 105 #[.agg #[.bool s, .slice a n c], .agg #[.bool t, .slice b m d]] w (fun e w' => ∃ q, e = .returned (.bool q) ∧ Ext w w' ∧ (q = true ↔ s = t ∧ xs = ys)) := by
 have z0 := Ext.refl w; have hLX : LX = 17592186044416 := rfl; have hLY : LY = 8796093022208 := rfl;have l1 := h1.len; have l2 := h2.len; have l3 := h1.cap; have l4 := h1.max
 cases s <;> cases t
 ·skip;refine enter (args := [.agg #[.bool false, .slice a n c], .agg #[.bool false, .slice b m d]]) Tryz.func105 rfl rfl (Nat.le_of_ble_eq_true rfl) (V.seq (V.reg rfl ?_));refine vo (bxa rfl ?_);intro W1 x2 b3 nn4;have s5 := x2.sz;have z6 := x2;refine vo (bxa rfl ?_);intro W7 x8 b9 nn10;have s11 := x8.sz;have z12 := z6.trans x8;replace b3 := b3.ext x8;refine asb rfl (vnil (V.seq (V.seq (V.reg rfl ?_))));refine vv (rfa rfl fd46_0) (vv (rldb (v := .bool false) rfl sc4 b3 rfl) (vv (rfa rfl fd46_0) (vv (rldb (v := .bool false) rfl sc4 b9 rfl) (vv (rbne Tryz.underlying4 rfl rfl rfl) (mvb rfl (vg rfl (vv (rfa rfl fd46_1) (vg rfl (vv (rldb (v := .slice _ _ _) rfl sc44 b3 rfl) (vg rfl (vv (rlen sl44 rfl) (vg rfl (vv (rfa rfl fd46_1) (vg rfl (vv (rldb (v := .slice _ _ _) rfl sc44 b9 rfl) (vg rfl (vv (rlen sl44 rfl) (vg rfl (vne rfl rfl ?_ ?_)))))))))))))))))))
  ·intro cl;refine vv (rpk (v := .bool true) rfl rfl) (vnil (V.condT rfl (V.seq (V.reg rfl ?_))));refine asb rfl (vnil (V.ret ⟨[.bool false], ⟨rfl, trivial⟩, ?_⟩));exact ⟨_, rfl, z12, by simp only [Bool.false_eq_true, false_iff]; intro hh; have := congrArg List.length hh.2; omega⟩
  ·intro cl;refine vv (rpk (v := .bool false) rfl rfl) (vnil (V.condF rfl (V.skip (V.seq (V.seq (V.reg rfl ?_))))));refine asi rfl (vnil (V.block (V.loopK (ι := Nat) [(2, .pointer (some ⟨_, _, none⟩)), (3, .pointer (some ⟨_, _, none⟩))] (fun k => [(5, .int .i64 (k : Int))]) (fun k W => Ext W7 W ∧ k ≤ n ∧ xs.take k = ys.take k) (fun k => n - k) (0) ⟨rfl, rfl, trivial⟩ ⟨rfl, trivial⟩ ⟨Ext.refl _, Nat.zero_le _, rfl⟩ ?_)));intro k E14 W13 h15;obtain ⟨x16, hk, ht⟩ := h15;have s17 := x16.sz;have z18 := z12.trans x16;have z19 := x16;replace b3 := b3.ext x16;replace b9 := b9.ext x16;refine V.seq (V.seq (V.reg rfl ?_));refine mvi rfl (vv (rfa rfl fd46_1) (vv (rldb (v := .slice _ _ _) rfl sc44 b3 rfl) (vv (rlen sl44 rfl) (vlt rfl rfl ?_ ?_))))
   ·intro c20;refine vnil (V.condT rfl (V.skip (V.seq (V.block (V.seq (V.regD mixed rfl ?_))))));intro W21 x22;have s23 := x22.sz;have z24 := z18.trans x22;have z25 := z19.trans x22;replace b3 := b3.ext x22;replace b9 := b9.ext x22;have q26 := Ext.refl W21;have r27 := b3;have r28 := b9;refine tk 0 rfl (by kernel_rfl) q26 (pv (fun _ y29 => rfa rfl fd46_1)) ?_;refine tk 1 rfl (by kernel_rfl) q26 (pv (fun _ y30 => rldb (v := .slice _ _ _) rfl sc44 (r27.ext y30) rfl)) ?_;refine tk 2 rfl (by kernel_rfl) q26 (pv (fun _ y31 => rmv (v := .int _ _) rfl)) ?_;refine tk 3 rfl (by kernel_rfl) q26 (pv (fun _ y32 => rixn ((h1.ext z24).ext y32) sl44 sz164 rfl rfl (by omega) (by omega))) ?_;refine tk 4 rfl (by kernel_rfl) q26 (pv (fun _ y33 => rldN ((h1.ext z24).ext y33) rfl sc164 (by omega) (by omega))) ?_;refine tk 5 rfl (by kernel_rfl) q26 (pv (fun _ y34 => rfa rfl fd46_1)) ?_;refine tk 6 rfl (by kernel_rfl) q26 (pv (fun _ y35 => rldb (v := .slice _ _ _) rfl sc44 (r28.ext y35) rfl)) ?_;refine tk 7 rfl (by kernel_rfl) q26 (pv (fun _ y36 => rmv (v := .int _ _) rfl)) ?_;refine tk 8 rfl (by kernel_rfl) q26 (pv (fun _ y37 => rixn ((h2.ext z24).ext y37) sl44 sz164 rfl rfl (by omega) (by omega))) ?_;refine tk 9 rfl (by kernel_rfl) q26 (pv (fun _ y38 => rldN ((h2.ext z24).ext y38) rfl sc164 (by omega) (by omega))) ?_;refine tk 10 rfl (by kernel_rfl) q26 (pv (fun _ y39 => rcmp (cNe rfl) rfl rfl rfl)) ?_;refine dn (by kernel_rfl) ?_;refine V.condB rfl ?_ ?_
    ·intro cc;refine V.seq (V.reg rfl ?_);refine asb rfl (vnil (V.ret ⟨[.bool false], ⟨rfl, trivial⟩, ?_⟩));refine ⟨_, rfl, z24, ?_⟩;simp only [Bool.false_eq_true, false_iff];intro hh; rw [hh.2] at cc; simp at cc
    ·intro cc;refine V.skip (V.reg rfl (mvi rfl (vv (rbin (bAdd (wi (by omega))) rfl rfl) ?_)));refine asi rfl (vnil ⟨rfl, k + 1, ⟨rfl, rfl, trivial⟩, ⟨rfl, trivial⟩, ⟨z25, by omega, by rw [take_succ_wd xs k (by omega), take_succ_wd ys k (by omega), ht, (show wd xs k = wd ys k by simpa using cc)]⟩, ?_⟩)
     show n - (k + 1) < n - k
     omega
   ·intro c20;refine vnil (V.condF rfl (V.exit (V.seq (V.reg rfl ?_))));refine asb rfl (vnil (V.ret ⟨[.bool true], ⟨rfl, trivial⟩, ?_⟩));refine ⟨_, rfl, z18, ?_⟩;rw [List.take_of_length_le (by omega), List.take_of_length_le (by omega)] at ht
    simp [ht]
 ·skip;refine enter (args := [.agg #[.bool false, .slice a n c], .agg #[.bool true, .slice b m d]]) Tryz.func105 rfl rfl (Nat.le_of_ble_eq_true rfl) (V.seq (V.reg rfl ?_));refine vo (bxa rfl ?_);intro W40 x41 b42 nn43;have s44 := x41.sz;have z45 := x41;refine vo (bxa rfl ?_);intro W46 x47 b48 nn49;have s50 := x47.sz;have z51 := z45.trans x47;replace b42 := b42.ext x47;refine asb rfl (vnil (V.seq (V.seq (V.reg rfl ?_))));refine vv (rfa rfl fd46_0) (vv (rldb (v := .bool false) rfl sc4 b42 rfl) (vv (rfa rfl fd46_0) (vv (rldb (v := .bool true) rfl sc4 b48 rfl) (vv (rbne Tryz.underlying4 rfl rfl rfl) (mvb rfl (vgn (b := true) rfl rfl (vgn (b := true) rfl rfl (vgn (b := true) rfl rfl (vgn (b := true) rfl rfl (vgn (b := true) rfl rfl (vgn (b := true) rfl rfl (vgn (b := true) rfl rfl (vv (rpk (v := .bool true) rfl rfl) (vnil (V.condT rfl (V.seq (V.reg rfl ?_)))))))))))))))));refine asb rfl (vnil (V.ret ⟨[.bool false], ⟨rfl, trivial⟩, ?_⟩));exact ⟨_, rfl, z51, by simp⟩
 ·skip;refine enter (args := [.agg #[.bool true, .slice a n c], .agg #[.bool false, .slice b m d]]) Tryz.func105 rfl rfl (Nat.le_of_ble_eq_true rfl) (V.seq (V.reg rfl ?_));refine vo (bxa rfl ?_);intro W52 x53 b54 nn55;have s56 := x53.sz;have z57 := x53;refine vo (bxa rfl ?_);intro W58 x59 b60 nn61;have s62 := x59.sz;have z63 := z57.trans x59;replace b54 := b54.ext x59;refine asb rfl (vnil (V.seq (V.seq (V.reg rfl ?_))));refine vv (rfa rfl fd46_0) (vv (rldb (v := .bool true) rfl sc4 b54 rfl) (vv (rfa rfl fd46_0) (vv (rldb (v := .bool false) rfl sc4 b60 rfl) (vv (rbne Tryz.underlying4 rfl rfl rfl) (mvb rfl (vgn (b := true) rfl rfl (vgn (b := true) rfl rfl (vgn (b := true) rfl rfl (vgn (b := true) rfl rfl (vgn (b := true) rfl rfl (vgn (b := true) rfl rfl (vgn (b := true) rfl rfl (vv (rpk (v := .bool true) rfl rfl) (vnil (V.condT rfl (V.seq (V.reg rfl ?_)))))))))))))))));refine asb rfl (vnil (V.ret ⟨[.bool false], ⟨rfl, trivial⟩, ?_⟩));exact ⟨_, rfl, z63, by simp⟩
 ·skip;refine enter (args := [.agg #[.bool true, .slice a n c], .agg #[.bool true, .slice b m d]]) Tryz.func105 rfl rfl (Nat.le_of_ble_eq_true rfl) (V.seq (V.reg rfl ?_));refine vo (bxa rfl ?_);intro W64 x65 b66 nn67;have s68 := x65.sz;have z69 := x65;refine vo (bxa rfl ?_);intro W70 x71 b72 nn73;have s74 := x71.sz;have z75 := z69.trans x71;replace b66 := b66.ext x71;refine asb rfl (vnil (V.seq (V.seq (V.reg rfl ?_))));refine vv (rfa rfl fd46_0) (vv (rldb (v := .bool true) rfl sc4 b66 rfl) (vv (rfa rfl fd46_0) (vv (rldb (v := .bool true) rfl sc4 b72 rfl) (vv (rbne Tryz.underlying4 rfl rfl rfl) (mvb rfl (vg rfl (vv (rfa rfl fd46_1) (vg rfl (vv (rldb (v := .slice _ _ _) rfl sc44 b66 rfl) (vg rfl (vv (rlen sl44 rfl) (vg rfl (vv (rfa rfl fd46_1) (vg rfl (vv (rldb (v := .slice _ _ _) rfl sc44 b72 rfl) (vg rfl (vv (rlen sl44 rfl) (vg rfl (vne rfl rfl ?_ ?_)))))))))))))))))))
  ·intro cl;refine vv (rpk (v := .bool true) rfl rfl) (vnil (V.condT rfl (V.seq (V.reg rfl ?_))));refine asb rfl (vnil (V.ret ⟨[.bool false], ⟨rfl, trivial⟩, ?_⟩));exact ⟨_, rfl, z75, by simp only [Bool.false_eq_true, false_iff]; intro hh; have := congrArg List.length hh.2; omega⟩
  ·intro cl;refine vv (rpk (v := .bool false) rfl rfl) (vnil (V.condF rfl (V.skip (V.seq (V.seq (V.reg rfl ?_))))));refine asi rfl (vnil (V.block (V.loopK (ι := Nat) [(2, .pointer (some ⟨_, _, none⟩)), (3, .pointer (some ⟨_, _, none⟩))] (fun k => [(5, .int .i64 (k : Int))]) (fun k W => Ext W70 W ∧ k ≤ n ∧ xs.take k = ys.take k) (fun k => n - k) (0) ⟨rfl, rfl, trivial⟩ ⟨rfl, trivial⟩ ⟨Ext.refl _, Nat.zero_le _, rfl⟩ ?_)));intro k E77 W76 h78;obtain ⟨x79, hk, ht⟩ := h78;have s80 := x79.sz;have z81 := z75.trans x79;have z82 := x79;replace b66 := b66.ext x79;replace b72 := b72.ext x79;refine V.seq (V.seq (V.reg rfl ?_));refine mvi rfl (vv (rfa rfl fd46_1) (vv (rldb (v := .slice _ _ _) rfl sc44 b66 rfl) (vv (rlen sl44 rfl) (vlt rfl rfl ?_ ?_))))
   ·intro c83;refine vnil (V.condT rfl (V.skip (V.seq (V.block (V.seq (V.regD mixed rfl ?_))))));intro W84 x85;have s86 := x85.sz;have z87 := z81.trans x85;have z88 := z82.trans x85;replace b66 := b66.ext x85;replace b72 := b72.ext x85;have q89 := Ext.refl W84;have r90 := b66;have r91 := b72;refine tk 0 rfl (by kernel_rfl) q89 (pv (fun _ y92 => rfa rfl fd46_1)) ?_;refine tk 1 rfl (by kernel_rfl) q89 (pv (fun _ y93 => rldb (v := .slice _ _ _) rfl sc44 (r90.ext y93) rfl)) ?_;refine tk 2 rfl (by kernel_rfl) q89 (pv (fun _ y94 => rmv (v := .int _ _) rfl)) ?_;refine tk 3 rfl (by kernel_rfl) q89 (pv (fun _ y95 => rixn ((h1.ext z87).ext y95) sl44 sz164 rfl rfl (by omega) (by omega))) ?_;refine tk 4 rfl (by kernel_rfl) q89 (pv (fun _ y96 => rldN ((h1.ext z87).ext y96) rfl sc164 (by omega) (by omega))) ?_;refine tk 5 rfl (by kernel_rfl) q89 (pv (fun _ y97 => rfa rfl fd46_1)) ?_;refine tk 6 rfl (by kernel_rfl) q89 (pv (fun _ y98 => rldb (v := .slice _ _ _) rfl sc44 (r91.ext y98) rfl)) ?_;refine tk 7 rfl (by kernel_rfl) q89 (pv (fun _ y99 => rmv (v := .int _ _) rfl)) ?_;refine tk 8 rfl (by kernel_rfl) q89 (pv (fun _ y100 => rixn ((h2.ext z87).ext y100) sl44 sz164 rfl rfl (by omega) (by omega))) ?_;refine tk 9 rfl (by kernel_rfl) q89 (pv (fun _ y101 => rldN ((h2.ext z87).ext y101) rfl sc164 (by omega) (by omega))) ?_;refine tk 10 rfl (by kernel_rfl) q89 (pv (fun _ y102 => rcmp (cNe rfl) rfl rfl rfl)) ?_;refine dn (by kernel_rfl) ?_;refine V.condB rfl ?_ ?_
    ·intro cc;refine V.seq (V.reg rfl ?_);refine asb rfl (vnil (V.ret ⟨[.bool false], ⟨rfl, trivial⟩, ?_⟩));refine ⟨_, rfl, z87, ?_⟩;simp only [Bool.false_eq_true, false_iff];intro hh; rw [hh.2] at cc; simp at cc
    ·intro cc;refine V.skip (V.reg rfl (mvi rfl (vv (rbin (bAdd (wi (by omega))) rfl rfl) ?_)));refine asi rfl (vnil ⟨rfl, k + 1, ⟨rfl, rfl, trivial⟩, ⟨rfl, trivial⟩, ⟨z88, by omega, by rw [take_succ_wd xs k (by omega), take_succ_wd ys k (by omega), ht, (show wd xs k = wd ys k by simpa using cc)]⟩, ?_⟩)
     show n - (k + 1) < n - k
     omega
   ·intro c83;refine vnil (V.condF rfl (V.exit (V.seq (V.reg rfl ?_))));refine asb rfl (vnil (V.ret ⟨[.bool true], ⟨rfl, trivial⟩, ?_⟩));refine ⟨_, rfl, z81, ?_⟩;rw [List.take_of_length_le (by omega), List.take_of_length_le (by omega)] at ht
    simp [ht]

set_option maxHeartbeats 400000 in
theorem rInt_ok (n : Int) (S : Nat → Prop) (w : World) (hn : -9223372036854775808 ≤ n ∧ n ≤ 9223372036854775807) (hu : Up S w) :
    Calls Tryz.prog 116 #[.int .i64 n] w (PQ S (n : Rat) w) := by
 have z0 := Ext.refl w; have hLX : LX = 17592186044416 := rfl; have hLY : LY = 8796093022208 := rfl;have hu2 : ∀ W : World, w.heap.size + 1 ≤ W.heap.size → Up (SX S [w.heap.size]) W := fun W hW => SX.up (hu.mono (by omega)) (by simp <;> omega)
 refine enter (args := [.int .i64 n]) Tryz.func116 rfl rfl (Nat.le_of_ble_eq_true rfl) (V.seq (V.reg rfl ?_));refine vo (xal zc48 ?_);intro W1 x2 b3 nn4;have s5 := x2.sz;have z6 := x2;refine vnil (V.seq (V.reg rfl ?_));refine mvi rfl (vo (xcall e165 (rFrom_ok _ _ _ (by omega) (hu2 _ (by omega))) rfl rfl ?_));rintro _ W8 ⟨_, _, _, _, rfl, x9, hz7⟩;have s10 := x9.sz;have z11 := z6.trans x9;replace b3 := b3.ext x9;refine ⟨_, rfl, ?_⟩;refine vv (rbd (ps := [(0, .agg #[_, _])]) (cs := [.bool _, .slice _ _ _, .bool false, .slice _ _ _]) pl48 rfl rfl) (vo (sta (cs' := [_, _, _, _]) b3 rfl rfl sz48 rfl rfl rfl ?_));intro W12 y13 b3;have z14 := z11.below (y13.below (by omega));have s15 := y13.size;refine vnil (V.ret ⟨[_], ⟨⟨_, rfl, lvb ag48 b3 rfl⟩, trivial⟩, ?_⟩);exact ⟨_, rfl, z14, QC.mk1 (r := (n : Rat)) ((hz7.ck (y13.ck (by intro hh; first | (simp [SX] at hh <;> omega) | omega)))).un rfl⟩
set_option maxHeartbeats 400000 in
theorem qIs_ok (q1 q2 : List Value) (ρ σ : RawQ) (S1 S2 : Nat → Prop) (w : World) (h1 : QX S1 w q1 ρ) (h2 : QX S2 w q2 σ) :
    Calls Tryz.prog 37 #[.agg q1.toArray, .agg q2.toArray] w (fun e w' => ∃ q, e = .returned (.bool q) ∧ Ext w w' ∧ (q = true ↔ ρ = σ)) := by
 have z0 := Ext.refl w; have hLX : LX = 17592186044416 := rfl; have hLY : LY = 8796093022208 := rfl;obtain ⟨n1, ρx, n2, ρy⟩ := ρ; obtain ⟨a1, a1l, a1c, b1, b1l, b1c, rfl, gx1, gy1⟩ := h1; simp only at gx1 gy1;obtain ⟨n3, σx, n4, σy⟩ := σ; obtain ⟨a2, a2l, a2c, b2, b2l, b2c, rfl, gx2, gy2⟩ := h2; simp only at gx2 gy2;refine enter (args := [.agg #[.bool n1, .slice a1 a1l a1c, .bool n2, .slice b1 b1l b1c], .agg #[.bool n3, .slice a2 a2l a2c, .bool n4, .slice b2 b2l b2c]]) Tryz.func37 rfl rfl (Nat.le_of_ble_eq_true rfl) (V.seq (V.reg rfl ?_));refine vo (bxa rfl ?_);intro W1 x2 b3 nn4;have s5 := x2.sz;have z6 := x2;refine vo (bxa rfl ?_);intro W7 x8 b9 nn10;have s11 := x8.sz;have z12 := z6.trans x8;replace b3 := b3.ext x8;refine asb rfl (vnil (V.seq (V.reg rfl ?_)));refine vv (rfa rfl fd48_0) (vv (rldb2 rfl ag46 b3 rfl rfl ) (vv (rfa rfl fd48_0) (vv (rldb2 rfl ag46 b9 rfl rfl ) (vo (xcall e105 (rSame_ok _ _ _ _ _ _ _ _ _ _ _ _ _ (gx1.ext z12) (gx2.ext z12)) rfl rfl ?_)))));rintro _ Wb1 ⟨bb1, rfl, xb1, hb1⟩;refine ⟨_, rfl, ?_⟩
 cases bb1
 ·skip;have s13 := xb1.sz;have z14 := z12.trans xb1;refine mvb rfl (vgn (b := false) rfl rfl (vgn (b := false) rfl rfl (vgn (b := false) rfl rfl (vgn (b := false) rfl rfl (vgn (b := false) rfl rfl (vv (rpk (v := .bool false) rfl rfl) (asb rfl (vnil (V.ret ⟨[.bool false], ⟨rfl, trivial⟩, ?_⟩)))))))));refine ⟨_, rfl, z14, ?_⟩;rw [RawQ.mk.injEq];exact ⟨fun h => (by cases h), fun h => hb1.2 ⟨h.1, h.2.1⟩⟩
 ·skip;have s15 := xb1.sz;have z16 := z12.trans xb1;replace b3 := b3.ext xb1;replace b9 := b9.ext xb1;refine mvb rfl (vg rfl (vv (rfa rfl fd48_1) (vg rfl (vv (rldb2 rfl ag46 b3 rfl rfl ) (vg rfl (vv (rfa rfl fd48_1) (vg rfl (vv (rldb2 rfl ag46 b9 rfl rfl ) (vg rfl (vo (xcall e105 (rSame_ok _ _ _ _ _ _ _ _ _ _ _ _ _ (gy1.ext z16) (gy2.ext z16)) rfl rfl ?_)))))))))));rintro _ Wb2 ⟨bb2, rfl, xb2, hb2⟩;refine ⟨_, rfl, ?_⟩
  cases bb2
  ·skip;have s17 := xb2.sz;have z18 := z16.trans xb2;refine vv (rpk (v := .bool false) rfl rfl) (asb rfl (vnil (V.ret ⟨[.bool false], ⟨rfl, trivial⟩, ?_⟩)));refine ⟨_, rfl, z18, ?_⟩;rw [RawQ.mk.injEq];exact ⟨fun h => (by cases h), fun h => hb2.2 ⟨h.2.2.1, h.2.2.2⟩⟩
  ·skip;have s19 := xb2.sz;have z20 := z16.trans xb2;refine vv (rpk (v := .bool true) rfl rfl) (asb rfl (vnil (V.ret ⟨[.bool true], ⟨rfl, trivial⟩, ?_⟩)));refine ⟨_, rfl, z20, ?_⟩;rw [RawQ.mk.injEq];exact ⟨fun _ => ⟨(hb1.1 rfl).1, (hb1.1 rfl).2, (hb2.1 rfl).1, (hb2.1 rfl).2⟩, fun _ => rfl⟩
set_option maxHeartbeats 400000 in
theorem vIs_ok (a1 a2 : Option Addr) (n c m d : Nat) (ρs σs : List RawQ) (S1 S2 : Nat → Prop) (w : World) (hx : GX S1 w a1 n c ρs) (hy : GX S2 w a2 m d σs) :
    Calls Tryz.prog 56 #[.slice a1 n c, .slice a2 m d] w (fun e w' => ∃ q, e = .returned (.bool q) ∧ Ext w w' ∧ (q = true ↔ ρs = σs)) := by
 have z0 := Ext.refl w; have hLX : LX = 17592186044416 := rfl; have hLY : LY = 8796093022208 := rfl;have l1 := hx.len; have l2 := hy.len; have l3 := hx.max; have l4 := hy.max;refine enter (args := [.slice a1 n c, .slice a2 m d]) Tryz.func56 rfl rfl (Nat.le_of_ble_eq_true rfl) (V.seq (V.reg rfl ?_));refine asb rfl (vnil (V.seq (V.seq (V.reg rfl ?_))));refine mvs rfl (vv (rlen sl23 rfl) (mvs rfl (vv (rlen sl23 rfl) (vne rfl rfl ?_ ?_))))
 ·intro c1;refine vnil (V.condT rfl (V.seq (V.reg rfl ?_)));refine asb rfl (vnil (V.ret ⟨[.bool false], ⟨rfl, trivial⟩, ?_⟩));exact ⟨_, rfl, (Ext.refl w), ⟨fun h => (by cases h), fun h => by have := congrArg List.length h; omega⟩⟩
 ·intro c1;refine vnil (V.condF rfl (V.skip (V.seq (V.seq (V.reg rfl ?_)))));refine asi rfl (vnil (V.block (V.loopK (ι := Nat) [(0, .slice _ _ _), (1, .slice _ _ _)] (fun k => [(5, .int .i64 (k : Int))]) (fun k W => Ext w W ∧ k ≤ n ∧ ρs.take k = σs.take k) (fun k => n - k) (0) ⟨rfl, rfl, trivial⟩ ⟨rfl, trivial⟩ ⟨Ext.refl _, Nat.zero_le _, rfl⟩ ?_)));intro k E3 W2 h4;obtain ⟨x5, hk, ht⟩ := h4;have s6 := x5.sz;have z7 := x5;refine V.seq (V.seq (V.reg rfl ?_));refine mvi rfl (mvs rfl (vv (rlen sl23 rfl) (vlt rfl rfl ?_ ?_)))
  ·intro c8;obtain ⟨en0, ea0, el0, ec0, em0, eb0, ek0, ed0, hq0, hc0⟩ := (hx.ext z7).el (i := (k : Int)) (by omega) (by omega);have ce0 : CE W2 _ _ := hc0;obtain ⟨en1, ea1, el1, ec1, em1, eb1, ek1, ed1, hq1, hc1⟩ := (hy.ext z7).el (i := (k : Int)) (by omega) (by omega);have ce1 : CE W2 _ _ := hc1;refine vnil (V.condT rfl (V.skip (V.seq (V.block (V.seq (V.regD mixed rfl ?_))))));intro W9 x10;have s11 := x10.sz;have z12 := z7.trans x10;have q13 := Ext.refl W9;refine tk 0 rfl (by kernel_rfl) q13 (pv (fun _ y14 => rmv (v := .slice _ _ _) rfl)) ?_;refine tk 1 rfl (by kernel_rfl) q13 (pv (fun _ y15 => rmv (v := .int _ _) rfl)) ?_;refine tk 2 rfl (by kernel_rfl) q13 (pv (fun _ y16 => rix sl23 sz48 rfl rfl (by omega) (by omega) (((hx.ext z12).ext y16).isS (i := 0) (by omega) (by omega)))) ?_;refine tk 3 rfl (by kernel_rfl) q13 (pv (fun _ y17 => rldn (l := [.bool _, .slice _ _ _, .bool _, .slice _ _ _]) rfl ag48 rfl ((ce0.ext x10).ext y17))) ?_;refine tk 4 rfl (by kernel_rfl) q13 (pv (fun _ y18 => rmv (v := .slice _ _ _) rfl)) ?_;refine tk 5 rfl (by kernel_rfl) q13 (pv (fun _ y19 => rmv (v := .int _ _) rfl)) ?_;refine tk 6 rfl (by kernel_rfl) q13 (pv (fun _ y20 => rix sl23 sz48 rfl rfl (by omega) (by omega) (((hy.ext z12).ext y20).isS (i := 0) (by omega) (by omega)))) ?_;refine tk 7 rfl (by kernel_rfl) q13 (pv (fun _ y21 => rldn (l := [.bool _, .slice _ _ _, .bool _, .slice _ _ _]) rfl ag48 rfl ((ce1.ext x10).ext y21))) ?_;refine ef 8 (by kernel_rfl) rfl ?_;refine xcall e37 (qIs_ok [_, _, _, _] [_, _, _, _] _ _ _ _ _ (hq0.ext x10) (hq1.ext x10)) rfl rfl ?_;rintro _ Wb1 ⟨bb1, rfl, xb1, hb1⟩;refine ⟨_, rfl, ?_⟩
   cases bb1
   ·skip;have s22 := xb1.sz;have z23 := z12.trans xb1;have q24 := q13.trans xb1;refine ⟨fun _ => q24, ?_⟩;refine tk 9 rfl (by kernel_rfl) q24 (pv (fun _ y25 => rnot (q := true) rfl rfl)) ?_;refine dn (by kernel_rfl) ?_;refine V.condT rfl (V.seq (V.reg rfl ?_));refine asb rfl (vnil (V.ret ⟨[.bool false], ⟨rfl, trivial⟩, ?_⟩));exact ⟨_, rfl, z23, ⟨fun h => (by cases h), fun h => hb1.2 (by rw [h])⟩⟩
   ·skip;have s26 := xb1.sz;have z27 := z12.trans xb1;have q28 := q13.trans xb1;refine ⟨fun _ => q28, ?_⟩;refine tk 9 rfl (by kernel_rfl) q28 (pv (fun _ y29 => rnot (q := false) rfl rfl)) ?_;refine dn (by kernel_rfl) ?_;refine V.condF rfl (V.skip (V.reg rfl (mvi rfl (vv (rbin (bAdd (wi (by omega))) rfl rfl) ?_))));refine asi rfl (vnil ⟨rfl, k + 1, ⟨rfl, rfl, trivial⟩, ⟨rfl, trivial⟩, ⟨z27, by omega, by rw [take_getD rz ρs k (by omega), take_getD rz σs k (by omega), ht, (show ρs.getD k rz = σs.getD k rz from hb1.1 rfl)]⟩, ?_⟩)
    show n - (k + 1) < n - k
    omega
  ·intro c8;refine vnil (V.condF rfl (V.exit (V.seq (V.reg rfl ?_))));refine asb rfl (vnil (V.ret ⟨[.bool true], ⟨rfl, trivial⟩, ?_⟩));refine ⟨_, rfl, z7, ?_⟩;rw [List.take_of_length_le (by omega), List.take_of_length_le (by omega)] at ht;exact ⟨fun _ => ht, fun _ => rfl⟩
set_option maxHeartbeats 400000 in
theorem rvInts_ok (a1 : Option Addr) (n c : Nat) (xs : List Int) (S S1 : Nat → Prop) (w : World) (hx : RN .i64 S1 w a1 n c xs) (hn : n ≤ LV) (hu : Up S w) :
    Calls Tryz.prog 104 #[.slice a1 n c] w (fun e w' => ∃ ra rk rc, e = .returned (.slice ra rk rc) ∧ Ext w w' ∧ GC S w' ra rk rc (xs.map (fun z : Int => (z : Rat)))) := by
 have z0 := Ext.refl w; have hLX : LX = 17592186044416 := rfl; have hLY : LY = 8796093022208 := rfl;have hLV : LV = 1099511627776 := rfl;have l1 := hx.len; have l2 := hx.cap; have l3 := hx.max;refine enter (args := [.slice a1 n c]) Tryz.func104 rfl rfl (Nat.le_of_ble_eq_true rfl) (V.seq (V.reg rfl ?_));refine ass rfl (vnil (V.seq (V.reg rfl ?_)));refine ass rfl (vnil (V.seq (V.seq (V.reg rfl ?_))));refine asi rfl (vnil (V.block (V.loopK (ι := Nat × Value) [(0, .slice _ _ _)] (fun ⟨k, v⟩ => [(4, .int .i64 (k : Int)), (3, v)]) (fun ⟨k, v⟩ W => Ext w W ∧ k ≤ n ∧ GO 4 QC S w.heap.size W 48 v ((xs.take k).map (fun z : Int => (z : Rat)))) (fun ⟨k, v⟩ => n - k) ((0, _)) ⟨rfl, trivial⟩ ⟨rfl, rfl, trivial⟩ ⟨Ext.refl _, Nat.zero_le _, GO.nil _ _⟩ ?_)));intro i2 E3 W1 h4;obtain ⟨k, v⟩ := i2;simp only at h4
 show V _ _ _ _ _ _ (ups (ups _ _) [(4, .int .i64 (k : Int)), (3, v)]) _
 obtain ⟨x5, hk, hO⟩ := h4;have s6 := x5.sz;have z7 := x5;refine V.seq (V.seq (V.reg rfl ?_));refine mvi rfl (mvs rfl (vv (rlen sl118 rfl) (vlt rfl rfl ?_ ?_)))
 ·intro c8;refine vnil (V.condT rfl (V.skip (V.seq (V.block (V.reg rfl (vv (rmv (v := v) rfl) (mvs rfl (mvi rfl (vv (rixn (hx.ext z7) sl118 sz2 rfl rfl (by omega) (by omega)) ?_)))))))));refine vldN (hx.ext z7) rfl sc2 (by omega) (by omega) ?_;intro q9 hq9 hk10;simp only [kb] at hk10;refine vo (xcall e116 (rInt_ok _ _ _ (by omega) (GO.up hO hu (by omega))) rfl rfl ?_);rintro _ W12 ⟨_, rfl, x13, hq11⟩;have s14 := x13.sz;have z15 := z7.trans x13;replace hO := hO.ext okQC x13;obtain ⟨_, _, _, _, _, _, _, _, rfl⟩ := hq11.form;refine ⟨_, rfl, ?_⟩;refine vo (xbs (zs := [.bool false, .slice _ _ _, .bool false, .slice _ _ _]) (ps := [(0, .agg #[_, _, _, _])]) (cs := [.bool _, .slice _ _ _, .bool _, .slice _ _ _]) sl23 zr48 sz48 rfl rfl rfl rfl rfl rfl ?_);intro W16 x17 b18 nn19;have s20 := x17.sz;have z21 := z15.trans x17;replace hO := hO.ext okQC x17;refine vo (xappG okQC sl23 in48 rfl rfl hO rfl rfl b18 rfl rfl ((hq11.ext x17)) (by simp; omega) (by decide) (by omega) ?_);intro v22 W23 hO24 hg25;have y26 := hg25.below; have s27 := y26.size;have z28 := z21.below (y26.mono (by omega));refine vv (ras (v := v22) rfl) (vnil (V.reg rfl (mvi rfl (vv (rbin (bAdd (wi (by omega))) rfl rfl) ?_))));refine asi rfl (vnil ⟨rfl, (k + 1, _), ⟨rfl, trivial⟩, ⟨rfl, rfl, trivial⟩, ⟨z28, by omega, by rw [fromN_succ xs k (by omega), ← hq9]; exact hO24⟩, ?_⟩)
  show n - (k + 1) < n - k
  omega
 ·intro c8;refine vnil (V.condF rfl (V.exit (V.seq (V.reg rfl ?_))));refine vv (rmv (v := v) rfl) (vv (ras (v := v) rfl) (vnil (V.ret ⟨[v], ⟨rfl, trivial⟩, ?_⟩)));obtain ⟨a', c', rfl⟩ := hO.form;have hf := hO.fin okQC (fun b hb _ => hu b (by omega));refine ⟨_, _, _, rfl, z7, ?_⟩;rw [List.take_of_length_le (by omega)] at hf ⊢;exact hf
set_option maxHeartbeats 400000 in
theorem mIs_ok (a1 a2 : Option Addr) (n c m d : Nat) (ρs σs : List (List RawQ)) (S1 S2 : Nat → Prop) (w : World) (hx : MX S1 w a1 n c ρs) (hy : MX S2 w a2 m d σs) :
    Calls Tryz.prog 42 #[.slice a1 n c, .slice a2 m d] w (fun e w' => ∃ q, e = .returned (.bool q) ∧ Ext w w' ∧ (q = true ↔ ρs = σs)) := by
 have z0 := Ext.refl w; have hLX : LX = 17592186044416 := rfl; have hLY : LY = 8796093022208 := rfl;have l1 := hx.len; have l2 := hy.len; have l3 := hx.max; have l4 := hy.max;refine enter (args := [.slice a1 n c, .slice a2 m d]) Tryz.func42 rfl rfl (Nat.le_of_ble_eq_true rfl) (V.seq (V.reg rfl ?_));refine asb rfl (vnil (V.seq (V.seq (V.reg rfl ?_))));refine mvs rfl (vv (rlen sl22 rfl) (mvs rfl (vv (rlen sl22 rfl) (vne rfl rfl ?_ ?_))))
 ·intro c1;refine vnil (V.condT rfl (V.seq (V.reg rfl ?_)));refine asb rfl (vnil (V.ret ⟨[.bool false], ⟨rfl, trivial⟩, ?_⟩));exact ⟨_, rfl, (Ext.refl w), ⟨fun h => (by cases h), fun h => by have := congrArg List.length h; omega⟩⟩
 ·intro c1;refine vnil (V.condF rfl (V.skip (V.seq (V.seq (V.reg rfl ?_)))));refine asi rfl (vnil (V.block (V.loopK (ι := Nat) [(0, .slice _ _ _), (1, .slice _ _ _)] (fun k => [(5, .int .i64 (k : Int))]) (fun k W => Ext w W ∧ k ≤ n ∧ ρs.take k = σs.take k) (fun k => n - k) (0) ⟨rfl, rfl, trivial⟩ ⟨rfl, trivial⟩ ⟨Ext.refl _, Nat.zero_le _, rfl⟩ ?_)));intro k E3 W2 h4;obtain ⟨x5, hk, ht⟩ := h4;have s6 := x5.sz;have z7 := x5;refine V.seq (V.seq (V.reg rfl ?_));refine mvi rfl (mvs rfl (vv (rlen sl22 rfl) (vlt rfl rfl ?_ ?_)))
  ·intro c8;obtain ⟨ra0, rk0, rc0, hc0, hg0⟩ := (hx.ext z7).el (i := (k : Int)) (by omega) (by omega);have ce0 : C1 W2 _ _ := hc0;obtain ⟨ra1, rk1, rc1, hc1, hg1⟩ := (hy.ext z7).el (i := (k : Int)) (by omega) (by omega);have ce1 : C1 W2 _ _ := hc1;refine vnil (V.condT rfl (V.skip (V.seq (V.block (V.seq (V.regD mixed rfl ?_))))));intro W9 x10;have s11 := x10.sz;have z12 := z7.trans x10;have q13 := Ext.refl W9;refine tk 0 rfl (by kernel_rfl) q13 (pv (fun _ y14 => rmv (v := .slice _ _ _) rfl)) ?_;refine tk 1 rfl (by kernel_rfl) q13 (pv (fun _ y15 => rmv (v := .int _ _) rfl)) ?_;refine tk 2 rfl (by kernel_rfl) q13 (pv (fun _ y16 => rix sl22 sz23 rfl rfl (by omega) (by omega) (((hx.ext z12).ext y16).isS (i := 0) (by omega) (by omega)))) ?_;refine tk 3 rfl (by kernel_rfl) q13 (pv (fun _ y17 => rld1 (v := .slice _ _ _) rfl sc23 ((ce0.ext x10).ext y17))) ?_;refine tk 4 rfl (by kernel_rfl) q13 (pv (fun _ y18 => rmv (v := .slice _ _ _) rfl)) ?_;refine tk 5 rfl (by kernel_rfl) q13 (pv (fun _ y19 => rmv (v := .int _ _) rfl)) ?_;refine tk 6 rfl (by kernel_rfl) q13 (pv (fun _ y20 => rix sl22 sz23 rfl rfl (by omega) (by omega) (((hy.ext z12).ext y20).isS (i := 0) (by omega) (by omega)))) ?_;refine tk 7 rfl (by kernel_rfl) q13 (pv (fun _ y21 => rld1 (v := .slice _ _ _) rfl sc23 ((ce1.ext x10).ext y21))) ?_;refine ef 8 (by kernel_rfl) rfl ?_;refine xcall e56 (vIs_ok _ _ _ _ _ _ _ _ _ _ _ (hg0.ext x10) (hg1.ext x10)) rfl rfl ?_;rintro _ Wb1 ⟨bb1, rfl, xb1, hb1⟩;refine ⟨_, rfl, ?_⟩
   cases bb1
   ·skip;have s22 := xb1.sz;have z23 := z12.trans xb1;have q24 := q13.trans xb1;refine ⟨fun _ => q24, ?_⟩;refine tk 9 rfl (by kernel_rfl) q24 (pv (fun _ y25 => rnot (q := true) rfl rfl)) ?_;refine dn (by kernel_rfl) ?_;refine V.condT rfl (V.seq (V.reg rfl ?_));refine asb rfl (vnil (V.ret ⟨[.bool false], ⟨rfl, trivial⟩, ?_⟩));exact ⟨_, rfl, z23, ⟨fun h => (by cases h), fun h => hb1.2 (by rw [h])⟩⟩
   ·skip;have s26 := xb1.sz;have z27 := z12.trans xb1;have q28 := q13.trans xb1;refine ⟨fun _ => q28, ?_⟩;refine tk 9 rfl (by kernel_rfl) q28 (pv (fun _ y29 => rnot (q := false) rfl rfl)) ?_;refine dn (by kernel_rfl) ?_;refine V.condF rfl (V.skip (V.reg rfl (mvi rfl (vv (rbin (bAdd (wi (by omega))) rfl rfl) ?_))));refine asi rfl (vnil ⟨rfl, k + 1, ⟨rfl, rfl, trivial⟩, ⟨rfl, trivial⟩, ⟨z27, by omega, by rw [take_getD [] ρs k (by omega), take_getD [] σs k (by omega), ht, (show ρs.getD k [] = σs.getD k [] from hb1.1 rfl)]⟩, ?_⟩)
    show n - (k + 1) < n - k
    omega
  ·intro c8;refine vnil (V.condF rfl (V.exit (V.seq (V.reg rfl ?_))));refine asb rfl (vnil (V.ret ⟨[.bool true], ⟨rfl, trivial⟩, ?_⟩));refine ⟨_, rfl, z7, ?_⟩;rw [List.take_of_length_le (by omega), List.take_of_length_le (by omega)] at ht;exact ⟨fun _ => ht, fun _ => rfl⟩
set_option maxHeartbeats 400000 in
theorem rmInts_ok (a1 : Option Addr) (n c : Nat) (zss : List (List Int)) (S S1 : Nat → Prop) (w : World) (hx : MI S1 w a1 n c zss) (hn : n ≤ LV) (hR : ∀ r ∈ zss, r.length ≤ LV) (hu : Up S w) :
    Calls Tryz.prog 103 #[.slice a1 n c] w (fun e w' => ∃ ra rk rc, e = .returned (.slice ra rk rc) ∧ Ext w w' ∧ MC S w' ra rk rc (zss.map fun r => r.map fun z : Int => (z : Rat))) := by
 have z0 := Ext.refl w; have hLX : LX = 17592186044416 := rfl; have hLY : LY = 8796093022208 := rfl;have hLV : LV = 1099511627776 := rfl;have l1 := hx.len; have l2 := hx.max;refine enter (args := [.slice a1 n c]) Tryz.func103 rfl rfl (Nat.le_of_ble_eq_true rfl) (V.seq (V.reg rfl ?_));refine ass rfl (vnil (V.seq (V.reg rfl ?_)));refine ass rfl (vnil (V.seq (V.seq (V.reg rfl ?_))));refine asi rfl (vnil (V.block (V.loopK (ι := Nat × Value) [(0, .slice _ _ _)] (fun ⟨k, v⟩ => [(4, .int .i64 (k : Int)), (3, v)]) (fun ⟨k, v⟩ W => Ext w W ∧ k ≤ n ∧ GO 1 (RowOf GC) S w.heap.size W 23 v ((zss.take k).map fun r => r.map fun z : Int => (z : Rat))) (fun ⟨k, v⟩ => n - k) ((0, _)) ⟨rfl, trivial⟩ ⟨rfl, rfl, trivial⟩ ⟨Ext.refl _, Nat.zero_le _, GO.nil _ _⟩ ?_)));intro i2 E3 W1 h4;obtain ⟨k, v⟩ := i2;simp only at h4
 show V _ _ _ _ _ _ (ups (ups _ _) [(4, .int .i64 (k : Int)), (3, v)]) _
 obtain ⟨x5, hk, hO⟩ := h4;have s6 := x5.sz;have z7 := x5;refine V.seq (V.seq (V.reg rfl ?_));refine mvi rfl (mvs rfl (vv (rlen sl119 rfl) (vlt rfl rfl ?_ ?_)))
 ·intro c8;have hrw : (rowat zss ((k : Int)).toNat).length ≤ LV := row_leG hR _;refine vnil (V.condT rfl (V.skip (V.seq (V.block (V.reg rfl (vv (rmv (v := v) rfl) (mvs rfl (mvi rfl (vv (rix sl119 sz118 rfl rfl (by omega) (by omega) ((hx.ext z7).isS (i := 0) (by omega) (by omega))) ?_)))))))));refine vldRow (hx.ext z7) rfl sc118 (by omega) (by omega) ?_;intro a9 n10 c11 hg12;have hg12l := hg12.len; have hg12m := hg12.max;refine vo (xcall e104 (rvInts_ok _ _ _ _ _ _ _ hg12 (by omega) (GO.up hO hu (by omega))) rfl rfl ?_);rintro _ W14 ⟨_, _, _, rfl, x15, hv13⟩;have s16 := x15.sz;have z17 := z7.trans x15;replace hO := hO.ext okRowC x15;have hv13l := hv13.len;refine ⟨_, rfl, ?_⟩;refine vo (xbs (ps := [(0, .slice _ _ _)]) (cs := [.slice _ _ _]) sl22 zr23 sz23 rfl rfl rfl rfl rfl rfl ?_);intro W18 x19 b20 nn21;have s22 := x19.sz;have z23 := z17.trans x19;replace hO := hO.ext okRowC x19;refine vo (xappG okRowC sl22 in23 rfl rfl hO rfl rfl b20 rfl rfl ((⟨_, _, _, rfl, (hv13.ext x19)⟩ : RowOf GC _ _ _ _)) (by simp; omega) (by decide) (by omega) ?_);intro v24 W25 hO26 hg27;have y28 := hg27.below; have s29 := y28.size;have z30 := z23.below (y28.mono (by omega));refine vv (ras (v := v24) rfl) (vnil (V.reg rfl (mvi rfl (vv (rbin (bAdd (wi (by omega))) rfl rfl) ?_))));refine asi rfl (vnil ⟨rfl, (k + 1, _), ⟨rfl, trivial⟩, ⟨rfl, rfl, trivial⟩, ⟨z30, by omega, by rw [take_rowG _ zss k (by omega)]; exact hO26⟩, ?_⟩)
  show n - (k + 1) < n - k
  omega
 ·intro c8;refine vnil (V.condF rfl (V.exit (V.seq (V.reg rfl ?_))));refine vv (rmv (v := v) rfl) (vv (ras (v := v) rfl) (vnil (V.ret ⟨[v], ⟨rfl, trivial⟩, ?_⟩)));obtain ⟨a', c', rfl⟩ := hO.form;have hf := hO.fin okRowC (fun b hb _ => hu b (by omega));refine ⟨_, _, _, rfl, z7, ?_⟩;rw [List.take_of_length_le (by omega)] at hf ⊢;exact hf
section
variable {S S1 S2 : Nat → Prop} {W : World} {a a1 a2 : Option Addr} {n c m d L : Nat} {rs ss : List Rat} {rss mss : List (List Rat)}
theorem GC.gx (h : GC S W a n c rs) : GX S W a n c (rs.map canon) := by
  obtain ⟨qs, h1, h2⟩ := h;refine ⟨qs, h1, ?_⟩
  clear h1
  induction qs generalizing rs with
  | nil => cases rs <;> simp_all [All2]
  | cons q qs ih => cases rs with
    | nil => exact h2.elim
    | cons r rs => exact ⟨h2.1, ih h2.2⟩
theorem MC.mx (h : MC S W a n c rss) : MX S W a n c (rss.map (·.map canon)) := by
  obtain ⟨qs, h1, h2⟩ := h;refine ⟨qs, h1, ?_⟩
  clear h1
  induction qs generalizing rss with
  | nil => cases rss <;> simp_all [All2]
  | cons q qs ih => cases rss with
    | nil => exact h2.elim
    | cons r rs => obtain ⟨a, n, c, e, h3⟩ := h2.1; exact ⟨⟨a, n, c, e, h3.gx⟩, ih h2.2⟩
theorem MC.ma (h : MC S W a n c rss) (hs : ∀ r ∈ rss, szV L r) : MA L S W a n c rss := by
  obtain ⟨qs, h1, h2⟩ := h;refine ⟨qs, h1, ?_⟩
  clear h1
  induction qs generalizing rss with
  | nil => cases rss <;> simp_all [All2]
  | cons q qs ih => cases rss with
    | nil => exact h2.elim
    | cons r rs => obtain ⟨a, n, c, e, h3⟩ := h2.1; exact ⟨⟨a, n, c, e, h3.va (hs r (by simp))⟩, ih (fun x hx => hs x (by simp [hx])) h2.2⟩
theorem MC.cast {rss' : List (List Rat)} (h : MC S W a n c rss) (e : rss = rss') : MC S W a n c rss' := e ▸ h
theorem map_canon {rs ss : List Rat} : rs.map canon = ss.map canon ↔ rs = ss := by
  refine ⟨fun h => ?_, fun h => by rw [h]⟩;have := congrArg (List.map qval) h
  simpa [List.map_map, Function.comp_def, qval_canon] using this
theorem map_canon2 {rss mss : List (List Rat)} : rss.map (·.map canon) = mss.map (·.map canon) ↔ rss = mss := by
  refine ⟨fun h => ?_, fun h => by rw [h]⟩;have := congrArg (List.map (List.map qval)) h
  simpa [List.map_map, Function.comp_def, qval_canon] using this
theorem vIs_c (w : World) (hx : GC S1 w a1 n c rs) (hy : GC S2 w a2 m d ss) : Calls Tryz.prog 56 #[.slice a1 n c, .slice a2 m d] w fun e w' => ∃ q, e = .returned (.bool q) ∧ Ext w w' ∧ (q = true ↔ rs = ss) := by
  have h := vIs_ok _ _ _ _ _ _ _ _ _ _ w hx.gx hy.gx;rw [map_canon] at h; exact h
theorem mIs_c (w : World) (hx : MC S1 w a1 n c rss) (hy : MC S2 w a2 m d mss) : Calls Tryz.prog 42 #[.slice a1 n c, .slice a2 m d] w fun e w' => ∃ q, e = .returned (.bool q) ∧ Ext w w' ∧ (q = true ↔ rss = mss) := by
  have h := mIs_ok _ _ _ _ _ _ _ _ _ _ w hx.mx hy.mx;rw [map_canon2] at h; exact h
theorem vIs_true (w : World) (hx : GC S1 w a1 n c rs) (hy : GC S2 w a2 m d ss) (e : rs = ss) : Calls Tryz.prog 56 #[.slice a1 n c, .slice a2 m d] w fun e w' => e = .returned (.bool true) ∧ Ext w w' := by
  refine (vIs_c w hx hy).mono ?_;rintro _ _ ⟨q, h1, h2, h3⟩;exact ⟨by rw [h1, h3.2 e], h2⟩
theorem mIs_true (w : World) (hx : MC S1 w a1 n c rss) (hy : MC S2 w a2 m d mss) (e : rss = mss) : Calls Tryz.prog 42 #[.slice a1 n c, .slice a2 m d] w fun e w' => e = .returned (.bool true) ∧ Ext w w' := by
  refine (mIs_c w hx hy).mono ?_;rintro _ _ ⟨q, h1, h2, h3⟩;exact ⟨by rw [h1, h3.2 e], h2⟩
/-- Small numbers, asked by reckoning. -/
def szB (r : Rat) : Bool := decide ((r.num.natAbs : Int) < b32 ^ 1) && decide ((r.den : Int) < b32 ^ 1)
theorem szB_sz {r : Rat} (h : szB r = true) : sz 1 r := by
  unfold szB at h; simp only [Bool.and_eq_true, decide_eq_true_eq] at h; exact h
theorem szV_B (h : rs.all szB = true) : szV 1 rs := fun r hr => szB_sz (List.all_eq_true.1 h r hr)
theorem szM_B (h : rss.all (fun r => r.all szB) = true) : ∀ r ∈ rss, szV 1 r := fun r hr => szV_B (List.all_eq_true.1 h r hr)
end
end Go.Proofs.YtknbjfefeeojlaaGreat
/- From a walk to a row: an argument reads behind the call as it read before, where below the old size nothing has turned. -/
namespace Go.Proofs.YtknbjfefeeojlaaGreat
open Go.ChangeShapes Go.WideShapes Go.ChangeAt Go.RowKit
attribute [local irreducible] RV VH V OpF Calls
theorem Tryz.own : ownKnob Tryz.prog.godebug = none := by kernel_rfl
theorem Tryz.laidOut : laidOutB Tryz.prog = true := by kernel_rfl
theorem trodAll_stays {H : Type} {enc : TypeId × Value → H} {P : Program} (hl : laidOutB P = true) {W W' : World} {sp' : Nat → Bool} : ∀ {ts : List TypeId} {vs : List Value} {ds : List (DataW H)} {ps : List MemPlace}, (ts.all fun t => P.readableRec t && decide (t < P.types.size)) = true →
    DataW.TrodAll enc P W 0 (fun _ => true) true ts vs ds ps → (∀ p ∈ ps, W.sameAt W' p) → (∀ p ∈ ps, sp' p.block = true) → DataW.TrodAll enc P W' 0 sp' true ts vs ds ps
  | [], [], [], _, _, h, _, _ => h
  | t :: ts, v :: vs, d :: ds, ps, hr, ⟨p, q, h1, h2, e⟩, hs, hsp => by
    rw [List.all_cons, Bool.and_eq_true] at hr;obtain ⟨hr1, hr2⟩ := hr;rw [Bool.and_eq_true, decide_eq_true_eq] at hr1;subst e
    exact ⟨p, q, WideElems.Trod_stays hl hr1.1 hr1.2 h1 (fun x hx => hs x (List.mem_append_left _ hx)) (fun x hx => hsp x (List.mem_append_left _ hx)),
      trodAll_stays hl hr2 h2 (fun x hx => hs x (List.mem_append_right _ hx)) (fun x hx => hsp x (List.mem_append_right _ hx)), rfl⟩
/-- A law's row, behind the walk: it returned true, and of what was there nothing has turned. -/
theorem post_law {H : Type} {enc : TypeId × Value → H} {P : Program} {f : Func} {s : ChangeSpec} {apart fresh handsOn again : Bool} {W W' : World} {args : Array Value} {ds : List (DataW H)} {before : List MemPlace} {tb : TypeId}
    (hW : DataW.Whole enc P f.params.toList s.vars apart W args.toList ds [] before) (hv : s.vars = []) (hl : laidOutB P = true) (hr : (f.params.toList.all fun t => P.readableRec t && decide (t < P.types.size)) = true)
    (hx : Below W.heap.size W W') (hf : s.fn H (ds ++ []) = { results := [.lit (.bool true)], args := ds }) (ht : f.resultTypes = #[tb]) (hb : P.underlying tb = some .bool) :
    s.post enc P f apart fresh handsOn again W args (.bool true) W' := by
  have hlt := hW.lt;have hW' := hW;obtain ⟨p, q, hA, hV, rfl, hz, hn⟩ := hW;rw [hv] at hV;have hq : q = [] := hV;subst hq;rw [List.append_nil] at hlt hz hn hW';have hsame : ∀ x ∈ p, W.sameAt W' x := fun x hx' => hx.same (hlt x hx')
  have harg : ∀ sp : Nat → Bool, (∀ x ∈ p, sp x.block = true) → DataW.TrodAll enc P W' 0 sp true f.params.toList args.toList ds p := fun sp hsp => trodAll_stays hl hr hA hsame hsp
  have hlist : (Value.bool true).resultList f.resultTypes.size = [.bool true] := by rw [ht]; rfl
  have hres : ∀ (b : Nat) (sp : Nat → Bool) (hd : Bool), DataW.TrodAll enc P W' b sp hd f.resultTypes.toList ((Value.bool true).resultList f.resultTypes.size) (s.fn H (ds ++ [])).results [] := fun b sp hd => by
    rw [hlist, ht, hf]; exact trodAll_mk1 (shut_bool hb true)
  have harg' : ∀ sp : Nat → Bool, (∀ x ∈ p, sp x.block = true) → DataW.TrodAll enc P W' 0 sp true f.params.toList args.toList (s.fn H (ds ++ [])).args p := fun sp hsp => by rw [hf]; exact harg sp hsp
  have hvar : ∀ sp : Nat → Bool, DataW.TrodVars enc P W' sp s.vars (s.fn H (ds ++ [])).vars [] := fun sp => by rw [hv, hf]; rfl
  refine ⟨ds, [], p, [], p, [], hW', hres _ _ _, harg' _ (fun x hx' => by simpa using hlt x hx'), hvar _, World.keptBut_mono (fun x hx' => ⟨hx', .inr (by simpa using hx')⟩) (hx.frame _), fun _ => ?_⟩;refine ⟨?_, _, _, ([] ++ p) ++ [], ⟨[] ++ p, [], trodAll_append (harg' _ (fun _ _ => rfl)) (hres _ _ _), hvar _, rfl, ?_, ?_⟩, ?_⟩
  · intro j t r h1 h2;rw [hlist] at h2;rw [ht] at h1
    cases j with
    | zero => simp at h1 h2; subst h1 h2; exact okWide_bool_mk hb true
    | succ j => simp at h1
  · intro b off hp;have hp' : MemPlace.cell b off ∈ p := by simpa using hp
    rw [hx.frozen (hlt _ hp')];exact hz b off hp'
  · intro ha; simpa using hn ha
  · intro x hx' _; simpa using hx'
end Go.Proofs.YtknbjfefeeojlaaGreat
/- Parts of elements; sizes of raw vectors and matrices. -/
namespace Go.Proofs.YtknbjfefeeojlaaGreat
open Go.RowKit
attribute [local irreducible] RV VH V OpF Calls
theorem add_add (ad : Addr) (m j : Nat) : (ad.add m).add j = ad.add (m + j) := by
  unfold Addr.add
  by_cases hm : m = 0
  · subst hm; simp
  · by_cases hj : j = 0
    · subst hj; simp
    · simp [hm, hj]; omega
theorem CE.part {W : World} {ad : Addr} {l l' : List Value} (h : CE W ad l) (m : Nat) (e : (l.drop m).take l'.length = l') : CE W (ad.add m) l' := fun j u hj => by
  rw [add_add];refine h _ _ ?_;rw [← e, List.getElem?_take] at hj
  split at hj
  · rwa [List.getElem?_drop] at hj
  · cases hj
section
variable {P : Program} {ρ : Operand → Value} {W : World} {d : Option Tmp} {ty T : TypeId} {pos : String} {af : Array Edge} {g : Option (Nat × Bool)} {x : Operand} {ad : Addr}
theorem rfaG {f off : Nat} (hx : ρ x = .pointer (some ad)) (hF : Fd P T f off) : (execOp ρ ⟨d, .fieldAddr T x f, ty, pos, af, g⟩).run P W = .ok (.value (.pointer (some (ad.add off)))) W := by
  obtain ⟨fs, fd, i, h1, h2, rfl, h4, h5⟩ := hF
  unfold execOp
  simp only [Instr.fieldAt, hx, Sem.run_bind, run_underlying h1, Result.andThen_ok, h2, Instr.sureAddr, Sem.run_pure, fieldPlace];have hs : (sizeOf fd.type).run P W = .ok i.size W := sizeOf_sz ⟨i, h4, rfl⟩
  simp [hs, h5]
end
theorem QX.two {S : Nat → Prop} {W : World} {n1 n2 : Bool} {a1 a2 : Option Addr} {l1 c1 l2 c2 : Nat} {ρ : RawQ} (h : QX S W [.bool n1, .slice a1 l1 c1, .bool n2, .slice a2 l2 c2] ρ) : n1 = ρ.n1 ∧ RN .u32 S W a1 l1 c1 ρ.xs ∧ n2 = ρ.n2 ∧ RN .u32 S W a2 l2 c2 ρ.ys := by
  obtain ⟨_, _, _, _, _, _, e, h1, h2⟩ := h;simp only [List.cons.injEq, Value.bool.injEq, Value.slice.injEq, and_true] at e;obtain ⟨rfl, ⟨rfl, rfl, rfl⟩, rfl, rfl, rfl, rfl⟩ := e;exact ⟨rfl, h1, rfl, h2⟩
def form2 (q : List Value) : Prop := ∃ x a n c, q = [.bool x, .slice a n c]
def colsG {α : Type} (rss : List (List α)) : Nat := rss.foldl (fun m r => max m r.length) 0
theorem colsG_succ {α : Type} (rss : List (List α)) (k : Nat) (h : k < rss.length) : colsG (rss.take (k + 1)) = max (colsG (rss.take k)) (rowat rss k).length := by
  unfold colsG rowat
  rw [List.take_succ_eq_append_getElem h, List.foldl_append]
  simp [h]
theorem colsG_map {α β : Type} (f : α → β) (rss : List (List α)) : colsG (rss.map (·.map f)) = colsG rss := by
  unfold colsG; rw [List.foldl_map]; simp
/-- Matrices among which no element is long. -/
abbrev MXX (S : Nat → Prop) (W : World) (a : Option Addr) (n c : Nat) (ms : List (List (List RawQ))) : Prop := MG MX S W a n c ms
theorem okRowMX : ElOK (RowOf MX) := ⟨fun ⟨a, n, c, e, h⟩ k => ⟨a, n, c, e, MG.ck okRowX h k⟩, fun ⟨a, n, c, e, h⟩ k => ⟨a, n, c, e, MG.sub okRowX h k⟩⟩
theorem MXX.ext {S : Nat → Prop} {W W' : World} {a : Option Addr} {n c : Nat} {ms : List (List (List RawQ))} (h : MXX S W a n c ms) (x : Ext W W') : MXX S W' a n c ms := MG.ck okRowMX h (x.ck _)
def smallV (r : List RawQ) : Prop := ∀ ρ ∈ r, szQ 6 ρ
def smallM (m : List (List RawQ)) : Prop := m.length ≤ 8 ∧ colsG m ≤ 8 ∧ ∀ r ∈ m, r.length ≤ 20 ∧ smallV r
theorem forall_lt {α : Type} (d : α) {p : α → Prop} {l : List α} {n : Nat} (hn : l.length ≤ n) (h : ∀ i, i < n → p (l.getD i d)) : ∀ x ∈ l, p x := fun x hx => by
  obtain ⟨i, hi⟩ := List.getElem?_of_mem hx;have := h i (by have := (List.getElem?_eq_some_iff.1 hi).1; omega)
  rwa [List.getD_eq_getElem?_getD, hi] at this
section
variable {r : Option Nat} {P : Program} {ops : Array Oper} {R : Env → World → Prop} {E : Env} {W : World} {t : Tmp} {t1 t2 ty : TypeId} {pos : String} {af : Array Edge} {S : World → Prop} {fuel : Nat} {listed : Array Bool} {x y : Operand} {k : IntKind} {m n : Int}
theorem tkGt {g : Option (Nat × Bool)} (i : Nat) (hi : ops[i]? = some ⟨some t, .binOp .gtr t1 x y t2, ty, pos, af, g⟩) (hf : (Region.noSelect ops && Region.free .any ops listed i && (Region.ready .any ops listed).contains i) = true) (hS : S W) (hx : ev E x = .int k m) (hy : ev E y = .int k n)
    (hp : ∀ q, (∀ W, S W → (execOp (ev E) ⟨some t, .binOp .gtr t1 x y t2, ty, pos, af, g⟩).run P W = .ok (.value (.bool q)) W) → PureIf P ops S ⟨some t, .binOp .gtr t1 x y t2, ty, pos, af, g⟩ (.bool q) E)
    (kt : n < m → VH r P ops S R fuel (listed.setIfInBounds i true) (up E t (.bool true)) W) (kf : m ≤ n → VH r P ops S R fuel (listed.setIfInBounds i true) (up E t (.bool false)) W) : VH r P ops S R (fuel + 1) listed E W := by
  by_cases h : n < m
  · exact tk i hi hf hS (hp true fun W _ => rcmp (cGt (decide_eq_true h)) rfl hx hy) (kt h)
  · exact tk i hi hf hS (hp false fun W _ => rcmp (cGt (decide_eq_false h)) rfl hx hy) (kf (by omega))
theorem tkNe {g : Option (Nat × Bool)} (i : Nat) (hi : ops[i]? = some ⟨some t, .binOp .neq t1 x y t2, ty, pos, af, g⟩) (hf : (Region.noSelect ops && Region.free .any ops listed i && (Region.ready .any ops listed).contains i) = true) (hS : S W) (hx : ev E x = .int k m) (hy : ev E y = .int k n)
    (hp : ∀ q, (∀ W, S W → (execOp (ev E) ⟨some t, .binOp .neq t1 x y t2, ty, pos, af, g⟩).run P W = .ok (.value (.bool q)) W) → PureIf P ops S ⟨some t, .binOp .neq t1 x y t2, ty, pos, af, g⟩ (.bool q) E)
    (kt : m ≠ n → VH r P ops S R fuel (listed.setIfInBounds i true) (up E t (.bool true)) W) (kf : m = n → VH r P ops S R fuel (listed.setIfInBounds i true) (up E t (.bool false)) W) : VH r P ops S R (fuel + 1) listed E W := by
  by_cases h : m ≠ n
  · exact tk i hi hf hS (hp true fun W _ => rcmp (cNe (decide_eq_true h)) rfl hx hy) (kt h)
  · exact tk i hi hf hS (hp false fun W _ => rcmp (cNe (decide_eq_false h)) rfl hx hy) (kf (by omega))
end
end Go.Proofs.YtknbjfefeeojlaaGreat
/- What an argument that reads as data is: slices, integers, structs. -/
namespace Go.Proofs.YtknbjfefeeojlaaGreat
open Go.ChangeShapes Go.WideShapes Go.ChangeAt Go.RowKit
attribute [local irreducible] RV VH V OpF Calls
theorem mapM_some {α β : Type} {f : α → Option β} : ∀ {xs : List α} {ys : List β}, xs.mapM f = some ys → All2 (fun x y => f x = some y) xs ys
  | [], ys, h => by simp at h; subst h; trivial
  | x :: xs, ys, h => by
    rw [List.mapM_cons] at h
    cases hx : f x with
    | none => rw [hx] at h; simp at h
    | some y =>
      cases hr : xs.mapM f with
      | none => rw [hx, hr] at h; simp at h
      | some zs =>
        rw [hx, hr] at h
        simp at h
        subst h;exact ⟨hx, mapM_some hr⟩
theorem range_some {β : Type} {f : Nat → Option β} {n : Nat} {ys : List β} (h : (List.range n).mapM f = some ys) : ys.length = n ∧ ∀ i, i < n → f i = ys[i]? := by
  have h1 := mapM_some h;have hl := h1.len
  simp at hl
  refine ⟨hl.symm, fun i hi => ?_⟩;obtain ⟨y, hy, hf⟩ := h1.get (k := i) (x := i) (by simp [hi]);rw [hf, hy]
section
variable {H : Type} {enc : TypeId × Value → H} {P : Program} {W : World} {t e : TypeId} {s fuel : Nat} {cs : List Value} {x : DataW H × List MemPlace}
theorem open_sl (ht : P.underlying t = some (.slice e)) (hc : P.cellsOf e = s) (hs : 0 < s) (h : DataW.trod enc P W 0 (fun _ => true) true fuel t cs = some x) :
    ∃ a n c fuel' ys qs, cs = [.slice a n c] ∧ RS s TT W a n c qs ∧ All2 (fun q (y : DataW H × List MemPlace) => DataW.trod enc P W 0 (fun _ => true) true fuel' e q = some y) qs ys ∧ ((x.1 = .nil ∧ ys = []) ∨ ∃ rest, x.1 = .slice (ys.map (·.1)) rest) := by
  cases fuel with
  | zero => simp [DataW.trod] at h
  | succ fuel =>
    unfold DataW.trod at h
    rw [ht] at h
    match cs, h with
    | [.slice none 0 0], h =>
      simp at h; subst h
      exact ⟨none, 0, 0, fuel, [], [], rfl, RS.nil _ _ _ _ _ (by omega), trivial, .inl ⟨rfl, rfl⟩⟩
    | [.slice (some ad) len cap], h =>
      simp only at h
      split at h
      · rename_i hb
        obtain ⟨_, hlc, hcm⟩ := hb
        cases he : (List.range len).mapM (fun i => (W.cells? 0 (ad.add (i * P.cellsOf e)) (P.cellsOf e)).bind (DataW.trod enc P W 0 (fun _ => true) true fuel e)) with
        | none => rw [he] at h; simp at h
        | some ys =>
          rw [he] at h;simp only [Option.bind_some, if_true, Option.map_eq_some_iff] at h;obtain ⟨rest, _, rfl⟩ := h;obtain ⟨hl, hg⟩ := range_some he
          have hq : ∀ i, i < len → ∃ q, W.cells? 0 (ad.add (i * s)) s = some q ∧ ∃ y, ys[i]? = some y ∧ DataW.trod enc P W 0 (fun _ => true) true fuel e q = some y := fun i hi => by
            have := hg i hi;rw [hc] at this;have hlt : i < ys.length := by omega
            rw [List.getElem?_eq_getElem hlt, Option.bind_eq_some_iff] at this;obtain ⟨q, h1, h2⟩ := this;exact ⟨q, h1, _, List.getElem?_eq_getElem hlt, h2⟩
          have hcell : ∀ i q, W.cells? 0 (ad.add (i * s)) s = some q → q.length = s ∧ ∀ j u, q[j]? = some u → W.cell? ((ad.add (i * s)).add j) = some u := fun i q h1 => by
            unfold World.cells? at h1
            rw [if_pos (Nat.zero_le _)] at h1;obtain ⟨h2, h3⟩ := range_some h1;refine ⟨h2, fun j u hj => ?_⟩;rw [h3 j (by have := (List.getElem?_eq_some_iff.1 hj).1; omega), hj]
          refine ⟨some ad, len, cap, fuel, ys, (List.range len).map (fun i => (W.cells? 0 (ad.add (i * s)) s).getD []), rfl, ?_, ?_, .inr ⟨_, rfl⟩⟩
          · refine ⟨by simp, hlc, by unfold maxLen at hcm; omega, ?_, fun hn => ?_⟩
            · intro q hq';obtain ⟨i, hi, rfl⟩ := List.mem_map.1 hq';obtain ⟨q, h1, _⟩ := hq i (by simpa using hi);rw [h1]; exact (hcell i q h1).1
            · obtain ⟨q0, h1, _⟩ := hq 0 hn;obtain ⟨h2, h3⟩ := hcell 0 q0 h1;have h4 : 0 < q0.length := by omega
              have h5 := h3 0 _ (List.getElem?_eq_getElem h4);rw [add_add] at h5;have e0 : ad.add (0 * s + 0) = ad := by unfold Addr.add; simp
              rw [e0] at h5
              unfold World.cell? at h5
              cases hh : W.heap[ad.block]? with
              | none => rw [hh] at h5; simp at h5
              | some o =>
                rw [hh] at h5
                cases o with
                | cells c T fz =>
                  obtain ⟨bk, of, sp⟩ := ad
                  cases sp with
                  | some z => simp at h5
                  | none =>
                    refine ⟨bk, of, c, T, fz, rfl, trivial, hh, fun k q hk j u hj => ?_⟩;rw [List.getElem?_map] at hk;obtain ⟨i, hi, rfl⟩ := Option.map_eq_some_iff.1 hk;have hlt : k < len := by have := (List.getElem?_eq_some_iff.1 hi).1; simpa using this
                    rw [List.getElem?_range hlt] at hi;obtain rfl : k = i := by injection hi
                    obtain ⟨q, h6, _⟩ := hq k hlt;rw [h6] at hj;have h7 := (hcell k q h6).2 j u hj;rw [add_add, addO] at h7
                    unfold World.cell? at h7
                    rw [hh] at h7;simp only [Option.isSome_none, Bool.false_eq_true, if_false] at h7;rw [Nat.add_assoc]; exact h7
                | _ => simp at h5
          · have key : ∀ (l : List Nat) (zs : List (DataW H × List MemPlace)), l.length = zs.length → (∀ (k i : Nat), l[k]? = some i → ∃ q, W.cells? 0 (ad.add (i * s)) s = some q ∧ ∃ y, zs[k]? = some y ∧ DataW.trod enc P W 0 (fun _ => true) true fuel e q = some y) →
                All2 (fun q (y : DataW H × List MemPlace) => DataW.trod enc P W 0 (fun _ => true) true fuel e q = some y) (l.map (fun i => (W.cells? 0 (ad.add (i * s)) s).getD [])) zs := by
              intro l
              induction l with
              | nil => intro zs hz _; cases zs with
                | nil => trivial
                | cons _ _ => simp at hz
              | cons i l ih => intro zs hz hk; cases zs with
                | nil => simp at hz
                | cons z zs =>
                  obtain ⟨q, h1, y, h2, h3⟩ := hk 0 i rfl
                  simp at h2; subst h2
                  refine ⟨?_, ih zs (by simpa using hz) fun k i hi => hk (k + 1) i hi⟩
                  show DataW.trod _ _ _ _ _ _ _ _ ((W.cells? 0 (ad.add (i * s)) s).getD []) = _
                  rw [h1]; exact h3
            refine key _ _ (by simp [hl]) fun k i hk => ?_
            have h1 : k < len := by have := (List.getElem?_eq_some_iff.1 hk).1; simpa using this
            rw [List.getElem?_range h1] at hk;obtain rfl : k = i := by injection hk
            exact hq k h1
      · cases h
theorem All2.ex {α β γ : Type} {p : α → β → Prop} {q : α → γ → Prop} (h : ∀ x y, p x y → ∃ z, q x z) : ∀ {xs : List α} {ys : List β}, All2 p xs ys → ∃ zs, All2 q xs zs
  | [], [], _ => ⟨[], trivial⟩
  | x :: xs, y :: ys, ⟨h1, h2⟩ => by
    obtain ⟨z, hz⟩ := h x y h1;obtain ⟨zs, hzs⟩ := All2.ex h h2;exact ⟨z :: zs, hz, hzs⟩
/-- A slice of whole numbers. -/
theorem RN.of_rs {k : IntKind} {a : Option Addr} {n c : Nat} {qs : List (List Value)} {xs : List Int} (h : RS 1 TT W a n c qs) (hq : All2 (fun q z => q = [.int k z] ∧ kb k z) qs xs) : RN k TT W a n c xs := by
  have hl := hq.len;refine ⟨by rw [← hl]; exact h.len, h.cap, h.max, fun z hz => ?_, fun hn => ?_⟩
  · obtain ⟨i, hi⟩ := List.getElem?_of_mem hz;have hlt : i < qs.length := by rw [hl]; exact (List.getElem?_eq_some_iff.1 hi).1
    obtain ⟨y, e, _, hk⟩ := hq.get (List.getElem?_eq_getElem hlt);rw [hi] at e; cases e; exact hk
  · obtain ⟨b, off, cs, T, fz, e, hs, hb, hc⟩ := h.at_ hn;refine ⟨b, off, cs, T, fz, e, hs, hb, fun j hj => ?_⟩;have hlt : j < qs.length := by rw [h.len]; exact hj
    obtain ⟨y, e2, e3, _⟩ := hq.get (List.getElem?_eq_getElem hlt);have := hc j _ (List.getElem?_eq_getElem hlt) 0 (.int k y) (by rw [e3]; rfl);rw [Nat.mul_one, Nat.add_zero] at this;rw [this]
    unfold wd
    rw [List.getD_eq_getElem?_getD, Int.toNat_natCast, e2]; rfl
theorem open_num {k : IntKind} (ht : P.underlying t = some (.int k)) (h : DataW.trod enc P W 0 (fun _ => true) true fuel t cs = some x) (hw : ∀ z, (Lit.int k z).wf = true → kb k z) : ∃ z, cs = [.int k z] ∧ kb k z := by
  cases fuel with
  | zero => simp [DataW.trod] at h
  | succ fuel =>
    unfold DataW.trod at h
    rw [ht] at h
    match cs, h with
    | [.int k' z], h =>
      simp only at h
      split at h
      · rename_i hb; obtain ⟨rfl, hz⟩ := hb; exact ⟨z, rfl, hw z hz⟩
      · cases h
theorem open_boo (ht : P.underlying t = some .bool) (h : DataW.trod enc P W 0 (fun _ => true) true fuel t cs = some x) : ∃ b, cs = [.bool b] := by
  cases fuel with
  | zero => simp [DataW.trod] at h
  | succ fuel =>
    unfold DataW.trod at h
    rw [ht] at h
    match cs, h with
    | [.bool b], h => exact ⟨b, rfl⟩
theorem open_st {fs : Array Field} (ht : P.underlying t = some (.struct fs)) (h : DataW.trod enc P W 0 (fun _ => true) true fuel t cs = some x) :
    ∃ fuel' ys, cs.length = P.cellsOf t ∧ All2 (fun (f : Field) (y : DataW H × List MemPlace) => DataW.trod enc P W 0 (fun _ => true) true fuel' f.type ((cs.drop f.offset).take (P.cellsOf f.type)) = some y) fs.toList ys := by
  cases fuel with
  | zero => simp [DataW.trod] at h
  | succ fuel =>
    unfold DataW.trod at h
    rw [ht] at h;simp only at h
    split at h
    · rename_i hl
      rw [Option.map_eq_some_iff] at h;obtain ⟨ys, h1, _⟩ := h;exact ⟨fuel, ys, hl, mapM_some h1⟩
    · cases h
theorem wf_u32 (z : Int) (h : (Lit.int .u32 z).wf = true) : kb .u32 z := by
  have h1 : IntKind.u32.min = 0 := rfl;have h2 : IntKind.u32.max = 4294967295 := rfl;simp only [Lit.wf, Bool.and_eq_true, decide_eq_true_eq] at h
  unfold kb; simp only; omega
/-- A slice of whole numbers that came in. -/
theorem open_RN {k : IntKind} (ht : P.underlying t = some (.slice e)) (hc : P.cellsOf e = 1) (he : P.underlying e = some (.int k)) (hw : ∀ z, (Lit.int k z).wf = true → kb k z) (h : DataW.trod enc P W 0 (fun _ => true) true fuel t cs = some x) :
    ∃ a n c xs, cs = [.slice a n c] ∧ RN k TT W a n c xs ∧ ((x.1 = .nil ∧ xs = []) ∨ ∃ ds rest, x.1 = .slice ds rest ∧ ds.length = xs.length) := by
  obtain ⟨a, n, c, fuel', ys, qs, rfl, h1, h2, h3⟩ := open_sl ht hc (by omega) h;obtain ⟨xs, h4⟩ := All2.ex (q := fun q z => q = [.int k z] ∧ kb k z) (fun q y hy => open_num he hy hw) h2;refine ⟨a, n, c, xs, rfl, RN.of_rs h1 h4, ?_⟩;have e1 := h2.len;have e2 := h4.len
  rcases h3 with ⟨h5, rfl⟩ | ⟨rest, h5⟩
  · exact .inl ⟨h5, List.eq_nil_of_length_eq_zero (by rw [← e2, e1]; rfl)⟩
  · exact .inr ⟨_, rest, h5, by rw [List.length_map]; omega⟩
theorem two_fields {fs : Array Field} {f0 f1 : Field} (he : fs.toList = [f0, f1]) {R : Field → (DataW H × List MemPlace) → Prop} {ys : List (DataW H × List MemPlace)} (h : All2 R fs.toList ys) : ∃ y0 y1, R f0 y0 ∧ R f1 y1 := by
  rw [he] at h
  match ys, h with
  | [y0, y1], h => exact ⟨y0, y1, h.1, h.2.1⟩
/-- A rational that came in. -/
theorem open_QX {tz ts tu tb : TypeId} {fs fz : Array Field} {f0 f1 g0 g1 : Field} (ht : P.underlying t = some (.struct fs)) (hf : fs.toList = [f0, f1]) (hz : P.underlying tz = some (.struct fz)) (hg : fz.toList = [g0, g1])
    (h0 : f0.type = tz ∧ f0.offset = 0 ∧ f1.type = tz ∧ f1.offset = 2 ∧ g0.type = tb ∧ g0.offset = 0 ∧ g1.type = ts ∧ g1.offset = 1) (hcz : P.cellsOf tz = 2) (hct : P.cellsOf t = 4) (hcb : P.cellsOf tb = 1) (hcs : P.cellsOf ts = 1) (hcu : P.cellsOf tu = 1)
    (hb : P.underlying tb = some .bool) (hs : P.underlying ts = some (.slice tu)) (hu : P.underlying tu = some (.int .u32)) (h : DataW.trod enc P W 0 (fun _ => true) true fuel t cs = some x) : ∃ ρ, QX TT W cs ρ := by
  obtain ⟨a1, a2, a3, a4, a5, a6, a7, a8⟩ := h0
  have hZ : ∀ {fuel : Nat} {cs : List Value} {x : DataW H × List MemPlace}, DataW.trod enc P W 0 (fun _ => true) true fuel tz cs = some x → ∃ n a l c xs, cs = [.bool n, .slice a l c] ∧ RN .u32 TT W a l c xs := by
    intro fuel cs x h;obtain ⟨fuel', ys, hl, hy⟩ := open_st hz h;obtain ⟨y0, y1, h1, h2⟩ := two_fields hg hy;rw [a5, a6, hcb] at h1;rw [a7, a8, hcs] at h2;rw [hcz] at hl
    match cs, hl with
    | [u, v], _ =>
      obtain ⟨n, e1⟩ := open_boo hb h1;obtain ⟨a, l, c, xs, e2, h3, _⟩ := open_RN hs hcu hu wf_u32 h2
      simp at e1 e2
      subst e1 e2;exact ⟨n, a, l, c, xs, rfl, h3⟩
  obtain ⟨fuel', ys, hl, hy⟩ := open_st ht h;obtain ⟨y0, y1, h1, h2⟩ := two_fields hf hy;rw [a1, a2, hcz] at h1;rw [a3, a4, hcz] at h2;rw [hct] at hl
  match cs, hl with
  | [u0, u1, u2, u3], _ =>
    obtain ⟨n1, b1, l1, c1, xs, e1, k1⟩ := hZ h1;obtain ⟨n2, b2, l2, c2, ys', e2, k2⟩ := hZ h2
    simp at e1 e2
    obtain ⟨rfl, rfl⟩ := e1;obtain ⟨rfl, rfl⟩ := e2;exact ⟨⟨n1, xs, n2, ys'⟩, _, _, _, _, _, _, rfl, k1, k2⟩
theorem open_GX (ht : P.underlying t = some (.slice e)) (hc : P.cellsOf e = 4) (he : ∀ {fuel : Nat} {cs : List Value} {x : DataW H × List MemPlace}, DataW.trod enc P W 0 (fun _ => true) true fuel e cs = some x → ∃ ρ, QX TT W cs ρ) (h : DataW.trod enc P W 0 (fun _ => true) true fuel t cs = some x) :
    ∃ a n c ρs, cs = [.slice a n c] ∧ GX TT W a n c ρs := by
  obtain ⟨a, n, c, fuel', ys, qs, rfl, h1, h2, h3⟩ := open_sl ht hc (by omega) h;obtain ⟨ρs, h4⟩ := All2.ex (q := QX TT W) (fun q y hy => he hy) h2;exact ⟨a, n, c, ρs, rfl, qs, h1, h4⟩
theorem open_MX (ht : P.underlying t = some (.slice e)) (hc : P.cellsOf e = 1) (he : ∀ {fuel : Nat} {cs : List Value} {x : DataW H × List MemPlace}, DataW.trod enc P W 0 (fun _ => true) true fuel e cs = some x → ∃ a n c ρs, cs = [.slice a n c] ∧ GX TT W a n c ρs) (h : DataW.trod enc P W 0 (fun _ => true) true fuel t cs = some x) :
    ∃ a n c ρss, cs = [.slice a n c] ∧ MX TT W a n c ρss := by
  obtain ⟨a, n, c, fuel', ys, qs, rfl, h1, h2, h3⟩ := open_sl ht hc (by omega) h;obtain ⟨ρs, h4⟩ := All2.ex (q := RowOf GX TT W) (fun q y hy => by obtain ⟨a, n, c, ρs, e1, h5⟩ := he hy; exact ⟨ρs, a, n, c, e1, h5⟩) h2;exact ⟨a, n, c, ρs, rfl, qs, h1, h4⟩
end
/-! ### In this program -/
section
variable {H : Type} {enc : TypeId × Value → H} {W : World} {fuel : Nat} {cs : List Value} {x : DataW H × List MemPlace}
theorem in_Q (h : DataW.trod enc Tryz.prog W 0 (fun _ => true) true fuel 48 cs = some x) : ∃ ρ, QX TT W cs ρ :=
  open_QX (tz := 46) (tb := 4) (tu := 164) Tryz.underlying48 rfl Tryz.underlying46 rfl ⟨rfl, rfl, rfl, rfl, rfl, rfl, rfl, rfl⟩ (by kernel_rfl) (by kernel_rfl) (by kernel_rfl) (by kernel_rfl) (by kernel_rfl) (by kernel_rfl) (by kernel_rfl) (by kernel_rfl) h
theorem in_GX (h : DataW.trod enc Tryz.prog W 0 (fun _ => true) true fuel 23 cs = some x) : ∃ a n c ρs, cs = [.slice a n c] ∧ GX TT W a n c ρs :=
  open_GX (e := 48) (by kernel_rfl) (by kernel_rfl) in_Q h
theorem in_MX (h : DataW.trod enc Tryz.prog W 0 (fun _ => true) true fuel 22 cs = some x) : ∃ a n c ρss, cs = [.slice a n c] ∧ MX TT W a n c ρss :=
  open_MX (e := 23) (by kernel_rfl) (by kernel_rfl) in_GX h
end
end Go.Proofs.YtknbjfefeeojlaaGreat
/- Matrices as lists: plain mathematics for the laws of layer 4. -/
namespace Go.Proofs.YtknbjfefeeojlaaGreat
/-- f 0 + .. + f (k - 1). -/
def sumk (f : Nat → Rat) : Nat → Rat
  | 0 => 0
  | k + 1 => sumk f k + f k
theorem sumk_ext {f g : Nat → Rat} : ∀ {k : Nat}, (∀ i, i < k → f i = g i) → sumk f k = sumk g k
  | 0, _ => rfl
  | k + 1, h => by simp only [sumk]; rw [sumk_ext fun i hi => h i (by omega), h k (by omega)]
theorem sumk_zero {f : Nat → Rat} : ∀ {k : Nat}, (∀ i, i < k → f i = 0) → sumk f k = 0
  | 0, _ => rfl
  | k + 1, h => by simp only [sumk]; rw [sumk_zero fun i hi => h i (by omega), h k (by omega), Rat.zero_add]
theorem sumk_le {f : Nat → Rat} {k : Nat} : ∀ {m : Nat}, k ≤ m → (∀ i, k ≤ i → i < m → f i = 0) → sumk f m = sumk f k
  | 0, h, _ => by obtain rfl : k = 0 := by omega
                  rfl
  | m + 1, h, hz => by
    rcases Nat.lt_or_ge m k with h1 | h1
    · obtain rfl : k = m + 1 := by omega
      rfl
    · simp only [sumk];rw [sumk_le h1 fun i h2 h3 => hz i h2 (by omega), hz m h1 (by omega), Rat.add_zero]
theorem vat_ge {rs : List Rat} {i : Nat} (h : rs.length ≤ i) : vat rs i = 0 := by unfold vat; rw [List.getD_eq_getElem?_getD, List.getElem?_eq_none h]; rfl
theorem vat_lt {rs : List Rat} {i : Nat} (h : i < rs.length) : vat rs i = rs[i] := by unfold vat; rw [List.getD_eq_getElem?_getD, List.getElem?_eq_getElem h]; rfl
theorem dotk_sum (xs ys : List Rat) : ∀ k, dotk xs ys k = sumk (fun i => vat xs i * vat ys i) k
  | 0 => rfl
  | k + 1 => by simp only [dotk, sumk, dotk_sum xs ys k]
theorem dotv_sum (xs ys : List Rat) {m : Nat} (h : min xs.length ys.length ≤ m) : dotv xs ys = sumk (fun i => vat xs i * vat ys i) m := by
  have hz : ∀ i, min xs.length ys.length ≤ i → vat xs i * vat ys i = 0 := fun i hi => by
    rcases Nat.lt_or_ge i xs.length with h1 | h1
    · rw [vat_ge (rs := ys) (by omega), Rat.mul_zero]
    · rw [vat_ge (rs := xs) (by omega), Rat.zero_mul]
  unfold dotv
  rw [dotk_sum, sumk_le (show min xs.length ys.length ≤ max xs.length ys.length by omega) fun i h1 _ => hz i h1, sumk_le h fun i h1 _ => hz i h1]
theorem vat_rep (N : Nat) (j : Nat) : vat (List.replicate N 0) j = 0 := by
  rcases Nat.lt_or_ge j N with h | h
  · rw [vat_lt (by simpa using h)]; simp
  · exact vat_ge (by simpa using h)
theorem vat_zipf (gf : Rat → Rat → Rat) (xs ys : List Rat) {k i : Nat} (h : i < k) : vat (zipf gf xs ys k) i = gf (vat xs i) (vat ys i) := by
  rw [vat_lt (by rw [zipf_len]; exact h)]; simp [zipf]
theorem vat_mulv (a : List (List Rat)) (x : List Rat) (i : Nat) : vat (mulv a x) i = dotv (rowat a i) x := by
  by_cases hi : i < a.length
  · rw [vat_lt (by simpa [mulv] using hi)]
    simp [mulv, rowat, hi]
  · rw [vat_ge (by simp [mulv]; omega), dotv_sum (m := 0) _ _ (by unfold rowat; rw [List.getD_eq_getElem?_getD, List.getElem?_eq_none (by omega)]; simp)]; rfl
theorem mat_gridm (f : Int → Int → Rat) (R C i j : Nat) : mat (gridm f R C) i j = if i < R ∧ j < C then f i j else 0 := by
  by_cases hi : i < R
  · have : rowat (gridm f R C) i = (List.range C).map fun j : Nat => f (i : Int) (j : Int) := by
      unfold rowat gridm; rw [List.getD_eq_getElem?_getD, List.getElem?_map, List.getElem?_range hi]; rfl
    unfold mat
    rw [this]
    by_cases hj : j < C
    · rw [if_pos ⟨hi, hj⟩, vat_lt (by simpa using hj)]; simp
    · rw [if_neg (by omega), vat_ge (by simp; omega)]
  · rw [if_neg (by omega), mat_ge1 (by simp [gridm]; omega)]
theorem colsN_le {rss : List (List Rat)} {N : Nat} (h : ∀ r ∈ rss, r.length ≤ N) : colsN rss ≤ N := by
  have key : ∀ (l : List (List Rat)) (m : Nat), m ≤ N → (∀ r ∈ l, r.length ≤ N) → l.foldl (fun m r => max m r.length) m ≤ N := by
    intro l
    induction l with
    | nil => intro m hm _; exact hm
    | cons x l ih => intro m hm h; exact ih _ (by have := h x (by simp); show max m x.length ≤ N; omega) fun r hr => h r (by simp [hr])
  exact key rss 0 (Nat.zero_le _) h
theorem colsN_gridm (f : Int → Int → Rat) (R C : Nat) : colsN (gridm f R C) = C * min R 1 := by
  rcases Nat.eq_zero_or_pos R with rfl | h
  · simp [gridm, colsN]
  · have h1 : colsN (gridm f R C) ≤ C := colsN_le fun r hr => by
      obtain ⟨i, _, rfl⟩ := List.mem_map.1 hr; simp
    have h2 := cols_ge (rss := gridm f R C) ((List.range C).map fun j : Nat => f ((0 : Nat) : Int) (j : Int)) (List.mem_map.2 ⟨0, by simpa using h, rfl⟩)
    simp at h2
    rw [show min R 1 = 1 by omega]; omega
theorem matI_nat (rss : List (List Rat)) (i j : Nat) : matI rss i j = mat rss i j := by unfold matI; rw [if_pos (by omega)]; rfl
theorem vat_unitv (N k j : Nat) : vat (unitv N k) j = if j = k ∧ k < N then 1 else 0 := by
  unfold unitv
  by_cases h : k < N
  · rw [if_pos (by omega)]
    by_cases hj : j = k
    · subst hj; rw [if_pos ⟨rfl, h⟩, vat_lt (by simpa using h)]; simp
    · rw [if_neg (by omega)]
      unfold vat
      rw [List.getD_eq_getElem?_getD, Int.toNat_natCast, List.getElem?_set_ne (by omega), ← List.getD_eq_getElem?_getD];exact vat_rep N j
  · rw [if_neg (by omega), if_neg (by omega)]; exact vat_rep N j
theorem unitv_len (N : Nat) (k : Int) : (unitv N k).length = N := by unfold unitv; split <;> simp
/-! ### Sums -/
theorem sumk_add (f g : Nat → Rat) : ∀ k, sumk (fun i => f i + g i) k = sumk f k + sumk g k
  | 0 => (Rat.add_zero 0).symm
  | k + 1 => by simp only [sumk]; rw [sumk_add f g k]; grind
theorem sumk_mul (c : Rat) (f : Nat → Rat) : ∀ k, sumk (fun i => c * f i) k = c * sumk f k
  | 0 => by simp [sumk]
  | k + 1 => by simp only [sumk]; rw [sumk_mul c f k]; grind
theorem sumk_mulr (c : Rat) (f : Nat → Rat) (k : Nat) : sumk (fun i => f i * c) k = sumk f k * c := by
  rw [Rat.mul_comm, ← sumk_mul]; exact sumk_ext fun i _ => Rat.mul_comm _ _
theorem sumk_comm (f : Nat → Nat → Rat) (m : Nat) : ∀ n, sumk (fun i => sumk (fun j => f i j) m) n = sumk (fun j => sumk (fun i => f i j) n) m
  | 0 => by simp only [sumk]; exact (sumk_zero fun _ _ => rfl).symm
  | n + 1 => by simp only [sumk]; rw [sumk_comm f m n, ← sumk_add]
theorem sumk_only {f : Nat → Rat} {a : Nat} : ∀ {k : Nat}, a < k → (∀ i, i < k → i ≠ a → f i = 0) → sumk f k = f a
  | 0, h, _ => by omega
  | k + 1, h, hz => by
    simp only [sumk]
    by_cases e : k = a
    · subst e; rw [sumk_zero fun i hi => hz i (by omega) (by omega), Rat.zero_add]
    · rw [sumk_only (by omega) (fun i hi => hz i (by omega)), hz k (by omega) e, Rat.add_zero]
theorem sumk_two {f : Nat → Rat} {a b : Nat} (hab : a < b) : ∀ {k : Nat}, b < k → (∀ i, i < k → i ≠ a → i ≠ b → f i = 0) → sumk f k = f a + f b
  | 0, h, _ => by omega
  | k + 1, h, hz => by
    simp only [sumk]
    by_cases e : k = b
    · subst e;rw [show sumk f k = f a from sumk_only hab fun i hi hn => hz i (by omega) hn (by omega)]
    · rw [sumk_two hab (by omega) (fun i hi => hz i (by omega)), hz k (by omega) (by omega) e, Rat.add_zero]
/-! ### Determinants -/
abbrev MF := Nat → Nat → Rat
def sgn (k : Nat) : Rat := if k % 2 = 0 then 1 else -1
theorem sgn_succ (k : Nat) : sgn (k + 1) = - sgn k := by
  unfold sgn
  rcases Nat.mod_two_eq_zero_or_one k with h | h
  · rw [if_neg (by omega), if_pos h]
  · rw [if_pos (by omega), if_neg (by omega)]; grind
def skp (k j : Nat) : Nat := if j < k then j else j + 1
def usk (k c : Nat) : Nat := if c < k then c else c - 1
def minor (A : MF) (k : Nat) : MF := fun i j => A (i + 1) (skp k j)
/-- The determinant, by its first row. -/
def det : Nat → MF → Rat
  | 0, _ => 1
  | n + 1, A => sumk (fun k => sgn k * (A 0 k * det n (minor A k))) (n + 1)
def setc (A : MF) (c : Nat) (u : Nat → Rat) : MF := fun i j => if j = c then u i else A i j
def swapc (A : MF) (a b : Nat) : MF := fun i j => A i (if j = a then b else if j = b then a else j)
theorem skp_lt {k j n : Nat} (hj : j < n) : skp k j < n + 1 := by unfold skp; split <;> omega
theorem det_congr : ∀ (n : Nat) (A B : MF), (∀ i j, i < n → j < n → A i j = B i j) → det n A = det n B
  | 0, _, _, _ => rfl
  | n + 1, A, B, h => sumk_ext fun k hk => by
    rw [h 0 k (by omega) hk, det_congr n (minor A k) (minor B k) fun i j hi hj => h _ _ (by omega) (skp_lt hj)]
theorem minor_same (A : MF) (c : Nat) (u : Nat → Rat) : minor (setc A c u) c = minor A c := by
  funext i j; unfold minor setc skp; split <;> rw [if_neg (by omega)]
theorem skp_eq {k c j : Nat} (h : k ≠ c) : skp k j = c ↔ j = usk k c := by unfold skp usk; split <;> split <;> omega
theorem minor_setc (A : MF) {c k : Nat} (u : Nat → Rat) (h : k ≠ c) : minor (setc A c u) k = setc (minor A k) (usk k c) (fun i => u (i + 1)) := by
  funext i j
  unfold minor setc
  by_cases e : skp k j = c
  · rw [if_pos e, if_pos ((skp_eq h).1 e)]
  · rw [if_neg e, if_neg fun h' => e ((skp_eq h).2 h')]
theorem usk_lt {k c n : Nat} (hc : c < n + 1) (hk : k < n + 1) (h : k ≠ c) : usk k c < n := by unfold usk; split <;> omega
theorem det_addc : ∀ (n : Nat) (A : MF) (c : Nat) (u v : Nat → Rat), c < n → det n (setc A c fun i => u i + v i) = det n (setc A c u) + det n (setc A c v)
  | 0, _, _, _, _, h => by omega
  | n + 1, A, c, u, v, h => by
    show sumk _ (n + 1) = sumk _ (n + 1) + sumk _ (n + 1)
    rw [← sumk_add];refine sumk_ext fun k hk => ?_
    by_cases e : k = c
    · subst e;rw [minor_same, minor_same, minor_same];simp only [setc, if_pos]
      grind
    · rw [minor_setc A _ e, minor_setc A _ e, minor_setc A _ e, det_addc n (minor A k) (usk k c) _ _ (usk_lt h hk e)];simp only [setc, if_neg e]
      grind
theorem det_mulc : ∀ (n : Nat) (A : MF) (c : Nat) (u : Nat → Rat) (s : Rat), c < n → det n (setc A c fun i => s * u i) = s * det n (setc A c u)
  | 0, _, _, _, _, h => by omega
  | n + 1, A, c, u, s, h => by
    show sumk _ (n + 1) = s * sumk _ (n + 1)
    rw [← sumk_mul];refine sumk_ext fun k hk => ?_
    by_cases e : k = c
    · subst e;rw [minor_same, minor_same];simp only [setc, if_pos]
      grind
    · rw [minor_setc A _ e, minor_setc A _ e, det_mulc n (minor A k) (usk k c) _ _ (usk_lt h hk e)];simp only [setc, if_neg e]
      grind
theorem det_adj : ∀ (n : Nat) (A : MF) (c : Nat), c + 1 < n → (∀ i, i < n → A i c = A i (c + 1)) → det n A = 0
  | 0, _, _, h, _ => by omega
  | n + 1, A, c, h, he => by
    show sumk _ (n + 1) = 0
    rw [sumk_two (a := c) (b := c + 1) (by omega) h]
    · have e : det n (minor A c) = det n (minor A (c + 1)) := det_congr n _ _ fun i j hi hj => by
        unfold minor skp
        by_cases e : j = c
        · subst e; rw [if_neg (by omega), if_pos (by omega), he _ (by omega)]
        · by_cases e2 : j < c
          · rw [if_pos e2, if_pos (by omega)]
          · rw [if_neg e2, if_neg (by omega)]
      rw [e, sgn_succ, he 0 (by omega)]; grind
    · intro k hk h1 h2
      have : det n (minor A k) = 0 := by
        by_cases h3 : k < c
        · refine det_adj n (minor A k) (c - 1) (by omega) fun i hi => ?_
          unfold minor skp; rw [if_neg (by omega), if_neg (by omega), show c - 1 + 1 = c by omega, he _ (by omega)]
        · refine det_adj n (minor A k) c (by omega) fun i hi => ?_
          unfold minor skp; rw [if_pos (by omega), if_pos (by omega), he _ (by omega)]
      rw [this, Rat.mul_zero, Rat.mul_zero]
theorem setc_comm (A : MF) {a b : Nat} (u v : Nat → Rat) (h : a ≠ b) : setc (setc A a u) b v = setc (setc A b v) a u := by
  funext i j; unfold setc
  by_cases e : j = a
  · subst e; rw [if_neg h, if_pos rfl, if_pos rfl]
  · rw [if_neg e]; simp only [if_neg e]
theorem setc_self (A : MF) (c : Nat) : setc A c (fun i => A i c) = A := by
  funext i j; unfold setc; split
  · rename_i h; rw [h]
  · rfl
theorem swap_of {n a b : Nat} (ha : a < n) (hb : b < n) (hab : a ≠ b) (h0 : ∀ A : MF, (∀ i, i < n → A i a = A i b) → det n A = 0) (A : MF) : det n (swapc A a b) = - det n A := by
  have hz : ∀ u, det n (setc (setc A a u) b u) = 0 := fun u => h0 _ fun i _ => by unfold setc; rw [if_neg hab, if_pos rfl, if_pos rfl]
  have hl : ∀ u v w, det n (setc (setc A a u) b fun i => v i + w i) = det n (setc (setc A a u) b v) + det n (setc (setc A a u) b w) := fun u v w => det_addc n _ b v w hb
  have hr : ∀ u v w, det n (setc (setc A a fun i => u i + v i) b w) = det n (setc (setc A a u) b w) + det n (setc (setc A a v) b w) := fun u v w => by
    rw [setc_comm _ _ _ hab, setc_comm _ _ _ hab, setc_comm _ _ _ hab]; exact det_addc n _ a u v ha
  have e1 : setc (setc A a fun i => A i a) b (fun i => A i b) = A := by rw [setc_self, setc_self]
  have e2 : setc (setc A a fun i => A i b) b (fun i => A i a) = swapc A a b := by
    funext i j; unfold setc swapc
    by_cases ea : j = a
    · subst ea; rw [if_neg hab, if_pos rfl, if_pos rfl]
    · by_cases eb : j = b
      · subst eb; rw [if_pos rfl, if_neg ea, if_pos rfl]
      · rw [if_neg eb, if_neg ea, if_neg ea, if_neg eb]
  have h := hz fun i => A i a + A i b
  rw [hl, hr, hr, hz, hz, e1, e2] at h
  grind
theorem det_eq2 (n : Nat) : ∀ (d a : Nat) (A : MF), a + d + 1 < n → (∀ i, i < n → A i a = A i (a + d + 1)) → det n A = 0
  | 0, a, A, h, he => det_adj n A a h he
  | d + 1, a, A, h, he => by
    have h1 := swap_of (n := n) (a := a + d + 1) (b := a + (d + 1) + 1) (by omega) h (by omega) (fun A hA => det_adj n A (a + d + 1) (by omega) hA) A
    have h2 := det_eq2 n d a (swapc A (a + d + 1) (a + (d + 1) + 1)) (by omega) fun i hi => by
      unfold swapc; rw [if_neg (by omega), if_neg (by omega), if_pos rfl, he i hi]
    grind
theorem det_dup {n a b : Nat} (A : MF) (ha : a < n) (hb : b < n) (hab : a ≠ b) (h : ∀ i, i < n → A i a = A i b) : det n A = 0 := by
  rcases Nat.lt_or_gt_of_ne hab with hl | hl
  · exact det_eq2 n (b - a - 1) a A (by omega) fun i hi => by rw [show a + (b - a - 1) + 1 = b by omega]; exact h i hi
  · exact det_eq2 n (a - b - 1) b A (by omega) fun i hi => by rw [show b + (a - b - 1) + 1 = a by omega]; exact (h i hi).symm
/-- A function of the columns that reckons as a determinant does. -/
structure ColP (n : Nat) (g : MF → Rat) : Prop where
  congr : ∀ A B : MF, (∀ i j, i < n → j < n → A i j = B i j) → g A = g B
  swap : ∀ (A : MF) (a b : Nat), a < n → b < n → a ≠ b → g (swapc A a b) = - g A
  mul : ∀ (A : MF) (a : Nat) (s : Rat), a < n → g (setc A a fun i => s * A i a) = s * g A
  add : ∀ (A : MF) (a b : Nat) (s : Rat), a < n → b < n → a ≠ b → g (setc A a fun i => A i a + s * A i b) = g A
theorem det_col (n : Nat) : ColP n (det n) where
  congr := det_congr n
  swap := fun A a b ha hb hab => swap_of ha hb hab (fun A h => det_dup A ha hb hab h) A
  mul := fun A a s ha => by rw [det_mulc n A a _ s ha, setc_self]
  add := fun A a b s ha hb hab => by
    rw [det_addc n A a _ _ ha, setc_self, det_mulc n A a _ s ha, det_dup (setc A a fun i => A i b) ha hb hab, Rat.mul_zero, Rat.add_zero];intro i _; unfold setc; rw [if_pos rfl, if_neg (Ne.symm hab)]
def idf : MF := fun i j => if i = j then 1 else 0
theorem sgn_zero : sgn 0 = 1 := rfl
theorem det_id : ∀ n, det n idf = 1
  | 0 => rfl
  | n + 1 => by
    show sumk _ (n + 1) = 1
    rw [sumk_only (a := 0) (by omega) fun i _ hi => by rw [show idf 0 i = 0 from if_neg (Ne.symm hi), Rat.zero_mul, Rat.mul_zero]];rw [show idf 0 0 = 1 from rfl, sgn_zero, det_congr n (minor idf 0) idf fun i j _ _ => by unfold minor idf skp; rw [if_neg (by omega : ¬ j < 0)]; by_cases e : i = j <;> simp [e], det_id n]
    grind
def mulF (n : Nat) (A B : MF) : MF := fun i j => sumk (fun t => A i t * B t j) n
end Go.Proofs.YtknbjfefeeojlaaGreat
/- Packages pylonref04: Cols; pylonlaw01 to pylonlaw04: Long. -/
namespace Go.Proofs.YtknbjfefeeojlaaGreat
open Go.RowKit
attribute [local irreducible] RV VH V OpF Calls

set_option maxHeartbeats 400000 in
theorem rCols_ok (a1 : Option Addr) (n c : Nat) (rss : List (List RawQ)) (S1 : Nat → Prop) (w : World) (hx : MX S1 w a1 n c rss) :
    Calls Tryz.prog 36 #[.slice a1 n c] w (fun e w' => e = .returned (.int .i64 (colsG rss : Int)) ∧ w = w') := by
 have z0 := Ext.refl w; have hLX : LX = 17592186044416 := rfl; have hLY : LY = 8796093022208 := rfl;have l1 := hx.len; have l2 := hx.max;refine enter (args := [.slice a1 n c]) Tryz.func36 rfl rfl (Nat.le_of_ble_eq_true rfl) (V.seq (V.reg rfl ?_));refine asi rfl (vnil (V.seq (V.reg rfl ?_)));refine asi rfl (vnil (V.seq (V.seq (V.reg rfl ?_))));refine asi rfl (vnil (V.block (V.loopK (ι := Nat) [(0, .slice _ _ _)] (fun k => [(4, .int .i64 (k : Int)), (3, .int .i64 (colsG (rss.take k) : Int))]) (fun k W => w = W ∧ k ≤ n) (fun k => n - k) (0) ⟨rfl, trivial⟩ ⟨rfl, rfl, trivial⟩ ⟨rfl, Nat.zero_le _⟩ ?_)));intro k E2 W1 h3;obtain ⟨rfl, hk⟩ := h3;refine V.seq (V.seq (V.reg rfl ?_));refine mvi rfl (mvs rfl (vv (rlen sl22 rfl) (vlt rfl rfl ?_ ?_)))
 ·intro c4;refine vnil (V.condT rfl (V.skip (V.seq (V.block (V.reg rfl (mvi rfl (mvs rfl (mvi rfl (vv (rix sl22 sz23 rfl rfl (by omega) (by omega) (hx.isS (i := 0) (by omega) (by omega))) ?_)))))))));refine vldRow hx rfl sc23 (by omega) (by omega) ?_;intro a5 n6 c7 hg8;have hg8l := hg8.len; have hg8m := hg8.max;refine vv (rlen sl23 rfl) ?_;have ecs : max ((colsG (rss.take k) : Nat) : Int) ((rowat rss ((k : Int)).toNat).length : Nat) = (colsG (rss.take (k + 1)) : Int) := by rw [colsG_succ rss k (by omega)]; simp; omega
  rw [hg8l] at ecs;refine vv (rmax rfl rfl ecs) (asi rfl (vnil (V.reg rfl (mvi rfl (vv (rbin (bAdd (wi (by omega))) rfl rfl) ?_)))));refine asi rfl (vnil ⟨rfl, k + 1, ⟨rfl, trivial⟩, ⟨rfl, rfl, trivial⟩, ⟨rfl, by omega⟩, ?_⟩)
  show n - (k + 1) < n - k
  omega
 ·intro c4;refine vnil (V.condF rfl (V.exit (V.seq (V.reg rfl ?_))));refine mvi rfl (asi rfl (vnil (V.ret ⟨[.int _ _], ⟨rfl, trivial⟩, ?_⟩)));exact ⟨by rw [List.take_of_length_le (by omega)]; rfl, rfl⟩
set_option maxHeartbeats 400000 in
theorem long1_ok (a : Option Addr) (n c : Nat) (qs : List (List Value)) (S1 : Nat → Prop) (w : World) (h : RS 2 S1 w a n c qs) (hf : ∀ q ∈ qs, form2 q) :
    Calls Tryz.prog 143 #[.slice a n c] w (fun e w' => ∃ q, e = .returned (.bool q) ∧ w = w') := by
 have z0 := Ext.refl w; have hLX : LX = 17592186044416 := rfl; have hLY : LY = 8796093022208 := rfl;have l1 := h.len; have l2 := h.cap; have l3 := h.max;refine enter (args := [.slice a n c]) Tryz.func143 rfl rfl (Nat.le_of_ble_eq_true rfl) (V.seq (V.reg rfl ?_));refine asb rfl (vnil (V.seq (V.seq (V.reg rfl ?_))));refine asi rfl (vnil (V.block (V.loopK (ι := Nat) [(0, .slice _ _ _)] (fun k => [(3, .int .i64 (k : Int))]) (fun k W => w = W ∧ k ≤ n) (fun k => n - k) (0) ⟨rfl, trivial⟩ ⟨rfl, trivial⟩ ⟨rfl, Nat.zero_le _⟩ ?_)));intro k E2 W1 h3;obtain ⟨rfl, hk⟩ := h3;refine V.seq (V.seq (V.reg rfl ?_));refine mvi rfl (mvs rfl (vv (rlen sl176 rfl) (vlt rfl rfl ?_ ?_)))
 ·intro c4;obtain ⟨eq0, hq1, hq2, hce⟩ := h.el (i := (k : Int)) (by omega) (by omega); obtain ⟨ex0, ea0, el0, ec0, rfl⟩ := hf _ (List.mem_of_getElem? hq1);have ce0 : CE w _ _ := hce;refine vnil (V.condT rfl (V.skip (V.seq (V.block (V.seq (V.reg rfl ?_))))));refine mvs rfl (mvi rfl (vv (rix sl176 sz46 rfl rfl (by omega) (by omega) (h.isS (i := 0) (by omega) (by omega))) ?_));refine vv (rfaG rfl fd46_1) (vv (rld1 (v := .slice _ _ _) rfl sc44 (ce0 1 _ rfl)) (vv (rlen sl44 rfl) (vgt rfl rfl ?_ ?_)))
  ·intro c5;refine vnil (V.condT rfl (V.seq (V.reg rfl ?_)));refine asb rfl (vnil (V.ret ⟨[.bool true], ⟨rfl, trivial⟩, ?_⟩));exact ⟨_, rfl, rfl⟩
  ·intro c5;refine vnil (V.condF rfl (V.skip (V.reg rfl (mvi rfl (vv (rbin (bAdd (wi (by omega))) rfl rfl) ?_)))));refine asi rfl (vnil ⟨rfl, k + 1, ⟨rfl, trivial⟩, ⟨rfl, trivial⟩, ⟨rfl, by omega⟩, ?_⟩)
   show n - (k + 1) < n - k
   omega
 ·intro c4;refine vnil (V.condF rfl (V.exit (V.seq (V.reg rfl ?_))));refine asb rfl (vnil (V.ret ⟨[.bool false], ⟨rfl, trivial⟩, ?_⟩));exact ⟨_, rfl, rfl⟩
set_option maxHeartbeats 400000 in
theorem long2_ok (a1 : Option Addr) (n c : Nat) (ρs : List RawQ) (S1 : Nat → Prop) (w : World) (hx : GX S1 w a1 n c ρs) :
    Calls Tryz.prog 69 #[.slice a1 n c] w (fun e w' => ∃ q, e = .returned (.bool q) ∧ Ext w w' ∧ (q = false → smallV ρs)) := by
 have z0 := Ext.refl w; have hLX : LX = 17592186044416 := rfl; have hLY : LY = 8796093022208 := rfl;have l1 := hx.len; have l2 := hx.max;refine enter (args := [.slice a1 n c]) Tryz.func69 rfl rfl (Nat.le_of_ble_eq_true rfl) (V.seq (V.reg rfl ?_));refine asb rfl (vnil (V.seq (V.seq (V.reg rfl ?_))));refine asi rfl (vnil (V.block (V.loopK (ι := Nat) [(0, .slice _ _ _)] (fun k => [(3, .int .i64 (k : Int))]) (fun k W => Ext w W ∧ k ≤ n ∧ ∀ i, i < k → szQ 6 (xat ρs i)) (fun k => n - k) (0) ⟨rfl, trivial⟩ ⟨rfl, trivial⟩ ⟨Ext.refl _, Nat.zero_le _, fun i hi => absurd hi (Nat.not_lt_zero _)⟩ ?_)));intro k E2 W1 h3;obtain ⟨x4, hk, hs⟩ := h3;have s5 := x4.sz;have z6 := x4;refine V.seq (V.seq (V.reg rfl ?_));refine mvi rfl (mvs rfl (vv (rlen sl23 rfl) (vlt rfl rfl ?_ ?_)))
 ·intro c7;obtain ⟨en0, ea0, el0, ec0, em0, eb0, ek0, ed0, hq0, hc0⟩ := (hx.ext z6).el (i := (k : Int)) (by omega) (by omega);have ce0 : CE W1 _ _ := hc0;obtain ⟨hz1, hz2, hz3, hz4⟩ := hq0.two; have hzl := hz2.len; have hzm := hz4.len;refine vnil (V.condT rfl (V.skip (V.seq (V.block (V.seq (V.regD mixed rfl ?_))))));intro W8 x9;have s10 := x9.sz;have z11 := z6.trans x9;have q12 := Ext.refl W8;refine tk 0 rfl (by kernel_rfl) q12 (pv (fun _ y13 => rmv (v := .slice _ _ _) rfl)) ?_;refine tk 1 rfl (by kernel_rfl) q12 (pv (fun _ y14 => rmv (v := .int _ _) rfl)) ?_;refine tk 2 rfl (by kernel_rfl) q12 (pv (fun _ y15 => rix sl23 sz48 rfl rfl (by omega) (by omega) (((hx.ext z11).ext y15).isS (i := 0) (by omega) (by omega)))) ?_;refine tk 3 rfl (by kernel_rfl) q12 (pv (fun _ y16 => rfaG rfl fd48_0)) ?_;refine tk 4 rfl (by kernel_rfl) q12 (pv (fun _ y17 => rldn (l := [.bool _, .slice _ _ _]) rfl ag46 rfl (((ce0.ext x9).ext y17).part (l' := [.bool _, .slice _ _ _]) 0 rfl))) ?_;refine tk 5 rfl (by kernel_rfl) q12 (pv (fun _ y18 => rmv (v := .slice _ _ _) rfl)) ?_;refine tk 6 rfl (by kernel_rfl) q12 (pv (fun _ y19 => rmv (v := .int _ _) rfl)) ?_;refine tk 7 rfl (by kernel_rfl) q12 (pv (fun _ y20 => rix sl23 sz48 rfl rfl (by omega) (by omega) (((hx.ext z11).ext y20).isS (i := 0) (by omega) (by omega)))) ?_;refine tk 8 rfl (by kernel_rfl) q12 (pv (fun _ y21 => rfaG rfl fd48_1)) ?_;refine tk 9 rfl (by kernel_rfl) q12 (pv (fun _ y22 => rldn (l := [.bool _, .slice _ _ _]) rfl ag46 rfl (((ce0.ext x9).ext y22).part (l' := [.bool _, .slice _ _ _]) 2 rfl))) ?_;refine ef 10 (by kernel_rfl) rfl ?_;refine xbs (ps := [(0, .agg #[_, _]), (1, .agg #[_, _])]) (cs := [.bool _, .slice _ _ _, .bool _, .slice _ _ _]) sl176 zr46 sz46 rfl rfl rfl rfl rfl rfl ?_;intro W23 x24 b25 nn26;have s27 := x24.sz;have z28 := z11.trans x24;have q29 := q12.trans x24;refine ⟨fun _ => q29, ?_⟩;refine ef 11 (by kernel_rfl) rfl ?_;have hls := RS.lit (s := 2) (S := TT) (n := 2) [[.bool _, .slice _ _ _], [.bool _, .slice _ _ _]] b25 rfl (by simp) trivial rfl (by omega);refine xcall e143 (long1_ok _ _ _ _ _ _ hls (by intro q hq; simp at hq; rcases hq with rfl | rfl <;> exact ⟨_, _, _, _, rfl⟩)) rfl rfl ?_;rintro _ _ ⟨bb1, rfl, rfl⟩;refine ⟨_, rfl, ?_⟩
  cases bb1
  ·skip;refine ⟨fun _ => q29, ?_⟩;refine tk 12 rfl (by kernel_rfl) q29 (pv (fun _ y30 => rmv (v := .bool false) rfl)) ?_;refine tk 13 rfl (by kernel_rfl) q29 (pg rfl (fun _ y31 => rmv (v := .slice _ _ _) rfl)) ?_;refine tk 14 rfl (by kernel_rfl) q29 (pg rfl (fun _ y32 => rmv (v := .int _ _) rfl)) ?_;refine tk 15 rfl (by kernel_rfl) q29 (pg rfl (fun _ y33 => rix sl23 sz48 rfl rfl (by omega) (by omega) (((hx.ext z11).ext y33).isS (i := 0) (by omega) (by omega)))) ?_;refine tk 16 rfl (by kernel_rfl) q29 (pg rfl (fun _ y34 => rfaG rfl fd48_0)) ?_;refine tk 17 rfl (by kernel_rfl) q29 (pg rfl (fun _ y35 => rfaG rfl fd46_1)) ?_;refine tk 18 rfl (by kernel_rfl) q29 (pg rfl (fun _ y36 => rld1 (v := .slice _ _ _) rfl sc44 ((((ce0.ext x9).ext y36).part (l' := [.bool _, .slice _ _ _]) 0 rfl) 1 _ rfl))) ?_;refine tk 19 rfl (by kernel_rfl) q29 (pg rfl (fun _ y37 => rlen sl44 rfl)) ?_;refine tkGt 20 rfl (by kernel_rfl) q29 rfl rfl (fun _ h => pg rfl h) ?_ ?_
   ·intro c39;refine tk 21 rfl (by kernel_rfl) q29 (pv (fun _ y40 => rpk (v := .bool true) rfl rfl)) ?_;refine tk 22 rfl (by kernel_rfl) q29 (pv (fun _ y41 => rmv (v := .bool true) rfl)) ?_;refine tk 23 rfl (by kernel_rfl) q29 (pgn (b := true) rfl rfl) ?_;refine tk 24 rfl (by kernel_rfl) q29 (pgn (b := true) rfl rfl) ?_;refine tk 25 rfl (by kernel_rfl) q29 (pgn (b := true) rfl rfl) ?_;refine tk 26 rfl (by kernel_rfl) q29 (pgn (b := true) rfl rfl) ?_;refine tk 27 rfl (by kernel_rfl) q29 (pgn (b := true) rfl rfl) ?_;refine tk 28 rfl (by kernel_rfl) q29 (pgn (b := true) rfl rfl) ?_;refine tk 29 rfl (by kernel_rfl) q29 (pgn (b := true) rfl rfl) ?_;refine tk 30 rfl (by kernel_rfl) q29 (pgn (b := true) rfl rfl) ?_;refine tk 31 rfl (by kernel_rfl) q29 (pv (fun _ y42 => rpk (v := .bool true) rfl rfl)) ?_;refine dn (by kernel_rfl) ?_;refine V.condT rfl (V.seq (V.reg rfl ?_));refine asb rfl (vnil (V.ret ⟨[.bool true], ⟨rfl, trivial⟩, ?_⟩));exact ⟨_, rfl, z28, fun h => (by cases h)⟩
   ·intro c39;refine tk 21 rfl (by kernel_rfl) q29 (pv (fun _ y43 => rpk (v := .bool false) rfl rfl)) ?_;refine tk 22 rfl (by kernel_rfl) q29 (pv (fun _ y44 => rmv (v := .bool false) rfl)) ?_;refine tk 23 rfl (by kernel_rfl) q29 (pg rfl (fun _ y45 => rmv (v := .slice _ _ _) rfl)) ?_;refine tk 24 rfl (by kernel_rfl) q29 (pg rfl (fun _ y46 => rmv (v := .int _ _) rfl)) ?_;refine tk 25 rfl (by kernel_rfl) q29 (pg rfl (fun _ y47 => rix sl23 sz48 rfl rfl (by omega) (by omega) (((hx.ext z11).ext y47).isS (i := 0) (by omega) (by omega)))) ?_;refine tk 26 rfl (by kernel_rfl) q29 (pg rfl (fun _ y48 => rfaG rfl fd48_1)) ?_;refine tk 27 rfl (by kernel_rfl) q29 (pg rfl (fun _ y49 => rfaG rfl fd46_1)) ?_;refine tk 28 rfl (by kernel_rfl) q29 (pg rfl (fun _ y50 => rld1 (v := .slice _ _ _) rfl sc44 ((((ce0.ext x9).ext y50).part (l' := [.bool _, .slice _ _ _]) 2 rfl) 1 _ rfl))) ?_;refine tk 29 rfl (by kernel_rfl) q29 (pg rfl (fun _ y51 => rlen sl44 rfl)) ?_;refine tkGt 30 rfl (by kernel_rfl) q29 rfl rfl (fun _ h => pg rfl h) ?_ ?_
    ·intro c53;refine tk 31 rfl (by kernel_rfl) q29 (pv (fun _ y54 => rpk (v := .bool true) rfl rfl)) ?_;refine dn (by kernel_rfl) ?_;refine V.condT rfl (V.seq (V.reg rfl ?_));refine asb rfl (vnil (V.ret ⟨[.bool true], ⟨rfl, trivial⟩, ?_⟩));exact ⟨_, rfl, z28, fun h => (by cases h)⟩
    ·intro c53;refine tk 31 rfl (by kernel_rfl) q29 (pv (fun _ y55 => rpk (v := .bool false) rfl rfl)) ?_;refine dn (by kernel_rfl) ?_;refine V.condF rfl (V.skip (V.reg rfl (mvi rfl (vv (rbin (bAdd (wi (by omega))) rfl rfl) ?_))));refine asi rfl (vnil ⟨rfl, k + 1, ⟨rfl, trivial⟩, ⟨rfl, trivial⟩, ⟨z28, by omega, fun i hi => by rcases Nat.lt_succ_iff_lt_or_eq.1 hi with h | rfl; exact hs i h; exact ⟨by rw [show i = ((i : Int)).toNat by omega]; omega, by rw [show i = ((i : Int)).toNat by omega]; omega⟩⟩, ?_⟩)
     show n - (k + 1) < n - k
     omega
  ·skip;refine ⟨fun _ => q29, ?_⟩;refine tk 12 rfl (by kernel_rfl) q29 (pv (fun _ y56 => rmv (v := .bool true) rfl)) ?_;refine tk 13 rfl (by kernel_rfl) q29 (pgn (b := true) rfl rfl) ?_;refine tk 14 rfl (by kernel_rfl) q29 (pgn (b := true) rfl rfl) ?_;refine tk 15 rfl (by kernel_rfl) q29 (pgn (b := true) rfl rfl) ?_;refine tk 16 rfl (by kernel_rfl) q29 (pgn (b := true) rfl rfl) ?_;refine tk 17 rfl (by kernel_rfl) q29 (pgn (b := true) rfl rfl) ?_;refine tk 18 rfl (by kernel_rfl) q29 (pgn (b := true) rfl rfl) ?_;refine tk 19 rfl (by kernel_rfl) q29 (pgn (b := true) rfl rfl) ?_;refine tk 20 rfl (by kernel_rfl) q29 (pgn (b := true) rfl rfl) ?_;refine tk 21 rfl (by kernel_rfl) q29 (pv (fun _ y57 => rpk (v := .bool true) rfl rfl)) ?_;refine tk 22 rfl (by kernel_rfl) q29 (pv (fun _ y58 => rmv (v := .bool true) rfl)) ?_;refine tk 23 rfl (by kernel_rfl) q29 (pgn (b := true) rfl rfl) ?_;refine tk 24 rfl (by kernel_rfl) q29 (pgn (b := true) rfl rfl) ?_;refine tk 25 rfl (by kernel_rfl) q29 (pgn (b := true) rfl rfl) ?_;refine tk 26 rfl (by kernel_rfl) q29 (pgn (b := true) rfl rfl) ?_;refine tk 27 rfl (by kernel_rfl) q29 (pgn (b := true) rfl rfl) ?_;refine tk 28 rfl (by kernel_rfl) q29 (pgn (b := true) rfl rfl) ?_;refine tk 29 rfl (by kernel_rfl) q29 (pgn (b := true) rfl rfl) ?_;refine tk 30 rfl (by kernel_rfl) q29 (pgn (b := true) rfl rfl) ?_;refine tk 31 rfl (by kernel_rfl) q29 (pv (fun _ y59 => rpk (v := .bool true) rfl rfl)) ?_;refine dn (by kernel_rfl) ?_;refine V.condT rfl (V.seq (V.reg rfl ?_));refine asb rfl (vnil (V.ret ⟨[.bool true], ⟨rfl, trivial⟩, ?_⟩));exact ⟨_, rfl, z28, fun h => (by cases h)⟩
 ·intro c7;refine vnil (V.condF rfl (V.exit (V.seq (V.reg rfl ?_))));refine asb rfl (vnil (V.ret ⟨[.bool false], ⟨rfl, trivial⟩, ?_⟩));exact ⟨_, rfl, z6, fun _ => forall_lt rz (n := k) (by omega) hs⟩
set_option maxHeartbeats 400000 in
theorem long3_ok (a1 : Option Addr) (n c : Nat) (rss : List (List RawQ)) (S1 : Nat → Prop) (w : World) (hx : MX S1 w a1 n c rss) :
    Calls Tryz.prog 14 #[.slice a1 n c] w (fun e w' => ∃ q, e = .returned (.bool q) ∧ Ext w w' ∧ (q = false → ∀ r ∈ rss, r.length ≤ 20 ∧ smallV r)) := by
 have z0 := Ext.refl w; have hLX : LX = 17592186044416 := rfl; have hLY : LY = 8796093022208 := rfl;have l1 := hx.len; have l2 := hx.max;refine enter (args := [.slice a1 n c]) Tryz.func14 rfl rfl (Nat.le_of_ble_eq_true rfl) (V.seq (V.reg rfl ?_));refine asb rfl (vnil (V.seq (V.seq (V.reg rfl ?_))));refine asi rfl (vnil (V.block (V.loopK (ι := Nat) [(0, .slice _ _ _)] (fun k => [(3, .int .i64 (k : Int))]) (fun k W => Ext w W ∧ k ≤ n ∧ ∀ i, i < k → (rowat rss i).length ≤ 20 ∧ smallV (rowat rss i)) (fun k => n - k) (0) ⟨rfl, trivial⟩ ⟨rfl, trivial⟩ ⟨Ext.refl _, Nat.zero_le _, fun i hi => absurd hi (Nat.not_lt_zero _)⟩ ?_)));intro k E2 W1 h3;obtain ⟨x4, hk, hs⟩ := h3;have s5 := x4.sz;have z6 := x4;refine V.seq (V.seq (V.reg rfl ?_));refine mvi rfl (mvs rfl (vv (rlen sl22 rfl) (vlt rfl rfl ?_ ?_)))
 ·intro c7;refine vnil (V.condT rfl (V.skip (V.seq (V.block (V.seq (V.reg rfl ?_))))));refine mvs rfl (mvi rfl (vv (rix sl22 sz23 rfl rfl (by omega) (by omega) ((hx.ext z6).isS (i := 0) (by omega) (by omega))) ?_));refine vldRow (hx.ext z6) rfl sc23 (by omega) (by omega) ?_;intro a8 n9 c10 hg11;have hg11l := hg11.len; have hg11m := hg11.max;refine vv (rlen sl23 rfl) (vgt rfl rfl ?_ ?_)
  ·intro c12;refine mvb rfl (vgn (b := true) rfl rfl (vgn (b := true) rfl rfl (vgn (b := true) rfl rfl (vgn (b := true) rfl rfl (vgn (b := true) rfl rfl (vv (rpk (v := .bool true) rfl rfl) (vnil (V.condT rfl (V.seq (V.reg rfl ?_))))))))));refine asb rfl (vnil (V.ret ⟨[.bool true], ⟨rfl, trivial⟩, ?_⟩));exact ⟨_, rfl, z6, fun h => (by cases h)⟩
  ·intro c12;refine mvb rfl (vg rfl (mvs rfl (vg rfl (mvi rfl (vg rfl (vv (rix sl22 sz23 rfl rfl (by omega) (by omega) ((hx.ext z6).isS (i := 0) (by omega) (by omega))) ?_))))));refine vg rfl (vldRow (hx.ext z6) rfl sc23 (by omega) (by omega) ?_);intro a13 n14 c15 hg16;have hg16l := hg16.len; have hg16m := hg16.max;refine vg rfl (vo (xcall e69 (long2_ok _ _ _ _ _ _ hg16) rfl rfl ?_));rintro _ Wb1 ⟨bb1, rfl, xb1, hb1⟩;refine ⟨_, rfl, ?_⟩
   cases bb1
   ·skip;have s17 := xb1.sz;have z18 := z6.trans xb1;refine vv (rpk (v := .bool false) rfl rfl) (vnil (V.condF rfl (V.skip (V.reg rfl (mvi rfl (vv (rbin (bAdd (wi (by omega))) rfl rfl) ?_))))));refine asi rfl (vnil ⟨rfl, k + 1, ⟨rfl, trivial⟩, ⟨rfl, trivial⟩, ⟨z18, by omega, fun i hi => by rcases Nat.lt_succ_iff_lt_or_eq.1 hi with h | rfl; exact hs i h; exact ⟨by rw [show i = ((i : Int)).toNat by omega]; omega, hb1 rfl⟩⟩, ?_⟩)
    show n - (k + 1) < n - k
    omega
   ·skip;have s19 := xb1.sz;have z20 := z6.trans xb1;refine vv (rpk (v := .bool true) rfl rfl) (vnil (V.condT rfl (V.seq (V.reg rfl ?_))));refine asb rfl (vnil (V.ret ⟨[.bool true], ⟨rfl, trivial⟩, ?_⟩));exact ⟨_, rfl, z20, fun h => (by cases h)⟩
 ·intro c7;refine vnil (V.condF rfl (V.exit (V.seq (V.reg rfl ?_))));refine asb rfl (vnil (V.ret ⟨[.bool false], ⟨rfl, trivial⟩, ?_⟩));exact ⟨_, rfl, z6, fun _ => forall_lt [] (n := k) (by omega) hs⟩
set_option maxHeartbeats 400000 in
theorem long4_ok (a1 : Option Addr) (n c : Nat) (ms : List (List (List RawQ))) (S1 : Nat → Prop) (w : World) (hx : MXX S1 w a1 n c ms) :
    Calls Tryz.prog 32 #[.slice a1 n c] w (fun e w' => ∃ q, e = .returned (.bool q) ∧ Ext w w' ∧ (q = false → ∀ m ∈ ms, smallM m)) := by
 have z0 := Ext.refl w; have hLX : LX = 17592186044416 := rfl; have hLY : LY = 8796093022208 := rfl;have l1 := hx.len; have l2 := hx.max;refine enter (args := [.slice a1 n c]) Tryz.func32 rfl rfl (Nat.le_of_ble_eq_true rfl) (V.seq (V.reg rfl ?_));refine asb rfl (vnil (V.seq (V.seq (V.reg rfl ?_))));refine asi rfl (vnil (V.block (V.loopK (ι := Nat) [(0, .slice _ _ _)] (fun k => [(3, .int .i64 (k : Int))]) (fun k W => Ext w W ∧ k ≤ n ∧ ∀ i, i < k → smallM (rowat ms i)) (fun k => n - k) (0) ⟨rfl, trivial⟩ ⟨rfl, trivial⟩ ⟨Ext.refl _, Nat.zero_le _, fun i hi => absurd hi (Nat.not_lt_zero _)⟩ ?_)));intro k E2 W1 h3;obtain ⟨x4, hk, hs⟩ := h3;have s5 := x4.sz;have z6 := x4;refine V.seq (V.seq (V.reg rfl ?_));refine mvi rfl (mvs rfl (vv (rlen sl115 rfl) (vlt rfl rfl ?_ ?_)))
 ·intro c7;refine vnil (V.condT rfl (V.skip (V.seq (V.block (V.seq (V.reg rfl ?_))))));refine mvs rfl (mvi rfl (vv (rix sl115 sz22 rfl rfl (by omega) (by omega) ((hx.ext z6).isS (i := 0) (by omega) (by omega))) ?_));refine vldRow (hx.ext z6) rfl sc22 (by omega) (by omega) ?_;intro a8 n9 c10 hg11;have hg11l := hg11.len; have hg11m := hg11.max;refine vv (rlen sl22 rfl) (vgt rfl rfl ?_ ?_)
  ·intro c12;refine mvb rfl (vgn (b := true) rfl rfl (vgn (b := true) rfl rfl (vgn (b := true) rfl rfl (vgn (b := true) rfl rfl (vgn (b := true) rfl rfl (vgn (b := true) rfl rfl (vv (rpk (v := .bool true) rfl rfl) (mvb rfl (vgn (b := true) rfl rfl (vgn (b := true) rfl rfl (vgn (b := true) rfl rfl (vgn (b := true) rfl rfl (vgn (b := true) rfl rfl (vv (rpk (v := .bool true) rfl rfl) (vnil (V.condT rfl (V.seq (V.reg rfl ?_))))))))))))))))));refine asb rfl (vnil (V.ret ⟨[.bool true], ⟨rfl, trivial⟩, ?_⟩));exact ⟨_, rfl, z6, fun h => (by cases h)⟩
  ·intro c12;refine mvb rfl (vg rfl (mvs rfl (vg rfl (mvi rfl (vg rfl (vv (rix sl115 sz22 rfl rfl (by omega) (by omega) ((hx.ext z6).isS (i := 0) (by omega) (by omega))) ?_))))));refine vg rfl (vldRow (hx.ext z6) rfl sc22 (by omega) (by omega) ?_);intro a13 n14 c15 hg16;have hg16l := hg16.len; have hg16m := hg16.max;refine vg rfl (vo (xcall e36 (rCols_ok _ _ _ _ _ _ hg16) rfl rfl ?_));rintro _ _ ⟨rfl, rfl⟩;refine ⟨_, rfl, ?_⟩;refine vg rfl (vgt rfl rfl ?_ ?_)
   ·intro c18;refine vv (rpk (v := .bool true) rfl rfl) (mvb rfl (vgn (b := true) rfl rfl (vgn (b := true) rfl rfl (vgn (b := true) rfl rfl (vgn (b := true) rfl rfl (vgn (b := true) rfl rfl (vv (rpk (v := .bool true) rfl rfl) (vnil (V.condT rfl (V.seq (V.reg rfl ?_)))))))))));refine asb rfl (vnil (V.ret ⟨[.bool true], ⟨rfl, trivial⟩, ?_⟩));exact ⟨_, rfl, z6, fun h => (by cases h)⟩
   ·intro c18;refine vv (rpk (v := .bool false) rfl rfl) (mvb rfl (vg rfl (mvs rfl (vg rfl (mvi rfl (vg rfl (vv (rix sl115 sz22 rfl rfl (by omega) (by omega) ((hx.ext z6).isS (i := 0) (by omega) (by omega))) ?_)))))));refine vg rfl (vldRow (hx.ext z6) rfl sc22 (by omega) (by omega) ?_);intro a19 n20 c21 hg22;have hg22l := hg22.len; have hg22m := hg22.max;refine vg rfl (vo (xcall e14 (long3_ok _ _ _ _ _ _ hg22) rfl rfl ?_));rintro _ Wb1 ⟨bb1, rfl, xb1, hb1⟩;refine ⟨_, rfl, ?_⟩
    cases bb1
    ·skip;have s23 := xb1.sz;have z24 := z6.trans xb1;refine vv (rpk (v := .bool false) rfl rfl) (vnil (V.condF rfl (V.skip (V.reg rfl (mvi rfl (vv (rbin (bAdd (wi (by omega))) rfl rfl) ?_))))));refine asi rfl (vnil ⟨rfl, k + 1, ⟨rfl, trivial⟩, ⟨rfl, trivial⟩, ⟨z24, by omega, fun i hi => by rcases Nat.lt_succ_iff_lt_or_eq.1 hi with h | rfl; exact hs i h; exact ⟨by rw [show i = ((i : Int)).toNat by omega]; omega, by rw [show i = ((i : Int)).toNat by omega]; omega, hb1 rfl⟩⟩, ?_⟩)
     show n - (k + 1) < n - k
     omega
    ·skip;have s25 := xb1.sz;have z26 := z6.trans xb1;refine vv (rpk (v := .bool true) rfl rfl) (vnil (V.condT rfl (V.seq (V.reg rfl ?_))));refine asb rfl (vnil (V.ret ⟨[.bool true], ⟨rfl, trivial⟩, ?_⟩));exact ⟨_, rfl, z26, fun h => (by cases h)⟩
 ·intro c7;refine vnil (V.condF rfl (V.exit (V.seq (V.reg rfl ?_))));refine asb rfl (vnil (V.ret ⟨[.bool false], ⟨rfl, trivial⟩, ?_⟩));exact ⟨_, rfl, z6, fun _ => forall_lt [] (n := k) (by omega) hs⟩
end Go.Proofs.YtknbjfefeeojlaaGreat
/- The reference's arithmetic on digits in base 65536: plain mathematics. -/
namespace Go.Proofs.YtknbjfefeeojlaaGreat
def cmpI (u v : Int) : Int := if u < v then -1 else if v < u then 1 else 0
theorem cmpI_lt {u v : Int} (h : u < v) : cmpI u v = -1 := by unfold cmpI; rw [if_pos h]
theorem cmpI_gt {u v : Int} (h : v < u) : cmpI u v = 1 := by unfold cmpI; rw [if_neg (by omega), if_pos h]
theorem cmpI_eq {u v : Int} (h : u = v) : cmpI u v = 0 := by unfold cmpI; rw [if_neg (by omega), if_neg (by omega)]
theorem vl_drop (B : Int) : ∀ (xs : List Int) (k : Nat), k < xs.length → vl B (xs.drop k) = wd xs k + B * vl B (xs.drop (k + 1))
  | [], k, h => by simp at h
  | x :: xs, 0, _ => by simp [vl, wd]
  | x :: xs, k + 1, h => by
    have ih := vl_drop B xs k (by simpa using h);simp only [List.drop_succ_cons];rw [ih]; simp [wd]
theorem pow16_le {k n : Nat} (h : k ≤ n) : b16 ^ k ≤ b16 ^ n := by
  obtain ⟨m, rfl⟩ : ∃ m, n = k + m := ⟨n - k, by omega⟩;rw [Int.pow_add];have h1 := pow_pos' (B := b16) (by decide) k;have h2 := pow_pos' (B := b16) (by decide) m;have := Int.mul_le_mul_of_nonneg_left (show 1 ≤ b16 ^ m by omega) (Int.le_of_lt h1);omega
theorem vl_short {xs : List Int} (h : Dg b16 xs) {n : Nat} (hn : xs.length ≤ n) : 0 ≤ vl b16 xs ∧ vl b16 xs < b16 ^ n :=
  ⟨vl_nonneg (by decide) h, Int.lt_of_lt_of_le (vl_lt (by decide) h) (pow16_le hn)⟩
theorem small_bd {xs : List Int} {k : Nat} (h : Dg b16 xs) (hn : xs.length ≤ 3) (hk : 1 ≤ k) : 0 ≤ vl b16 (xs.drop k) ∧ vl b16 (xs.drop k) ≤ 4294967295 := by
  have := vl_short (n := 2) (h.drop k) (by simp; omega);have e : b16 ^ 2 = 4294967296 := by decide
  omega
theorem small_step16 {xs : List Int} {v q : Int} {k : Nat} (h1 : 1 ≤ k) (hk : k ≤ xs.length) (hv : v = vl b16 (xs.drop k)) (hq : q = wd xs ((k : Int) - 1)) : v * 65536 + q = vl b16 (xs.drop (k - 1)) := by
  have h := vl_drop b16 xs (k - 1) (by omega);rw [show k - 1 + 1 = k by omega, ← hv, show ((k - 1 : Nat) : Int) = (k : Int) - 1 by omega, ← hq] at h;rw [h]; unfold b16; omega
theorem back_eq {v : Int} (h0 : 0 ≤ v) (h1 : v < 281474976710656) : tr [v % 65536, v / 65536 % 65536, v / 65536 / 65536] = dg b16 v := by
  have hd : Dg b16 [v % 65536, v / 65536 % 65536, v / 65536 / 65536] := by
    intro x hx;simp only [List.mem_cons, List.not_mem_nil, or_false] at hx
    unfold b16
    omega
  rw [← dg_vl (by decide) hd]
  congr 1
  simp only [vl]
  unfold b16
  omega
theorem times_step {B v c lo hi n : Int} {i : Nat} {out xs : List Int} (hl : out.length = i) (h : vl B out + B ^ i * c = n * vl B (xs.take i)) (hv : v = wd xs i * n + c) (e : B * hi + lo = v) :
    vl B (out ++ [lo]) + B ^ (i + 1) * hi = n * vl B (xs.take (i + 1)) := by
  rw [vl_snoc, vl_take_succ, hl, Int.pow_succ];have : vl B out = n * vl B (xs.take i) - B ^ i * c := by omega
  rw [this];have e2 : B ^ i * lo + B ^ i * B * hi = B ^ i * (wd xs i * n + c) := by rw [← hv, ← e, Int.mul_add, Int.mul_assoc, Int.add_comm]
  rw [Int.mul_add] at e2;have e3 : n * (vl B (xs.take i) + B ^ i * wd xs i) = n * vl B (xs.take i) + B ^ i * (wd xs i * n) := by rw [Int.mul_add]; congr 1; rw [Int.mul_left_comm, Int.mul_comm n]
  omega
theorem sub_step16 {B v v' l l' : Int} {i : Nat} {out xs ys : List Int} (hl : out.length = i) (h : vl B out = vl B (xs.take i) - vl B (ys.take i) + B ^ i * l) (hv : v = wd xs i - wd ys i - l) (e : v' = v + B * l') :
    vl B (out ++ [v']) = vl B (xs.take (i + 1)) - vl B (ys.take (i + 1)) + B ^ (i + 1) * l' := by
  rw [vl_snoc, vl_take_succ, vl_take_succ, hl, Int.pow_succ, h, e, hv]
  have : B ^ i * (wd xs i - wd ys i - l + B * l') = B ^ i * wd xs i - B ^ i * wd ys i - B ^ i * l + B ^ i * B * l' := by
    rw [Int.mul_add, Int.mul_sub, Int.mul_sub, Int.mul_assoc]
  omega
theorem dg16_len {v : Int} {n : Nat} (h : v < b16 ^ n) : (dg b16 v).length ≤ n := dg_length_le (by decide) h
theorem sub_end16 {out xs : List Int} {v l : Int} {n : Nat} (hn : xs.length = n) (hx : Dg b16 xs) (ho : Dg b16 out) (hol : out.length = n) (hl : 0 ≤ l) (hle : v ≤ vl b16 xs) (hv : 0 ≤ v) (h : vl b16 out = vl b16 (xs.take n) - vl b16 ((dg b16 v).take n) + b16 ^ n * l) : vl b16 out = vl b16 xs - v := by
  have h1 := vl_lt (B := b16) (by decide) hx;rw [hn] at h1;have h2 := dg16_len (n := n) (v := v) (by omega);rw [List.take_of_length_le (by omega), List.take_of_length_le h2, vl_dg (by decide) hv] at h;have h3 := vl_lt (B := b16) (by decide) ho;rw [hol] at h3
  rcases Int.lt_or_le 0 l with h4 | h4
  · have := Int.mul_le_mul_of_nonneg_left (show 1 ≤ l by omega) (Int.le_of_lt (pow_pos' (B := b16) (by decide) n));omega
  · obtain rfl : l = 0 := by omega
    omega
theorem up_lt {xs ys : List Int} {k : Nat} (hx : Dg b16 xs) (hy : Dg b16 ys) (hk : wd xs k < wd ys k) : ∀ m, (∀ j : Nat, k < j → wd xs j = wd ys j) → vl b16 (xs.take (k + 1 + m)) < vl b16 (ys.take (k + 1 + m))
  | 0, _ => by
    rw [Nat.add_zero, vl_take_succ, vl_take_succ];have h1 := vl_short (n := k) (hx.take k) (by simp; omega);have h2 := vl_short (n := k) (hy.take k) (by simp; omega);have := Int.mul_le_mul_of_nonneg_left (show wd xs k + 1 ≤ wd ys k by omega) (Int.le_of_lt (pow_pos' (B := b16) (by decide) k));rw [Int.mul_add] at this;omega
  | m + 1, h => by
    have ih := up_lt hx hy hk m h;rw [← Nat.add_assoc, vl_take_succ, vl_take_succ, h (k + 1 + m) (by omega)];omega
theorem dig_lt {xs ys : List Int} {k : Nat} (hx : Dg b16 xs) (hy : Dg b16 ys) (hk : wd xs k < wd ys k) (h : ∀ j : Nat, k < j → wd xs j = wd ys j) : vl b16 xs < vl b16 ys := by
  have := up_lt hx hy hk (max xs.length ys.length) h;rw [List.take_of_length_le (by omega), List.take_of_length_le (by omega)] at this;exact this
theorem dig_eq {xs ys : List Int} (h : ∀ j : Nat, wd xs j = wd ys j) : vl b16 xs = vl b16 ys := by
  have key : ∀ m, vl b16 (xs.take m) = vl b16 (ys.take m) := by
    intro m
    induction m with
    | zero => simp
    | succ m ih => rw [vl_take_succ, vl_take_succ, ih, h m]
  have := key (max xs.length ys.length);rw [List.take_of_length_le (by omega), List.take_of_length_le (by omega)] at this;exact this
theorem dg16_len_lt {u v : Int} (hv : 0 ≤ v) (hu : 0 ≤ u) (h : (dg b16 u).length < (dg b16 v).length) : u < v := by
  rcases Int.lt_or_le u v with h1 | h1
  · exact h1
  · have e := vl_lt (B := b16) (by decide) (Dg.dg (B := b16) (by decide) u);rw [vl_dg (by decide) hu] at e;have := dg16_len (n := (dg b16 u).length) (v := v) (by omega);omega
theorem hlen16 {v : Int} {n : Nat} (hv : 0 ≤ v) (h : (dg b16 v).length = n) : v < b16 ^ n := by
  have e := vl_lt (B := b16) (by decide) (Dg.dg (B := b16) (by decide) v)
  rwa [vl_dg (by decide) hv, h] at e
theorem dg16_mono {u v : Int} (hu : 0 ≤ u) (h : u ≤ v) : (dg b16 u).length ≤ (dg b16 v).length := by
  have e := vl_lt (B := b16) (by decide) (Dg.dg (B := b16) (by decide) v);rw [vl_dg (by decide) (by omega)] at e;exact dg16_len (by omega)
theorem dg16_pos {v : Int} {n : Nat} (hv : 0 ≤ v) (h : (dg b16 v).length = n) : v = 0 ↔ n = 0 := by
  rw [← h, List.length_eq_zero_iff]; exact (dg_eq_nil (by decide) hv).symm
theorem dg16_one {v : Int} (hv : 0 ≤ v) (h : (dg b16 v).length = 1) : wd (dg b16 v) 0 = v := by
  have e := vl_dg (B := b16) (by decide) hv
  match hd : dg b16 v with
  | [] => rw [hd] at h; simp at h
  | [x] => rw [hd] at e; simp [vl] at e; simp [wd, e]
  | _ :: _ :: _ => rw [hd] at h; simp at h
/-- One digit of a quotient. -/
theorem quo_step {qs xs : List Int} {k : Nat} {V R u q : Int} (hk : k < qs.length) (hz : ∀ j : Nat, j ≤ k → wd qs j = 0)
    (h : u = vl b16 qs * V + b16 ^ (k + 1) * R + vl b16 (xs.take (k + 1))) {r' : Int} (hr : r' = R * b16 + wd xs k - q * V) :
    u = vl b16 (qs.set k q) * V + b16 ^ k * r' + vl b16 (xs.take k) := by
  have e1 := vl_set (B := b16) qs k q hk;rw [hz k (Nat.le_refl _)] at e1;rw [e1];rw [vl_take_succ] at h;exact div_step h (by omega)
theorem R_bd {V R x : Int} (h0 : 0 ≤ R) (h1 : R < V) (h2 : 0 ≤ x) (h3 : x < 65536) : 0 ≤ R * 65536 + x ∧ R * 65536 + x < 65536 * V := by omega
theorem pow16_prod {u v : Int} {a b : Nat} (hu : 0 ≤ u) (hv : 0 ≤ v) (h1 : u < b16 ^ a) (h2 : v < b16 ^ b) : 0 ≤ u * v ∧ u * v < b16 ^ (a + b) := by
  refine ⟨Int.mul_nonneg hu hv, ?_⟩;rw [Int.pow_add];have p := pow_pos' (B := b16) (by decide) b;have m1 : u * v ≤ u * b16 ^ b := Int.mul_le_mul_of_nonneg_left (Int.le_of_lt h2) hu;have m2 : u * b16 ^ b < b16 ^ a * b16 ^ b := Int.mul_lt_mul_of_pos_right h1 p;omega
theorem small_prod {xs ys : List Int} (hx : Dg b16 xs) (hy : Dg b16 ys) (hl : xs.length + ys.length ≤ 3) : 0 ≤ vl b16 xs * vl b16 ys ∧ vl b16 xs * vl b16 ys < 281474976710656 := by
  have h := pow16_prod (vl_nonneg (by decide) hx) (vl_nonneg (by decide) hy) (vl_lt (by decide) hx) (vl_lt (by decide) hy);have h2 := pow16_le hl;have e : b16 ^ 3 = 281474976710656 := by decide
  omega
/-- One round of the long product. -/
theorem mul_in16 {a j Y V P z : Int} (h : V = 65536 * P + min j a * Y) (hj : j < a) (hz : z = min 1024 (a - j)) : V + Y * z = 65536 * P + min (j + 1024) a * Y := by
  have e1 : min (j + 1024) a = j + z := by omega
  have e2 : min j a = j := by omega
  rw [e1, h, e2, Int.add_mul, Int.mul_comm Y z]; omega
theorem mul_len16 {xs ys : List Int} {k : Nat} {t : Int} (hx : Dg b16 xs) (hy : Dg b16 ys) (h1 : 1 ≤ k) (hk : k ≤ xs.length) (h0 : 0 ≤ t) (ht : t ≤ wd xs ((k : Int) - 1)) :
    0 ≤ 65536 * (vl b16 (xs.drop k) * vl b16 ys) + t * vl b16 ys ∧ (dg b16 (65536 * (vl b16 (xs.drop k) * vl b16 ys) + t * vl b16 ys)).length + k ≤ xs.length + ys.length + 1 := by
  have hY := vl_nonneg (B := b16) (by decide) hy;have hP := Int.mul_nonneg (vl_nonneg (B := b16) (by decide) (hx.drop k)) hY;have hT := Int.mul_nonneg h0 hY;refine ⟨by omega, ?_⟩;have e := small_step16 h1 hk rfl (rfl : wd xs ((k : Int) - 1) = _);have h2 := pow16_prod (vl_nonneg (by decide) (hx.drop (k - 1))) hY (vl_lt (by decide) (hx.drop (k - 1))) (vl_lt (by decide) hy);rw [← e] at h2;have h3 := Int.mul_le_mul_of_nonneg_right ht hY
  have h4 : (vl b16 (xs.drop k) * 65536 + wd xs ((k : Int) - 1)) * vl b16 ys = 65536 * (vl b16 (xs.drop k) * vl b16 ys) + wd xs ((k : Int) - 1) * vl b16 ys := by
    rw [Int.add_mul, Int.mul_comm (vl b16 (xs.drop k)) 65536, Int.mul_assoc]
  rw [h4] at h2;have := dg16_len (n := (xs.drop (k - 1)).length + ys.length) (v := 65536 * (vl b16 (xs.drop k) * vl b16 ys) + t * vl b16 ys) (by omega);rw [List.length_drop] at this;omega
theorem mul_out16 {xs ys : List Int} {k : Nat} {V j : Int} (h1 : 1 ≤ k) (hk : k ≤ xs.length) (h : V = 65536 * (vl b16 (xs.drop k) * vl b16 ys) + min j (wd xs ((k : Int) - 1)) * vl b16 ys) (hj : wd xs ((k : Int) - 1) ≤ j) : V = vl b16 (xs.drop (k - 1)) * vl b16 ys := by
  have e := small_step16 h1 hk rfl (rfl : wd xs ((k : Int) - 1) = _);rw [h, show min j (wd xs ((k : Int) - 1)) = wd xs ((k : Int) - 1) by omega, ← e, Int.add_mul, Int.mul_comm (vl b16 (xs.drop k)) 65536, Int.mul_assoc]
theorem div_facts16 {v r x : Int} (hv : 1 ≤ v) (r0 : 0 ≤ r) (r1 : r < v) (x0 : 0 ≤ x) (x1 : x < 65536) : 0 ≤ (r * 65536 + x) / v ∧ (r * 65536 + x) / v < 65536 ∧ 0 ≤ (r * 65536 + x) % v ∧ (r * 65536 + x) % v < v ∧ (r * 65536 + x) % v = r * 65536 + x - (r * 65536 + x) / v * v := by
  refine ⟨Int.ediv_nonneg (by omega) (by omega), Int.ediv_lt_of_lt_mul (by omega) (by omega), Int.emod_nonneg _ (by omega), Int.emod_lt_of_pos _ (by omega), ?_⟩;have := Int.mul_ediv_add_emod (r * 65536 + x) v;rw [Int.mul_comm v] at this;omega
theorem dg16_small {r : Int} (h0 : 0 ≤ r) (h1 : r < 65536) : tr [r] = dg b16 r := by
  have hd : Dg b16 [r] := by intro x hx; simp only [List.mem_cons, List.not_mem_nil, or_false] at hx; unfold b16; omega
  rw [← dg_vl (by decide) hd]; simp [vl]
theorem dg16_cons {a R : Int} (h0 : 0 ≤ a) (h1 : a < 65536) (hR : 0 ≤ R) : tr (a :: dg b16 R) = dg b16 (R * 65536 + a) := by
  have hd : Dg b16 (a :: dg b16 R) := Dg.cons.2 ⟨⟨h0, h1⟩, Dg.dg (by decide) R⟩;rw [← dg_vl (by decide) hd]; simp only [vl]; rw [vl_dg (by decide) hR]; congr 1; unfold b16; omega
theorem wd_zero_set {qs : List Int} {k : Nat} {z : Int} (h : ∀ j : Nat, j ≤ k → wd qs j = 0) : ∀ j : Nat, j < k → wd (qs.set k z) j = 0 := fun j hj => by
  rw [wd_set_ne (by simp; omega)]; exact h j (by omega)
theorem Dg.set16 {qs : List Int} {k : Nat} {z : Int} (h : Dg b16 qs) (h0 : 0 ≤ z) (h1 : z < 65536) : Dg b16 (qs.set k z) := fun x hx => by
  rcases List.mem_or_eq_of_mem_set hx with h2 | h2
  · exact h x h2
  · rw [h2]; exact ⟨h0, h1⟩
theorem Dg.zeros (n : Nat) : Dg b16 (List.replicate n 0) := fun x hx => by rw [(List.mem_replicate.1 hx).2]; decide
end Go.Proofs.YtknbjfefeeojlaaGreat

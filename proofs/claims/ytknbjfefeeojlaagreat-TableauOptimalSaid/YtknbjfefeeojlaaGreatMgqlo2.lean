/- Package whole: pairs, carrier, add, sub, cmp. -/
import Derived.Test.YtknbjfefeeojlaaGreatMgqlo1
namespace Go.Proofs.YtknbjfefeeojlaaGreat
open Go.RowKit
attribute [local irreducible] RV VH V OpF Calls

/-- What a call of carrier's functions may do. -/
def PK (B bo bc : Nat) (W W' : World) : Prop := KB B W W' ∧ ∀ k cs T fz, W.heap[k]? = some (.cells cs T fz) → T ≠ 164 → k ≠ bo → k ≠ bc → W'.heap[k]? = some (.cells cs T fz)
theorem BoxAt.pk {B bo bc b : Nat} {W W' : World} {cs : List Value} {T : TypeId} (h : BoxAt W b cs T) (p : PK B bo bc W W') (hT : T ≠ 164) (h1 : b ≠ bo) (h2 : b ≠ bc) : BoxAt W' b cs T := p.2 b _ T _ h hT h1 h2
/-- The state of a carrier: its words so far, and the carry. -/
def CR (W : World) (B bo bc : Nat) (xs : List Int) (c : Int) : Prop := ∃ u, BoxAt W bo [u] 44 ∧ BoxAt W bc [.int .u64 c] 162 ∧ OI .u32 B W 164 u xs
theorem CR.ext {W W' : World} {B bo bc : Nat} {xs : List Int} {c : Int} (h : CR W B bo bc xs c) (x : Ext W W') : CR W' B bo bc xs c := by
  obtain ⟨u, h1, h2, h3⟩ := h; exact ⟨u, h1.ext x, h2.ext x, h3.ext x⟩
theorem CR.lt {W : World} {B bo bc : Nat} {xs : List Int} {c : Int} (h : CR W B bo bc xs c) : bo < W.heap.size ∧ bc < W.heap.size := by
  obtain ⟨u, h1, h2, h3⟩ := h; exact ⟨h1.lt, h2.lt⟩
theorem CR.tn {W W' : World} {Bt B bo bc : Nat} {xs : List Int} {c : Int} (h : CR W B bo bc xs c) (x : Tn Bt W W') : CR W' B bo bc xs c := by
  obtain ⟨u, h1, h2, h3⟩ := h; exact ⟨u, h1.tn x, h2.tn x, h3.ck (x.ck fun _ => True) fun _ _ => trivial⟩
theorem OI.setRow {k : IntKind} {B : Nat} {W : World} {e : TypeId} {v : Value} {xs : List Int} {b : Nat} {W' : World} (h : OI k B W e v xs) (y : Wr b W W') (hb : v.ownBlock ≠ some b) : OI k B W' e v xs :=
  h.ck (y.ck (S := fun q => some q ≠ some b) (fun h => h rfl)) (fun q e => by rw [e] at hb; exact hb)

theorem carrier_ok (w : World) : Calls Tryz.prog 216 #[] w fun e w' => ∃ bo bc, bo = w.heap.size ∧ bc = w.heap.size + 1 ∧
    e = .returned (.tuple #[.func (.func 219) #[] #[.pointer (some ⟨bc, 0, none⟩), .pointer (some ⟨bo, 0, none⟩)], .func (.func 220) #[] #[.pointer (some ⟨bo, 0, none⟩), .pointer (some ⟨bc, 0, none⟩)]]) ∧ Ext w w' ∧ CR w' w.heap.size bo bc [] 0 := by
  refine enter (args := []) Tryz.func216 rfl rfl (Nat.le_of_ble_eq_true rfl) ?_
  refine V.seq (V.reg rfl ?_)
  refine asn rfl ?_
  refine asn rfl ?_
  refine vnil ?_
  refine V.seq (V.reg rfl ?_)
  refine vo ?_
  refine xal zc44 ?_
  intro W1 x1 b1 n1
  refine vnil ?_
  refine V.seq (V.reg rfl ?_)
  refine vo ?_
  refine xal zc162 ?_
  intro W2 x2 b2 n2
  refine vo ?_
  refine st1 (v := .int _ _) (cs' := [_]) b2 rfl rfl sz162 rfl rfl rfl rfl ?_
  intro W3 y3 b2
  refine vnil ?_
  refine V.seq (V.reg rfl ?_)
  refine vv (rmk2 (v := .pointer (some ⟨_, _, none⟩)) (u := .pointer (some ⟨_, _, none⟩)) rfl rfl) ?_
  refine asf rfl ?_
  refine vnil ?_
  refine V.seq (V.reg rfl ?_)
  refine mvf rfl ?_
  refine vv (rmk2 (v := .pointer (some ⟨_, _, none⟩)) (u := .pointer (some ⟨_, _, none⟩)) rfl rfl) ?_
  refine asf rfl ?_
  refine asf rfl ?_
  refine vnil ?_
  refine V.ret ?_
  refine ⟨[.func _ _ _, .func _ _ _], ⟨rfl, rfl, trivial⟩, ?_⟩
  exact ⟨_, _, rfl, n1, rfl, (x1.trans x2).below (y3.below (by omega)), .slice none 0 0, (b1.ext x2).wr y3 (by omega), b2, OI.nil _ _ _ _⟩

set_option maxHeartbeats 400000 in
theorem put_ok (B bo bc : Nat) (xs : List Int) (c v : Int) (w : World) (h : CR w B bo bc xs c) (hc : 0 ≤ c) (hv : 0 ≤ v) (hs : v + c ≤ 18446744073709551615) (hl : (xs.length + 1) * 4 ≤ 140737488355328) (hbo : B ≤ bo) (hbc : B ≤ bc) (hne : bo ≠ bc) :
    Calls Tryz.prog 219 #[.int .u64 v, .pointer (some ⟨bc, 0, none⟩), .pointer (some ⟨bo, 0, none⟩)] w fun e w' => e = .returned (.tuple #[]) ∧ PK B bo bc w w' ∧ CR w' B bo bc (xs ++ [(v + c) % 4294967296]) ((v + c) / 4294967296) := by
  obtain ⟨u, b1, b2, hO⟩ := h
  have l1 := b1.lt
  have l2 := b2.lt
  have d1 := hO.neBox b1 (by decide)
  have d2 := hO.neBox b2 (by decide)
  refine enter (args := [.int .u64 v, .pointer (some ⟨bc, 0, none⟩), .pointer (some ⟨bo, 0, none⟩)]) Tryz.func219 rfl rfl (Nat.le_of_ble_eq_true rfl) ?_
  refine V.seq (V.reg rfl ?_)
  refine mvi rfl ?_
  refine vv (rldb (v := .int .u64 c) rfl sc162 b2 rfl) ?_
  refine vv (rbin (bAdd (wu (by omega))) rfl rfl) ?_
  refine asi rfl ?_
  refine vnil ?_
  refine V.reg rfl ?_
  refine vv (rldb (v := u) rfl sc44 b1 rfl) ?_
  refine mvi rfl ?_
  refine vv (rcv Tryz.underlying162 Tryz.underlying164 rfl (m32 _)) ?_
  refine vo ?_
  refine xbs (ps := [(0, .int _ _)]) (cs := [.int _ _]) sl44 zr164 sz164 rfl rfl rfl rfl rfl rfl ?_
  intro W1 x1 b3 n3
  refine vo ?_
  refine xapp sl44 in164 (hO.ext x1) rfl rfl b3 (by simp only [kb]; omega) hl (by decide) (by omega) ?_
  intro v' W2 hO2 hg ho
  have k2 : KB B W1 W2 := KB.grown (hO.ext x1) hg (Nat.le_refl _) (by omega)
  have c2 : CK (fun q => u.ownBlock ≠ some q) W1 W2 := grown_ck hg fun b e h => h e
  have b1' := (b1.ext x1).ck c2 d1
  have b2' := (b2.ext x1).ck c2 d2
  have e1 : v'.ownBlock ≠ some bo := by
    rcases ho with h | h <;> rw [h]
    · exact d1
    · intro e; injection e with e; omega
  have e2 : v'.ownBlock ≠ some bc := by
    rcases ho with h | h <;> rw [h]
    · exact d2
    · intro e; injection e with e; omega
  have s2 := k2.below.size
  refine mvi rfl ?_
  refine vv (rshr (n := 32) rfl rfl (by decide) (shr32 _)) ?_
  refine vo ?_
  obtain ⟨a', c', rfl⟩ := hO2.form
  refine st1 (v := .slice _ _ _) (cs' := [_]) b1' rfl rfl sz44 rfl rfl rfl rfl ?_
  intro W3 y3 b1''
  refine vo ?_
  refine st1 (v := .int _ _) (cs' := [_]) (b2'.wr y3 (by omega)) rfl rfl sz162 rfl rfl rfl rfl ?_
  intro W4 y4 b2''
  refine vnil ?_
  refine ⟨[], trivial, ?_⟩
  refine ⟨rfl, ⟨(KB.ext x1 (by omega)).trans (k2.trans ((KB.wr y3 b1' hbo).trans (KB.wr y4 (b2'.wr y3 (by omega)) hbc))), ?_⟩, _, b1''.wr y4 hne, b2'', (hO2.setRow y3 e1).setRow y4 e2⟩
  intro k cs T fz hk hT h1 h2
  have hk1 := (x1.block k (Array.getElem?_eq_some_iff.1 hk).1).trans hk
  have hk2 := c2.2 k cs T fz (by
    intro e
    rcases (hO.ext x1).row.2 with ⟨rfl, _⟩ | ⟨b', cap, cur, rfl, _, hh, _⟩
    · cases e
    · simp only [Value.ownBlock, Option.some.injEq] at e
      subst e
      rw [hk1] at hh
      injection hh with hh
      injection hh with _ h2 _
      exact hT h2) hk1
  exact (y4.block k h2).trans ((y3.block k h1).trans hk2)

set_option maxHeartbeats 400000 in
theorem all_ok (B bo bc : Nat) (xs : List Int) (c : Int) (w : World) (h : CR w B bo bc xs c) (hl : (xs.length + 1) * 4 ≤ 140737488355328) (hbo : B ≤ bo) :
    Calls Tryz.prog 220 #[.pointer (some ⟨bo, 0, none⟩), .pointer (some ⟨bc, 0, none⟩)] w fun e w' => ∃ a n d, e = .returned (.slice a n d) ∧ KB B w w' ∧ OI .u32 B w' 164 (.slice a n d) (xs ++ [c % 4294967296]) := by
  obtain ⟨u, b1, b2, hO⟩ := h
  have l1 := b1.lt
  refine enter (args := [.pointer (some ⟨bo, 0, none⟩), .pointer (some ⟨bc, 0, none⟩)]) Tryz.func220 rfl rfl (Nat.le_of_ble_eq_true rfl) ?_
  refine V.seq (V.reg rfl ?_)
  refine ass rfl ?_
  refine vnil ?_
  refine V.seq (V.reg rfl ?_)
  refine vv (rldb (v := u) rfl sc44 b1 rfl) ?_
  refine vv (rldb (v := .int .u64 c) rfl sc162 b2 rfl) ?_
  refine vv (rcv Tryz.underlying162 Tryz.underlying164 rfl (m32 _)) ?_
  refine vo ?_
  refine xbs (ps := [(0, .int _ _)]) (cs := [.int _ _]) sl44 zr164 sz164 rfl rfl rfl rfl rfl rfl ?_
  intro W1 x1 b3 n3
  refine vo ?_
  refine xapp sl44 in164 (hO.ext x1) rfl rfl b3 (by simp only [kb]; omega) hl (by decide) (by omega) ?_
  intro v' W2 hO2 hg ho
  obtain ⟨a', c', rfl⟩ := hO2.form
  refine ass rfl ?_
  refine vnil ?_
  refine V.ret ?_
  refine ⟨[.slice _ _ _], ⟨rfl, trivial⟩, ?_⟩
  exact ⟨_, _, _, rfl, (KB.ext x1 (by omega)).trans (KB.grown (hO.ext x1) hg (Nat.le_refl _) (by omega)), hO2⟩


theorem wd_ge {xs : List Int} {i : Int} (h : xs.length ≤ i.toNat) : wd xs i = 0 := by
  unfold wd; rw [List.getD_eq_getElem?_getD, List.getElem?_eq_none h]; rfl
theorem RN.kd {D : Nat → Prop} {k : IntKind} {W W' : World} {a : Option Addr} {n c : Nat} {xs : List Int} (h : RN k D W a n c xs) (x : KD D W W') : RN k D W' a n c xs := h.ck x.ck

set_option maxHeartbeats 400000 in
theorem pairs_iter {D : Nat → Prop} {w : World} {a1 a2 : Option Addr} {n c m d : Nat} {xs ys : List Int} {b1 b2 : Nat} (hb1 : BoxAt w b1 [.slice a1 n c] 44) (hb2 : BoxAt w b2 [.slice a2 m d] 44) (hx : RN .u32 D w a1 n c xs) (hy : RN .u32 D w a2 m d ys) (h1 : D b1) (h2 : D b2) :
    Iter Tryz.prog 221 #[.pointer (some ⟨b1, 0, none⟩), .pointer (some ⟨b2, 0, none⟩)] (fun i => .int .u64 (wd xs i)) (fun i => .int .u64 (wd ys i)) D (max n m) w := by
 have z0 := Ext.refl w; have hLX : LX = 17592186044416 := rfl; have hLY : LY = 8796093022208 := rfl
 intro l J Jx X hX hJs hJxs hY hJ0
 have hx0 := hx.ext hX; have hy0 := hy.ext hX; have b10 := hb1.ext hX; have b20 := hb2.ext hX
 have l1 := hx.len; have l2 := hy.len; have q1 := hx.cap; have q2 := hy.cap; have q3 := hx.max; have q4 := hy.max
 refine enter (args := [.func (.yield l) #[] #[], .pointer (some ⟨b1, 0, none⟩), .pointer (some ⟨b2, 0, none⟩)]) Tryz.func221 rfl rfl (Nat.le_of_ble_eq_true rfl) ?_
 refine V.seq (V.reg rfl ?_)
 refine vv (rldb (v := .slice _ _ _) rfl sc44 b10 rfl) ?_
 refine vv (rlen sl44 rfl) ?_
 refine vv (rldb (v := .slice _ _ _) rfl sc44 b20 rfl) ?_
 refine vv (rlen sl44 rfl) ?_
 refine vv (rmax rfl rfl rfl) ?_
 refine mvi rfl ?_
 refine vnil ?_
 refine V.block ?_
 refine V.loopK (ι := Nat) [(0, .func _ _ _), (1, .pointer (some ⟨_, _, none⟩)), (2, .pointer (some ⟨_, _, none⟩)), (11, .int _ _)] (fun k => [(12, .int .i64 (k : Int))]) (fun k W => J k W ∧ KD D w W ∧ k ≤ max n m) (fun k => max n m - k) (0) ⟨rfl, rfl, rfl, rfl, trivial⟩ ⟨rfl, trivial⟩ ⟨hJ0, hX.kd, Nat.zero_le _⟩ ?_
 intro k E2 W1 h3
 obtain ⟨hJ, hkd, hk⟩ := h3
 have hx1 := hx.kd hkd
 have hy1 := hy.kd hkd
 have b1' := hb1.kd hkd h1; have b2' := hb2.kd hkd h2
 have hYk : ∀ x y, x = wd xs k → y = wd ys k → k < max n m → YieldAt Fence.wide 0 Tryz.prog l #[.int .u64 x, .int .u64 y] W1 (fun e B => (e = .returned (.bool true) ∧ J (k + 1) B ∧ KD D W1 B) ∨ (e = .returned (.bool false) ∧ Jx k B ∧ KD D W1 B)) := by intro x y ex ey hlt; subst ex; subst ey; exact hY k _ hJ hlt hkd
 refine V.seq (V.reg rfl ?_)
 refine vlt rfl rfl ?_ ?_
 ·intro c4
  refine vnil ?_
  refine V.seq ?_
  refine V.condT rfl ?_
  refine V.skip ?_
  refine V.seq ?_
  refine V.block ?_
  refine V.seq (V.reg rfl ?_)
  refine mvi rfl ?_
  refine asi rfl ?_
  refine vnil ?_
  refine V.seq (V.reg rfl ?_)
  refine asi rfl ?_
  refine asi rfl ?_
  refine vnil ?_
  refine V.seq ?_
  refine V.seq (V.reg rfl ?_)
  refine mvi rfl ?_
  refine vv (rldb (v := .slice _ _ _) rfl sc44 b1' rfl) ?_
  refine vv (rlen sl44 rfl) ?_
  refine vlt rfl rfl ?_ ?_
  ·intro c5
   refine vnil ?_
   refine V.condT rfl ?_
   refine V.reg rfl ?_
   refine vv (rldb (v := .slice _ _ _) rfl sc44 b1' rfl) ?_
   refine mvi rfl ?_
   refine vv (rixn hx1 sl44 sz164 rfl rfl (by omega) (by omega)) ?_
   refine vldN hx1 rfl sc164 (by omega) (by omega) ?_
   intro q6 hq6 hk7
   simp only [kb] at hk7
   refine vv (rcv Tryz.underlying164 Tryz.underlying162 rfl (wu (by omega))) ?_
   refine asi rfl ?_
   refine vnil ?_
   refine V.seq ?_
   refine V.seq (V.reg rfl ?_)
   refine mvi rfl ?_
   refine vv (rldb (v := .slice _ _ _) rfl sc44 b2' rfl) ?_
   refine vv (rlen sl44 rfl) ?_
   refine vlt rfl rfl ?_ ?_
   ·intro c8
    refine vnil ?_
    refine V.condT rfl ?_
    refine V.reg rfl ?_
    refine vv (rldb (v := .slice _ _ _) rfl sc44 b2' rfl) ?_
    refine mvi rfl ?_
    refine vv (rixn hy1 sl44 sz164 rfl rfl (by omega) (by omega)) ?_
    refine vldN hy1 rfl sc164 (by omega) (by omega) ?_
    intro q9 hq9 hk10
    simp only [kb] at hk10
    refine vv (rcv Tryz.underlying164 Tryz.underlying162 rfl (wu (by omega))) ?_
    refine asi rfl ?_
    refine vnil ?_
    refine V.seq (V.reg rfl ?_)
    refine mvf rfl ?_
    refine mvi rfl ?_
    refine mvi rfl ?_
    refine vo ?_
    refine xyield (vs := [.int _ _, .int _ _]) rfl rfl (hYk _ _ hq6 hq9 (by omega)) ?_
    rintro _ W' (⟨rfl, hJ', hkd'⟩ | ⟨rfl, hJx, hkd'⟩) <;> refine ⟨_, rfl, ?_⟩
    ·skip
     refine vv (rnot (q := false) rfl rfl) ?_
     refine vnil ?_
     refine V.condF rfl ?_
     refine V.skip ?_
     refine V.reg rfl ?_
     refine vv (rbin (bAdd (wi (by omega))) rfl rfl) ?_
     refine mvi rfl ?_
     refine vnil ?_
     refine ⟨rfl, k + 1, ⟨rfl, rfl, rfl, rfl, trivial⟩, ⟨rfl, trivial⟩, ⟨hJ', hkd.trans hkd', by omega⟩, ?_⟩
     show max n m - (k + 1) < max n m - k
     omega
    ·skip
     refine vv (rnot (q := true) rfl rfl) ?_
     refine vnil ?_
     refine V.condT rfl ?_
     refine V.ret ?_
     refine ⟨[], trivial, ?_⟩
     exact ⟨⟨_, rfl⟩, .inr ⟨k, by omega, hJx⟩⟩
   ·intro c8
    refine vnil ?_
    refine V.condF rfl ?_
    refine V.skip ?_
    refine V.seq (V.reg rfl ?_)
    refine mvf rfl ?_
    refine mvi rfl ?_
    refine mvi rfl ?_
    refine vo ?_
    refine xyield (vs := [.int _ _, .int _ _]) rfl rfl (hYk _ _ hq6 (wd_ge (by omega)).symm (by omega)) ?_
    rintro _ W' (⟨rfl, hJ', hkd'⟩ | ⟨rfl, hJx, hkd'⟩) <;> refine ⟨_, rfl, ?_⟩
    ·skip
     refine vv (rnot (q := false) rfl rfl) ?_
     refine vnil ?_
     refine V.condF rfl ?_
     refine V.skip ?_
     refine V.reg rfl ?_
     refine vv (rbin (bAdd (wi (by omega))) rfl rfl) ?_
     refine mvi rfl ?_
     refine vnil ?_
     refine ⟨rfl, k + 1, ⟨rfl, rfl, rfl, rfl, trivial⟩, ⟨rfl, trivial⟩, ⟨hJ', hkd.trans hkd', by omega⟩, ?_⟩
     show max n m - (k + 1) < max n m - k
     omega
    ·skip
     refine vv (rnot (q := true) rfl rfl) ?_
     refine vnil ?_
     refine V.condT rfl ?_
     refine V.ret ?_
     refine ⟨[], trivial, ?_⟩
     exact ⟨⟨_, rfl⟩, .inr ⟨k, by omega, hJx⟩⟩
  ·intro c5
   refine vnil ?_
   refine V.condF rfl ?_
   refine V.skip ?_
   refine V.seq ?_
   refine V.seq (V.reg rfl ?_)
   refine mvi rfl ?_
   refine vv (rldb (v := .slice _ _ _) rfl sc44 b2' rfl) ?_
   refine vv (rlen sl44 rfl) ?_
   refine vlt rfl rfl ?_ ?_
   ·intro c11
    refine vnil ?_
    refine V.condT rfl ?_
    refine V.reg rfl ?_
    refine vv (rldb (v := .slice _ _ _) rfl sc44 b2' rfl) ?_
    refine mvi rfl ?_
    refine vv (rixn hy1 sl44 sz164 rfl rfl (by omega) (by omega)) ?_
    refine vldN hy1 rfl sc164 (by omega) (by omega) ?_
    intro q12 hq12 hk13
    simp only [kb] at hk13
    refine vv (rcv Tryz.underlying164 Tryz.underlying162 rfl (wu (by omega))) ?_
    refine asi rfl ?_
    refine vnil ?_
    refine V.seq (V.reg rfl ?_)
    refine mvf rfl ?_
    refine mvi rfl ?_
    refine mvi rfl ?_
    refine vo ?_
    refine xyield (vs := [.int _ _, .int _ _]) rfl rfl (hYk _ _ (wd_ge (by omega)).symm hq12 (by omega)) ?_
    rintro _ W' (⟨rfl, hJ', hkd'⟩ | ⟨rfl, hJx, hkd'⟩) <;> refine ⟨_, rfl, ?_⟩
    ·skip
     refine vv (rnot (q := false) rfl rfl) ?_
     refine vnil ?_
     refine V.condF rfl ?_
     refine V.skip ?_
     refine V.reg rfl ?_
     refine vv (rbin (bAdd (wi (by omega))) rfl rfl) ?_
     refine mvi rfl ?_
     refine vnil ?_
     refine ⟨rfl, k + 1, ⟨rfl, rfl, rfl, rfl, trivial⟩, ⟨rfl, trivial⟩, ⟨hJ', hkd.trans hkd', by omega⟩, ?_⟩
     show max n m - (k + 1) < max n m - k
     omega
    ·skip
     refine vv (rnot (q := true) rfl rfl) ?_
     refine vnil ?_
     refine V.condT rfl ?_
     refine V.ret ?_
     refine ⟨[], trivial, ?_⟩
     exact ⟨⟨_, rfl⟩, .inr ⟨k, by omega, hJx⟩⟩
   ·intro c11
    refine vnil ?_
    refine V.condF rfl ?_
    refine V.skip ?_
    refine V.seq (V.reg rfl ?_)
    refine mvf rfl ?_
    refine mvi rfl ?_
    refine mvi rfl ?_
    refine vo ?_
    refine xyield (vs := [.int _ _, .int _ _]) rfl rfl (hYk _ _ (wd_ge (by omega)).symm (wd_ge (by omega)).symm (by omega)) ?_
    rintro _ W' (⟨rfl, hJ', hkd'⟩ | ⟨rfl, hJx, hkd'⟩) <;> refine ⟨_, rfl, ?_⟩
    ·skip
     refine vv (rnot (q := false) rfl rfl) ?_
     refine vnil ?_
     refine V.condF rfl ?_
     refine V.skip ?_
     refine V.reg rfl ?_
     refine vv (rbin (bAdd (wi (by omega))) rfl rfl) ?_
     refine mvi rfl ?_
     refine vnil ?_
     refine ⟨rfl, k + 1, ⟨rfl, rfl, rfl, rfl, trivial⟩, ⟨rfl, trivial⟩, ⟨hJ', hkd.trans hkd', by omega⟩, ?_⟩
     show max n m - (k + 1) < max n m - k
     omega
    ·skip
     refine vv (rnot (q := true) rfl rfl) ?_
     refine vnil ?_
     refine V.condT rfl ?_
     refine V.ret ?_
     refine ⟨[], trivial, ?_⟩
     exact ⟨⟨_, rfl⟩, .inr ⟨k, by omega, hJx⟩⟩
 ·intro c4
  refine vnil ?_
  refine V.seq ?_
  refine V.condF rfl ?_
  refine V.exit ?_
  refine ⟨[], trivial, ?_⟩
  exact ⟨⟨_, rfl⟩, .inl (by rw [show max n m = k by omega]; exact hJ)⟩
set_option maxHeartbeats 400000 in
theorem pairs_ok (a1 a2 : Option Addr) (n c m d : Nat) (w : World) :
    Calls Tryz.prog 217 #[.slice a1 n c, .slice a2 m d] w (fun e w' => ∃ b1 b2, b1 = w.heap.size ∧ b2 = w.heap.size + 1 ∧ e = .returned (.func (.func 221) #[] #[.pointer (some ⟨b1, 0, none⟩), .pointer (some ⟨b2, 0, none⟩)]) ∧ Ext w w' ∧ BoxAt w' b1 [.slice a1 n c] 44 ∧ BoxAt w' b2 [.slice a2 m d] 44) := by
 have z0 := Ext.refl w; have hLX : LX = 17592186044416 := rfl; have hLY : LY = 8796093022208 := rfl
 refine enter (args := [.slice a1 n c, .slice a2 m d]) Tryz.func217 rfl rfl (Nat.le_of_ble_eq_true rfl) ?_
 refine V.seq (V.reg rfl ?_)
 refine vo ?_
 refine bxs rfl ?_
 intro W1 x2 b3 nn4
 have s5 := x2.sz
 have z6 := x2
 refine vo ?_
 refine bxs rfl ?_
 intro W7 x8 b9 nn10
 have s11 := x8.sz
 have z12 := z6.trans x8
 replace b3 := b3.ext x8
 refine asn rfl ?_
 refine vnil ?_
 refine V.seq (V.reg rfl ?_)
 refine vv (rmk2 (v := .pointer (some ⟨_, _, none⟩)) (u := .pointer (some ⟨_, _, none⟩)) rfl rfl) ?_
 refine asf rfl ?_
 refine vnil ?_
 refine V.ret ?_
 refine ⟨[.func _ _ _], ⟨rfl, trivial⟩, ?_⟩
 exact ⟨_, _, rfl, by omega, rfl, z12, b3, b9⟩

theorem PK.kd {D : Nat → Prop} {B bo bc : Nat} {X Y : World} (p : PK B bo bc X Y) (hD : ∀ k, D k → k < B ∨ (k ≠ bo ∧ k ≠ bc ∧ ∃ cs T, T ≠ 164 ∧ BoxAt X k cs T)) : KD D X Y :=
  ⟨p.1.below.os, p.1.below.tape, p.1.below.output, p.1.below.size, fun k hk hl => by
    rcases hD k hk with h | ⟨h1, h2, cs, T, hT, hb⟩
    · exact p.1.below.block k h
    · exact (p.2 k _ T _ hb hT h1 h2).trans hb.symm⟩
theorem RN.wdb {k : IntKind} {S : Nat → Prop} {W : World} {a : Option Addr} {n c : Nat} {xs : List Int} (h : RN k S W a n c xs) (h0 : kb k 0) (i : Int) : kb k (wd xs i) := by
  by_cases hi : i.toNat < xs.length
  · refine h.wf _ ?_
    simp [wd, hi]
  · rw [wd_ge (by omega)]; exact h0
theorem vl_take_succ (B : Int) (xs : List Int) (i : Nat) : vl B (xs.take (i + 1)) = vl B (xs.take i) + B ^ i * wd xs i := by
  by_cases h : i < xs.length
  · rw [take_succ_wd xs i h, vl_snoc]
    rw [List.length_take, Nat.min_eq_left (by omega)]
  · rw [wd_ge (by simp; omega), List.take_of_length_le (by omega), List.take_of_length_le (by omega)]; simp
theorem add_step {B v c lo hi : Int} {i : Nat} {out xs ys : List Int} (hl : out.length = i) (h : vl B out + B ^ i * c = vl B (xs.take i) + vl B (ys.take i)) (hv : v = wd xs i + wd ys i + c) (e : B * hi + lo = v) :
    vl B (out ++ [lo]) + B ^ (i + 1) * hi = vl B (xs.take (i + 1)) + vl B (ys.take (i + 1)) := by
  rw [vl_snoc, vl_take_succ, vl_take_succ, hl, Int.pow_succ]
  have : vl B out = vl B (xs.take i) + vl B (ys.take i) - B ^ i * c := by omega
  rw [this]
  have e2 : B ^ i * lo + B ^ i * B * hi = B ^ i * (wd xs i + wd ys i + c) := by rw [← hv, ← e, Int.mul_add, Int.mul_assoc, Int.add_comm]
  rw [Int.mul_add, Int.mul_add] at e2
  omega
/-- The state of the loops of add and sub. -/
structure AI (w : World) (T5 : TypeId) (b5 bo bc b1 b2 : Nat) (f v1 v2 : Value) (out : List Int) (c : Int) (X : World) : Prop where
  ext : Ext w X
  cr : CR X w.heap.size bo bc out c
  x5 : BoxAt X b5 [f] T5
  x1 : BoxAt X b1 [v1] 44
  x2 : BoxAt X b2 [v2] 44
theorem AI.tn {w X Y : World} {T5 : TypeId} {B b5 bo bc b1 b2 : Nat} {f v1 v2 : Value} {out : List Int} {c : Int} (h : AI w T5 b5 bo bc b1 b2 f v1 v2 out c X) (t : Tn B X Y) (hB : w.heap.size ≤ B) : AI w T5 b5 bo bc b1 b2 f v1 v2 out c Y :=
  ⟨t.ext h.ext hB, h.cr.tn t, h.x5.tn t, h.x1.tn t, h.x2.tn t⟩
theorem AI.put {w X Y : World} {T5 : TypeId} {b5 bo bc b1 b2 : Nat} {f v1 v2 : Value} {out out' : List Int} {c c' : Int} (h : AI w T5 b5 bo bc b1 b2 f v1 v2 out c X) (p : PK w.heap.size bo bc X Y) (hC : CR Y w.heap.size bo bc out' c') (hT : T5 ≠ 164) (h5 : b5 ≠ bo ∧ b5 ≠ bc) (h1 : b1 ≠ bo ∧ b1 ≠ bc) (h2 : b2 ≠ bo ∧ b2 ≠ bc) : AI w T5 b5 bo bc b1 b2 f v1 v2 out' c' Y :=
  ⟨h.ext.below p.1.below, hC, h.x5.pk p hT h5.1 h5.2, h.x1.pk p (by decide) h1.1 h1.2, h.x2.pk p (by decide) h2.1 h2.2⟩

set_option maxHeartbeats 400000 in
theorem add_ok (a1 a2 : Option Addr) (n c m d : Nat) (xs ys : List Int) (S S1 S2 : Nat → Prop) (w : World) (hx : RN .u32 S1 w a1 n c xs) (hy : RN .u32 S2 w a2 m d ys) (hn : n ≤ LX) (hm : m ≤ LX) (hu : Up S w) :
    Calls Tryz.prog 206 #[.slice a1 n c, .slice a2 m d] w (fun e w' => ∃ zs, PW S zs w e w' ∧ vl b32 zs = vl b32 xs + vl b32 ys ∧ zs.length = max n m + 1) := by
 have z0 := Ext.refl w; have hLX : LX = 17592186044416 := rfl; have hLY : LY = 8796093022208 := rfl
 have l1 := hx.len; have l2 := hy.len
 refine enter (args := [.slice a1 n c, .slice a2 m d]) Tryz.func206 rfl rfl (Nat.le_of_ble_eq_true rfl) ?_
 refine V.seq (V.reg rfl ?_)
 refine ass rfl ?_
 refine vnil ?_
 refine V.seq (V.reg rfl ?_)
 refine vo ?_
 refine xcall e216 (carrier_ok _) rfl rfl ?_
 rintro _ W1 ⟨bo, bc, ebo, ebc, rfl, x2, hC⟩
 have s3 := x2.sz
 have z4 := x2
 have lC := hC.lt
 refine ⟨_, rfl, ?_⟩
 refine mvt rfl ?_
 refine vv (rext (v := .func _ _ _) rfl rfl) ?_
 refine vv (rext (v := .func _ _ _) rfl rfl) ?_
 refine vo ?_
 refine xal zc199 ?_
 intro W6 x7 b8 nn9
 have s10 := x7.sz
 have z11 := z4.trans x7
 have z12 := x7
 refine vo ?_
 refine st1 (v := .func _ _ _) (cs' := [_]) b8 rfl rfl sz199 rfl rfl rfl rfl ?_
 intro W13 y14 b8
 have z15 := z11.below (y14.below (by omega))
 have z16 := z12.below (y14.below (by omega))
 have s17 := y14.size
 refine asf rfl ?_
 refine vnil ?_
 refine V.seq ?_
 refine V.seq (V.reg rfl ?_)
 refine mvs rfl ?_
 refine mvs rfl ?_
 refine vo ?_
 refine xcall e217 (pairs_ok _ _ _ _ _ _ _) rfl rfl ?_
 rintro _ W18 ⟨b1, b2, eb1, eb2, rfl, x19, hb1, hb2⟩
 have s20 := x19.sz
 have z21 := z15.trans x19
 have z22 := z16.trans x19
 replace b8 := b8.ext x19
 have lb1 := hb1.lt; have lb2 := hb2.lt
 refine ⟨_, rfl, ?_⟩
 refine vnil ?_
 refine V.block ?_
 refine V.rf (gf := 221) rfl e221 (pairs_iter hb1 hb2 ((hx.sub (S' := fun q => q < w.heap.size ∨ q = b1 ∨ q = b2) (fun b hb _ => .inl hb)).ext z21) ((hy.sub (S' := fun q => q < w.heap.size ∨ q = b1 ∨ q = b2) (fun b hb _ => .inl hb)).ext z21) (.inr (.inl rfl)) (.inr (.inr rfl))) (Ext.refl _) (by rintro k (h | rfl | rfl) <;> omega) rfl (fun i X => ∃ out cy, AI w 199 W1.heap.size bo bc b1 b2 (.func (.func 219) #[] #[.pointer (some ⟨bc, 0, none⟩), .pointer (some ⟨bo, 0, none⟩)]) (.slice a1 n c) (.slice a2 m d) out cy X ∧ out.length = i ∧ 0 ≤ cy ∧ cy ≤ 1 ∧ vl b32 out + b32 ^ i * cy = vl b32 (xs.take i) + vl b32 (ys.take i)) (fun _ _ _ => False) (fun i X Y ⟨out, cy, hA, h1, h2⟩ t => ⟨out, cy, hA.tn t (by omega), h1, h2⟩) (fun _ _ _ _ h _ => h) (⟨[], 0, ⟨z21, (hC.ext z22), b8, hb1, hb2⟩, rfl, by omega, by omega, by simp [vl]⟩) ?_ ?_ ?_
 ·intro l23 i24 X25 hi26 hM27 hk28 hs29
  refine V.seq (V.reg rfl ?_)
  refine asi rfl ?_
  refine vnil ?_
  refine V.reg rfl ?_
  refine asi rfl ?_
  refine vnil ?_
  refine ⟨rfl, Kf.refl _ _ _, ?_⟩
  intro Z30 t31
  obtain ⟨out, cy, hA, hlen, hinv⟩ := hi26
  replace hA := hA.tn t31 (by omega)
  have x5 := hA.x5; have kx := hx.wdb (by simp [kb]) i24; have ky := hy.wdb (by simp [kb]) i24; simp only [kb] at kx ky
  refine V.block ?_
  refine V.reg rfl ?_
  refine vv (rldb (v := .func _ _ _) rfl sc199 x5 rfl) ?_
  refine mvi rfl ?_
  refine mvi rfl ?_
  refine vv (rbin (bAdd (wu (by omega))) rfl rfl) ?_
  refine vo ?_
  refine xcall e219 (put_ok _ _ _ _ _ _ _ hA.cr (by omega) (by omega) (by omega) (by omega) (by omega) (by omega) (by omega)) rfl rfl ?_
  rintro _ W8 ⟨rfl, hp, hC2⟩
  refine ⟨_, rfl, ?_⟩
  refine vnil ?_
  refine ⟨⟨hp.1.keeps _, hp.kd ?_⟩, _, _, hA.put hp hC2 (by decide) (by omega) (by omega) (by omega), by simp; omega, ?_⟩
  ·rintro q (h | rfl | rfl)
   ·exact .inl h
   ·exact .inr ⟨by omega, by omega, _, _, by decide, hA.x1⟩
   ·exact .inr ⟨by omega, by omega, _, _, by decide, hA.x2⟩
  ·exact ⟨by omega, by omega, add_step hlen hinv.2.2 rfl (by unfold b32; omega)⟩
 ·intro D32 X33 hD34 hI35 hdf36 hs37
  obtain ⟨out, cy, hA, hlen, hinv⟩ := hI35
  refine V.seq (V.reg rfl ?_)
  refine mvf rfl ?_
  refine vo ?_
  refine xcall e220 (all_ok _ _ _ _ _ _ hA.cr (by omega) (by omega)) rfl rfl ?_
  rintro _ W9 ⟨a', n', c', rfl, hk, hO⟩
  refine ⟨_, rfl, ?_⟩
  have hO9 := hO.rn (S := fun q => w.heap.size ≤ q) (fun b hb _ => hb)
  have ln9 : out.length + 1 = n' := by have := hO9.len; simpa using this
  refine ass rfl ?_
  refine vnil ?_
  refine V.ret ?_
  refine ⟨D32, rfl, (hk.recs _ _ hdf36 rfl), ?_⟩
  have tp := Tn.putObj (B := w.heap.size) (.deferred none) (hk.recs _ _ hdf36 rfl) (by omega) rfl
  refine ⟨[.slice _ _ _], ⟨rfl, trivial⟩, ?_⟩
  have tp := Tn.putObj (B := w.heap.size) (.deferred none) (hk.recs _ _ hdf36 rfl) (by omega) rfl
  refine ⟨_, ⟨_, _, _, rfl, tp.ext (hA.ext.below hk.below) (Nat.le_refl _), (hO.ck (tp.ck fun _ => True) (fun _ _ => trivial)).rn (fun b hb _ => hu b hb)⟩, ?_, by simp; omega⟩
  rw [vl_snoc, hlen, Int.emod_eq_of_lt hinv.1 (by have := hinv.2.1; omega), hinv.2.2, List.take_of_length_le (by omega), List.take_of_length_le (by omega)]
 ·intro _ _ _ _ _ _ h; exact h.elim

theorem sub_step {B v c lo hi : Int} {i : Nat} {out xs ys : List Int} (hl : out.length = i + 1) (h : vl B out + B ^ (i + 1) * c = B * (vl B (xs.take i) - vl B (ys.take i) + B ^ i)) (hv : v = wd xs i + B - 1 - wd ys i + c) (e : B * hi + lo = v) :
    vl B (out ++ [lo]) + B ^ (i + 2) * hi = B * (vl B (xs.take (i + 1)) - vl B (ys.take (i + 1)) + B ^ (i + 1)) := by
  rw [vl_snoc, vl_take_succ, vl_take_succ, hl]
  have e0 : B ^ (i + 2) = B ^ (i + 1) * B := Int.pow_succ ..
  have e2 : B ^ (i + 1) * lo + B ^ (i + 1) * B * hi = B ^ (i + 1) * (wd xs i + B - 1 - wd ys i + c) := by rw [← hv, ← e, Int.mul_add, Int.mul_assoc, Int.add_comm]
  have e1 : B ^ (i + 1) = B ^ i * B := Int.pow_succ ..
  rw [e0]
  rw [e1] at h e2 ⊢
  have : vl B out = B * (vl B (xs.take i) - vl B (ys.take i) + B ^ i) - B ^ i * B * c := by omega
  rw [this]
  grind
theorem sub_end {B c X Y : Int} {M : Nat} {o : Int} {t : List Int} (hB : 2 ≤ B) (hd : Dg B (o :: t)) (hl : t.length = M) (h0 : 0 ≤ c) (h1 : c ≤ 1) (h : vl B (o :: t) + B ^ (M + 1) * c = B * (X - Y + B ^ M)) (hx : X < B ^ M) (hle : Y ≤ X) (hY : 0 ≤ Y) : vl B t = X - Y := by
  rw [vl_cons] at h
  obtain ⟨⟨d1, d2⟩, d3⟩ := Dg.cons.1 hd
  have p := vl_nonneg (by omega) d3
  have q := vl_lt (by omega) d3
  rw [hl] at q
  have e1 : B ^ (M + 1) = B * B ^ M := by rw [Int.pow_succ, Int.mul_comm]
  rw [e1] at h
  have h2 : o = B * (X - Y + B ^ M - vl B t - B ^ M * c) := by grind
  have h3 : X - Y + B ^ M - vl B t - B ^ M * c = 0 := by
    rcases Int.lt_trichotomy (X - Y + B ^ M - vl B t - B ^ M * c) 0 with hh | hh | hh
    · have := Int.mul_lt_mul_of_pos_left hh (show 0 < B by omega); omega
    · exact hh
    · have : B * 1 ≤ B * (X - Y + B ^ M - vl B t - B ^ M * c) := Int.mul_le_mul_of_nonneg_left (by omega) (by omega)
      omega
  have : c = 0 ∨ c = 1 := by omega
  rcases this with rfl | rfl
  · omega
  · omega

set_option maxHeartbeats 400000 in
theorem sub_ok (a1 a2 : Option Addr) (n c m d : Nat) (xs ys : List Int) (S S1 S2 : Nat → Prop) (w : World) (hx : RN .u32 S1 w a1 n c xs) (hy : RN .u32 S2 w a2 m d ys) (hn : n ≤ LX) (hm : m ≤ n) (hle : vl b32 ys ≤ vl b32 xs) (hu : Up S w) :
    Calls Tryz.prog 208 #[.slice a1 n c, .slice a2 m d] w (fun e w' => ∃ zs, PW S zs w e w' ∧ vl b32 zs = vl b32 xs - vl b32 ys ∧ zs.length = n) := by
 have z0 := Ext.refl w; have hLX : LX = 17592186044416 := rfl; have hLY : LY = 8796093022208 := rfl
 have l1 := hx.len; have l2 := hy.len
 refine enter (args := [.slice a1 n c, .slice a2 m d]) Tryz.func208 rfl rfl (Nat.le_of_ble_eq_true rfl) ?_
 refine V.seq (V.reg rfl ?_)
 refine ass rfl ?_
 refine vnil ?_
 refine V.seq (V.reg rfl ?_)
 refine vo ?_
 refine xcall e216 (carrier_ok _) rfl rfl ?_
 rintro _ W1 ⟨bo, bc, ebo, ebc, rfl, x2, hC⟩
 have s3 := x2.sz
 have z4 := x2
 have lC := hC.lt
 refine ⟨_, rfl, ?_⟩
 refine mvt rfl ?_
 refine vv (rext (v := .func _ _ _) rfl rfl) ?_
 refine vv (rext (v := .func _ _ _) rfl rfl) ?_
 refine vo ?_
 refine xal zc199 ?_
 intro W6 x7 b8 nn9
 have s10 := x7.sz
 have z11 := z4.trans x7
 have z12 := x7
 refine vo ?_
 refine st1 (v := .func _ _ _) (cs' := [_]) b8 rfl rfl sz199 rfl rfl rfl rfl ?_
 intro W13 y14 b8
 have z15 := z11.below (y14.below (by omega))
 have z16 := z12.below (y14.below (by omega))
 have s17 := y14.size
 refine asf rfl ?_
 refine vnil ?_
 refine V.seq (V.reg rfl ?_)
 refine vv (rldb (v := .func _ _ _) rfl sc199 b8 rfl) ?_
 refine vo ?_
 refine xcall e219 (put_ok _ _ _ _ _ _ _ (hC.ext z16) (by omega) (by omega) (by omega) (by simp) (by omega) (by omega) (by omega)) rfl rfl ?_
 rintro _ W8 ⟨rfl, hp, hC2⟩
 refine ⟨_, rfl, ?_⟩
 have hC1 := hC2
 have hz2 := (z15).below hp.1.below
 have b18 := b8.pk hp (by decide) (by omega) (by omega)
 have s8 := hp.1.below.size; have lC2 := hC1.lt
 refine vnil ?_
 refine V.seq ?_
 refine V.seq (V.reg rfl ?_)
 refine mvs rfl ?_
 refine mvs rfl ?_
 refine vo ?_
 refine xcall e217 (pairs_ok _ _ _ _ _ _ _) rfl rfl ?_
 rintro _ W20 ⟨b1, b2, eb1, eb2, rfl, x21, hb1, hb2⟩
 have s22 := x21.sz
 have z23 := hz2.trans x21
 have z24 := x21
 replace b18 := b18.ext x21
 have lb1 := hb1.lt; have lb2 := hb2.lt
 refine ⟨_, rfl, ?_⟩
 refine vnil ?_
 refine V.block ?_
 refine V.rf (gf := 221) rfl e221 (pairs_iter hb1 hb2 ((hx.sub (S' := fun q => q < w.heap.size ∨ q = b1 ∨ q = b2) (fun b hb _ => .inl hb)).ext z23) ((hy.sub (S' := fun q => q < w.heap.size ∨ q = b1 ∨ q = b2) (fun b hb _ => .inl hb)).ext z23) (.inr (.inl rfl)) (.inr (.inr rfl))) (Ext.refl _) (by rintro k (h | rfl | rfl) <;> omega) rfl (fun i X => ∃ out cy, AI w 199 W1.heap.size bo bc b1 b2 (.func (.func 219) #[] #[.pointer (some ⟨bc, 0, none⟩), .pointer (some ⟨bo, 0, none⟩)]) (.slice a1 n c) (.slice a2 m d) out cy X ∧ out.length = i + 1 ∧ 0 ≤ cy ∧ cy ≤ 1 ∧ Dg b32 out ∧ vl b32 out + b32 ^ (i + 1) * cy = b32 * (vl b32 (xs.take i) - vl b32 (ys.take i) + b32 ^ i)) (fun _ _ _ => False) (fun i X Y ⟨out, cy, hA, h1, h2⟩ t => ⟨out, cy, hA.tn t (by omega), h1, h2⟩) (fun _ _ _ _ h _ => h) (⟨_, _, ⟨z23, (hC1.ext z24), b18, hb1, hb2⟩, rfl, by simp, by simp, by simp [Dg, b32], by simp [vl, b32]⟩) ?_ ?_ ?_
 ·intro l25 i26 X27 hi28 hM29 hk30 hs31
  refine V.seq (V.reg rfl ?_)
  refine asi rfl ?_
  refine vnil ?_
  refine V.reg rfl ?_
  refine asi rfl ?_
  refine vnil ?_
  refine ⟨rfl, Kf.refl _ _ _, ?_⟩
  intro Z32 t33
  obtain ⟨out, cy, hA, hlen, hinv⟩ := hi28
  replace hA := hA.tn t33 (by omega)
  have x5 := hA.x5; have kx := hx.wdb (by simp [kb]) i26; have ky := hy.wdb (by simp [kb]) i26; simp only [kb] at kx ky
  refine V.block ?_
  refine V.reg rfl ?_
  refine vv (rldb (v := .func _ _ _) rfl sc199 x5 rfl) ?_
  refine mvi rfl ?_
  refine vv (rbin (bAdd (wu (by omega))) rfl rfl) ?_
  refine vv (rbin (bSub (wu (by omega))) rfl rfl) ?_
  refine mvi rfl ?_
  refine vv (rbin (bSub (wu (by omega))) rfl rfl) ?_
  refine vo ?_
  refine xcall e219 (put_ok _ _ _ _ _ _ _ hA.cr (by omega) (by omega) (by omega) (by omega) (by omega) (by omega) (by omega)) rfl rfl ?_
  rintro _ W9 ⟨rfl, hp, hC2⟩
  refine ⟨_, rfl, ?_⟩
  refine vnil ?_
  refine ⟨⟨hp.1.keeps _, hp.kd ?_⟩, _, _, hA.put hp hC2 (by decide) (by omega) (by omega) (by omega), by simp; omega, ?_⟩
  ·rintro q (h | rfl | rfl)
   ·exact .inl h
   ·exact .inr ⟨by omega, by omega, _, _, by decide, hA.x1⟩
   ·exact .inr ⟨by omega, by omega, _, _, by decide, hA.x2⟩
  ·exact ⟨by omega, by omega, Dg.append.2 ⟨hinv.2.2.1, by simp [Dg, b32]; omega⟩, sub_step hlen hinv.2.2.2 rfl (by unfold b32; omega)⟩
 ·intro D34 X35 hD36 hI37 hdf38 hs39
  obtain ⟨out, cy, hA, hlen, hinv⟩ := hI37
  refine V.seq (V.reg rfl ?_)
  refine mvf rfl ?_
  refine vo ?_
  refine xcall e220 (all_ok _ _ _ _ _ _ hA.cr (by omega) (by omega)) rfl rfl ?_
  rintro _ W9 ⟨a', n', c', rfl, hk, hO⟩
  refine ⟨_, rfl, ?_⟩
  have hO9 := hO.rn (S := fun q => w.heap.size ≤ q) (fun b hb _ => hb)
  have ln9 : out.length + 1 = n' := by have := hO9.len; simpa using this
  refine ass rfl ?_
  refine vnil ?_
  refine V.seq (V.reg rfl ?_)
  refine mvs rfl ?_
  refine mvs rfl ?_
  refine vv (rlen sl44 rfl) ?_
  refine vv (rbin (bSub (wi (by omega))) rfl rfl) ?_
  have hsl := (hO9).cut (l := 1) (m := n + 1) (by omega) (by omega)
  refine vv (rsll (l := 1) (m := n + 1) hO9 sl44 sz164 rfl rfl rfl (by omega) (by omega) (by omega) (by omega)) ?_
  refine ass rfl ?_
  refine vnil ?_
  refine V.ret ?_
  refine ⟨D34, rfl, (hk.recs _ _ hdf38 rfl), ?_⟩
  have tp := Tn.putObj (B := w.heap.size) (.deferred none) (hk.recs _ _ hdf38 rfl) (by omega) rfl
  refine ⟨[.slice _ _ _], ⟨rfl, trivial⟩, ?_⟩
  have tp := Tn.putObj (B := w.heap.size) (.deferred none) (hk.recs _ _ hdf38 rfl) (by omega) rfl
  refine ⟨_, ⟨_, _, _, rfl, tp.ext (hA.ext.below hk.below) (Nat.le_refl _), (hsl.ck (tp.ck _)).sub (fun b _ hb => hu b hb)⟩, ?_, by simp; omega⟩
  obtain ⟨i1, i2, i3, i4⟩ := hinv
  rw [show max n m = n by omega] at hlen i4
  rw [List.take_of_length_le (by omega), List.take_of_length_le (by omega)] at i4
  match out, hlen, i3, i4 with
  | o :: t, hlen, i3, i4 =>
   have ht : t.length = n := by simpa using hlen
   have e : ((o :: t ++ [cy % 4294967296]).take (n + 1)).drop 1 = t := by subst ht; simp
   rw [e]
   have hq := vl_lt (B := b32) (by decide) hx.dg32
   rw [hx.len] at hq
   exact sub_end (by decide) i3 ht i1 i2 i4 hq hle (vl_nonneg (by decide) hy.dg32)
 ·intro _ _ _ _ _ _ h; exact h.elim

theorem dg_len_lt {u v : Int} (hv : 0 ≤ v) (hu : 0 ≤ u) (h : (dg b32 u).length < (dg b32 v).length) : u < v := by
  rcases Int.lt_or_le u v with h1 | h1
  · exact h1
  · have h2 := vl_lt (B := b32) (by decide) (Dg.dg (by decide) u)
    rw [vl_dg (by decide) hu] at h2
    have := dg_length_le (B := b32) (by decide) (show v < b32 ^ (dg b32 u).length by omega)
    omega
theorem cmp_step {xs ys : List Int} {i : Nat} {cy s : Int} (hx : Dg b32 xs) (hy : Dg b32 ys) (hlx : i < xs.length) (hly : i < ys.length) (h : cy = sg (vl b32 (xs.take i) - vl b32 (ys.take i)))
    (hs : (wd xs i < wd ys i ∧ s = -1) ∨ (wd ys i < wd xs i ∧ s = 1) ∨ (wd xs i = wd ys i ∧ s = cy)) : s = sg (vl b32 (xs.take (i + 1)) - vl b32 (ys.take (i + 1))) := by
  rw [vl_take_succ, vl_take_succ]
  have p1 := vl_nonneg (B := b32) (by decide) (hx.take i)
  have p2 := vl_nonneg (B := b32) (by decide) (hy.take i)
  have q1 := vl_lt (B := b32) (by decide) (hx.take i)
  have q2 := vl_lt (B := b32) (by decide) (hy.take i)
  rw [List.length_take, Nat.min_eq_left (by omega)] at q1 q2
  generalize vl b32 (xs.take i) = X at *
  generalize vl b32 (ys.take i) = Y at *
  generalize wd xs i = x at *
  generalize wd ys i = y at *
  have hp : 0 < b32 ^ i := pow_pos' (by decide) i
  generalize b32 ^ i = q at *
  rcases hs with ⟨h1, rfl⟩ | ⟨h1, rfl⟩ | ⟨h1, rfl⟩
  · have : q * x + q ≤ q * y := by
      have := Int.mul_le_mul_of_nonneg_left (show x + 1 ≤ y by omega) (Int.le_of_lt hp)
      rw [Int.mul_add] at this; omega
    unfold sg; rw [if_pos (by omega)]
  · have : q * y + q ≤ q * x := by
      have := Int.mul_le_mul_of_nonneg_left (show y + 1 ≤ x by omega) (Int.le_of_lt hp)
      rw [Int.mul_add] at this; omega
    unfold sg; rw [if_neg (by omega), if_neg (by omega)]
  · subst h1; rw [h]; congr 1; omega
theorem sg_cmp {u v s : Int} (h : s = sg (u - v)) : (s < 0 ↔ u < v) ∧ (s = 0 ↔ u = v) := by
  unfold sg at h
  split at h
  · omega
  · split at h <;> omega
structure CI (w : World) (b6 b1 b2 : Nat) (v1 v2 : Value) (cy : Int) (X : World) : Prop where
  ext : Ext w X
  x6 : BoxAt X b6 [.int .i64 cy] 3
  x1 : BoxAt X b1 [v1] 44
  x2 : BoxAt X b2 [v2] 44
theorem CI.tn {w X Y : World} {B b6 b1 b2 : Nat} {v1 v2 : Value} {cy : Int} (h : CI w b6 b1 b2 v1 v2 cy X) (t : Tn B X Y) (hB : w.heap.size ≤ B) : CI w b6 b1 b2 v1 v2 cy Y :=
  ⟨t.ext h.ext hB, h.x6.tn t, h.x1.tn t, h.x2.tn t⟩

set_option maxHeartbeats 400000 in
theorem cmp_ok (a1 a2 : Option Addr) (n c m d : Nat) (u v : Int) (S1 S2 : Nat → Prop) (w : World) (hx : RN .u32 S1 w a1 n c (dg b32 u)) (hy : RN .u32 S2 w a2 m d (dg b32 v)) (hu : 0 ≤ u) (hv : 0 ≤ v) :
    Calls Tryz.prog 207 #[.slice a1 n c, .slice a2 m d] w (fun e w' => ∃ s, e = .returned (.int .i64 s) ∧ Ext w w' ∧ (s < 0 ↔ u < v) ∧ (s = 0 ↔ u = v)) := by
 have z0 := Ext.refl w; have hLX : LX = 17592186044416 := rfl; have hLY : LY = 8796093022208 := rfl
 have l1 := hx.len; have l2 := hy.len; have q1 := hx.cap; have q2 := hy.cap; have q3 := hx.max; have q4 := hy.max
 refine enter (args := [.slice a1 n c, .slice a2 m d]) Tryz.func207 rfl rfl (Nat.le_of_ble_eq_true rfl) ?_
 refine V.seq (V.reg rfl ?_)
 refine asi rfl ?_
 refine vnil ?_
 refine V.seq ?_
 refine V.seq (V.reg rfl ?_)
 refine mvs rfl ?_
 refine vv (rlen sl44 rfl) ?_
 refine mvs rfl ?_
 refine vv (rlen sl44 rfl) ?_
 refine vv (rbin (bSub (wi (by omega))) rfl rfl) ?_
 refine asi rfl ?_
 refine vnil ?_
 refine V.seq (V.reg rfl ?_)
 refine mvi rfl ?_
 refine vne rfl rfl ?_ ?_
 ·intro c1
  refine vnil ?_
  refine V.condT rfl ?_
  refine V.seq (V.reg rfl ?_)
  refine mvi rfl ?_
  refine asi rfl ?_
  refine vnil ?_
  refine V.ret ?_
  refine ⟨[.int _ _], ⟨rfl, trivial⟩, ?_⟩
  refine ⟨_, rfl, (Ext.refl w), ?_⟩
  have e1 := @dg_len_lt u v hv hu
  have e2 := @dg_len_lt v u hu hv
  rw [hx.len, hy.len] at e1 e2
  refine ⟨⟨fun h => e1 (by omega), fun h => ?_⟩, ⟨fun h => by omega, fun h => ?_⟩⟩
  ·rcases Nat.lt_trichotomy n m with h1 | h1 | h1
   ·omega
   ·omega
   ·have := e2 h1; omega
  ·subst h; have := hx.len; have := hy.len; omega
 ·intro c1
  refine vnil ?_
  refine V.condF rfl ?_
  refine V.skip ?_
  refine V.seq (V.reg rfl ?_)
  refine vo ?_
  refine xal zc3 ?_
  intro W2 x3 b4 nn5
  have s6 := x3.sz
  have z7 := x3
  refine vo ?_
  refine st1 (v := .int _ _) (cs' := [_]) b4 rfl rfl sz3 rfl rfl rfl rfl ?_
  intro W8 y9 b4
  have z10 := z7.below (y9.below (by omega))
  have s11 := y9.size
  refine vnil ?_
  refine V.seq ?_
  refine V.seq (V.reg rfl ?_)
  refine mvs rfl ?_
  refine mvs rfl ?_
  refine vo ?_
  refine xcall e217 (pairs_ok _ _ _ _ _ _ _) rfl rfl ?_
  rintro _ W12 ⟨b1, b2, eb1, eb2, rfl, x13, hb1, hb2⟩
  have s14 := x13.sz
  have z15 := z10.trans x13
  replace b4 := b4.ext x13
  have lb1 := hb1.lt; have lb2 := hb2.lt
  refine ⟨_, rfl, ?_⟩
  refine vnil ?_
  refine V.block ?_
  refine V.rf (gf := 221) rfl e221 (pairs_iter hb1 hb2 ((hx.sub (S' := fun q => q < w.heap.size ∨ q = b1 ∨ q = b2) (fun b hb _ => .inl hb)).ext z15) ((hy.sub (S' := fun q => q < w.heap.size ∨ q = b1 ∨ q = b2) (fun b hb _ => .inl hb)).ext z15) (.inr (.inl rfl)) (.inr (.inr rfl))) (Ext.refl _) (by rintro k (h | rfl | rfl) <;> omega) rfl (fun i X => ∃ cy, CI w (w.heap.size) b1 b2 (.slice a1 n c) (.slice a2 m d) cy X ∧ cy = sg (vl b32 ((dg b32 u).take i) - vl b32 ((dg b32 v).take i))) (fun _ _ _ => False) (fun i X Y ⟨cy, hA, h1⟩ t => ⟨cy, hA.tn t (by omega), h1⟩) (fun _ _ _ _ h _ => h) (⟨_, ⟨z15, b4, hb1, hb2⟩, by simp [vl, sg]⟩) ?_ ?_ ?_
  ·intro l16 i17 X18 hi19 hM20 hk21 hs22
   refine V.seq (V.reg rfl ?_)
   refine asi rfl ?_
   refine vnil ?_
   refine V.reg rfl ?_
   refine asi rfl ?_
   refine vnil ?_
   refine ⟨rfl, Kf.refl _ _ _, ?_⟩
   intro Z23 t24
   obtain ⟨cy, hA, hinv⟩ := hi19
   replace hA := hA.tn t24 (by omega); have x6 := hA.x6
   refine V.block ?_
   refine V.block ?_
   refine V.seq (V.reg rfl ?_)
   refine mvi rfl ?_
   refine mvi rfl ?_
   refine vlt rfl rfl ?_ ?_
   ·intro c25
    refine asb rfl ?_
    refine vnil ?_
    refine V.condT rfl ?_
    refine V.reg rfl ?_
    refine vo ?_
    refine st1 (v := .int _ _) (cs' := [_]) x6 rfl rfl sz3 rfl rfl rfl rfl ?_
    intro W26 y27 x6
    have s28 := y27.size
    refine vnil ?_
    exact ⟨Kf.wr y27 hA.x6 (by rintro (h | h | h) <;> omega), _, ⟨hA.ext.below (y27.below (by omega)), x6, hA.x1.wr y27 (by omega), hA.x2.wr y27 (by omega)⟩, cmp_step hx.dg32 hy.dg32 (by omega) (by omega) hinv (.inl ⟨by assumption, rfl⟩)⟩
   ·intro c25
    refine asb rfl ?_
    refine vnil ?_
    refine V.condF rfl ?_
    refine V.seq (V.reg rfl ?_)
    refine mvi rfl ?_
    refine mvi rfl ?_
    refine vgt rfl rfl ?_ ?_
    ·intro c29
     refine asb rfl ?_
     refine vnil ?_
     refine V.condT rfl ?_
     refine V.reg rfl ?_
     refine vo ?_
     refine st1 (v := .int _ _) (cs' := [_]) x6 rfl rfl sz3 rfl rfl rfl rfl ?_
     intro W30 y31 x6
     have s32 := y31.size
     refine vnil ?_
     exact ⟨Kf.wr y31 hA.x6 (by rintro (h | h | h) <;> omega), _, ⟨hA.ext.below (y31.below (by omega)), x6, hA.x1.wr y31 (by omega), hA.x2.wr y31 (by omega)⟩, cmp_step hx.dg32 hy.dg32 (by omega) (by omega) hinv (.inr (.inl ⟨by assumption, rfl⟩))⟩
    ·intro c29
     refine asb rfl ?_
     refine vnil ?_
     refine V.condF rfl ?_
     refine V.skip ?_
     exact ⟨Kf.refl _ _ _, _, hA, cmp_step hx.dg32 hy.dg32 (by omega) (by omega) hinv (.inr (.inr ⟨by omega, rfl⟩))⟩
  ·intro D33 X34 hD35 hI36 hdf37 hs38
   obtain ⟨cy, hA, hinv⟩ := hI36
   have x6 := hA.x6
   refine V.seq (V.reg rfl ?_)
   refine vv (rldb (v := .int _ _) rfl sc3 x6 rfl) ?_
   refine asi rfl ?_
   refine vnil ?_
   refine V.ret ?_
   refine ⟨D33, rfl, hdf37, ?_⟩
   have tp := Tn.putObj (B := w.heap.size) (.deferred none) hdf37 (by omega) rfl
   have x6 := x6.tn tp
   refine ⟨[.int _ _], ⟨rfl, trivial⟩, ?_⟩
   have tp := Tn.putObj (B := w.heap.size) (.deferred none) hdf37 (by omega) rfl
   rw [show max n m = n by omega, List.take_of_length_le (by omega), List.take_of_length_le (by omega), vl_dg (by decide) hu, vl_dg (by decide) hv] at hinv
   exact ⟨_, rfl, tp.ext hA.ext (Nat.le_refl _), sg_cmp hinv⟩
  ·intro _ _ _ _ _ _ h; exact h.elim
end Go.Proofs.YtknbjfefeeojlaaGreat
/- Package whole: mul, small, div. -/
namespace Go.Proofs.YtknbjfefeeojlaaGreat
open Go.RowKit
attribute [local irreducible] RV VH V OpF Calls
theorem mul_bd {x y M N : Int} (h0 : 0 ≤ x) (h1 : x ≤ M) (h2 : 0 ≤ y) (h3 : y ≤ N) : 0 ≤ x * y ∧ x * y ≤ M * N :=
  ⟨Int.mul_nonneg h0 h2, Int.mul_le_mul h1 h3 h2 (Int.le_trans h0 h1)⟩
theorem vl_set {B : Int} : ∀ (xs : List Int) (i : Nat) (z : Int), i < xs.length → vl B (xs.set i z) = vl B xs + B ^ i * (z - wd xs i)
  | [], _, _, h => by simp at h
  | x :: xs, 0, z, _ => by simp [vl, wd]; omega
  | x :: xs, i + 1, z, h => by
    rw [List.set_cons_succ, vl_cons, vl_cons, vl_set xs i z (by simpa using h), Int.pow_succ]
    have : wd (x :: xs) ((i + 1 : Nat) : Int) = wd xs i := by simp only [wd, Int.toNat_natCast, List.getD_cons_succ]
    rw [this]
    grind
theorem vl_set' {B z : Int} {xs : List Int} {i : Int} (h0 : 0 ≤ i) (h : i < xs.length) : vl B (xs.set i.toNat z) = vl B xs + B ^ i.toNat * (z - wd xs i) := by
  have := vl_set (B := B) xs i.toNat z (by omega)
  rwa [show ((i.toNat : Nat) : Int) = i by omega] at this
theorem wd_set_ne {xs : List Int} {i : Nat} {j z : Int} (h : j.toNat ≠ i) : wd (xs.set i z) j = wd xs j := by
  simp only [wd, List.getD_eq_getElem?_getD, List.getElem?_set]
  rw [if_neg (fun e => h e.symm)]
theorem vl_zeros (B : Int) : ∀ n, vl B (List.replicate n 0) = 0
  | 0 => rfl
  | n + 1 => by rw [List.replicate_succ, vl_cons, vl_zeros B n]; simp
theorem wd_zeros (n : Nat) (i : Int) : wd (List.replicate n 0) i = 0 := by
  simp only [wd, List.getD_eq_getElem?_getD, List.getElem?_replicate]; split <;> rfl
theorem mul_in {B c hi lo x q2 q3 os : Int} {i k : Nat} {A Y Yk : Int} (h : os + B ^ (i + k) * c = A * Y + B ^ i * x * Yk) (h2 : B * hi + lo = c + (x * q2 + q3)) :
    os + B ^ (i + k) * (lo - q3) + B ^ (i + (k + 1)) * hi = A * Y + B ^ i * x * (Yk + B ^ k * q2) := by
  have e1 : B ^ (i + (k + 1)) = B ^ i * B ^ k * B := by rw [← Nat.add_assoc, Int.pow_succ, Int.pow_add]
  have e2 : B ^ (i + k) = B ^ i * B ^ k := Int.pow_add ..
  rw [e1]; rw [e2] at h ⊢
  clear e1 e2
  generalize B ^ i = p at *
  generalize B ^ k = r at *
  have e3 : p * r * (B * hi + lo) = p * r * (c + (x * q2 + q3)) := by rw [h2]
  grind
theorem mul_in2 {os ys : List Int} {p k : Nat} {c x y o v A Y : Int} (hl : p + k < os.length) (ho : o = wd os ((p : Int) + k)) (hy : y = wd ys k) (hv : v = c + (x * y + o)) (h : vl b32 os + b32 ^ (p + k) * c = A * Y + b32 ^ p * x * vl b32 (ys.take k)) :
    vl b32 (os.set ((p : Int) + k).toNat (v % 4294967296)) + b32 ^ (p + (k + 1)) * (v / 4294967296) = A * Y + b32 ^ p * x * vl b32 (ys.take (k + 1)) := by
  rw [vl_set' (by omega) (by omega), vl_take_succ, show ((p : Int) + k).toNat = p + k by omega, ← ho, ← hy]
  exact mul_in h (by unfold b32; omega)
theorem mul_out {os xs ys : List Int} {p m : Nat} {c x : Int} (hm : ys.length = m) (hl : p + m < os.length) (hx : x = wd xs p) (hz : wd os ((p + m : Nat) : Int) = 0) (c0 : 0 ≤ c) (c1 : c ≤ 4294967295) (h : vl b32 os + b32 ^ (p + m) * c = vl b32 (xs.take p) * vl b32 ys + b32 ^ p * x * vl b32 (ys.take m)) :
    vl b32 (os.set ((p : Int) + m).toNat (c % 4294967296)) = vl b32 (xs.take (p + 1)) * vl b32 ys := by
  rw [vl_set' (by omega) (by omega), vl_take_succ, show ((p : Int) + m).toNat = p + m by omega, Int.emod_eq_of_lt c0 (by omega)]
  rw [show ((p + m : Nat) : Int) = (p : Int) + m by omega] at hz
  rw [hz, Int.sub_zero, h, List.take_of_length_le (l := ys) (by omega), ← hx, Int.add_mul]

set_option maxHeartbeats 400000 in
theorem mul_ok (a1 a2 : Option Addr) (n c m d : Nat) (xs ys : List Int) (S S1 S2 : Nat → Prop) (w : World) (hx : RN .u32 S1 w a1 n c xs) (hy : RN .u32 S2 w a2 m d ys) (hn : n ≤ LX) (hm : m ≤ LX) (hu : Up S w) :
    Calls Tryz.prog 205 #[.slice a1 n c, .slice a2 m d] w (fun e w' => ∃ zs, PW S zs w e w' ∧ vl b32 zs = vl b32 xs * vl b32 ys ∧ zs.length = n + m) := by
 have z0 := Ext.refl w; have hLX : LX = 17592186044416 := rfl; have hLY : LY = 8796093022208 := rfl
 have l1 := hx.len; have l2 := hy.len
 refine enter (args := [.slice a1 n c, .slice a2 m d]) Tryz.func205 rfl rfl (Nat.le_of_ble_eq_true rfl) ?_
 refine V.seq (V.reg rfl ?_)
 refine ass rfl ?_
 refine vnil ?_
 refine V.seq (V.reg rfl ?_)
 refine mvs rfl ?_
 refine vv (rlen sl44 rfl) ?_
 refine mvs rfl ?_
 refine vv (rlen sl44 rfl) ?_
 refine vv (rbin (bAdd (wi (by omega))) rfl rfl) ?_
 refine vo ?_
 refine xmk (n + m) sl44 in164 (by simp [kb]) rfl rfl (by omega) (by omega) (by omega) ?_
 intro W1 x2 out n3
 have s4 := x2.sz
 have z5 := x2
 refine ass rfl ?_
 refine vnil ?_
 refine V.seq ?_
 refine V.seq (V.reg rfl ?_)
 refine mvs rfl ?_
 refine vv (rlen sl44 rfl) ?_
 refine mvi rfl ?_
 refine vnil ?_
 refine V.block ?_
 refine V.loopK (ι := Nat × List Int) [(1, .slice _ _ _), (5, .slice _ _ _), (17, .slice _ _ _), (18, .int _ _)] (fun ⟨p, os⟩ => [(19, .int .i64 (p : Int))]) (fun ⟨p, os⟩ W => Ext w W ∧ p ≤ n ∧ AR .u32 W (w.heap.size) 164 (n + m) os ∧ vl b32 os = vl b32 (xs.take p) * vl b32 ys ∧ ∀ j : Nat, p + m ≤ j → wd os j = 0) (fun ⟨p, os⟩ => n - p) ((0, _)) ⟨rfl, rfl, rfl, rfl, trivial⟩ ⟨rfl, trivial⟩ ⟨z5, Nat.zero_le _, out, by simp [vl_zeros, vl], fun j _ => wd_zeros _ _⟩ ?_
 intro i7 E8 W6 h9
 obtain ⟨p, os⟩ := i7
 simp only at h9
 show V _ _ _ _ _ _ (ups (ups _ _) [(19, .int .i64 (p : Int))]) _
 obtain ⟨x10, hp, hA, hinv, hz⟩ := h9
 have s11 := x10.sz
 have z12 := x10
 have lA := hA.len; have lb := hA.box.lt
 refine V.seq (V.reg rfl ?_)
 refine vlt rfl rfl ?_ ?_
 ·intro c13
  refine vnil ?_
  refine V.seq ?_
  refine V.condT rfl ?_
  refine V.skip ?_
  refine V.seq ?_
  refine V.block ?_
  refine V.seq (V.reg rfl ?_)
  refine mvi rfl ?_
  refine vv (rixn (hx.ext z12) sl44 sz164 rfl rfl (by omega) (by omega)) ?_
  refine vldN (hx.ext z12) rfl sc164 (by omega) (by omega) ?_
  intro q14 hq14 hk15
  simp only [kb] at hk15
  refine asi rfl ?_
  refine asi rfl ?_
  refine vnil ?_
  refine V.seq (V.reg rfl ?_)
  refine asi rfl ?_
  refine vnil ?_
  refine V.seq ?_
  refine V.seq (V.reg rfl ?_)
  refine mvs rfl ?_
  refine vv (rlen sl44 rfl) ?_
  refine mvi rfl ?_
  refine vnil ?_
  refine V.block ?_
  refine V.loopK (ι := Nat × List Int × Int) [(1, .slice _ _ _), (5, .slice _ _ _), (6, .int _ _), (7, .int _ _), (17, .slice _ _ _), (18, .int _ _), (19, .int _ _), (24, .slice _ _ _), (25, .int _ _)] (fun ⟨k, os, cy⟩ => [(26, .int .i64 (k : Int)), (8, .int .u64 cy)]) (fun ⟨k, os, cy⟩ W => Ext w W ∧ k ≤ m ∧ AR .u32 W (w.heap.size) 164 (n + m) os ∧ 0 ≤ cy ∧ cy ≤ 4294967295 ∧ vl b32 os + b32 ^ (p + k) * cy = vl b32 (xs.take p) * vl b32 ys + b32 ^ p * q14 * vl b32 (ys.take k) ∧ ∀ j : Nat, p + m ≤ j → wd os j = 0) (fun ⟨k, os, cy⟩ => m - k) ((0, _, _)) ⟨rfl, rfl, rfl, rfl, rfl, rfl, rfl, rfl, rfl, trivial⟩ ⟨rfl, rfl, trivial⟩ ⟨z12, Nat.zero_le _, hA, by omega, by omega, by simp [hinv, vl], hz⟩ ?_
  intro i17 E18 W16 h19
  obtain ⟨k, os, cy⟩ := i17
  simp only at h19
  show V _ _ _ _ _ _ (ups (ups _ _) [(26, .int .i64 (k : Int)), (8, .int .u64 cy)]) _
  obtain ⟨x20, hk, hA, c0, c1, hinv, hz⟩ := h19
  have s21 := x20.sz
  have z22 := x20
  have lA := hA.len; have lb := hA.box.lt
  refine V.seq (V.reg rfl ?_)
  refine vlt rfl rfl ?_ ?_
  ·intro c23
   refine vnil ?_
   refine V.seq ?_
   refine V.condT rfl ?_
   refine V.skip ?_
   refine V.seq ?_
   refine V.block ?_
   refine V.seq (V.reg rfl ?_)
   refine mvi rfl ?_
   refine vv (rixn (hy.ext z22) sl44 sz164 rfl rfl (by omega) (by omega)) ?_
   refine vldN (hy.ext z22) rfl sc164 (by omega) (by omega) ?_
   intro q24 hq24 hk25
   simp only [kb] at hk25
   refine asi rfl ?_
   refine asi rfl ?_
   refine vnil ?_
   refine V.seq (V.reg rfl ?_)
   refine mvi rfl ?_
   refine mvi rfl ?_
   refine vv (rcv Tryz.underlying164 Tryz.underlying162 rfl (wu (by omega))) ?_
   refine mvi rfl ?_
   refine vv (rcv Tryz.underlying164 Tryz.underlying162 rfl (wu (by omega))) ?_
   have hxy := mul_bd hk15.1 hk15.2 hk25.1 hk25.2
   refine vv (rbin (bMul (wu (by omega))) rfl rfl) ?_
   refine mvs rfl ?_
   refine mvi rfl ?_
   refine mvi rfl ?_
   refine vv (rbin (bAdd (wi (by omega))) rfl rfl) ?_
   refine vv (rix sl44 sz164 rfl rfl (by omega) (by omega) rfl) ?_
   refine vldN (hA.rn (S := fun _ => True) trivial) rfl sc164 (by omega) (by omega) ?_
   intro q26 hq26 hk27
   simp only [kb] at hk27
   refine vv (rcv Tryz.underlying164 Tryz.underlying162 rfl (wu (by omega))) ?_
   refine vv (rbin (bAdd (wu (by omega))) rfl rfl) ?_
   refine vv (rbin (bAdd (wu (by omega))) rfl rfl) ?_
   refine asi rfl ?_
   refine vnil ?_
   refine V.reg rfl ?_
   refine mvs rfl ?_
   refine mvi rfl ?_
   refine mvi rfl ?_
   refine vv (rbin (bAdd (wi (by omega))) rfl rfl) ?_
   refine mvi rfl ?_
   refine vv (rcv Tryz.underlying162 Tryz.underlying164 rfl (m32 _)) ?_
   refine mvi rfl ?_
   refine vv (rshr (n := 32) rfl rfl (by decide) (shr32 _)) ?_
   refine vv (rix sl44 sz164 rfl rfl (by omega) (by omega) rfl) ?_
   refine vo ?_
   refine xsti hA rfl rfl sz164 (by simp only [kb]; omega) (by omega) (by omega) ?_
   intro W28 y29 hA
   have z30 := z22.below (y29.below (by omega))
   have s31 := y29.size
   refine asi rfl ?_
   refine vnil ?_
   refine V.reg rfl ?_
   refine vv (rbin (bAdd (wi (by omega))) rfl rfl) ?_
   refine mvi rfl ?_
   refine vnil ?_
   refine ⟨rfl, (k + 1, _, _), ⟨rfl, rfl, rfl, rfl, rfl, rfl, rfl, rfl, rfl, trivial⟩, ⟨rfl, rfl, trivial⟩, ⟨z30, by omega, hA, by omega, by omega, mul_in2 (by omega) hq26 hq24 rfl hinv, fun j hj => (wd_set_ne (by omega)).trans (hz j hj)⟩, ?_⟩
   show m - (k + 1) < m - k
   omega
  ·intro c23
   refine vnil ?_
   refine V.seq ?_
   refine V.condF rfl ?_
   refine V.exit ?_
   refine V.reg rfl ?_
   refine mvs rfl ?_
   refine mvi rfl ?_
   refine mvs rfl ?_
   refine vv (rlen sl44 rfl) ?_
   refine vv (rbin (bAdd (wi (by omega))) rfl rfl) ?_
   refine mvi rfl ?_
   refine vv (rcv Tryz.underlying162 Tryz.underlying164 rfl (m32 _)) ?_
   refine vv (rix sl44 sz164 rfl rfl (by omega) (by omega) rfl) ?_
   refine vo ?_
   refine xsti hA rfl rfl sz164 (by simp only [kb]; omega) (by omega) (by omega) ?_
   intro W32 y33 hA
   have z34 := z22.below (y33.below (by omega))
   have s35 := y33.size
   refine vnil ?_
   refine V.reg rfl ?_
   refine vv (rbin (bAdd (wi (by omega))) rfl rfl) ?_
   refine mvi rfl ?_
   refine vnil ?_
   refine ⟨rfl, (p + 1, _), ⟨rfl, rfl, rfl, rfl, trivial⟩, ⟨rfl, trivial⟩, ⟨z34, by omega, hA, mul_out l2 (by omega) hq14 (hz _ (by omega)) c0 c1 (by rw [show m = k by omega]; exact hinv), fun j hj => (wd_set_ne (by omega)).trans (hz j (by omega))⟩, ?_⟩
   show n - (p + 1) < n - p
   omega
 ·intro c13
  refine vnil ?_
  refine V.seq ?_
  refine V.condF rfl ?_
  refine V.exit ?_
  refine V.seq (V.reg rfl ?_)
  refine mvs rfl ?_
  refine ass rfl ?_
  refine vnil ?_
  refine V.ret ?_
  refine ⟨[.slice _ _ _], ⟨rfl, trivial⟩, ?_⟩
  refine ⟨os, ⟨_, _, _, rfl, z12, hA.rn (hu _ (by omega))⟩, ?_, lA⟩
  rw [hinv, List.take_of_length_le (by omega)]

theorem divmod_of {u v q r : Int} (h : u = q * v + r) (h0 : 0 ≤ r) (h1 : r < v) : q = u / v ∧ r = u % v := by
  have := Int.ediv_emod_unique (a := u) (b := v) (r := r) (q := q) (by omega)
  have e : r + v * q = u := by rw [h, Int.mul_comm v]; omega
  exact ⟨(this.2 ⟨e, h0, h1⟩).1.symm, (this.2 ⟨e, h0, h1⟩).2.symm⟩
theorem div_facts {v r x : Int} (hv : 1 ≤ v) (r0 : 0 ≤ r) (r1 : r < v) (x0 : 0 ≤ x) (x1 : x ≤ 4294967295) : 0 ≤ (r * 4294967296 + x) / v ∧ (r * 4294967296 + x) / v ≤ 4294967295 ∧ 0 ≤ (r * 4294967296 + x) % v ∧ (r * 4294967296 + x) % v < v ∧ r * 4294967296 + x = ((r * 4294967296 + x) / v % 4294967296) * v + (r * 4294967296 + x) % v := by
  have h0 : 0 ≤ (r * 4294967296 + x) / v := Int.ediv_nonneg (by omega) (by omega)
  have h1 : (r * 4294967296 + x) / v < 4294967296 := Int.ediv_lt_of_lt_mul (by omega) (by omega)
  refine ⟨h0, by omega, Int.emod_nonneg _ (by omega), Int.emod_lt_of_pos _ (by omega), ?_⟩
  rw [Int.emod_eq_of_lt h0 h1]
  have := Int.mul_ediv_add_emod (r * 4294967296 + x) v
  rw [Int.mul_comm v] at this
  omega
theorem div_step {V Q R T x q r' : Int} {B : Int} {at_ : Nat} {u : Int} (h : u = Q * V + B ^ (at_ + 1) * R + (T + B ^ at_ * x)) (hq : R * B + x = q * V + r') : u = (Q + B ^ at_ * (q - 0)) * V + B ^ at_ * r' + T := by
  rw [Int.pow_succ] at h
  have : B ^ at_ * (R * B + x) = B ^ at_ * (q * V + r') := by rw [hq]
  grind
theorem small_step {qs xs : List Int} {k n : Nat} {V R x u : Int} (hk : k < n) (hq : qs.length = n) (hxl : xs.length = n) (hx : x = wd xs ((n : Int) - 1 - k)) (hz : ∀ j : Nat, j < n - k → wd qs j = 0)
    (h : u = vl b32 qs * V + b32 ^ (n - k) * R + vl b32 (xs.take (n - k))) {N q r' : Int} (hN : N = R * 4294967296 + x) (e : N = q * V + r') :
    u = vl b32 (qs.set ((n : Int) - 1 - k).toNat q) * V + b32 ^ (n - (k + 1)) * r' + vl b32 (xs.take (n - (k + 1))) := by
  obtain ⟨t, ht⟩ : ∃ t, n - k = t + 1 := ⟨n - k - 1, by omega⟩
  have e1 : n - (k + 1) = t := by omega
  have e2 : ((n : Int) - 1 - k) = (t : Int) := by omega
  rw [e2] at hx ⊢
  rw [ht, vl_take_succ, ← hx] at h
  rw [e1, vl_set' (by omega) (by omega), hz _ (by omega), Int.toNat_natCast]
  exact div_step h (by rw [← e, hN])

set_option maxHeartbeats 400000 in
theorem small_ok (a1 : Option Addr) (n c : Nat) (v : Int) (xs : List Int) (S S1 : Nat → Prop) (w : World) (hx : RN .u32 S1 w a1 n c xs) (hn : n ≤ LX) (hv0 : 1 ≤ v) (hv1 : v ≤ 4294967295) (hu : Up S w) :
    Calls Tryz.prog 218 #[.slice a1 n c, .int .u64 v] w (fun e w' => ∃ a m d r, e = .returned (.tuple #[.slice a m d, .int .u64 r]) ∧ Ext w w' ∧ RN .u32 S w' a m d (dg b32 (vl b32 xs / v)) ∧ r = vl b32 xs % v) := by
 have z0 := Ext.refl w; have hLX : LX = 17592186044416 := rfl; have hLY : LY = 8796093022208 := rfl
 have l1 := hx.len
 refine enter (args := [.slice a1 n c, .int .u64 v]) Tryz.func218 rfl rfl (Nat.le_of_ble_eq_true rfl) ?_
 refine V.seq (V.reg rfl ?_)
 refine ass rfl ?_
 refine asi rfl ?_
 refine vnil ?_
 refine V.seq (V.reg rfl ?_)
 refine mvs rfl ?_
 refine vv (rlen sl44 rfl) ?_
 refine vo ?_
 refine xmk (n) sl44 in164 (by simp [kb]) rfl rfl (by omega) (by omega) (by omega) ?_
 intro W1 x2 out n3
 have s4 := x2.sz
 have z5 := x2
 refine ass rfl ?_
 refine vnil ?_
 refine V.seq ?_
 refine V.seq (V.reg rfl ?_)
 refine mvs rfl ?_
 refine vv (rlen sl44 rfl) ?_
 refine mvi rfl ?_
 refine vnil ?_
 refine V.block ?_
 refine V.loopK (ι := Nat × List Int × Int) [(0, .slice _ _ _), (1, .int _ _), (4, .slice _ _ _), (12, .int _ _)] (fun ⟨k, qs, r⟩ => [(13, .int .i64 (k : Int)), (5, .int .u64 r)]) (fun ⟨k, qs, r⟩ W => Ext w W ∧ k ≤ n ∧ AR .u32 W (w.heap.size) 164 n qs ∧ 0 ≤ r ∧ r < v ∧ vl b32 xs = vl b32 qs * v + b32 ^ (n - k) * r + vl b32 (xs.take (n - k)) ∧ ∀ j : Nat, j < n - k → wd qs j = 0) (fun ⟨k, qs, r⟩ => n - k) ((0, _, _)) ⟨rfl, rfl, rfl, rfl, trivial⟩ ⟨rfl, rfl, trivial⟩ ⟨z5, Nat.zero_le _, out, by omega, by omega, by simp [vl_zeros, l1]; rw [List.take_of_length_le (by omega)], fun j _ => wd_zeros _ _⟩ ?_
 intro i7 E8 W6 h9
 obtain ⟨k, qs, r⟩ := i7
 simp only at h9
 show V _ _ _ _ _ _ (ups (ups _ _) [(13, .int .i64 (k : Int)), (5, .int .u64 r)]) _
 obtain ⟨x10, hk, hA, r0, r1, hinv, hz⟩ := h9
 have s11 := x10.sz
 have z12 := x10
 have lA := hA.len; have lb := hA.box.lt
 refine V.seq (V.reg rfl ?_)
 refine vlt rfl rfl ?_ ?_
 ·intro c13
  refine vnil ?_
  refine V.seq ?_
  refine V.condT rfl ?_
  refine V.skip ?_
  refine V.seq ?_
  refine V.block ?_
  refine V.seq (V.reg rfl ?_)
  refine mvi rfl ?_
  refine asi rfl ?_
  refine vnil ?_
  refine V.seq (V.reg rfl ?_)
  refine mvs rfl ?_
  refine vv (rlen sl44 rfl) ?_
  refine vv (rbin (bSub (wi (by omega))) rfl rfl) ?_
  refine mvi rfl ?_
  refine vv (rbin (bSub (wi (by omega))) rfl rfl) ?_
  refine asi rfl ?_
  refine vnil ?_
  refine V.seq (V.reg rfl ?_)
  refine mvi rfl ?_
  refine vv (rshl (n := 32) rfl rfl (by decide) (shl32 (by omega))) ?_
  refine mvs rfl ?_
  refine mvi rfl ?_
  refine vv (rixn (hx.ext z12) sl44 sz164 rfl rfl (by omega) (by omega)) ?_
  refine vldN (hx.ext z12) rfl sc164 (by omega) (by omega) ?_
  intro q14 hq14 hk15
  simp only [kb] at hk15
  refine vv (rcv Tryz.underlying164 Tryz.underlying162 rfl (wu (by omega))) ?_
  refine vv (rbin (bAdd (wu (by omega))) rfl rfl) ?_
  obtain ⟨d0, d1, d2, d3, d4⟩ := div_facts hv0 r0 r1 hk15.1 hk15.2
  refine asi rfl ?_
  refine vnil ?_
  refine V.regT mixed rfl ?_
  intro W16 x17
  have s18 := x17.sz
  have z19 := z12.trans x17
  replace hA := hA.ext x17
  have r21 := hA
  refine tk 0 rfl (by kernel_rfl) trivial (pv (fun _ y22 => rmv (v := .slice _ _ _) rfl)) ?_
  refine tk 1 rfl (by kernel_rfl) trivial (pv (fun _ y23 => rmv (v := .int _ _) rfl)) ?_
  refine tk 2 rfl (by kernel_rfl) trivial (pv (fun _ y24 => rmv (v := .int _ _) rfl)) ?_
  refine tk 3 rfl (by kernel_rfl) trivial (pv (fun _ y25 => rmv (v := .int _ _) rfl)) ?_
  refine tk 4 rfl (by kernel_rfl) trivial (pv (fun _ y26 => rbin (bQuo (by omega) (wuq (by rw [Int.tdiv_eq_ediv_of_nonneg (by omega)]; omega) (Int.tdiv_eq_ediv_of_nonneg (by omega)))) rfl rfl)) ?_
  refine tk 5 rfl (by kernel_rfl) trivial (pv (fun _ y27 => rcv Tryz.underlying162 Tryz.underlying164 rfl (m32 _))) ?_
  refine tk 6 rfl (by kernel_rfl) trivial (pv (fun _ y28 => rmv (v := .int _ _) rfl)) ?_
  refine tk 7 rfl (by kernel_rfl) trivial (pv (fun _ y29 => rmv (v := .int _ _) rfl)) ?_
  refine tk 8 rfl (by kernel_rfl) trivial (pv (fun _ y30 => rbin (bRem (by omega) (Int.tmod_eq_emod_of_nonneg (by omega))) rfl rfl)) ?_
  refine tk 9 rfl (by kernel_rfl) trivial (pv (fun _ y31 => rix sl44 sz164 rfl rfl (by omega) (by omega) rfl)) ?_
  refine ef 10 (by kernel_rfl) rfl ?_
  refine xsti hA rfl rfl sz164 (by simp only [kb]; omega) (by omega) (by omega) ?_
  intro W32 y33 hA
  have z34 := z19.below (y33.below (by omega))
  have s35 := y33.size
  refine ⟨fun _ => trivial, ?_⟩
  refine tk 11 rfl (by kernel_rfl) trivial (pv (fun _ y36 => ras (v := .int _ _) rfl)) ?_
  refine dn (by kernel_rfl) ?_
  refine V.reg rfl ?_
  refine vv (rbin (bAdd (wi (by omega))) rfl rfl) ?_
  refine mvi rfl ?_
  refine vnil ?_
  refine ⟨rfl, (k + 1, _, _), ⟨rfl, rfl, rfl, rfl, trivial⟩, ⟨rfl, rfl, trivial⟩, ⟨z34, by omega, hA, by omega, by omega, small_step (by omega) lA l1 hq14 hz hinv rfl d4, fun j hj => (wd_set_ne (by omega)).trans (hz j (by omega))⟩, ?_⟩
  show n - (k + 1) < n - k
  omega
 ·intro c13
  refine vnil ?_
  refine V.seq ?_
  refine V.condF rfl ?_
  refine V.exit ?_
  refine V.seq (V.reg rfl ?_)
  refine mvs rfl ?_
  have ha37 := hA.rn (S := S) (hu _ (by omega))
  refine vo ?_
  refine xcall e176 (trim_ok _ _ _ _ _ _ ha37) rfl rfl ?_
  rintro _ _ ⟨m39, rfl, hr38, hm40, rfl⟩
  refine ⟨_, rfl, ?_⟩
  refine mvi rfl ?_
  refine ass rfl ?_
  refine asi rfl ?_
  refine vnil ?_
  refine V.ret ?_
  refine ⟨[.slice _ _ _, .int _ _], ⟨rfl, rfl, trivial⟩, ?_⟩
  have hq := divmod_of (u := vl b32 xs) (v := v) (by simpa [show n - k = 0 by omega, vl] using hinv) r0 r1
  exact ⟨_, _, _, _, rfl, z12, hq.1 ▸ hr38, hq.2⟩

theorem dg_len_mono {u v : Int} (hu : 0 ≤ u) (h : u ≤ v) : (dg b32 u).length ≤ (dg b32 v).length := by
  have h2 := vl_lt (B := b32) (by decide) (Dg.dg (by decide) v)
  rw [vl_dg (by decide) (by omega)] at h2
  exact dg_length_le (by decide) (by omega)
/-- One word more. -/
theorem long_step {qs xs : List Int} {k n : Nat} {V R x u q : Int} (hk : k < n) (hq : qs.length = n) (hxl : xs.length = n) (hx : x = wd xs ((n : Int) - 1 - k)) (hz : ∀ j : Nat, j < n - k → wd qs j = 0)
    (h : u = vl b32 qs * V + b32 ^ (n - k) * R + vl b32 (xs.take (n - k))) :
    u = vl b32 (qs.set ((n : Int) - 1 - k).toNat q) * V + b32 ^ (n - (k + 1)) * (x + b32 * R - V * q) + vl b32 (xs.take (n - (k + 1))) :=
  small_step hk hq hxl hx hz h (N := x + b32 * R) (by unfold b32; omega) (by rw [Int.mul_comm q V]; omega)
theorem one_len {v : Int} {n : Nat} (hv : 0 ≤ v) (h : (dg b32 v).length = n) (h1 : n = 1) : wd (dg b32 v) 0 = v := by
  have e := vl_dg (B := b32) (by decide) hv
  match hd : dg b32 v with
  | [] => rw [hd] at h; simp at h; omega
  | [x] => rw [hd] at e; simp [vl] at e; simp [wd, e]
  | _ :: _ :: _ => rw [hd] at h; simp at h; omega

set_option maxHeartbeats 400000 in
theorem div_ok (a1 a2 : Option Addr) (n c m d : Nat) (u v : Int) (S S1 S2 : Nat → Prop) (w : World) (hx : RN .u32 S1 w a1 n c (dg b32 u)) (hy : RN .u32 S2 w a2 m d (dg b32 v)) (hu0 : 0 ≤ u) (hv : 0 < v) (hn : n < LX) (hm : m < LX) (hu : Up S w) :
    Calls Tryz.prog 209 #[.slice a1 n c, .slice a2 m d] w (fun e w' => ∃ a3 n3 c3 a4 n4 c4, e = .returned (.tuple #[.slice a3 n3 c3, .slice a4 n4 c4]) ∧ Ext w w' ∧ RN .u32 S w' a3 n3 c3 (dg b32 (u / v)) ∧ RN .u32 S w' a4 n4 c4 (dg b32 (u % v))) := by
 have z0 := Ext.refl w; have hLX : LX = 17592186044416 := rfl; have hLY : LY = 8796093022208 := rfl
 have l1 := hx.len; have l2 := hy.len; have hv0 : 0 ≤ v := by omega
 refine enter (args := [.slice a1 n c, .slice a2 m d]) Tryz.func209 rfl rfl (Nat.le_of_ble_eq_true rfl) ?_
 refine V.seq (V.reg rfl ?_)
 refine ass rfl ?_
 refine ass rfl ?_
 refine vnil ?_
 refine V.seq ?_
 refine V.seq (V.reg rfl ?_)
 refine mvs rfl ?_
 refine vv (rlen sl44 rfl) ?_
 refine veq rfl rfl ?_ ?_
 ·intro c1
  refine vnil ?_
  refine V.condT rfl ?_
  refine V.seq (V.reg rfl ?_)
  refine mvs rfl ?_
  refine mvs rfl ?_
  refine vv (rixn hy sl44 sz164 rfl rfl (by omega) (by omega)) ?_
  refine vldN hy rfl sc164 (by omega) (by omega) ?_
  intro q2 hq2 hk3
  simp only [kb] at hk3
  refine vv (rcv Tryz.underlying164 Tryz.underlying162 rfl (wu (by omega))) ?_
  have hu2 : ∀ W : World, w.heap.size ≤ W.heap.size → Up S W := fun W hW => hu.mono hW
  have hv1 : 1 ≤ q2 := by rw [hq2, one_len hv0 l2 (by omega)]; omega
  refine vo ?_
  refine xcall e218 (small_ok _ _ _ _ _ _ _ _ hx (by omega) (by omega) (by omega) (hu2 _ (by omega))) rfl rfl ?_
  rintro _ W7 ⟨_, _, _, r6, rfl, x8, hr4, hq5⟩
  have s9 := x8.sz
  have z10 := x8
  refine ⟨_, rfl, ?_⟩
  refine mvt rfl ?_
  refine vv (rext (v := .slice _ _ _) rfl rfl) ?_
  refine vv (rext (v := .int _ _) rfl rfl) ?_
  refine ass rfl ?_
  refine asi rfl ?_
  refine vnil ?_
  refine V.seq (V.reg rfl ?_)
  refine mvs rfl ?_
  refine mvi rfl ?_
  refine vv (rcv Tryz.underlying162 Tryz.underlying164 rfl (m32 _)) ?_
  refine vo ?_
  refine xbs (ps := [(0, .int _ _)]) (cs := [.int _ _]) sl44 zr164 sz164 rfl rfl rfl rfl rfl rfl ?_
  intro W11 x12 b13 nn14
  have s15 := x12.sz
  have z16 := z10.trans x12
  have hl17 := RN.lit (k := .u32) (xs := [_]) 1 b13 (by intro q hq; simp only [List.mem_cons, List.not_mem_nil, or_false] at hq; simp only [kb]; omega) (hu2 W7 (by omega) _ (Nat.le_refl _))
  refine vo ?_
  refine xcall e176 (trim_ok _ _ _ _ _ _ hl17) rfl rfl ?_
  rintro _ _ ⟨m19, rfl, hr18, hm20, rfl⟩
  refine ⟨_, rfl, ?_⟩
  refine ass rfl ?_
  refine ass rfl ?_
  refine vnil ?_
  refine V.ret ?_
  refine ⟨[.slice _ _ _, .slice _ _ _], ⟨rfl, rfl, trivial⟩, ?_⟩
  have hv1 : wd (dg b32 v) 0 = v := one_len hv0 l2 (by omega)
  rw [hq2, hv1, vl_dg (by decide) hu0] at hr4 hq5
  have rl : 0 ≤ r6 ∧ r6 < v := by rw [hq5]; exact ⟨Int.emod_nonneg _ (by omega), Int.emod_lt_of_pos _ (by omega)⟩
  exact ⟨_, _, _, _, _, _, rfl, z16, (hr4.ext x12), (hr18).cast (by rw [← hq5]; simp only [vl, Int.mul_zero, Int.add_zero]; rw [Int.emod_eq_of_lt rl.1 (by omega)])⟩
 ·intro c1
  refine vnil ?_
  refine V.condF rfl ?_
  refine V.skip ?_
  refine V.seq (V.reg rfl ?_)
  refine mvs rfl ?_
  refine vv (rlen sl44 rfl) ?_
  refine vo ?_
  refine xmk (n) sl44 in164 (by simp [kb]) rfl rfl (by omega) (by omega) (by omega) ?_
  intro W22 x23 out n24
  have s25 := x23.sz
  have z26 := x23
  have hu2 : ∀ W : World, w.heap.size + 1 ≤ W.heap.size → Up (SX S [w.heap.size]) W := fun W hW => SX.up (hu.mono (by omega)) (by simp; omega)
  refine ass rfl ?_
  refine vnil ?_
  refine V.seq ?_
  refine V.seq (V.reg rfl ?_)
  refine mvs rfl ?_
  refine vv (rlen sl44 rfl) ?_
  refine mvi rfl ?_
  refine vnil ?_
  refine V.block ?_
  refine V.loopK (ι := Nat × List Int × Int × Option Addr × Nat × Nat) [(0, .slice _ _ _), (1, .slice _ _ _), (4, .slice _ _ _), (34, .int _ _)] (fun ⟨k, qs, R, ra, rn, rc⟩ => [(35, .int .i64 (k : Int)), (5, .slice ra rn rc)]) (fun ⟨k, qs, R, ra, rn, rc⟩ W => Ext w W ∧ k ≤ n ∧ AR .u32 W w.heap.size 164 n qs ∧ 0 ≤ R ∧ R < v ∧ RN .u32 (SX S [w.heap.size]) W ra rn rc (dg b32 R) ∧ rn ≤ m ∧ u = vl b32 qs * v + b32 ^ (n - k) * R + vl b32 ((dg b32 u).take (n - k)) ∧ ∀ j : Nat, j < n - k → wd qs j = 0) (fun ⟨k, qs, R, ra, rn, rc⟩ => n - k) ((0, _, 0, none, 0, 0)) ⟨rfl, rfl, rfl, rfl, trivial⟩ ⟨rfl, rfl, trivial⟩ ⟨z26, Nat.zero_le _, out, by omega, by omega, by rw [dg_zero]; exact RN.nil _ _ _ _ _ (by omega), by omega, by simp [vl_zeros]; rw [List.take_of_length_le (by omega), vl_dg (by decide) hu0], fun j _ => wd_zeros _ _⟩ ?_
  intro i28 E29 W27 h30
  obtain ⟨k, qs, R, ra, rn, rc⟩ := i28
  simp only at h30
  show V _ _ _ _ _ _ (ups (ups _ _) [(35, .int .i64 (k : Int)), (5, .slice ra rn rc)]) _
  obtain ⟨x31, hk, hA, r0, r1, hR, hrm, hinv, hz⟩ := h30
  have s32 := x31.sz
  have z33 := x31
  have lA := hA.len; have lb := hA.box.lt; have lR := hR.len
  refine V.seq (V.reg rfl ?_)
  refine vlt rfl rfl ?_ ?_
  ·intro c35
   refine vnil ?_
   refine V.seq ?_
   refine V.condT rfl ?_
   refine V.skip ?_
   refine V.seq ?_
   refine V.block ?_
   refine V.seq (V.reg rfl ?_)
   refine mvi rfl ?_
   refine asi rfl ?_
   refine vnil ?_
   refine V.seq (V.reg rfl ?_)
   refine mvs rfl ?_
   refine vv (rlen sl44 rfl) ?_
   refine vv (rbin (bSub (wi (by omega))) rfl rfl) ?_
   refine mvi rfl ?_
   refine vv (rbin (bSub (wi (by omega))) rfl rfl) ?_
   refine asi rfl ?_
   refine vnil ?_
   refine V.seq (V.reg rfl ?_)
   refine mvs rfl ?_
   refine mvi rfl ?_
   refine vv (rixn (hx.ext z33) sl44 sz164 rfl rfl (by omega) (by omega)) ?_
   refine vldN (hx.ext z33) rfl sc164 (by omega) (by omega) ?_
   intro q36 hq36 hk37
   simp only [kb] at hk37
   refine vo ?_
   refine xbs (ps := [(0, .int _ _)]) (cs := [.int _ _]) sl44 zr164 sz164 rfl rfl rfl rfl rfl rfl ?_
   intro W38 x39 b40 nn41
   have s42 := x39.sz
   have z43 := z33.trans x39
   have z44 := x39
   replace hA := hA.ext x39
   refine mvs rfl ?_
   refine vo ?_
   refine xappN sl44 in164 (OI.lit (B := W27.heap.size) (k := .u32) (xs := [_]) b40 (by intro q hq; simp only [List.mem_cons, List.not_mem_nil, or_false] at hq; simp only [kb]; omega) (by omega)) rfl rfl (hR.ext z44) (by simp only [List.length_nil, List.length_cons, List.length_append]; omega) (by decide) (by omega) ?_
   intro v45 W46 hO47 hg48 ho49
   have y50 := grown_below hg48 (by omega) (fun b e => ((OI.lit (B := W27.heap.size) (k := .u32) (xs := [_]) b40 (by intro q hq; simp only [List.mem_cons, List.not_mem_nil, or_false] at hq; simp only [kb]; omega) (by omega)).low b e).1)
   have s51 := y50.size
   have z52 := z43.below (y50.mono (by omega))
   replace hA := hA.bl y50 (by omega)
   obtain ⟨ra1, rc1, rfl⟩ := hO47.form
   have hr1 := hO47.rn (S := SX S [w.heap.size]) (fun b hb _ => ⟨hu b (by omega), by simp; omega⟩)
   have e1 : vl b32 ([q36] ++ dg b32 R) = q36 + b32 * R := by rw [List.singleton_append, vl_cons, vl_dg (by decide) r0]
   have l49 : ([q36] ++ dg b32 R).length = rn + 1 := by simp; omega
   have p1 : 0 ≤ q36 + b32 * R := by unfold b32; omega
   refine vo ?_
   refine xcall e176 (trim_ok _ _ _ _ _ _ hr1) rfl rfl ?_
   rintro _ _ ⟨m55, rfl, hr54, hm56, rfl⟩
   refine ⟨_, rfl, ?_⟩
   obtain ⟨R1, eR1⟩ : ∃ q, q = q36 + b32 * R := ⟨_, rfl⟩
   rw [e1, ← eR1] at hr54
   rw [← eR1] at p1; have l50 := hr54.len; have hb0 : R1 < v * 4294967296 := by unfold b32 at eR1; omega
   refine ass rfl ?_
   refine vnil ?_
   refine V.seq (V.reg rfl ?_)
   refine asi rfl ?_
   refine asi rfl ?_
   refine vnil ?_
   refine V.seq ?_
   refine V.seq (V.reg rfl ?_)
   refine mvs rfl ?_
   refine vv (rlen sl44 rfl) ?_
   refine mvs rfl ?_
   refine vv (rlen sl44 rfl) ?_
   refine vlt rfl rfl ?_ ?_
   ·intro c58
    refine vnil ?_
    refine V.condT rfl ?_
    refine V.reg rfl ?_
    refine asi rfl ?_
    refine vnil ?_
    refine V.seq ?_
    refine V.block ?_
    refine V.loopK (ι := Int × Int) [(0, .slice _ _ _), (1, .slice _ _ _), (4, .slice _ _ _), (5, .slice _ _ _), (9, .int _ _), (34, .int _ _), (35, .int _ _)] (fun ⟨lo, hi⟩ => [(10, .int .u64 lo), (11, .int .u64 hi)]) (fun ⟨lo, hi⟩ W => Ext W46 W ∧ 0 ≤ lo ∧ lo < hi ∧ hi ≤ 4294967296 ∧ v * lo ≤ R1 ∧ R1 < v * hi) (fun ⟨lo, hi⟩ => (hi - lo).toNat) ((_, _)) ⟨rfl, rfl, rfl, rfl, rfl, rfl, rfl, trivial⟩ ⟨rfl, rfl, trivial⟩ ⟨Ext.refl _, by omega, by omega, by omega, by rw [Int.mul_zero]; exact p1, by first | exact hb0 | (rw [Int.mul_one]; exact dg_len_lt hv0 p1 (by omega))⟩ ?_
    intro i60 E61 W59 h62
    obtain ⟨lo, hi⟩ := i60
    simp only at h62
    show V _ _ _ _ _ _ (ups (ups _ _) [(10, .int .u64 lo), (11, .int .u64 hi)]) _
    obtain ⟨x63, i1, i2, i3, i4, i5⟩ := h62
    have s64 := x63.sz
    have z65 := z52.trans x63
    have z67 := x63
    replace hA := hA.ext x63
    refine V.seq ?_
    refine V.seq (V.reg rfl ?_)
    refine mvi rfl ?_
    refine mvi rfl ?_
    refine vv (rbin (bSub (wu (by omega))) rfl rfl) ?_
    refine vgt rfl rfl ?_ ?_
    ·intro c68
     refine vnil ?_
     refine V.condT rfl ?_
     refine V.skip ?_
     refine V.block ?_
     refine V.seq (V.reg rfl ?_)
     refine mvi rfl ?_
     refine mvi rfl ?_
     refine vv (rbin (bAdd (wu (by omega))) rfl rfl) ?_
     refine vv (rbin (bQuo (by omega) (wuq (by rw [Int.tdiv_eq_ediv_of_nonneg (by omega)]; omega) (Int.tdiv_eq_ediv_of_nonneg (by omega)))) rfl rfl) ?_
     refine asi rfl ?_
     refine vnil ?_
     refine V.seq (V.reg rfl ?_)
     refine mvs rfl ?_
     refine mvi rfl ?_
     refine vv (rcv Tryz.underlying162 Tryz.underlying164 rfl (m32 _)) ?_
     refine vo ?_
     refine xbs (ps := [(0, .int _ _)]) (cs := [.int _ _]) sl44 zr164 sz164 rfl rfl rfl rfl rfl rfl ?_
     intro W69 x70 b71 nn72
     have s73 := x70.sz
     have z74 := z65.trans x70
     have z76 := z67.trans x70
     replace hA := hA.ext x70
     have hl77 := RN.lit (k := .u32) (xs := [_]) 1 b71 (by intro q hq; simp only [List.mem_cons, List.not_mem_nil, or_false] at hq; simp only [kb]; omega) (hu2 W59 (by omega) _ (Nat.le_refl _))
     refine vo ?_
     refine xcall e205 (mul_ok _ _ _ _ _ _ _ _ _ _ _ _ (hy.ext z74) hl77 (by omega) (by omega) (hu2 _ (by omega))) rfl rfl ?_
     rintro _ W82 ⟨zs79, ⟨_, _, _, rfl, x83, hw78⟩, hv80, hl81⟩
     have s84 := x83.sz
     have z87 := z76.trans x83
     replace hA := hA.ext x83
     have hw78l := hw78.len
     refine ⟨_, rfl, ?_⟩
     refine vo ?_
     refine xcall e176 (trim_ok _ _ _ _ _ _ hw78) rfl rfl ?_
     rintro _ _ ⟨m89, rfl, hr88, hm90, rfl⟩
     refine ⟨_, rfl, ?_⟩
     refine mvs rfl ?_
     refine vo ?_
     refine xcall e207 (cmp_ok _ _ _ _ _ _ _ _ _ _ _ hr88 (hr54.ext z87) (vl_nonneg (by decide) hw78.dg32) (p1)) rfl rfl ?_
     rintro _ W94 ⟨s93, rfl, x95, hc92⟩
     have s96 := x95.sz
     have z99 := z87.trans x95
     replace hA := hA.ext x95
     refine ⟨_, rfl, ?_⟩
     have ez : vl b32 zs79 = v * ((lo + hi) / 2) := by rw [hv80, vl_dg (by decide) hv0]; simp only [vl, Int.mul_zero, Int.add_zero]; rw [Int.emod_eq_of_lt (by omega) (by omega)]
     rw [ez] at hc92
     refine vle rfl rfl ?_ ?_
     ·intro c100
      refine vnil ?_
      refine V.condT rfl ?_
      refine V.reg rfl ?_
      refine mvi rfl ?_
      refine asi rfl ?_
      refine vnil ?_
      refine ⟨rfl, (_, _), ⟨rfl, rfl, rfl, rfl, rfl, rfl, rfl, trivial⟩, ⟨rfl, rfl, trivial⟩, ⟨z99, by omega, by omega, by omega, by omega, i5⟩, ?_⟩
      show (hi - (lo + hi) / 2).toNat < (hi - lo).toNat
      omega
     ·intro c100
      refine vnil ?_
      refine V.condF rfl ?_
      refine V.reg rfl ?_
      refine mvi rfl ?_
      refine asi rfl ?_
      refine vnil ?_
      refine ⟨rfl, (_, _), ⟨rfl, rfl, rfl, rfl, rfl, rfl, rfl, trivial⟩, ⟨rfl, rfl, trivial⟩, ⟨z99, by omega, by omega, by omega, i4, by omega⟩, ?_⟩
      show ((lo + hi) / 2 - lo).toNat < (hi - lo).toNat
      omega
    ·intro c68
     refine vnil ?_
     refine V.condF rfl ?_
     refine V.exit ?_
     refine V.seq (V.reg rfl ?_)
     refine mvs rfl ?_
     refine mvi rfl ?_
     refine mvi rfl ?_
     refine vv (rcv Tryz.underlying162 Tryz.underlying164 rfl (m32 _)) ?_
     refine vv (rix sl44 sz164 rfl rfl (by omega) (by omega) rfl) ?_
     refine vo ?_
     refine xsti hA rfl rfl sz164 (by simp only [kb]; omega) (by omega) (by omega) ?_
     intro W101 y102 hA
     have z103 := z65.below (y102.below (by omega))
     have s104 := y102.size
     refine vnil ?_
     refine V.reg rfl ?_
     refine mvs rfl ?_
     refine mvs rfl ?_
     refine mvi rfl ?_
     refine vv (rcv Tryz.underlying162 Tryz.underlying164 rfl (m32 _)) ?_
     refine vo ?_
     refine xbs (ps := [(0, .int _ _)]) (cs := [.int _ _]) sl44 zr164 sz164 rfl rfl rfl rfl rfl rfl ?_
     intro W105 x106 b107 nn108
     have s109 := x106.sz
     have z110 := z103.trans x106
     replace hA := hA.ext x106
     have hl111 := RN.lit (k := .u32) (xs := [_]) 1 b107 (by intro q hq; simp only [List.mem_cons, List.not_mem_nil, or_false] at hq; simp only [kb]; omega) (hu2 W101 (by omega) _ (Nat.le_refl _))
     refine vo ?_
     refine xcall e205 (mul_ok _ _ _ _ _ _ _ _ _ _ _ _ (hy.ext z110) hl111 (by omega) (by omega) (hu2 _ (by omega))) rfl rfl ?_
     rintro _ W116 ⟨zs113, ⟨_, _, _, rfl, x117, hw112⟩, hv114, hl115⟩
     have s118 := x117.sz
     have z119 := z110.trans x117
     replace hA := hA.ext x117
     have hw112l := hw112.len
     refine ⟨_, rfl, ?_⟩
     refine vo ?_
     refine xcall e176 (trim_ok _ _ _ _ _ _ hw112) rfl rfl ?_
     rintro _ _ ⟨m121, rfl, hr120, hm122, rfl⟩
     refine ⟨_, rfl, ?_⟩
     have ez : vl b32 zs113 = v * lo := by rw [hv114, vl_dg (by decide) hv0]; simp only [vl, Int.mul_zero, Int.add_zero]; rw [Int.emod_eq_of_lt (by omega) (by omega)]
     have hlm : v * (lo + 1) = v * lo + v := by rw [Int.mul_add, Int.mul_one]
     have h1 : R1 < v * lo + v := by rw [← hlm, show lo + 1 = hi by omega]; exact i5
     have hz0 : 0 ≤ v * lo := Int.mul_nonneg (by omega) i1
     rw [ez] at hr120; have l86 := hr120.len; have l86b := dg_len_mono hz0 i4
     refine vo ?_
     refine xcall e208 (sub_ok _ _ _ _ _ _ _ _ _ _ _ _ ((hr54.ext z67).ck (((y102.ck (by intro hh; first | (simp [SX] at hh <;> omega) | omega)).trans (x106.ck _)).trans (x117.ck _))) hr120 (by omega) (by omega) (by rw [vl_dg (by decide) hz0, vl_dg (by decide) p1]; exact i4) (hu2 _ (by omega))) rfl rfl ?_
     rintro _ W128 ⟨zs125, ⟨_, _, _, rfl, x129, hw124⟩, hv126, hl127⟩
     have s130 := x129.sz
     have z131 := z119.trans x129
     replace hA := hA.ext x129
     have hw124l := hw124.len
     refine ⟨_, rfl, ?_⟩
     refine vo ?_
     refine xcall e176 (trim_ok _ _ _ _ _ _ hw124) rfl rfl ?_
     rintro _ _ ⟨m133, rfl, hr132, hm134, rfl⟩
     refine ⟨_, rfl, ?_⟩
     refine ass rfl ?_
     refine vnil ?_
     refine V.reg rfl ?_
     refine vv (rbin (bAdd (wi (by omega))) rfl rfl) ?_
     refine mvi rfl ?_
     refine vnil ?_
     have ez3 : vl b32 zs125 = R1 - v * lo := by rw [hv126, vl_dg (by decide) p1, vl_dg (by decide) hz0]
     rw [ez3] at hr132; have l87 := hr132.len; have l87b := dg_len_mono (u := R1 - v * lo) (v := v) (by omega) (by omega); have elo : lo % 4294967296 = lo := Int.emod_eq_of_lt (by omega) (by omega)
     refine ⟨rfl, (k + 1, _, R1 - v * lo, _, _, _), ⟨rfl, rfl, rfl, rfl, trivial⟩, ⟨rfl, rfl, trivial⟩, ⟨z131, by omega, hA, by omega, by omega, hr132, by omega, by rw [elo, eR1]; exact long_step (by omega) lA l1 hq36 hz hinv, fun j hj => (wd_set_ne (by omega)).trans (hz j (by omega))⟩, ?_⟩
     show n - (k + 1) < n - k
     omega
   ·intro c58
    refine vnil ?_
    refine V.condF rfl ?_
    refine V.skip ?_
    refine V.seq ?_
    refine V.block ?_
    refine V.loopK (ι := Int × Int) [(0, .slice _ _ _), (1, .slice _ _ _), (4, .slice _ _ _), (5, .slice _ _ _), (9, .int _ _), (34, .int _ _), (35, .int _ _)] (fun ⟨lo, hi⟩ => [(10, .int .u64 lo), (11, .int .u64 hi)]) (fun ⟨lo, hi⟩ W => Ext W46 W ∧ 0 ≤ lo ∧ lo < hi ∧ hi ≤ 4294967296 ∧ v * lo ≤ R1 ∧ R1 < v * hi) (fun ⟨lo, hi⟩ => (hi - lo).toNat) ((_, _)) ⟨rfl, rfl, rfl, rfl, rfl, rfl, rfl, trivial⟩ ⟨rfl, rfl, trivial⟩ ⟨Ext.refl _, by omega, by omega, by omega, by rw [Int.mul_zero]; exact p1, by first | exact hb0 | (rw [Int.mul_one]; exact dg_len_lt hv0 p1 (by omega))⟩ ?_
    intro i137 E138 W136 h139
    obtain ⟨lo, hi⟩ := i137
    simp only at h139
    show V _ _ _ _ _ _ (ups (ups _ _) [(10, .int .u64 lo), (11, .int .u64 hi)]) _
    obtain ⟨x140, i1, i2, i3, i4, i5⟩ := h139
    have s141 := x140.sz
    have z142 := z52.trans x140
    have z144 := x140
    replace hA := hA.ext x140
    refine V.seq ?_
    refine V.seq (V.reg rfl ?_)
    refine mvi rfl ?_
    refine mvi rfl ?_
    refine vv (rbin (bSub (wu (by omega))) rfl rfl) ?_
    refine vgt rfl rfl ?_ ?_
    ·intro c145
     refine vnil ?_
     refine V.condT rfl ?_
     refine V.skip ?_
     refine V.block ?_
     refine V.seq (V.reg rfl ?_)
     refine mvi rfl ?_
     refine mvi rfl ?_
     refine vv (rbin (bAdd (wu (by omega))) rfl rfl) ?_
     refine vv (rbin (bQuo (by omega) (wuq (by rw [Int.tdiv_eq_ediv_of_nonneg (by omega)]; omega) (Int.tdiv_eq_ediv_of_nonneg (by omega)))) rfl rfl) ?_
     refine asi rfl ?_
     refine vnil ?_
     refine V.seq (V.reg rfl ?_)
     refine mvs rfl ?_
     refine mvi rfl ?_
     refine vv (rcv Tryz.underlying162 Tryz.underlying164 rfl (m32 _)) ?_
     refine vo ?_
     refine xbs (ps := [(0, .int _ _)]) (cs := [.int _ _]) sl44 zr164 sz164 rfl rfl rfl rfl rfl rfl ?_
     intro W146 x147 b148 nn149
     have s150 := x147.sz
     have z151 := z142.trans x147
     have z153 := z144.trans x147
     replace hA := hA.ext x147
     have hl154 := RN.lit (k := .u32) (xs := [_]) 1 b148 (by intro q hq; simp only [List.mem_cons, List.not_mem_nil, or_false] at hq; simp only [kb]; omega) (hu2 W136 (by omega) _ (Nat.le_refl _))
     refine vo ?_
     refine xcall e205 (mul_ok _ _ _ _ _ _ _ _ _ _ _ _ (hy.ext z151) hl154 (by omega) (by omega) (hu2 _ (by omega))) rfl rfl ?_
     rintro _ W159 ⟨zs156, ⟨_, _, _, rfl, x160, hw155⟩, hv157, hl158⟩
     have s161 := x160.sz
     have z164 := z153.trans x160
     replace hA := hA.ext x160
     have hw155l := hw155.len
     refine ⟨_, rfl, ?_⟩
     refine vo ?_
     refine xcall e176 (trim_ok _ _ _ _ _ _ hw155) rfl rfl ?_
     rintro _ _ ⟨m166, rfl, hr165, hm167, rfl⟩
     refine ⟨_, rfl, ?_⟩
     refine mvs rfl ?_
     refine vo ?_
     refine xcall e207 (cmp_ok _ _ _ _ _ _ _ _ _ _ _ hr165 (hr54.ext z164) (vl_nonneg (by decide) hw155.dg32) (p1)) rfl rfl ?_
     rintro _ W171 ⟨s170, rfl, x172, hc169⟩
     have s173 := x172.sz
     have z176 := z164.trans x172
     replace hA := hA.ext x172
     refine ⟨_, rfl, ?_⟩
     have ez : vl b32 zs156 = v * ((lo + hi) / 2) := by rw [hv157, vl_dg (by decide) hv0]; simp only [vl, Int.mul_zero, Int.add_zero]; rw [Int.emod_eq_of_lt (by omega) (by omega)]
     rw [ez] at hc169
     refine vle rfl rfl ?_ ?_
     ·intro c177
      refine vnil ?_
      refine V.condT rfl ?_
      refine V.reg rfl ?_
      refine mvi rfl ?_
      refine asi rfl ?_
      refine vnil ?_
      refine ⟨rfl, (_, _), ⟨rfl, rfl, rfl, rfl, rfl, rfl, rfl, trivial⟩, ⟨rfl, rfl, trivial⟩, ⟨z176, by omega, by omega, by omega, by omega, i5⟩, ?_⟩
      show (hi - (lo + hi) / 2).toNat < (hi - lo).toNat
      omega
     ·intro c177
      refine vnil ?_
      refine V.condF rfl ?_
      refine V.reg rfl ?_
      refine mvi rfl ?_
      refine asi rfl ?_
      refine vnil ?_
      refine ⟨rfl, (_, _), ⟨rfl, rfl, rfl, rfl, rfl, rfl, rfl, trivial⟩, ⟨rfl, rfl, trivial⟩, ⟨z176, by omega, by omega, by omega, i4, by omega⟩, ?_⟩
      show ((lo + hi) / 2 - lo).toNat < (hi - lo).toNat
      omega
    ·intro c145
     refine vnil ?_
     refine V.condF rfl ?_
     refine V.exit ?_
     refine V.seq (V.reg rfl ?_)
     refine mvs rfl ?_
     refine mvi rfl ?_
     refine mvi rfl ?_
     refine vv (rcv Tryz.underlying162 Tryz.underlying164 rfl (m32 _)) ?_
     refine vv (rix sl44 sz164 rfl rfl (by omega) (by omega) rfl) ?_
     refine vo ?_
     refine xsti hA rfl rfl sz164 (by simp only [kb]; omega) (by omega) (by omega) ?_
     intro W178 y179 hA
     have z180 := z142.below (y179.below (by omega))
     have s181 := y179.size
     refine vnil ?_
     refine V.reg rfl ?_
     refine mvs rfl ?_
     refine mvs rfl ?_
     refine mvi rfl ?_
     refine vv (rcv Tryz.underlying162 Tryz.underlying164 rfl (m32 _)) ?_
     refine vo ?_
     refine xbs (ps := [(0, .int _ _)]) (cs := [.int _ _]) sl44 zr164 sz164 rfl rfl rfl rfl rfl rfl ?_
     intro W182 x183 b184 nn185
     have s186 := x183.sz
     have z187 := z180.trans x183
     replace hA := hA.ext x183
     have hl188 := RN.lit (k := .u32) (xs := [_]) 1 b184 (by intro q hq; simp only [List.mem_cons, List.not_mem_nil, or_false] at hq; simp only [kb]; omega) (hu2 W178 (by omega) _ (Nat.le_refl _))
     refine vo ?_
     refine xcall e205 (mul_ok _ _ _ _ _ _ _ _ _ _ _ _ (hy.ext z187) hl188 (by omega) (by omega) (hu2 _ (by omega))) rfl rfl ?_
     rintro _ W193 ⟨zs190, ⟨_, _, _, rfl, x194, hw189⟩, hv191, hl192⟩
     have s195 := x194.sz
     have z196 := z187.trans x194
     replace hA := hA.ext x194
     have hw189l := hw189.len
     refine ⟨_, rfl, ?_⟩
     refine vo ?_
     refine xcall e176 (trim_ok _ _ _ _ _ _ hw189) rfl rfl ?_
     rintro _ _ ⟨m198, rfl, hr197, hm199, rfl⟩
     refine ⟨_, rfl, ?_⟩
     have ez : vl b32 zs190 = v * lo := by rw [hv191, vl_dg (by decide) hv0]; simp only [vl, Int.mul_zero, Int.add_zero]; rw [Int.emod_eq_of_lt (by omega) (by omega)]
     have hlm : v * (lo + 1) = v * lo + v := by rw [Int.mul_add, Int.mul_one]
     have h1 : R1 < v * lo + v := by rw [← hlm, show lo + 1 = hi by omega]; exact i5
     have hz0 : 0 ≤ v * lo := Int.mul_nonneg (by omega) i1
     rw [ez] at hr197; have l86 := hr197.len; have l86b := dg_len_mono hz0 i4
     refine vo ?_
     refine xcall e208 (sub_ok _ _ _ _ _ _ _ _ _ _ _ _ ((hr54.ext z144).ck (((y179.ck (by intro hh; first | (simp [SX] at hh <;> omega) | omega)).trans (x183.ck _)).trans (x194.ck _))) hr197 (by omega) (by omega) (by rw [vl_dg (by decide) hz0, vl_dg (by decide) p1]; exact i4) (hu2 _ (by omega))) rfl rfl ?_
     rintro _ W205 ⟨zs202, ⟨_, _, _, rfl, x206, hw201⟩, hv203, hl204⟩
     have s207 := x206.sz
     have z208 := z196.trans x206
     replace hA := hA.ext x206
     have hw201l := hw201.len
     refine ⟨_, rfl, ?_⟩
     refine vo ?_
     refine xcall e176 (trim_ok _ _ _ _ _ _ hw201) rfl rfl ?_
     rintro _ _ ⟨m210, rfl, hr209, hm211, rfl⟩
     refine ⟨_, rfl, ?_⟩
     refine ass rfl ?_
     refine vnil ?_
     refine V.reg rfl ?_
     refine vv (rbin (bAdd (wi (by omega))) rfl rfl) ?_
     refine mvi rfl ?_
     refine vnil ?_
     have ez3 : vl b32 zs202 = R1 - v * lo := by rw [hv203, vl_dg (by decide) p1, vl_dg (by decide) hz0]
     rw [ez3] at hr209; have l87 := hr209.len; have l87b := dg_len_mono (u := R1 - v * lo) (v := v) (by omega) (by omega); have elo : lo % 4294967296 = lo := Int.emod_eq_of_lt (by omega) (by omega)
     refine ⟨rfl, (k + 1, _, R1 - v * lo, _, _, _), ⟨rfl, rfl, rfl, rfl, trivial⟩, ⟨rfl, rfl, trivial⟩, ⟨z208, by omega, hA, by omega, by omega, hr209, by omega, by rw [elo, eR1]; exact long_step (by omega) lA l1 hq36 hz hinv, fun j hj => (wd_set_ne (by omega)).trans (hz j (by omega))⟩, ?_⟩
     show n - (k + 1) < n - k
     omega
  ·intro c35
   refine vnil ?_
   refine V.seq ?_
   refine V.condF rfl ?_
   refine V.exit ?_
   refine V.seq (V.reg rfl ?_)
   refine mvs rfl ?_
   have ha213 := hA.rn (S := S) (hu _ (by omega))
   refine vo ?_
   refine xcall e176 (trim_ok _ _ _ _ _ _ ha213) rfl rfl ?_
   rintro _ _ ⟨m215, rfl, hr214, hm216, rfl⟩
   refine ⟨_, rfl, ?_⟩
   refine mvs rfl ?_
   refine ass rfl ?_
   refine ass rfl ?_
   refine vnil ?_
   refine V.ret ?_
   refine ⟨[.slice _ _ _, .slice _ _ _], ⟨rfl, rfl, trivial⟩, ?_⟩
   have hq := divmod_of (u := u) (v := v) (by simpa [show n - k = 0 by omega, vl] using hinv) r0 r1
   exact ⟨_, _, _, _, _, _, rfl, z33, hq.1 ▸ hr214, hq.2 ▸ (hR).un⟩
end Go.Proofs.YtknbjfefeeojlaaGreat
/- Package whole: the exported operations. -/
namespace Go.Proofs.YtknbjfefeeojlaaGreat
open Go.RowKit
attribute [local irreducible] RV VH V OpF Calls
theorem RN.top {k : IntKind} {S : Nat → Prop} {W : World} {a : Option Addr} {n c : Nat} {xs : List Int} (h : RN k S W a n c xs) : RN k (fun _ => True) W a n c xs := h.sub fun _ _ _ => trivial

set_option maxHeartbeats 400000 in
theorem wAdd_ok (n1 n2 : Bool) (a1 a2 : Option Addr) (l1 c1 l2 c2 : Nat) (z1 z2 : Int) (L1 L2 : Nat) (S S1 S2 : Nat → Prop) (w : World) (h1 : ZA L1 S1 w n1 a1 l1 c1 z1) (h2 : ZA L2 S2 w n2 a2 l2 c2 z2) (hL1 : L1 ≤ LY) (hL2 : L2 ≤ LY) (hu : Up S w) :
    Calls Tryz.prog 181 #[.agg #[.bool n1, .slice a1 l1 c1], .agg #[.bool n2, .slice a2 l2 c2]] w (PZ S (z1 + z2) w) := by
 have z0 := Ext.refl w; have hLX : LX = 17592186044416 := rfl; have hLY : LY = 8796093022208 := rfl
 obtain ⟨xs, hx, q1, rfl⟩ := h1; obtain ⟨ys, hy, q2, rfl⟩ := h2
 have hvx := vl_nonneg (B := b32) (by decide) hx.dg32; have hvy := vl_nonneg (B := b32) (by decide) hy.dg32
 have lx := hx.len; have ly := hy.len
 have hu2 : ∀ W : World, w.heap.size + 3 ≤ W.heap.size → Up (SX S [w.heap.size + 2]) W := fun W hW => SX.up (hu.mono (by omega)) (by simp <;> omega)
 refine enter (args := [.agg #[.bool n1, .slice a1 l1 c1], .agg #[.bool n2, .slice a2 l2 c2]]) Tryz.func181 rfl rfl (Nat.le_of_ble_eq_true rfl) ?_
 refine V.seq (V.reg rfl ?_)
 refine vo ?_
 refine bxa rfl ?_
 intro W1 x2 b3 nn4
 have s5 := x2.sz
 have z6 := x2
 refine vo ?_
 refine bxa rfl ?_
 intro W7 x8 b9 nn10
 have s11 := x8.sz
 have z12 := z6.trans x8
 replace b3 := b3.ext x8
 refine vo ?_
 refine xal zc46 ?_
 intro W13 x14 b15 nn16
 have s17 := x14.sz
 have z18 := z12.trans x14
 replace b3 := b3.ext x14
 replace b9 := b9.ext x14
 refine vnil ?_
 refine V.seq (V.regD mixed rfl ?_)
 intro W19 x20
 have s21 := x20.sz
 have z22 := z18.trans x20
 replace b3 := b3.ext x20
 replace b9 := b9.ext x20
 replace b15 := b15.ext x20
 have q23 := Ext.refl W19
 have r24 := b3
 have r25 := b9
 have r26 := b15
 refine tk 0 rfl (by kernel_rfl) q23 (pv (fun _ y27 => rfa rfl fd46_1)) ?_
 refine tk 1 rfl (by kernel_rfl) q23 (pv (fun _ y28 => rldb (v := .slice _ _ _) rfl sc44 (r24.ext y28) rfl)) ?_
 refine tk 3 rfl (by kernel_rfl) q23 (pv (fun _ y29 => rfa rfl fd46_1)) ?_
 refine tk 4 rfl (by kernel_rfl) q23 (pv (fun _ y30 => rldb (v := .slice _ _ _) rfl sc44 (r25.ext y30) rfl)) ?_
 refine ef 2 (by kernel_rfl) rfl ?_
 refine xcall e176 (trim_ok _ _ _ _ _ _ (hx.ext z22)) rfl rfl ?_
 rintro _ _ ⟨m32, rfl, hr31, hm33, rfl⟩
 refine ⟨_, rfl, ?_⟩
 refine ⟨fun _ => q23, ?_⟩
 refine ef 5 (by kernel_rfl) rfl ?_
 refine xcall e176 (trim_ok _ _ _ _ _ _ (hy.ext z22)) rfl rfl ?_
 rintro _ _ ⟨m36, rfl, hr35, hm37, rfl⟩
 refine ⟨_, rfl, ?_⟩
 refine ⟨fun _ => q23, ?_⟩
 refine tk 6 rfl (by kernel_rfl) q23 (pv (fun _ y39 => ras (v := .slice _ _ _) rfl)) ?_
 refine tk 7 rfl (by kernel_rfl) q23 (pv (fun _ y40 => ras (v := .slice _ _ _) rfl)) ?_
 refine dn (by kernel_rfl) ?_
 refine V.seq ?_
 refine V.block ?_
 refine V.seq (V.reg rfl ?_)
 have l25 := hr31.len
 have l26 := hr35.len
 refine vv (rfa rfl fd46_0) ?_
 refine vv (rldb (v := .bool _) rfl sc4 b3 rfl) ?_
 refine vv (rfa rfl fd46_0) ?_
 refine vv (rldb (v := .bool _) rfl sc4 b9 rfl) ?_
 refine vv (rbeq Tryz.underlying4 rfl rfl rfl) ?_
 refine asb rfl ?_
 refine vnil ?_
 refine V.condB rfl ?_ ?_
 ·intro c41
  refine V.seq (V.regD mixed rfl ?_)
  intro W42 x43
  have s44 := x43.sz
  have z45 := z22.trans x43
  replace b3 := b3.ext x43
  replace b9 := b9.ext x43
  replace b15 := b15.ext x43
  have q46 := Ext.refl W42
  have r47 := b3
  have r48 := b9
  have r49 := b15
  refine tk 0 rfl (by kernel_rfl) q46 (pv (fun _ y50 => rfa rfl fd46_0)) ?_
  refine tk 1 rfl (by kernel_rfl) q46 (pv (fun _ y51 => rldb (v := .bool _) rfl sc4 (r47.ext y51) rfl)) ?_
  refine tk 2 rfl (by kernel_rfl) q46 (pv (fun _ y52 => rmv (v := .slice _ _ _) rfl)) ?_
  refine tk 3 rfl (by kernel_rfl) q46 (pv (fun _ y53 => rmv (v := .slice _ _ _) rfl)) ?_
  refine ef 4 (by kernel_rfl) rfl ?_
  refine xcall e206 (add_ok _ _ _ _ _ _ _ _ _ _ _ _ (hr31.ext x43) (hr35.ext x43) (by omega) (by omega) (hu2 _ (by omega))) rfl rfl ?_
  rintro _ W58 ⟨zs55, ⟨_, _, _, rfl, x59, hw54⟩, hv56, hl57⟩
  have s60 := x59.sz
  have z61 := z45.trans x59
  replace b15 := b15.ext x59
  have q62 := q46.trans x59
  have hw54l := hw54.len
  refine ⟨_, rfl, ?_⟩
  refine ⟨fun _ => q62, ?_⟩
  refine ef 5 (by kernel_rfl) rfl ?_
  refine xcall e157 (made_ok _ _ _ _ _ _ _ hw54) rfl rfl ?_
  rintro _ W64 ⟨_, _, _, _, rfl, x65, hz63⟩
  have s66 := x65.sz
  have z67 := z61.trans x65
  replace b15 := b15.ext x65
  have q68 := q62.trans x65
  refine ⟨_, rfl, ?_⟩
  refine ⟨fun _ => q68, ?_⟩
  refine ef 6 (by kernel_rfl) rfl ?_
  refine sta (cs' := [_, _]) b15 rfl rfl sz46 rfl rfl rfl ?_
  intro W69 y70 b15
  have z71 := z67.below (y70.below (by omega))
  have s72 := y70.size
  refine lastT (by kernel_rfl) ?_
  refine dn (by kernel_rfl) ?_
  refine V.ret ?_
  refine ⟨[_], ⟨⟨_, rfl, lvb ag46 b15 rfl⟩, trivial⟩, ?_⟩
  refine ⟨_, _, _, _, rfl, z71, ((hz63.ck (y70.ck (by intro hh; first | (simp [SX] at hh <;> omega) | omega)))).un.cast ?_⟩
  rw [hv56, vl_dg (by decide) hvx, vl_dg (by decide) hvy]
  cases n1 <;> cases n2 <;> simp_all <;> omega
 ·intro c41
  refine V.seq (V.reg rfl ?_)
  refine mvs rfl ?_
  refine mvs rfl ?_
  refine vo ?_
  refine xcall e207 (cmp_ok _ _ _ _ _ _ _ _ _ _ _ hr31 hr35 (hvx) (hvy)) rfl rfl ?_
  rintro _ W75 ⟨s74, rfl, x76, hc73⟩
  have s77 := x76.sz
  have z78 := z22.trans x76
  replace b3 := b3.ext x76
  replace b9 := b9.ext x76
  replace b15 := b15.ext x76
  refine ⟨_, rfl, ?_⟩
  have hc := hc73
  refine vge rfl rfl ?_ ?_
  ·intro c79
   have hle : vl b32 ys ≤ vl b32 xs := by omega
   have hlm := dg_len_mono hvy hle; have e1 := vl_dg (B := b32) (by decide) hvx; have e2 := vl_dg (B := b32) (by decide) hvy
   refine asb rfl ?_
   refine vnil ?_
   refine V.condT rfl ?_
   refine V.seq (V.regD mixed rfl ?_)
   intro W80 x81
   have s82 := x81.sz
   have z83 := z78.trans x81
   replace b3 := b3.ext x81
   replace b9 := b9.ext x81
   replace b15 := b15.ext x81
   have q84 := Ext.refl W80
   have r85 := b3
   have r86 := b9
   have r87 := b15
   refine tk 0 rfl (by kernel_rfl) q84 (pv (fun _ y88 => rfa rfl fd46_0)) ?_
   refine tk 1 rfl (by kernel_rfl) q84 (pv (fun _ y89 => rldb (v := .bool _) rfl sc4 (r85.ext y89) rfl)) ?_
   refine tk 2 rfl (by kernel_rfl) q84 (pv (fun _ y90 => rmv (v := .slice _ _ _) rfl)) ?_
   refine tk 3 rfl (by kernel_rfl) q84 (pv (fun _ y91 => rmv (v := .slice _ _ _) rfl)) ?_
   refine ef 4 (by kernel_rfl) rfl ?_
   refine xcall e208 (sub_ok _ _ _ _ _ _ _ _ _ _ _ _ (hr31.ext (x76.trans x81)) (hr35.ext (x76.trans x81)) (by omega) (by omega) (by rw [e1, e2]; exact hle) (hu2 _ (by omega))) rfl rfl ?_
   rintro _ W96 ⟨zs93, ⟨_, _, _, rfl, x97, hw92⟩, hv94, hl95⟩
   have s98 := x97.sz
   have z99 := z83.trans x97
   replace b15 := b15.ext x97
   have q100 := q84.trans x97
   have hw92l := hw92.len
   refine ⟨_, rfl, ?_⟩
   refine ⟨fun _ => q100, ?_⟩
   refine ef 5 (by kernel_rfl) rfl ?_
   refine xcall e157 (made_ok _ _ _ _ _ _ _ hw92) rfl rfl ?_
   rintro _ W102 ⟨_, _, _, _, rfl, x103, hz101⟩
   have s104 := x103.sz
   have z105 := z99.trans x103
   replace b15 := b15.ext x103
   have q106 := q100.trans x103
   refine ⟨_, rfl, ?_⟩
   refine ⟨fun _ => q106, ?_⟩
   refine ef 6 (by kernel_rfl) rfl ?_
   refine sta (cs' := [_, _]) b15 rfl rfl sz46 rfl rfl rfl ?_
   intro W107 y108 b15
   have z109 := z105.below (y108.below (by omega))
   have s110 := y108.size
   refine lastT (by kernel_rfl) ?_
   refine dn (by kernel_rfl) ?_
   refine V.ret ?_
   refine ⟨[_], ⟨⟨_, rfl, lvb ag46 b15 rfl⟩, trivial⟩, ?_⟩
   refine ⟨_, _, _, _, rfl, z109, ((hz101.ck (y108.ck (by intro hh; first | (simp [SX] at hh <;> omega) | omega)))).un.cast ?_⟩
   rw [hv94, vl_dg (by decide) hvx, vl_dg (by decide) hvy]
   cases n1 <;> cases n2 <;> simp_all <;> omega
  ·intro c79
   have hle : vl b32 xs ≤ vl b32 ys := by omega
   have hlm := dg_len_mono hvx hle; have e1 := vl_dg (B := b32) (by decide) hvx; have e2 := vl_dg (B := b32) (by decide) hvy
   refine asb rfl ?_
   refine vnil ?_
   refine V.condF rfl ?_
   refine V.skip ?_
   refine V.seq (V.regD mixed rfl ?_)
   intro W111 x112
   have s113 := x112.sz
   have z114 := z78.trans x112
   replace b3 := b3.ext x112
   replace b9 := b9.ext x112
   replace b15 := b15.ext x112
   have q115 := Ext.refl W111
   have r116 := b3
   have r117 := b9
   have r118 := b15
   refine tk 0 rfl (by kernel_rfl) q115 (pv (fun _ y119 => rfa rfl fd46_0)) ?_
   refine tk 1 rfl (by kernel_rfl) q115 (pv (fun _ y120 => rldb (v := .bool _) rfl sc4 (r117.ext y120) rfl)) ?_
   refine tk 2 rfl (by kernel_rfl) q115 (pv (fun _ y121 => rmv (v := .slice _ _ _) rfl)) ?_
   refine tk 3 rfl (by kernel_rfl) q115 (pv (fun _ y122 => rmv (v := .slice _ _ _) rfl)) ?_
   refine ef 4 (by kernel_rfl) rfl ?_
   refine xcall e208 (sub_ok _ _ _ _ _ _ _ _ _ _ _ _ (hr35.ext (x76.trans x112)) (hr31.ext (x76.trans x112)) (by omega) (by omega) (by rw [e1, e2]; exact hle) (hu2 _ (by omega))) rfl rfl ?_
   rintro _ W127 ⟨zs124, ⟨_, _, _, rfl, x128, hw123⟩, hv125, hl126⟩
   have s129 := x128.sz
   have z130 := z114.trans x128
   replace b15 := b15.ext x128
   have q131 := q115.trans x128
   have hw123l := hw123.len
   refine ⟨_, rfl, ?_⟩
   refine ⟨fun _ => q131, ?_⟩
   refine ef 5 (by kernel_rfl) rfl ?_
   refine xcall e157 (made_ok _ _ _ _ _ _ _ hw123) rfl rfl ?_
   rintro _ W133 ⟨_, _, _, _, rfl, x134, hz132⟩
   have s135 := x134.sz
   have z136 := z130.trans x134
   replace b15 := b15.ext x134
   have q137 := q131.trans x134
   refine ⟨_, rfl, ?_⟩
   refine ⟨fun _ => q137, ?_⟩
   refine ef 6 (by kernel_rfl) rfl ?_
   refine sta (cs' := [_, _]) b15 rfl rfl sz46 rfl rfl rfl ?_
   intro W138 y139 b15
   have z140 := z136.below (y139.below (by omega))
   have s141 := y139.size
   refine lastT (by kernel_rfl) ?_
   refine dn (by kernel_rfl) ?_
   refine V.ret ?_
   refine ⟨[_], ⟨⟨_, rfl, lvb ag46 b15 rfl⟩, trivial⟩, ?_⟩
   refine ⟨_, _, _, _, rfl, z140, ((hz132.ck (y139.ck (by intro hh; first | (simp [SX] at hh <;> omega) | omega)))).un.cast ?_⟩
   rw [hv125, vl_dg (by decide) hvx, vl_dg (by decide) hvy]
   cases n1 <;> cases n2 <;> simp_all <;> omega
set_option maxHeartbeats 400000 in
theorem wSub_ok (n1 n2 : Bool) (a1 a2 : Option Addr) (l1 c1 l2 c2 : Nat) (z1 z2 : Int) (L1 L2 : Nat) (S S1 S2 : Nat → Prop) (w : World) (h1 : ZA L1 S1 w n1 a1 l1 c1 z1) (h2 : ZA L2 S2 w n2 a2 l2 c2 z2) (hL1 : L1 ≤ LY) (hL2 : L2 ≤ LY) (hu : Up S w) :
    Calls Tryz.prog 183 #[.agg #[.bool n1, .slice a1 l1 c1], .agg #[.bool n2, .slice a2 l2 c2]] w (PZ S (z1 - z2) w) := by
 have z0 := Ext.refl w; have hLX : LX = 17592186044416 := rfl; have hLY : LY = 8796093022208 := rfl
 have h2n := h2.ng
 have hu2 : ∀ W : World, w.heap.size + 3 ≤ W.heap.size → Up (SX S [w.heap.size + 2]) W := fun W hW => SX.up (hu.mono (by omega)) (by simp <;> omega)
 refine enter (args := [.agg #[.bool n1, .slice a1 l1 c1], .agg #[.bool n2, .slice a2 l2 c2]]) Tryz.func183 rfl rfl (Nat.le_of_ble_eq_true rfl) ?_
 refine V.seq (V.reg rfl ?_)
 refine vo ?_
 refine bxa rfl ?_
 intro W1 x2 b3 nn4
 have s5 := x2.sz
 have z6 := x2
 refine vo ?_
 refine bxa rfl ?_
 intro W7 x8 b9 nn10
 have s11 := x8.sz
 have z12 := z6.trans x8
 replace b3 := b3.ext x8
 refine vo ?_
 refine xal zc46 ?_
 intro W13 x14 b15 nn16
 have s17 := x14.sz
 have z18 := z12.trans x14
 replace b3 := b3.ext x14
 replace b9 := b9.ext x14
 refine vnil ?_
 refine V.seq (V.reg rfl ?_)
 refine vv (rldb2 rfl ag46 b3 rfl rfl ) ?_
 refine vv (rfa rfl fd46_0) ?_
 refine vv (rldb (v := .bool _) rfl sc4 b9 rfl) ?_
 refine vv (rnot (q := _) rfl rfl) ?_
 refine vv (rfa rfl fd46_1) ?_
 refine vv (rldb (v := .slice _ _ _) rfl sc44 b9 rfl) ?_
 refine vv (rbd (ps := [(0, .bool _), (1, .slice _ _ _)]) (cs := [.bool _, .slice _ _ _]) pl46 rfl rfl) ?_
 refine vo ?_
 refine xcall e181 (wAdd_ok _ _ _ _ _ _ _ _ _ _ _ _ _ _ _ _ (h1.ext z18) (h2n.ext z18) (by omega) (by omega) (hu2 _ (by omega))) rfl rfl ?_
 rintro _ W19 ⟨_, _, _, _, rfl, x20, hz⟩
 have s21 := x20.sz
 have z22 := z18.trans x20
 replace b15 := b15.ext x20
 refine ⟨_, rfl, ?_⟩
 refine vo ?_
 refine sta (cs' := [_, _]) b15 rfl rfl sz46 rfl rfl rfl ?_
 intro W23 y24 b15
 have z25 := z22.below (y24.below (by omega))
 have s26 := y24.size
 refine vnil ?_
 refine V.ret ?_
 refine ⟨[_], ⟨⟨_, rfl, lvb ag46 b15 rfl⟩, trivial⟩, ?_⟩
 exact ⟨_, _, _, _, rfl, z25, ((hz.ck (y24.ck (by intro hh; first | (simp [SX] at hh <;> omega) | omega)))).un.cast (by omega)⟩
set_option maxHeartbeats 400000 in
theorem wMul_ok (n1 n2 : Bool) (a1 a2 : Option Addr) (l1 c1 l2 c2 : Nat) (z1 z2 : Int) (L1 L2 : Nat) (S S1 S2 : Nat → Prop) (w : World) (h1 : ZA L1 S1 w n1 a1 l1 c1 z1) (h2 : ZA L2 S2 w n2 a2 l2 c2 z2) (hL1 : L1 ≤ LY) (hL2 : L2 ≤ LY) (hu : Up S w) :
    Calls Tryz.prog 179 #[.agg #[.bool n1, .slice a1 l1 c1], .agg #[.bool n2, .slice a2 l2 c2]] w (PZ S (z1 * z2) w) := by
 have z0 := Ext.refl w; have hLX : LX = 17592186044416 := rfl; have hLY : LY = 8796093022208 := rfl
 obtain ⟨xs, hx, q1, rfl⟩ := h1; obtain ⟨ys, hy, q2, rfl⟩ := h2
 have hvx := vl_nonneg (B := b32) (by decide) hx.dg32; have hvy := vl_nonneg (B := b32) (by decide) hy.dg32
 have lx := hx.len; have ly := hy.len
 have hu2 : ∀ W : World, w.heap.size + 3 ≤ W.heap.size → Up (SX S [w.heap.size + 2]) W := fun W hW => SX.up (hu.mono (by omega)) (by simp <;> omega)
 refine enter (args := [.agg #[.bool n1, .slice a1 l1 c1], .agg #[.bool n2, .slice a2 l2 c2]]) Tryz.func179 rfl rfl (Nat.le_of_ble_eq_true rfl) ?_
 refine V.seq (V.reg rfl ?_)
 refine vo ?_
 refine bxa rfl ?_
 intro W1 x2 b3 nn4
 have s5 := x2.sz
 have z6 := x2
 refine vo ?_
 refine bxa rfl ?_
 intro W7 x8 b9 nn10
 have s11 := x8.sz
 have z12 := z6.trans x8
 replace b3 := b3.ext x8
 refine vo ?_
 refine xal zc46 ?_
 intro W13 x14 b15 nn16
 have s17 := x14.sz
 have z18 := z12.trans x14
 replace b3 := b3.ext x14
 replace b9 := b9.ext x14
 refine vnil ?_
 refine V.seq (V.regD mixed rfl ?_)
 intro W19 x20
 have s21 := x20.sz
 have z22 := z18.trans x20
 replace b3 := b3.ext x20
 replace b9 := b9.ext x20
 replace b15 := b15.ext x20
 have q23 := Ext.refl W19
 have r24 := b3
 have r25 := b9
 have r26 := b15
 refine tk 0 rfl (by kernel_rfl) q23 (pv (fun _ y27 => rfa rfl fd46_0)) ?_
 refine tk 1 rfl (by kernel_rfl) q23 (pv (fun _ y28 => rldb (v := .bool _) rfl sc4 (r24.ext y28) rfl)) ?_
 refine tk 2 rfl (by kernel_rfl) q23 (pv (fun _ y29 => rfa rfl fd46_0)) ?_
 refine tk 3 rfl (by kernel_rfl) q23 (pv (fun _ y30 => rldb (v := .bool _) rfl sc4 (r25.ext y30) rfl)) ?_
 refine tk 4 rfl (by kernel_rfl) q23 (pv (fun _ y31 => rbne Tryz.underlying4 rfl rfl rfl)) ?_
 refine tk 5 rfl (by kernel_rfl) q23 (pv (fun _ y32 => rfa rfl fd46_1)) ?_
 refine tk 6 rfl (by kernel_rfl) q23 (pv (fun _ y33 => rldb (v := .slice _ _ _) rfl sc44 (r24.ext y33) rfl)) ?_
 refine tk 8 rfl (by kernel_rfl) q23 (pv (fun _ y34 => rfa rfl fd46_1)) ?_
 refine tk 9 rfl (by kernel_rfl) q23 (pv (fun _ y35 => rldb (v := .slice _ _ _) rfl sc44 (r25.ext y35) rfl)) ?_
 refine ef 7 (by kernel_rfl) rfl ?_
 refine xcall e176 (trim_ok _ _ _ _ _ _ (hx.ext z22)) rfl rfl ?_
 rintro _ _ ⟨m37, rfl, hr36, hm38, rfl⟩
 refine ⟨_, rfl, ?_⟩
 refine ⟨fun _ => q23, ?_⟩
 refine ef 10 (by kernel_rfl) rfl ?_
 refine xcall e176 (trim_ok _ _ _ _ _ _ (hy.ext z22)) rfl rfl ?_
 rintro _ _ ⟨m41, rfl, hr40, hm42, rfl⟩
 refine ⟨_, rfl, ?_⟩
 refine ⟨fun _ => q23, ?_⟩
 refine ef 11 (by kernel_rfl) rfl ?_
 have l32 := hr36.len
 have l35 := hr40.len
 refine xcall e205 (mul_ok _ _ _ _ _ _ _ _ _ _ _ _ hr36 hr40 (by omega) (by omega) (hu2 _ (by omega))) rfl rfl ?_
 rintro _ W48 ⟨zs45, ⟨_, _, _, rfl, x49, hw44⟩, hv46, hl47⟩
 have s50 := x49.sz
 have z51 := z22.trans x49
 replace b15 := b15.ext x49
 have q52 := q23.trans x49
 have hw44l := hw44.len
 refine ⟨_, rfl, ?_⟩
 refine ⟨fun _ => q52, ?_⟩
 refine ef 12 (by kernel_rfl) rfl ?_
 refine xcall e157 (made_ok _ _ _ _ _ _ _ hw44) rfl rfl ?_
 rintro _ W54 ⟨_, _, _, _, rfl, x55, hz53⟩
 have s56 := x55.sz
 have z57 := z51.trans x55
 replace b15 := b15.ext x55
 have q58 := q52.trans x55
 refine ⟨_, rfl, ?_⟩
 refine ⟨fun _ => q58, ?_⟩
 refine ef 13 (by kernel_rfl) rfl ?_
 refine sta (cs' := [_, _]) b15 rfl rfl sz46 rfl rfl rfl ?_
 intro W59 y60 b15
 have z61 := z57.below (y60.below (by omega))
 have s62 := y60.size
 refine lastT (by kernel_rfl) ?_
 refine dn (by kernel_rfl) ?_
 refine V.ret ?_
 refine ⟨[_], ⟨⟨_, rfl, lvb ag46 b15 rfl⟩, trivial⟩, ?_⟩
 refine ⟨_, _, _, _, rfl, z61, ((hz53.ck (y60.ck (by intro hh; first | (simp [SX] at hh <;> omega) | omega)))).un.cast ?_⟩
 rw [hv46, vl_dg (by decide) hvx, vl_dg (by decide) hvy]
 cases n1 <;> cases n2 <;> simp [Int.neg_mul, Int.mul_neg]
set_option maxHeartbeats 400000 in
theorem wCmp_ok (n1 n2 : Bool) (a1 a2 : Option Addr) (l1 c1 l2 c2 : Nat) (z1 z2 : Int) (L1 L2 : Nat) (S1 S2 : Nat → Prop) (w : World) (h1 : ZA L1 S1 w n1 a1 l1 c1 z1) (h2 : ZA L2 S2 w n2 a2 l2 c2 z2) (hL1 : L1 ≤ LY) (hL2 : L2 ≤ LY) :
    Calls Tryz.prog 178 #[.agg #[.bool n1, .slice a1 l1 c1], .agg #[.bool n2, .slice a2 l2 c2]] w (fun e w' => ∃ s, e = .returned (.int .i64 s) ∧ Ext w w' ∧ s = sg (z1 - z2)) := by
 have z0 := Ext.refl w; have hLX : LX = 17592186044416 := rfl; have hLY : LY = 8796093022208 := rfl
 have hu2 : ∀ W : World, w.heap.size ≤ W.heap.size → Up (fun q => w.heap.size ≤ q) W := fun W hW b hb => by omega
 refine enter (args := [.agg #[.bool n1, .slice a1 l1 c1], .agg #[.bool n2, .slice a2 l2 c2]]) Tryz.func178 rfl rfl (Nat.le_of_ble_eq_true rfl) ?_
 refine V.seq (V.reg rfl ?_)
 refine vo ?_
 refine bxa rfl ?_
 intro W1 x2 b3 nn4
 have s5 := x2.sz
 have z6 := x2
 refine vo ?_
 refine bxa rfl ?_
 intro W7 x8 b9 nn10
 have s11 := x8.sz
 have z12 := z6.trans x8
 replace b3 := b3.ext x8
 refine asi rfl ?_
 refine vnil ?_
 refine V.seq (V.reg rfl ?_)
 refine vv (rldb2 rfl ag46 b3 rfl rfl ) ?_
 refine vv (rldb2 rfl ag46 b9 rfl rfl ) ?_
 refine vo ?_
 refine xcall e183 (wSub_ok _ _ _ _ _ _ _ _ _ _ _ _ _ _ _ _ (h1.ext z12) (h2.ext z12) (by omega) (by omega) (hu2 _ (by omega))) rfl rfl ?_
 rintro _ W14 ⟨_, _, _, _, rfl, x15, hz13⟩
 have s16 := x15.sz
 have z17 := z12.trans x15
 refine ⟨_, rfl, ?_⟩
 refine vo ?_
 refine xcall e138 (wSign_ok _ _ _ _ _ _ _ _ ((hz13).za (Nat.le_refl _))) rfl rfl ?_
 rintro _ W18 ⟨_, rfl, x19, hsg⟩
 have s20 := x19.sz
 have z21 := z17.trans x19
 refine ⟨_, rfl, ?_⟩
 refine asi rfl ?_
 refine vnil ?_
 refine V.ret ?_
 refine ⟨[.int _ _], ⟨rfl, trivial⟩, ?_⟩
 exact ⟨_, rfl, z21, hsg⟩

theorem ediv_nn {u v : Int} (hu : 0 ≤ u) (hv : 0 < v) : 0 ≤ u / v ∧ 0 ≤ u % v ∧ u % v < v ∧ u = v * (u / v) + u % v := ⟨Int.ediv_nonneg hu (by omega), Int.emod_nonneg _ (by omega), Int.emod_lt_of_pos _ hv, (Int.mul_ediv_add_emod u v).symm⟩
theorem dm_pos {u v : Int} (n2 : Bool) : (if (!(false == n2)) then -(u / v) else u / v) = u / (if n2 then -v else v) ∧ u % v = u % (if n2 then -v else v) := by
  cases n2 <;> simp [Int.ediv_neg, Int.emod_neg]
theorem dm_neg0 {u v : Int} (hv : 0 < v) (h : u % v = 0) (n2 : Bool) : (if (!(true == n2)) then -(u / v) else u / v) = (-u) / (if n2 then -v else v) ∧ u % v = (-u) % (if n2 then -v else v) := by
  have e := Int.mul_ediv_add_emod u v
  have hq := divmod_of (u := -u) (v := v) (q := -(u / v)) (r := 0) (by rw [Int.neg_mul, Int.mul_comm]; omega) (by omega) hv
  cases n2 <;> simp [Int.ediv_neg, Int.emod_neg] <;> omega
theorem dm_neg1 {u v : Int} (hv : 0 < v) (h : 0 < u % v) (n2 : Bool) : (if (!(true == n2)) then -(u / v + 1) else u / v + 1) = (-u) / (if n2 then -v else v) ∧ v - u % v = (-u) % (if n2 then -v else v) := by
  have e := Int.mul_ediv_add_emod u v
  have h1 := Int.emod_lt_of_pos u hv
  have hq := divmod_of (u := -u) (v := v) (q := -(u / v + 1)) (r := v - u % v) (by rw [Int.neg_mul, Int.add_mul, Int.mul_comm]; omega) (by omega) (by omega)
  cases n2 <;> simp [Int.ediv_neg, Int.emod_neg] <;> omega

set_option maxHeartbeats 400000 in
theorem wDivMod_ok (n1 n2 : Bool) (a1 a2 : Option Addr) (l1 c1 l2 c2 : Nat) (z1 z2 : Int) (L1 L2 : Nat) (S S1 S2 : Nat → Prop) (w : World) (h1 : ZA L1 S1 w n1 a1 l1 c1 z1) (h2 : ZA L2 S2 w n2 a2 l2 c2 z2) (hL1 : L1 ≤ LY) (hL2 : L2 ≤ LY) (hu : Up S w) (hz : z2 ≠ 0) :
    Calls Tryz.prog 187 #[.agg #[.bool n1, .slice a1 l1 c1], .agg #[.bool n2, .slice a2 l2 c2]] w (fun e w' => ∃ b1 a3 n3 c3 b2 a4 n4 c4, e = .returned (.tuple #[.agg #[.bool b1, .slice a3 n3 c3], .agg #[.bool b2, .slice a4 n4 c4], .int .i64 0]) ∧ Ext w w' ∧ ZC S w' b1 a3 n3 c3 (z1 / z2) ∧ ZC S w' b2 a4 n4 c4 (z1 % z2)) := by
 have z0 := Ext.refl w; have hLX : LX = 17592186044416 := rfl; have hLY : LY = 8796093022208 := rfl
 obtain ⟨xs, hx, q1, rfl⟩ := h1; obtain ⟨ys, hy, q2, rfl⟩ := h2
 have hvx := vl_nonneg (B := b32) (by decide) hx.dg32; have hvy := vl_nonneg (B := b32) (by decide) hy.dg32
 have lx := hx.len; have ly := hy.len
 have hu2 : ∀ W : World, w.heap.size + 4 ≤ W.heap.size → Up (SX S [w.heap.size + 2, w.heap.size + 3]) W := fun W hW => SX.up (hu.mono (by omega)) (by simp <;> omega)
 have hyz : vl b32 ys ≠ 0 := by intro h; rw [h] at hz; simp at hz
 cases n1
 ·skip
  refine enter (args := [.agg #[.bool false, .slice a1 l1 c1], .agg #[.bool n2, .slice a2 l2 c2]]) Tryz.func187 rfl rfl (Nat.le_of_ble_eq_true rfl) ?_
  refine V.seq (V.reg rfl ?_)
  refine vo ?_
  refine bxa rfl ?_
  intro W1 x2 b3 nn4
  have s5 := x2.sz
  have z6 := x2
  refine vo ?_
  refine bxa rfl ?_
  intro W7 x8 b9 nn10
  have s11 := x8.sz
  have z12 := z6.trans x8
  replace b3 := b3.ext x8
  refine vo ?_
  refine xal zc46 ?_
  intro W13 x14 b15 nn16
  have s17 := x14.sz
  have z18 := z12.trans x14
  replace b3 := b3.ext x14
  replace b9 := b9.ext x14
  refine vo ?_
  refine xal zc46 ?_
  intro W19 x20 b21 nn22
  have s23 := x20.sz
  have z24 := z18.trans x20
  replace b3 := b3.ext x20
  replace b9 := b9.ext x20
  replace b15 := b15.ext x20
  refine asi rfl ?_
  refine vnil ?_
  refine V.seq (V.regD mixed rfl ?_)
  intro W25 x26
  have s27 := x26.sz
  have z28 := z24.trans x26
  replace b3 := b3.ext x26
  replace b9 := b9.ext x26
  replace b15 := b15.ext x26
  replace b21 := b21.ext x26
  have q29 := Ext.refl W25
  have r30 := b3
  have r31 := b9
  have r32 := b15
  have r33 := b21
  refine tk 0 rfl (by kernel_rfl) q29 (pv (fun _ y34 => rfa rfl fd46_1)) ?_
  refine tk 1 rfl (by kernel_rfl) q29 (pv (fun _ y35 => rldb (v := .slice _ _ _) rfl sc44 (r30.ext y35) rfl)) ?_
  refine tk 3 rfl (by kernel_rfl) q29 (pv (fun _ y36 => rfa rfl fd46_1)) ?_
  refine tk 4 rfl (by kernel_rfl) q29 (pv (fun _ y37 => rldb (v := .slice _ _ _) rfl sc44 (r31.ext y37) rfl)) ?_
  refine ef 2 (by kernel_rfl) rfl ?_
  refine xcall e176 (trim_ok _ _ _ _ _ _ (hx.ext z28)) rfl rfl ?_
  rintro _ _ ⟨m39, rfl, hr38, hm40, rfl⟩
  refine ⟨_, rfl, ?_⟩
  refine ⟨fun _ => q29, ?_⟩
  refine ef 5 (by kernel_rfl) rfl ?_
  refine xcall e176 (trim_ok _ _ _ _ _ _ (hy.ext z28)) rfl rfl ?_
  rintro _ _ ⟨m43, rfl, hr42, hm44, rfl⟩
  refine ⟨_, rfl, ?_⟩
  refine ⟨fun _ => q29, ?_⟩
  refine tk 6 rfl (by kernel_rfl) q29 (pv (fun _ y46 => ras (v := .slice _ _ _) rfl)) ?_
  refine tk 7 rfl (by kernel_rfl) q29 (pv (fun _ y47 => ras (v := .slice _ _ _) rfl)) ?_
  refine dn (by kernel_rfl) ?_
  refine V.seq ?_
  refine V.seq (V.reg rfl ?_)
  refine mvs rfl ?_
  refine vv (rlen sl44 rfl) ?_
  refine veq rfl rfl ?_ ?_
  ·intro c48
   exact absurd ((dg_natAbs_len hvy (hr42).len).2 (by omega)) hyz
  ·intro c48
   refine vnil ?_
   refine V.condF rfl ?_
   refine V.skip ?_
   refine V.seq (V.reg rfl ?_)
   have l27 := hr38.len; have l28 := hr42.len; have hyp : 0 < vl b32 ys := by have := dg_natAbs_len hvy l28; omega
   have dm := ediv_nn hvx hyp
   refine mvs rfl ?_
   refine mvs rfl ?_
   refine vo ?_
   refine xcall e209 (div_ok _ _ _ _ _ _ _ _ _ _ _ _ hr38 hr42 (hvx) (hyp) (by omega) (by omega) (hu2 _ (by omega))) rfl rfl ?_
   rintro _ W51 ⟨_, _, _, _, _, _, rfl, x52, hd49, he50⟩
   have s53 := x52.sz
   have z54 := z28.trans x52
   replace b3 := b3.ext x52
   replace b9 := b9.ext x52
   replace b15 := b15.ext x52
   replace b21 := b21.ext x52
   refine ⟨_, rfl, ?_⟩
   refine mvt rfl ?_
   refine vv (rext (v := .slice _ _ _) rfl rfl) ?_
   refine vv (rext (v := .slice _ _ _) rfl rfl) ?_
   refine ass rfl ?_
   refine ass rfl ?_
   refine vnil ?_
   refine V.seq ?_
   refine V.seq (V.reg rfl ?_)
   refine vv (rfa rfl fd46_0) ?_
   refine vv (rldb (v := .bool false) rfl sc4 b3 rfl) ?_
   refine mvb rfl ?_
   refine vgn (b := false) rfl rfl ?_
   refine vgn (b := false) rfl rfl ?_
   refine vgn (b := false) rfl rfl ?_
   refine vv (rpk (v := .bool false) rfl rfl) ?_
   refine vnil ?_
   refine V.condF rfl ?_
   refine V.skip ?_
   refine V.seq (V.reg rfl ?_)
   refine vv (rfa rfl fd46_0) ?_
   refine vv (rldb (v := .bool false) rfl sc4 b3 rfl) ?_
   refine vv (rfa rfl fd46_0) ?_
   refine vv (rldb (v := .bool _) rfl sc4 b9 rfl) ?_
   refine vv (rbne Tryz.underlying4 rfl rfl rfl) ?_
   refine mvs rfl ?_
   refine vo ?_
   refine xcall e157 (made_ok _ _ _ _ _ _ _ hd49) rfl rfl ?_
   rintro _ W56 ⟨_, _, _, _, rfl, x57, hz55⟩
   have s58 := x57.sz
   have z59 := z54.trans x57
   replace b15 := b15.ext x57
   replace b21 := b21.ext x57
   refine ⟨_, rfl, ?_⟩
   refine mvs rfl ?_
   refine vo ?_
   refine xcall e157 (made_ok false _ _ _ _ _ _ (he50.ext x57)) rfl rfl ?_
   rintro _ W61 ⟨_, _, _, _, rfl, x62, hz60⟩
   have s63 := x62.sz
   have z64 := z59.trans x62
   replace b15 := b15.ext x62
   replace b21 := b21.ext x62
   refine ⟨_, rfl, ?_⟩
   refine vo ?_
   refine sta (cs' := [_, _]) b15 rfl rfl sz46 rfl rfl rfl ?_
   intro W65 y66 b15
   have z67 := z64.below (y66.below (by omega))
   replace b21 := b21.wr y66 (by omega)
   have s68 := y66.size
   refine vo ?_
   refine sta (cs' := [_, _]) b21 rfl rfl sz46 rfl rfl rfl ?_
   intro W69 y70 b21
   have z71 := z67.below (y70.below (by omega))
   replace b15 := b15.wr y70 (by omega)
   have s72 := y70.size
   refine asi rfl ?_
   refine vnil ?_
   refine V.ret ?_
   refine ⟨[_, _, .int _ _], ⟨⟨_, rfl, lvb ag46 b15 rfl⟩, ⟨_, rfl, lvb ag46 b21 rfl⟩, rfl, trivial⟩, ?_⟩
   refine ⟨_, _, _, _, _, _, _, _, rfl, z71, ((hz55.ck (((x62.ck _).trans (y66.ck (by intro hh; first | (simp [SX] at hh <;> omega) | omega))).trans (y70.ck (by intro hh; first | (simp [SX] at hh <;> omega) | omega))))).un.cast ?_, ((hz60.ck ((y66.ck (by intro hh; first | (simp [SX] at hh <;> omega) | omega)).trans (y70.ck (by intro hh; first | (simp [SX] at hh <;> omega) | omega))))).un.cast ?_⟩
   ·rw [vl_dg (by decide) dm.1]; exact (dm_pos n2).1
   ·rw [vl_dg (by decide) dm.2.1]; exact (dm_pos n2).2
 ·skip
  refine enter (args := [.agg #[.bool true, .slice a1 l1 c1], .agg #[.bool n2, .slice a2 l2 c2]]) Tryz.func187 rfl rfl (Nat.le_of_ble_eq_true rfl) ?_
  refine V.seq (V.reg rfl ?_)
  refine vo ?_
  refine bxa rfl ?_
  intro W73 x74 b75 nn76
  have s77 := x74.sz
  have z78 := x74
  refine vo ?_
  refine bxa rfl ?_
  intro W79 x80 b81 nn82
  have s83 := x80.sz
  have z84 := z78.trans x80
  replace b75 := b75.ext x80
  refine vo ?_
  refine xal zc46 ?_
  intro W85 x86 b87 nn88
  have s89 := x86.sz
  have z90 := z84.trans x86
  replace b75 := b75.ext x86
  replace b81 := b81.ext x86
  refine vo ?_
  refine xal zc46 ?_
  intro W91 x92 b93 nn94
  have s95 := x92.sz
  have z96 := z90.trans x92
  replace b75 := b75.ext x92
  replace b81 := b81.ext x92
  replace b87 := b87.ext x92
  refine asi rfl ?_
  refine vnil ?_
  refine V.seq (V.regD mixed rfl ?_)
  intro W97 x98
  have s99 := x98.sz
  have z100 := z96.trans x98
  replace b75 := b75.ext x98
  replace b81 := b81.ext x98
  replace b87 := b87.ext x98
  replace b93 := b93.ext x98
  have q101 := Ext.refl W97
  have r102 := b75
  have r103 := b81
  have r104 := b87
  have r105 := b93
  refine tk 0 rfl (by kernel_rfl) q101 (pv (fun _ y106 => rfa rfl fd46_1)) ?_
  refine tk 1 rfl (by kernel_rfl) q101 (pv (fun _ y107 => rldb (v := .slice _ _ _) rfl sc44 (r102.ext y107) rfl)) ?_
  refine tk 3 rfl (by kernel_rfl) q101 (pv (fun _ y108 => rfa rfl fd46_1)) ?_
  refine tk 4 rfl (by kernel_rfl) q101 (pv (fun _ y109 => rldb (v := .slice _ _ _) rfl sc44 (r103.ext y109) rfl)) ?_
  refine ef 2 (by kernel_rfl) rfl ?_
  refine xcall e176 (trim_ok _ _ _ _ _ _ (hx.ext z100)) rfl rfl ?_
  rintro _ _ ⟨m111, rfl, hr110, hm112, rfl⟩
  refine ⟨_, rfl, ?_⟩
  refine ⟨fun _ => q101, ?_⟩
  refine ef 5 (by kernel_rfl) rfl ?_
  refine xcall e176 (trim_ok _ _ _ _ _ _ (hy.ext z100)) rfl rfl ?_
  rintro _ _ ⟨m115, rfl, hr114, hm116, rfl⟩
  refine ⟨_, rfl, ?_⟩
  refine ⟨fun _ => q101, ?_⟩
  refine tk 6 rfl (by kernel_rfl) q101 (pv (fun _ y118 => ras (v := .slice _ _ _) rfl)) ?_
  refine tk 7 rfl (by kernel_rfl) q101 (pv (fun _ y119 => ras (v := .slice _ _ _) rfl)) ?_
  refine dn (by kernel_rfl) ?_
  refine V.seq ?_
  refine V.seq (V.reg rfl ?_)
  refine mvs rfl ?_
  refine vv (rlen sl44 rfl) ?_
  refine veq rfl rfl ?_ ?_
  ·intro c120
   exact absurd ((dg_natAbs_len hvy (hr114).len).2 (by omega)) hyz
  ·intro c120
   refine vnil ?_
   refine V.condF rfl ?_
   refine V.skip ?_
   refine V.seq (V.reg rfl ?_)
   have l27 := hr110.len; have l28 := hr114.len; have hyp : 0 < vl b32 ys := by have := dg_natAbs_len hvy l28; omega
   have dm := ediv_nn hvx hyp
   refine mvs rfl ?_
   refine mvs rfl ?_
   refine vo ?_
   refine xcall e209 (div_ok _ _ _ _ _ _ _ _ _ _ _ _ hr110 hr114 (hvx) (hyp) (by omega) (by omega) (hu2 _ (by omega))) rfl rfl ?_
   rintro _ W123 ⟨_, _, _, _, _, _, rfl, x124, hd121, he122⟩
   have s125 := x124.sz
   have z126 := z100.trans x124
   replace b75 := b75.ext x124
   replace b81 := b81.ext x124
   replace b87 := b87.ext x124
   replace b93 := b93.ext x124
   refine ⟨_, rfl, ?_⟩
   refine mvt rfl ?_
   refine vv (rext (v := .slice _ _ _) rfl rfl) ?_
   refine vv (rext (v := .slice _ _ _) rfl rfl) ?_
   refine ass rfl ?_
   refine ass rfl ?_
   refine vnil ?_
   refine V.seq ?_
   refine V.seq (V.reg rfl ?_)
   refine vv (rfa rfl fd46_0) ?_
   refine vv (rldb (v := .bool true) rfl sc4 b75 rfl) ?_
   refine mvb rfl ?_
   refine vg rfl ?_
   refine mvs rfl ?_
   refine vg rfl ?_
   refine vv (rlen sl44 rfl) ?_
   refine vg rfl ?_
   refine vgt rfl rfl ?_ ?_
   ·intro c127
    refine vv (rpk (v := .bool true) rfl rfl) ?_
    refine vnil ?_
    refine V.condT rfl ?_
    refine V.reg rfl ?_
    have l29 := hd121.len; have l30 := he122.len; have m1 := dg_len_mono (u := vl b32 xs / vl b32 ys) (v := vl b32 xs) dm.1 (by have := Int.ediv_le_self (b := vl b32 ys) hvx; exact this); have m2 := dg_len_mono dm.2.1 (Int.le_of_lt dm.2.2.1); have m3 := hr110.len; have m4 := hr114.len
    refine mvs rfl ?_
    refine vo ?_
    refine xbs (ps := [(0, .int _ _)]) (cs := [.int _ _]) sl44 zr164 sz164 rfl rfl rfl rfl rfl rfl ?_
    intro W128 x129 b130 nn131
    have s132 := x129.sz
    have z133 := z126.trans x129
    replace b75 := b75.ext x129
    replace b81 := b81.ext x129
    replace b87 := b87.ext x129
    replace b93 := b93.ext x129
    have hl134 := RN.lit (k := .u32) (xs := [_]) 1 b130 (by intro q hq; simp only [List.mem_cons, List.not_mem_nil, or_false] at hq; simp only [kb]; omega) (hu2 W123 (by omega) _ (Nat.le_refl _))
    refine vo ?_
    refine xcall e206 (add_ok _ _ _ _ _ _ _ _ _ _ _ _ (hd121.ext x129) hl134 (by omega) (by omega) (hu2 _ (by omega))) rfl rfl ?_
    rintro _ W139 ⟨zs136, ⟨_, _, _, rfl, x140, hw135⟩, hv137, hl138⟩
    have s141 := x140.sz
    have z142 := z133.trans x140
    replace b75 := b75.ext x140
    replace b81 := b81.ext x140
    replace b87 := b87.ext x140
    replace b93 := b93.ext x140
    have hw135l := hw135.len
    refine ⟨_, rfl, ?_⟩
    refine mvs rfl ?_
    refine mvs rfl ?_
    refine vo ?_
    refine xcall e208 (sub_ok _ _ _ _ _ _ _ _ _ _ _ _ (hr114.ext ((x124.trans x129).trans x140)) (he122.ext (x129.trans x140)) (by omega) (by omega) (by rw [vl_dg (by decide) dm.2.1, vl_dg (by decide) hvy]; omega) (hu2 _ (by omega))) rfl rfl ?_
    rintro _ W147 ⟨zs144, ⟨_, _, _, rfl, x148, hw143⟩, hv145, hl146⟩
    have s149 := x148.sz
    have z150 := z142.trans x148
    replace b75 := b75.ext x148
    replace b81 := b81.ext x148
    replace b87 := b87.ext x148
    replace b93 := b93.ext x148
    have hw143l := hw143.len
    refine ⟨_, rfl, ?_⟩
    refine ass rfl ?_
    refine ass rfl ?_
    refine vnil ?_
    refine V.seq (V.reg rfl ?_)
    refine vv (rfa rfl fd46_0) ?_
    refine vv (rldb (v := .bool true) rfl sc4 b75 rfl) ?_
    refine vv (rfa rfl fd46_0) ?_
    refine vv (rldb (v := .bool _) rfl sc4 b81 rfl) ?_
    refine vv (rbne Tryz.underlying4 rfl rfl rfl) ?_
    refine mvs rfl ?_
    refine vo ?_
    refine xcall e157 (made_ok _ _ _ _ _ _ _ (hw135.ext x148)) rfl rfl ?_
    rintro _ W152 ⟨_, _, _, _, rfl, x153, hz151⟩
    have s154 := x153.sz
    have z155 := z150.trans x153
    replace b87 := b87.ext x153
    replace b93 := b93.ext x153
    refine ⟨_, rfl, ?_⟩
    refine mvs rfl ?_
    refine vo ?_
    refine xcall e157 (made_ok false _ _ _ _ _ _ (hw143.ext x153)) rfl rfl ?_
    rintro _ W157 ⟨_, _, _, _, rfl, x158, hz156⟩
    have s159 := x158.sz
    have z160 := z155.trans x158
    replace b87 := b87.ext x158
    replace b93 := b93.ext x158
    refine ⟨_, rfl, ?_⟩
    refine vo ?_
    refine sta (cs' := [_, _]) b87 rfl rfl sz46 rfl rfl rfl ?_
    intro W161 y162 b87
    have z163 := z160.below (y162.below (by omega))
    replace b93 := b93.wr y162 (by omega)
    have s164 := y162.size
    refine vo ?_
    refine sta (cs' := [_, _]) b93 rfl rfl sz46 rfl rfl rfl ?_
    intro W165 y166 b93
    have z167 := z163.below (y166.below (by omega))
    replace b87 := b87.wr y166 (by omega)
    have s168 := y166.size
    refine asi rfl ?_
    refine vnil ?_
    refine V.ret ?_
    refine ⟨[_, _, .int _ _], ⟨⟨_, rfl, lvb ag46 b87 rfl⟩, ⟨_, rfl, lvb ag46 b93 rfl⟩, rfl, trivial⟩, ?_⟩
    have hm1 : 0 < vl b32 xs % vl b32 ys := by have := dg_natAbs_len dm.2.1 l30; omega
    refine ⟨_, _, _, _, _, _, _, _, rfl, z167, ((hz151.ck (((x158.ck _).trans (y162.ck (by intro hh; first | (simp [SX] at hh <;> omega) | omega))).trans (y166.ck (by intro hh; first | (simp [SX] at hh <;> omega) | omega))))).un.cast ?_, ((hz156.ck ((y162.ck (by intro hh; first | (simp [SX] at hh <;> omega) | omega)).trans (y166.ck (by intro hh; first | (simp [SX] at hh <;> omega) | omega))))).un.cast ?_⟩
    ·rw [hv137, vl_dg (by decide) dm.1]; simp only [vl, Int.mul_zero, Int.add_zero]; exact (dm_neg1 hyp hm1 n2).1
    ·rw [hv145, vl_dg (by decide) dm.2.1, vl_dg (by decide) hvy]; exact (dm_neg1 hyp hm1 n2).2
   ·intro c127
    refine vv (rpk (v := .bool false) rfl rfl) ?_
    refine vnil ?_
    refine V.condF rfl ?_
    refine V.skip ?_
    refine V.seq (V.reg rfl ?_)
    refine vv (rfa rfl fd46_0) ?_
    refine vv (rldb (v := .bool true) rfl sc4 b75 rfl) ?_
    refine vv (rfa rfl fd46_0) ?_
    refine vv (rldb (v := .bool _) rfl sc4 b81 rfl) ?_
    refine vv (rbne Tryz.underlying4 rfl rfl rfl) ?_
    refine mvs rfl ?_
    refine vo ?_
    refine xcall e157 (made_ok _ _ _ _ _ _ _ hd121) rfl rfl ?_
    rintro _ W170 ⟨_, _, _, _, rfl, x171, hz169⟩
    have s172 := x171.sz
    have z173 := z126.trans x171
    replace b87 := b87.ext x171
    replace b93 := b93.ext x171
    refine ⟨_, rfl, ?_⟩
    refine mvs rfl ?_
    refine vo ?_
    refine xcall e157 (made_ok false _ _ _ _ _ _ (he122.ext x171)) rfl rfl ?_
    rintro _ W175 ⟨_, _, _, _, rfl, x176, hz174⟩
    have s177 := x176.sz
    have z178 := z173.trans x176
    replace b87 := b87.ext x176
    replace b93 := b93.ext x176
    refine ⟨_, rfl, ?_⟩
    refine vo ?_
    refine sta (cs' := [_, _]) b87 rfl rfl sz46 rfl rfl rfl ?_
    intro W179 y180 b87
    have z181 := z178.below (y180.below (by omega))
    replace b93 := b93.wr y180 (by omega)
    have s182 := y180.size
    refine vo ?_
    refine sta (cs' := [_, _]) b93 rfl rfl sz46 rfl rfl rfl ?_
    intro W183 y184 b93
    have z185 := z181.below (y184.below (by omega))
    replace b87 := b87.wr y184 (by omega)
    have s186 := y184.size
    refine asi rfl ?_
    refine vnil ?_
    refine V.ret ?_
    refine ⟨[_, _, .int _ _], ⟨⟨_, rfl, lvb ag46 b87 rfl⟩, ⟨_, rfl, lvb ag46 b93 rfl⟩, rfl, trivial⟩, ?_⟩
    have hm0 : vl b32 xs % vl b32 ys = 0 := (dg_natAbs_len dm.2.1 ((he122.ck ((((x171.ck _).trans (x176.ck _)).trans (y180.ck (by intro hh; first | (simp [SX] at hh <;> omega) | omega))).trans (y184.ck (by intro hh; first | (simp [SX] at hh <;> omega) | omega))))).len).2 (by omega)
    refine ⟨_, _, _, _, _, _, _, _, rfl, z185, ((hz169.ck (((x176.ck _).trans (y180.ck (by intro hh; first | (simp [SX] at hh <;> omega) | omega))).trans (y184.ck (by intro hh; first | (simp [SX] at hh <;> omega) | omega))))).un.cast ?_, ((hz174.ck ((y180.ck (by intro hh; first | (simp [SX] at hh <;> omega) | omega)).trans (y184.ck (by intro hh; first | (simp [SX] at hh <;> omega) | omega))))).un.cast ?_⟩
    ·rw [vl_dg (by decide) dm.1]; exact (dm_neg0 hyp hm0 n2).1
    ·rw [vl_dg (by decide) dm.2.1]; exact (dm_neg0 hyp hm0 n2).2

theorem gcd_step (u v : Int) : Int.gcd v (u % v) = Int.gcd u v := by
  have h := Int.gcd_add_mul_left_right v (u % v) (u / v)
  rw [Int.add_comm, Int.mul_ediv_add_emod] at h
  rw [← h, Int.gcd_comm]
theorem gcd_if (n1 n2 : Bool) (x y : Int) : Int.gcd (if n1 then -x else x) (if n2 then -y else y) = Int.gcd x y := by
  cases n1 <;> cases n2 <;> simp

set_option maxHeartbeats 400000 in
theorem wGCD_ok (n1 n2 : Bool) (a1 a2 : Option Addr) (l1 c1 l2 c2 : Nat) (z1 z2 : Int) (L1 L2 : Nat) (S S1 S2 : Nat → Prop) (w : World) (h1 : ZA L1 S1 w n1 a1 l1 c1 z1) (h2 : ZA L2 S2 w n2 a2 l2 c2 z2) (hL1 : L1 ≤ LY) (hL2 : L2 ≤ LY) (hu : Up S w) :
    Calls Tryz.prog 186 #[.agg #[.bool n1, .slice a1 l1 c1], .agg #[.bool n2, .slice a2 l2 c2]] w (PZ S (Int.gcd z1 z2 : Int) w) := by
 have z0 := Ext.refl w; have hLX : LX = 17592186044416 := rfl; have hLY : LY = 8796093022208 := rfl
 obtain ⟨xs, hx, q1, rfl⟩ := h1; obtain ⟨ys, hy, q2, rfl⟩ := h2
 have hvx := vl_nonneg (B := b32) (by decide) hx.dg32; have hvy := vl_nonneg (B := b32) (by decide) hy.dg32
 have lx := hx.len; have ly := hy.len
 have hu2 : ∀ W : World, w.heap.size + 3 ≤ W.heap.size → Up (SX S [w.heap.size + 2]) W := fun W hW => SX.up (hu.mono (by omega)) (by simp <;> omega)
 refine enter (args := [.agg #[.bool n1, .slice a1 l1 c1], .agg #[.bool n2, .slice a2 l2 c2]]) Tryz.func186 rfl rfl (Nat.le_of_ble_eq_true rfl) ?_
 refine V.seq (V.reg rfl ?_)
 refine vo ?_
 refine bxa rfl ?_
 intro W1 x2 b3 nn4
 have s5 := x2.sz
 have z6 := x2
 refine vo ?_
 refine bxa rfl ?_
 intro W7 x8 b9 nn10
 have s11 := x8.sz
 have z12 := z6.trans x8
 replace b3 := b3.ext x8
 refine vo ?_
 refine xal zc46 ?_
 intro W13 x14 b15 nn16
 have s17 := x14.sz
 have z18 := z12.trans x14
 replace b3 := b3.ext x14
 replace b9 := b9.ext x14
 refine vnil ?_
 refine V.seq (V.regD mixed rfl ?_)
 intro W19 x20
 have s21 := x20.sz
 have z22 := z18.trans x20
 replace b3 := b3.ext x20
 replace b9 := b9.ext x20
 replace b15 := b15.ext x20
 have q23 := Ext.refl W19
 have r24 := b3
 have r25 := b9
 have r26 := b15
 refine tk 0 rfl (by kernel_rfl) q23 (pv (fun _ y27 => rfa rfl fd46_1)) ?_
 refine tk 1 rfl (by kernel_rfl) q23 (pv (fun _ y28 => rldb (v := .slice _ _ _) rfl sc44 (r24.ext y28) rfl)) ?_
 refine tk 3 rfl (by kernel_rfl) q23 (pv (fun _ y29 => rfa rfl fd46_1)) ?_
 refine tk 4 rfl (by kernel_rfl) q23 (pv (fun _ y30 => rldb (v := .slice _ _ _) rfl sc44 (r25.ext y30) rfl)) ?_
 refine ef 2 (by kernel_rfl) rfl ?_
 refine xcall e176 (trim_ok _ _ _ _ _ _ (hx.ext z22)) rfl rfl ?_
 rintro _ _ ⟨m32, rfl, hr31, hm33, rfl⟩
 refine ⟨_, rfl, ?_⟩
 refine ⟨fun _ => q23, ?_⟩
 refine ef 5 (by kernel_rfl) rfl ?_
 refine xcall e176 (trim_ok _ _ _ _ _ _ (hy.ext z22)) rfl rfl ?_
 rintro _ _ ⟨m36, rfl, hr35, hm37, rfl⟩
 refine ⟨_, rfl, ?_⟩
 refine ⟨fun _ => q23, ?_⟩
 refine tk 6 rfl (by kernel_rfl) q23 (pv (fun _ y39 => ras (v := .slice _ _ _) rfl)) ?_
 refine tk 7 rfl (by kernel_rfl) q23 (pv (fun _ y40 => ras (v := .slice _ _ _) rfl)) ?_
 refine dn (by kernel_rfl) ?_
 refine V.seq ?_
 refine V.block ?_
 refine V.loopK (ι := Int × Int × Option Addr × Nat × Nat × Option Addr × Nat × Nat) [(4, .pointer (some ⟨_, _, none⟩))] (fun ⟨u, v, ax, nx, cx, ay, ny, cy⟩ => [(5, .slice ax nx cx), (6, .slice ay ny cy)]) (fun ⟨u, v, ax, nx, cx, ay, ny, cy⟩ W => Ext W19 W ∧ 0 ≤ u ∧ 0 ≤ v ∧ RN .u32 (fun _ => True) W ax nx cx (dg b32 u) ∧ RN .u32 (fun _ => True) W ay ny cy (dg b32 v) ∧ nx ≤ LY ∧ ny ≤ LY ∧ Int.gcd u v = Int.gcd (vl b32 xs) (vl b32 ys)) (fun ⟨u, v, ax, nx, cx, ay, ny, cy⟩ => v.toNat) ((_, _, _, _, _, _, _, _)) ⟨rfl, trivial⟩ ⟨rfl, rfl, trivial⟩ ⟨Ext.refl _, hvx, hvy, (hr31).top, (hr35).top, by omega, by omega, rfl⟩ ?_
 intro i42 E43 W41 h44
 obtain ⟨u, v, ax, nx, cx, ay, ny, cy⟩ := i42
 simp only at h44
 show V _ _ _ _ _ _ (ups (ups _ _) [(5, .slice ax nx cx), (6, .slice ay ny cy)]) _
 obtain ⟨x45, g1, g2, hX, hY, g5, g6, g7⟩ := h44
 have s46 := x45.sz
 have z47 := z22.trans x45
 have z48 := x45
 replace b15 := b15.ext x45
 have lX := hX.len; have lY := hY.len
 refine V.seq ?_
 refine V.seq (V.reg rfl ?_)
 refine mvs rfl ?_
 refine vv (rlen sl44 rfl) ?_
 refine vgt rfl rfl ?_ ?_
 ·intro c50
  refine vnil ?_
  refine V.condT rfl ?_
  refine V.skip ?_
  refine V.block ?_
  refine V.seq (V.reg rfl ?_)
  refine mvs rfl ?_
  refine mvs rfl ?_
  have dm := ediv_nn g1 (show 0 < v by have := dg_natAbs_len g2 lY; omega)
  refine vo ?_
  refine xcall e209 (div_ok _ _ _ _ _ _ _ _ _ _ _ _ hX hY (g1) (by have := dg_natAbs_len g2 lY; omega) (by omega) (by omega) (hu2 _ (by omega))) rfl rfl ?_
  rintro _ W53 ⟨_, _, _, _, _, _, rfl, x54, hd51, he52⟩
  have s55 := x54.sz
  have z57 := z48.trans x54
  have z58 := x54
  refine ⟨_, rfl, ?_⟩
  refine mvt rfl ?_
  refine vv (rext (v := .slice _ _ _) rfl rfl) ?_
  refine vv (rext (v := .slice _ _ _) rfl rfl) ?_
  refine ass rfl ?_
  refine ass rfl ?_
  refine vnil ?_
  refine V.reg rfl ?_
  refine mvs rfl ?_
  refine mvs rfl ?_
  refine ass rfl ?_
  refine ass rfl ?_
  refine vnil ?_
  refine ⟨rfl, (v, u % v, _, _, _, _, _, _), ⟨rfl, trivial⟩, ⟨rfl, rfl, trivial⟩, ⟨z57, g2, dm.2.1, (hY.ext z58), (he52).top, by omega, by have := dg_len_mono dm.2.1 (Int.le_of_lt dm.2.2.1); have := (he52).len; omega, by rw [← g7, gcd_step]⟩, ?_⟩
  show (u % v).toNat < v.toNat
  omega
 ·intro c50
  refine vnil ?_
  refine V.condF rfl ?_
  refine V.exit ?_
  refine V.seq (V.reg rfl ?_)
  refine mvs rfl ?_
  refine vo ?_
  refine xcall e204 (clone_ok _ _ _ _ _ _ _ hX (by omega) (hu2 _ (by omega))) rfl rfl ?_
  rintro _ W60 ⟨_, _, _, rfl, x61, hw59⟩
  have s62 := x61.sz
  have z63 := z47.trans x61
  replace b15 := b15.ext x61
  have hw59l := hw59.len
  refine ⟨_, rfl, ?_⟩
  refine vo ?_
  refine xcall e157 (made_ok false _ _ _ _ _ _ hw59) rfl rfl ?_
  rintro _ W67 ⟨_, _, _, _, rfl, x68, hz66⟩
  have s69 := x68.sz
  have z70 := z63.trans x68
  replace b15 := b15.ext x68
  refine ⟨_, rfl, ?_⟩
  refine vo ?_
  refine sta (cs' := [_, _]) b15 rfl rfl sz46 rfl rfl rfl ?_
  intro W73 y74 b15
  have z75 := z70.below (y74.below (by omega))
  have s76 := y74.size
  refine vnil ?_
  refine V.ret ?_
  refine ⟨[_], ⟨⟨_, rfl, lvb ag46 b15 rfl⟩, trivial⟩, ?_⟩
  refine ⟨_, _, _, _, rfl, z75, ((hz66.ck (y74.ck (by intro hh; first | (simp [SX] at hh <;> omega) | omega)))).un.cast ?_⟩
  have hv0 : v = 0 := by have := dg_natAbs_len g2 lY; omega
  subst hv0
  rw [gcd_if, ← g7, Int.gcd_zero_right, vl_dg (by decide) g1]
  show u = _
  omega
end Go.Proofs.YtknbjfefeeojlaaGreat
/- Rationals of the program. -/
namespace Go.Proofs.YtknbjfefeeojlaaGreat
open Go.RowKit
/-- A rational as it is written down. -/
structure RawQ where
  n1 : Bool
  xs : List Int
  n2 : Bool
  ys : List Int
deriving DecidableEq
def zval (n : Bool) (xs : List Int) : Int := if n then -(vl b32 xs) else vl b32 xs
def qv (x y : Int) : Rat := if y = 0 then (x : Rat) else Rat.divInt x y
def qval (ρ : RawQ) : Rat := qv (zval ρ.n1 ρ.xs) (zval ρ.n2 ρ.ys)
def canon (r : Rat) : RawQ := ⟨decide (r.num < 0), dg b32 r.num.natAbs, false, if r.den = 1 then [] else dg b32 r.den⟩
def QX (S : Nat → Prop) (W : World) (q : List Value) (ρ : RawQ) : Prop := ∃ a1 l1 c1 a2 l2 c2, q = [.bool ρ.n1, .slice a1 l1 c1, .bool ρ.n2, .slice a2 l2 c2] ∧ RN .u32 S W a1 l1 c1 ρ.xs ∧ RN .u32 S W a2 l2 c2 ρ.ys
/-- At most L words each. -/
def szQ (L : Nat) (ρ : RawQ) : Prop := ρ.xs.length ≤ L ∧ ρ.ys.length ≤ L
def QA (L : Nat) (S : Nat → Prop) (W : World) (q : List Value) (r : Rat) : Prop := ∃ ρ, QX S W q ρ ∧ szQ L ρ ∧ r = qval ρ
def QC (S : Nat → Prop) (W : World) (q : List Value) (r : Rat) : Prop := QX S W q (canon r)
/-- A numerator and a positive denominator. -/
def PA (L : Nat) (S : Nat → Prop) (W : World) (q : List Value) (x y : Int) : Prop := ∃ n1 a1 l1 c1 n2 a2 l2 c2, q = [.bool n1, .slice a1 l1 c1, .bool n2, .slice a2 l2 c2] ∧ ZA L S W n1 a1 l1 c1 x ∧ ZA L S W n2 a2 l2 c2 y
/-- Its numbers fit into L words. -/
def sz (L : Nat) (r : Rat) : Prop := (r.num.natAbs : Int) < b32 ^ L ∧ (r.den : Int) < b32 ^ L
def PQ (S : Nat → Prop) (r : Rat) (w : World) (e : Ending) (w' : World) : Prop := ∃ q, e = .returned (.agg q.toArray) ∧ Ext w w' ∧ QC S w' q r
section
variable {L : Nat} {S S' : Nat → Prop} {W W' : World} {q : List Value} {ρ : RawQ} {r : Rat} {x y : Int} {bs : List Nat}
theorem QX.ck (h : QX S W q ρ) (k : CK S W W') : QX S W' q ρ := by
  obtain ⟨a1, l1, c1, a2, l2, c2, e, h1, h2⟩ := h; exact ⟨a1, l1, c1, a2, l2, c2, e, h1.ck k, h2.ck k⟩
theorem QX.ext (h : QX S W q ρ) (k : Ext W W') : QX S W' q ρ := h.ck (k.ck S)
theorem QX.sub (h : QX S W q ρ) (hs : ∀ b, b < W.heap.size → S b → S' b) : QX S' W q ρ := by
  obtain ⟨a1, l1, c1, a2, l2, c2, e, h1, h2⟩ := h; exact ⟨a1, l1, c1, a2, l2, c2, e, h1.sub hs, h2.sub hs⟩
theorem QX.form (h : QX S W q ρ) : ∃ n1 a1 l1 c1 n2 a2 l2 c2, q = [.bool n1, .slice a1 l1 c1, .bool n2, .slice a2 l2 c2] := by
  obtain ⟨a1, l1, c1, a2, l2, c2, e, h1, h2⟩ := h; exact ⟨_, _, _, _, _, _, _, _, e⟩
theorem QA.ck (h : QA L S W q r) (k : CK S W W') : QA L S W' q r := by obtain ⟨ρ, h1, h2⟩ := h; exact ⟨ρ, h1.ck k, h2⟩
theorem QA.ext (h : QA L S W q r) (k : Ext W W') : QA L S W' q r := h.ck (k.ck S)
theorem QA.sub (h : QA L S W q r) (hs : ∀ b, b < W.heap.size → S b → S' b) : QA L S' W q r := by obtain ⟨ρ, h1, h2⟩ := h; exact ⟨ρ, h1.sub hs, h2⟩
theorem QA.un (h : QA L (SX S bs) W q r) : QA L S W q r := h.sub fun _ _ h => h.1
theorem QA.form (h : QA L S W q r) : ∃ n1 a1 l1 c1 n2 a2 l2 c2, q = [.bool n1, .slice a1 l1 c1, .bool n2, .slice a2 l2 c2] := by obtain ⟨ρ, h1, h2⟩ := h; exact h1.form
theorem QA.mono {L' : Nat} (h : QA L S W q r) (hL : L ≤ L') : QA L' S W q r := by obtain ⟨ρ, h1, h2, h3⟩ := h; exact ⟨ρ, h1, ⟨Nat.le_trans h2.1 hL, Nat.le_trans h2.2 hL⟩, h3⟩
theorem QC.ck (h : QC S W q r) (k : CK S W W') : QC S W' q r := QX.ck h k
theorem QC.ext (h : QC S W q r) (k : Ext W W') : QC S W' q r := QX.ext h k
theorem QC.sub (h : QC S W q r) (hs : ∀ b, b < W.heap.size → S b → S' b) : QC S' W q r := QX.sub h hs
theorem QC.un (h : QC (SX S bs) W q r) : QC S W q r := QX.sub h fun _ _ h => h.1
theorem QC.form (h : QC S W q r) : ∃ n1 a1 l1 c1 n2 a2 l2 c2, q = [.bool n1, .slice a1 l1 c1, .bool n2, .slice a2 l2 c2] := QX.form h
theorem QC.cast {r' : Rat} (h : QC S W q r) (e : r = r') : QC S W q r' := e ▸ h
theorem PA.ck (h : PA L S W q x y) (k : CK S W W') : PA L S W' q x y := by
  obtain ⟨n1, a1, l1, c1, n2, a2, l2, c2, e, h1, h2⟩ := h; exact ⟨n1, a1, l1, c1, n2, a2, l2, c2, e, h1.ck k, h2.ck k⟩
theorem PA.ext (h : PA L S W q x y) (k : Ext W W') : PA L S W' q x y := h.ck (k.ck S)
theorem PA.sub (h : PA L S W q x y) (hs : ∀ b, b < W.heap.size → S b → S' b) : PA L S' W q x y := by
  obtain ⟨n1, a1, l1, c1, n2, a2, l2, c2, e, h1, h2⟩ := h; exact ⟨n1, a1, l1, c1, n2, a2, l2, c2, e, h1.sub hs, h2.sub hs⟩
theorem PA.un (h : PA L (SX S bs) W q x y) : PA L S W q x y := h.sub fun _ _ h => h.1
theorem PA.form (h : PA L S W q x y) : ∃ n1 a1 l1 c1 n2 a2 l2 c2, q = [.bool n1, .slice a1 l1 c1, .bool n2, .slice a2 l2 c2] := by
  obtain ⟨n1, a1, l1, c1, n2, a2, l2, c2, e, h1, h2⟩ := h; exact ⟨n1, a1, l1, c1, n2, a2, l2, c2, e⟩
theorem PA.mk' {n1 n2 : Bool} {a1 a2 : Option Addr} {l1 c1 l2 c2 : Nat} (h1 : ZA L S W n1 a1 l1 c1 x) (h2 : ZA L S W n2 a2 l2 c2 y) : PA L S W [.bool n1, .slice a1 l1 c1, .bool n2, .slice a2 l2 c2] x y := ⟨_, _, _, _, _, _, _, _, rfl, h1, h2⟩
theorem PA.one {n1 n2 : Bool} {a1 a2 : Option Addr} {l1 c1 l2 c2 : Nat} (h : PA L S W [.bool n1, .slice a1 l1 c1, .bool n2, .slice a2 l2 c2] x y) : ZA L S W n1 a1 l1 c1 x ∧ ZA L S W n2 a2 l2 c2 y := by
  obtain ⟨_, _, _, _, _, _, _, _, e, h1, h2⟩ := h
  simp only [List.cons.injEq, Value.bool.injEq, Value.slice.injEq, and_true] at e
  obtain ⟨rfl, ⟨rfl, rfl, rfl⟩, rfl, rfl, rfl, rfl⟩ := e
  exact ⟨h1, h2⟩
theorem QA.two {n1 n2 : Bool} {a1 a2 : Option Addr} {l1 c1 l2 c2 : Nat} (h : QA L S W [.bool n1, .slice a1 l1 c1, .bool n2, .slice a2 l2 c2] r) : ∃ x y, ZA L S W n1 a1 l1 c1 x ∧ ZA L S W n2 a2 l2 c2 y ∧ r = qv x y := by
  obtain ⟨ρ, ⟨_, _, _, _, _, _, e, h1, h2⟩, hs, rfl⟩ := h
  simp only [List.cons.injEq, Value.bool.injEq, Value.slice.injEq, and_true] at e
  obtain ⟨rfl, ⟨rfl, rfl, rfl⟩, rfl, rfl, rfl, rfl⟩ := e
  exact ⟨_, _, ⟨_, h1, by have := h1.len; have := hs.1; omega, rfl⟩, ⟨_, h2, by have := h2.len; have := hs.2; omega, rfl⟩, rfl⟩
theorem QA.mk2 {n1 n2 : Bool} {a1 a2 : Option Addr} {l1 c1 l2 c2 : Nat} (h1 : ZA L S W n1 a1 l1 c1 x) (h2 : ZA L S W n2 a2 l2 c2 y) : QA L S W [.bool n1, .slice a1 l1 c1, .bool n2, .slice a2 l2 c2] (qv x y) := by
  obtain ⟨xs, h1, h3, rfl⟩ := h1
  obtain ⟨ys, h2, h4, rfl⟩ := h2
  exact ⟨⟨n1, xs, n2, ys⟩, ⟨_, _, _, _, _, _, rfl, h1, h2⟩, ⟨by show xs.length ≤ L; have := h1.len; omega, by show ys.length ≤ L; have := h2.len; omega⟩, rfl⟩
theorem pow_mono {n m : Nat} (h : n ≤ m) : b32 ^ n ≤ b32 ^ m := by
  obtain ⟨k, rfl⟩ : ∃ k, m = n + k := ⟨m - n, by omega⟩
  rw [Int.pow_add]
  have h1 := pow_pos' (B := b32) (by decide) n
  have h2 := pow_pos' (B := b32) (by decide) k
  have := Int.mul_le_mul_of_nonneg_left (show 1 ≤ b32 ^ k by omega) (Int.le_of_lt h1)
  omega
theorem ZC.za_mul {L1 L2 : Nat} {S1 S2 : Nat → Prop} {W1 W2 : World} {n n1 n2 : Bool} {a a1 a2 : Option Addr} {l c l1 c1 l2 c2 : Nat} (h : ZC S W n a l c (x * y)) (h1 : ZA L1 S1 W1 n1 a1 l1 c1 x) (h2 : ZA L2 S2 W2 n2 a2 l2 c2 y) : ZA (L1 + L2) S W n a l c (x * y) := by
  obtain ⟨xs, g1, g2, g3⟩ := h1
  obtain ⟨ys, g4, g5, g6⟩ := h2
  have e1 := ZA.abs g1 g3
  have e2 := ZA.abs g4 g6
  have b1 := vl_lt (B := b32) (by decide) g1.dg32
  have b2 := vl_lt (B := b32) (by decide) g4.dg32
  have p1 := vl_nonneg (B := b32) (by decide) g1.dg32
  have p2 := vl_nonneg (B := b32) (by decide) g4.dg32
  have hl1 := g1.len
  have hl2 := g4.len
  refine h.zaH ?_
  rw [Int.natAbs_mul, Int.natCast_mul, e1, e2]
  have m1 : vl b32 xs * vl b32 ys ≤ vl b32 xs * (b32 ^ ys.length) := Int.mul_le_mul_of_nonneg_left (Int.le_of_lt b2) p1
  have q2 : 0 < b32 ^ ys.length := pow_pos' (by decide) _
  have m2 : vl b32 xs * (b32 ^ ys.length) < b32 ^ xs.length * b32 ^ ys.length := Int.mul_lt_mul_of_pos_right b1 q2
  rw [← Int.pow_add] at m2
  have m3 : b32 ^ (xs.length + ys.length) ≤ b32 ^ (L1 + L2) := pow_mono (by omega)
  omega
theorem ZA.lt {n : Bool} {a : Option Addr} {l c : Nat} (h : ZA L S W n a l c x) : (x.natAbs : Int) < b32 ^ L := by
  obtain ⟨xs, g1, g2, g3⟩ := h
  rw [ZA.abs g1 g3]
  have b1 := vl_lt (B := b32) (by decide) g1.dg32
  have := pow_mono (show xs.length ≤ L by have := g1.len; omega)
  omega
theorem pow_succ' (n : Nat) : b32 ^ (n + 1) = 4294967296 * b32 ^ n := by rw [Int.pow_succ, Int.mul_comm]
theorem ZC.za_add {L : Nat} {z : Int} {n : Bool} {a : Option Addr} {l c : Nat} (h : ZC S W n a l c z) (h1 : (x.natAbs : Int) < b32 ^ L) (h2 : (y.natAbs : Int) < b32 ^ L) (hz : z = x + y ∨ z = x - y) : ZA (L + 1) S W n a l c z := by
  refine h.zaH ?_
  have := pow_succ' L
  have := pow_pos' (B := b32) (by decide) L
  omega

/-! ### Sizes -/
theorem sz.mono {L' : Nat} (h : sz L r) (hL : L ≤ L') : sz L' r := ⟨Int.lt_of_lt_of_le h.1 (pow_mono hL), Int.lt_of_lt_of_le h.2 (pow_mono hL)⟩
theorem canon_sz (h : sz L r) : szQ L (canon r) := by
  refine ⟨dg_length_le (by decide) h.1, ?_⟩
  show (if r.den = 1 then [] else dg b32 (r.den : Int)).length ≤ L
  split
  · simp
  · exact dg_length_le (by decide) h.2
theorem zval_canon (r : Rat) : zval (decide (r.num < 0)) (dg b32 r.num.natAbs) = r.num := by
  unfold zval
  rw [vl_dg (by decide) (by omega)]
  by_cases h : r.num < 0 <;> simp [h] <;> omega
theorem qval_canon (r : Rat) : qval (canon r) = r := by
  unfold qval canon
  simp only [zval_canon]
  by_cases h : r.den = 1
  · simp only [h, if_true]
    simp only [zval, vl_nil, qv, Bool.false_eq_true, if_false, if_true]
    apply Rat.ext <;> simp [h]
  · simp only [h, if_false]
    have : zval false (dg b32 (r.den : Int)) = r.den := by unfold zval; rw [vl_dg (by decide) (by omega)]; simp
    rw [this, qv, if_neg (by have := r.den_nz; omega), Rat.num_divInt_den]
theorem QC.qa (h : QC S W q r) (hs : sz L r) : QA L S W q r := ⟨_, h, canon_sz hs, (qval_canon r).symm⟩
theorem sz_divInt (hx : (x.natAbs : Int) < b32 ^ L) (hy : 0 < y) (hy2 : y < b32 ^ L) : sz L (Rat.divInt x y) := by
  have hg : 0 < Int.gcd y x := Int.gcd_pos_iff.2 (.inl (by omega))
  refine ⟨?_, ?_⟩
  · rw [Rat.num_divInt, Int.sign_eq_one_of_pos hy, Int.one_mul]
    have : (x / (Int.gcd y x : Int)).natAbs ≤ x.natAbs := Int.natAbs_ediv_le_natAbs _ _
    omega
  · rw [Rat.den_divInt, if_neg (by omega)]
    have : y.natAbs / Int.gcd y x ≤ y.natAbs := Nat.div_le_self _ _
    omega
theorem QA.sz' (h : QA L S W q r) (hL : 1 ≤ L) : sz L r := by
  obtain ⟨n1, a1, l1, c1, n2, a2, l2, c2, rfl⟩ := h.form
  obtain ⟨x, y, h1, h2, rfl⟩ := h.two
  have b1 := h1.lt
  have b2 := h2.lt
  unfold qv
  split
  · refine ⟨b1, ?_⟩
    have := pow_mono hL
    simp; unfold b32 at *; omega
  · rename_i hy
    rcases Int.lt_or_le 0 y with h0 | h0
    · exact sz_divInt b1 h0 (by omega)
    · rw [← Rat.neg_divInt_neg]; exact sz_divInt (by omega) (by omega) (by omega)
end
theorem Ext.obj {W W' : World} {D : Nat} {o : Obj} (x : Ext W W') (h : W.heap[D]? = some o) : W'.heap[D]? = some o := (x.block D (Array.getElem?_eq_some_iff.1 h).1).trans h
theorem Wr.obj {W W' : World} {D b : Nat} {o : Obj} (y : Wr b W W') (h : W.heap[D]? = some o) (hb : D ≠ b) : W'.heap[D]? = some o := (y.block D hb).trans h
/-! ### Effects in any order -/
def allP (p : Nat → Prop) : List Nat → Prop
  | [] => True
  | i :: l => p i ∧ allP p l
section
variable {r : Option Nat} {P : Program} {N : Nat} {ops : Array Oper} {S : World → Prop} {R : Env → World → Prop} {fuel : Nat} {listed : Array Bool} {E : Env} {W : World} {d : Option Tmp} {op : Op} {ty : TypeId} {pos : String} {af : Array Edge} {ds : List Deferred} {Q : EQ}
theorem allP_mem {p : Nat → Prop} : ∀ {l : List Nat}, allP p l → ∀ i ∈ l, p i
  | _ :: _, h, i, hi => by
    rcases List.mem_cons.1 hi with rfl | hi
    · exact h.1
    · exact allP_mem h.2 i hi
theorem efs (i : Nat) (l : List Nat) (hr : Region.ready .any ops listed = i :: l) (h : allP (fun i => opI r P ops i (fun E' W' => (lastOp ops i = false → S W') ∧ VH r P ops S R fuel (listed.setIfInBounds i true) E' W') E W) (i :: l)) : VH r P ops S R (fuel + 1) listed E W :=
  ⟨fun h0 => (by rw [hr] at h0; cases h0), fun j hj => allP_mem h j (by rw [← hr]; exact hj)⟩
theorem efI {i : Nat} {K : Env → World → Prop} (hi : ops[i]? = some ⟨d, op, ty, pos, af, none⟩) (h : OpF r P (ev E) ⟨d, op, ty, pos, af, none⟩ W fun v W' => K (puto E d v) W') : opI r P ops i K E W := by
  unfold opI
  simp only [hi]
  rw [if_pos (by rfl)]; exact h
theorem VA.mono {R R' : Env → World → Prop} (hR : ∀ E W, R E W → R' E W) : ∀ (fuel : Nat) (listed : Array Bool) (E : Env) (W : World), VA r P ops R fuel listed E W → VA r P ops R' fuel listed E W
  | 0, _, _, _, h => ⟨h.1, hR _ _ h.2⟩
  | fuel + 1, _, _, _, h => ⟨fun hr => hR _ _ (h.1 hr), fun i hi => (h.2 i hi).mono fun E' W' h' => VA.mono hR fuel _ E' W' h'⟩
theorem V.regS {id : Nat} (S : World → World → Prop) (hm : P.follows .mixedOrders = true) (hl : dstsOK N ops.toList = true)
    (h : ∀ W1, Ext W W1 → VH r P ops (S W1) (fun E W => Q .normal E ds W) ops.size (Array.replicate ops.size false) E W1) : V r P N ds (.region id ops true) Q E W := fun a hrep hd =>
  wpIn_region_any hm (VA.wp (ds := ds) hl (fun a E W hr hd h => ⟨E, hr, by rw [hd]; exact h⟩) _ _ a E _ hrep hd (VH.va _ _ _ _ (h _ ((Ext.refl W).drew))))
theorem V.regJ {id : Nat} {ι : Type} (F : List (Nat × Value)) (L : ι → List (Nat × Value)) (I : ι → World → Prop) (hm : P.follows .mixedOrders = true) (hl : dstsOK N ops.toList = true) (_hF : agree E F)
    (h : ∀ W1, Ext W W1 → VH r P ops (Ext W1) (fun E' W' => ∃ i, agree E' F ∧ agree E' (L i) ∧ I i W') ops.size (Array.replicate ops.size false) E W1)
    (k : ∀ i E0 W', I i W' → Q .normal (ups (ups E0 F) (L i)) ds W') : V r P N ds (.region id ops true) Q E W := fun a hrep hd =>
  wpIn_region_any hm (VA.wp (ds := ds) (R := fun E' W' => Q .normal E' ds W') hl (fun a E W hr hd h => ⟨E, hr, by rw [hd]; exact h⟩) _ _ a E _ hrep hd (VA.mono (fun E' W' ⟨i, h1, h2, h3⟩ => by
    have := k i E' W' h3
    rwa [ups_agree h1, ups_agree h2] at this) _ _ _ _ (VH.va _ _ _ _ (h _ ((Ext.refl W).drew)))))
end
/-! ### A map with texts for keys -/
def MpAt (W : World) (b : Nat) (es : List MapEntry) : Prop := ∃ n, W.heap[b]? = some (.map es.toArray n)
section
variable {r : Option Nat} {P : Program} {ρ : Operand → Value} {W W' : World} {d : Option Tmp} {ty T kt et : TypeId} {pos : String} {af : Array Edge} {g : Option (Nat × Bool)} {x y m : Operand} {v : Value} {K : Value → World → Prop} {b : Nat} {es : List MapEntry} {s : ByteArray}
theorem MpAt.ext (h : MpAt W b es) (x : Ext W W') : MpAt W' b es := by
  obtain ⟨n, h⟩ := h; exact ⟨n, (x.block b (Array.getElem?_eq_some_iff.1 h).1).trans h⟩
theorem xmm (hk2 : ∀ W', Ext W W' → MpAt W' W.heap.size [] → W'.heap.size = W.heap.size + 1 → K (.map (some W.heap.size)) W') : OpF r P ρ ⟨d, .makeMap T none, ty, pos, af, g⟩ W K := by
  refine xv (v := .map (some W.heap.size)) (W' := W.alloc (.map #[] 0)) ?_ (hk2 _ ((Ext.refl _).alloc _) ⟨0, by simpa using World.alloc_heap_new W (.map #[] 0)⟩ (by simp))
  unfold execOp; simp [Instr.makeMap, go_sem]
theorem ck_str {e : Bool} (n : Nat) (hkt : P.underlying kt = some .string) : (Instr.checkKey e (n + 1) kt (.string s)).run P W = .ok () W := by
  unfold Instr.checkKey
  simp only [Sem.run_bind, run_underlying hkt, Result.andThen_ok, Sem.run_pure]
theorem fk_str {res : Option (Nat × Value)} (hkt : P.underlying kt = some .string) (hn : Instr.findNow .string (.string s) es 0 = some res) : (Instr.findKey kt (.string s) es).run P W = .ok res W := by
  unfold Instr.findKey
  simp only [Sem.run_bind, run_underlying hkt, Result.andThen_ok, hn, Sem.run_pure]
theorem xins (h : MpAt W b es) (hm : ρ m = .map (some b)) (hy : ρ y = .string s) (hx : ρ x = v) (hT : P.underlying T = some (.map kt et)) (hkt : P.underlying kt = some .string) (hn : Instr.findNow .string (.string s) es 0 = some none)
    (hk2 : ∀ W' n, Tn b W W' → MpAt W' b (es ++ [⟨.string s, v, n⟩]) → W'.heap.size = W.heap.size → K undef W') : OpF r P ρ ⟨d, .insert T m y x, ty, pos, af, g⟩ W K := by
  obtain ⟨n, h⟩ := h
  have hgo : (getObj b).run P W = .ok (.map es.toArray n) W := by simp [getObj, Sem.run, h]
  have hse : ∀ o : Obj, (setObj b o).run P W = .ok () (W.putObj b o) := fun o => by simp [setObj, Sem.run, h, World.putObj]
  refine xu (W' := W.putObj b (.map (es.toArray.push ⟨.string s, v, n⟩) (n + 1))) ?_ (hk2 _ n (Tn.putObj _ h (Nat.le_refl _) rfl) ⟨n + 1, by rw [World.putObj_heap_same (Array.getElem?_eq_some_iff.1 h).1]; simp⟩ (by simp))
  unfold execOp
  simp only [Instr.mapUpdate, hm, hy, hx, Sem.run_bind, run_underlying hT, Result.andThen_ok, hgo, ck_str 9999 hkt, fk_str hkt hn, Sem.run_pure]
  simp [hse]
theorem rlk {i : Nat} {v : Value} (h : MpAt W b es) (hm : ρ m = .map (some b)) (hy : ρ y = .string s) (hT : P.underlying T = some (.map kt et)) (hkt : P.underlying kt = some .string) (hn : Instr.findNow .string (.string s) es 0 = some (some (i, v))) :
    (execOp ρ ⟨d, .lookup T m y false, ty, pos, af, g⟩).run P W = .ok (.value v) W := by
  obtain ⟨n, h⟩ := h
  have hgo : (getObj b).run P W = .ok (.map es.toArray n) W := by simp [getObj, Sem.run, h]
  unfold execOp
  simp only [Instr.lookup, hm, hy, Sem.run_bind, run_underlying hT, Result.andThen_ok, hgo, ck_str 9999 hkt, fk_str hkt hn, Sem.run_pure]
  simp
end
end Go.Proofs.YtknbjfefeeojlaaGreat
/- Package frac. -/
namespace Go.Proofs.YtknbjfefeeojlaaGreat
open Go.RowKit
attribute [local irreducible] RV VH V OpF Calls
theorem qv0 (x : Int) : qv x 0 = Rat.divInt x 1 := by
  rw [Rat.divInt_eq_div]; simp [qv, Rat.div_def]
  rw [show (1 : Rat)⁻¹ = 1 from Rat.inv_eq_of_mul_eq_one (Rat.mul_one 1), Rat.mul_one]
theorem qvn {x y : Int} (h : y ≠ 0) : qv x y = Rat.divInt x y := by simp [qv, h]
section
variable {L : Nat} {S S' : Nat → Prop} {W W' : World} {n : Bool} {a : Option Addr} {l c : Nat} {x : Int}
theorem ZC.za1 (h : ZC S W n a l c 1) (hL : 1 ≤ L) : ZA L S W n a l c 1 := (h.zaH (L := 1) (by decide)).mono hL
theorem ZC.za_neg {W1 : World} {S1 : Nat → Prop} {n1 : Bool} {a1 : Option Addr} {l1 c1 : Nat} (h : ZC S W n a l c (-x)) (h1 : ZA L S1 W1 n1 a1 l1 c1 x) : ZA L S W n a l c (-x) := h.zaH (by have := h1.lt; omega)
end


theorem sg_eq0 {y : Int} (h : sg y = 0) : y = 0 := by unfold sg at h; split at h <;> (try split at h) <;> omega
theorem sg_neg {y : Int} (h : sg y = -1) : y < 0 := by unfold sg at h; split at h <;> (try split at h) <;> omega
theorem sg_pos {y : Int} (h : sg y ≠ 0) (h2 : sg y ≠ -1) : 0 < y := by unfold sg at h h2; split at h <;> (try split at h) <;> simp_all <;> omega

set_option maxHeartbeats 400000 in
theorem of_ok (q : List Value) (r : Rat) (L : Nat) (S : Nat → Prop) (w : World) (h : QA L S w q r) (hL : 1 ≤ L) (hL2 : L ≤ LY) (hu : Up S w) :
    Calls Tryz.prog 139 #[.agg q.toArray] w (fun e w' => ∃ p, e = .returned (.agg p.toArray) ∧ Ext w w' ∧ ∃ x y, PA L S w' p x y ∧ 0 < y ∧ r = Rat.divInt x y) := by
 have z0 := Ext.refl w; have hLX : LX = 17592186044416 := rfl; have hLY : LY = 8796093022208 := rfl
 obtain ⟨n1, a1, l1, c1, n2, a2, l2, c2, rfl⟩ := h.form
 obtain ⟨x, y, hx0, hy0, rfl⟩ := h.two
 have hx := hx0.sub (S' := SX S [w.heap.size + 1]) (SX.old (by simp <;> omega)); have hy := hy0.sub (S' := SX S [w.heap.size + 1]) (SX.old (by simp <;> omega))
 have hu2 : ∀ W : World, w.heap.size + 2 ≤ W.heap.size → Up (SX S [w.heap.size + 1]) W := fun W hW => SX.up (hu.mono (by omega)) (by simp <;> omega)
 refine enter (args := [.agg #[.bool n1, .slice a1 l1 c1, .bool n2, .slice a2 l2 c2]]) Tryz.func139 rfl rfl (Nat.le_of_ble_eq_true rfl) ?_
 refine V.seq (V.reg rfl ?_)
 refine vo ?_
 refine bxa rfl ?_
 intro W1 x2 b3 nn4
 have s5 := x2.sz
 have z6 := x2
 refine vo ?_
 refine xal zc144 ?_
 intro W7 x8 b9 nn10
 have s11 := x8.sz
 have z12 := z6.trans x8
 replace b3 := b3.ext x8
 refine vnil ?_
 refine V.seq ?_
 refine V.seq (V.reg rfl ?_)
 refine vv (rfa rfl fd48_1) ?_
 refine vv (rldb2 rfl ag46 b3 rfl rfl ) ?_
 refine vo ?_
 refine xcall e138 (wSign_ok _ _ _ _ _ _ _ _ (hy.ext z12)) rfl rfl ?_
 rintro _ W14 ⟨_, rfl, x15, hs13⟩
 have s16 := x15.sz
 have z17 := z12.trans x15
 replace b3 := b3.ext x15
 replace b9 := b9.ext x15
 refine ⟨_, rfl, ?_⟩
 refine vnil ?_
 refine V.block ?_
 refine V.seq (V.reg rfl ?_)
 have hs_ := hs13
 refine veq rfl rfl ?_ ?_
 ·intro c1
  refine asb rfl ?_
  refine vnil ?_
  refine V.condT rfl ?_
  refine V.seq (V.regD mixed rfl ?_)
  intro W18 x19
  have s20 := x19.sz
  have z21 := z17.trans x19
  replace b3 := b3.ext x19
  replace b9 := b9.ext x19
  have q22 := Ext.refl W18
  have r23 := b3
  have r24 := b9
  refine tk 0 rfl (by kernel_rfl) q22 (pv (fun _ y25 => rfa rfl fd48_0)) ?_
  refine tk 1 rfl (by kernel_rfl) q22 (pv (fun _ y26 => rldb2 rfl ag46 (r23.ext y26) rfl rfl )) ?_
  refine ef 2 (by kernel_rfl) rfl ?_
  refine xcall e98 (wFrom_ok _ _ _ (by omega) (hu2 _ (by omega))) rfl rfl ?_
  rintro _ W28 ⟨_, _, _, _, rfl, x29, hz27⟩
  have s30 := x29.sz
  have z31 := z21.trans x29
  replace b9 := b9.ext x29
  have q32 := q22.trans x29
  refine ⟨_, rfl, ?_⟩
  refine ⟨fun _ => q32, ?_⟩
  refine tk 3 rfl (by kernel_rfl) q32 (pv (fun _ y33 => rbd (ps := [(0, .agg #[_, _]), (1, .agg #[_, _])]) (cs := [.bool _, .slice _ _ _, .bool _, .slice _ _ _]) pl144 rfl rfl)) ?_
  refine ef 4 (by kernel_rfl) rfl ?_
  refine sta (cs' := [_, _, _, _]) b9 rfl rfl sz144 rfl rfl rfl ?_
  intro W34 y35 b9
  have z36 := z31.below (y35.below (by omega))
  have s37 := y35.size
  refine lastT (by kernel_rfl) ?_
  refine dn (by kernel_rfl) ?_
  refine V.ret ?_
  refine ⟨[_], ⟨⟨_, rfl, lvb ag144 b9 rfl⟩, trivial⟩, ?_⟩
  have hy00 : y = 0 := sg_eq0 (hs_.symm.trans c1)
  subst hy00
  exact ⟨_, rfl, z36, x, 1, PA.mk' ((hx.ext z36)).un (((hz27.ck (y35.ck (by intro hh; first | (simp [SX] at hh <;> omega) | omega)))).un.za1 hL), by omega, qv0 x⟩
 ·intro c1
  refine asb rfl ?_
  refine vnil ?_
  refine V.condF rfl ?_
  refine V.seq (V.reg rfl ?_)
  refine veq rfl rfl ?_ ?_
  ·intro c2
   refine asb rfl ?_
   refine vnil ?_
   refine V.condT rfl ?_
   refine V.seq (V.regD mixed rfl ?_)
   intro W38 x39
   have s40 := x39.sz
   have z41 := z17.trans x39
   replace b3 := b3.ext x39
   replace b9 := b9.ext x39
   have q42 := Ext.refl W38
   have r43 := b3
   have r44 := b9
   refine tk 0 rfl (by kernel_rfl) q42 (pv (fun _ y45 => rfa rfl fd48_0)) ?_
   refine tk 1 rfl (by kernel_rfl) q42 (pv (fun _ y46 => rldb2 rfl ag46 (r43.ext y46) rfl rfl )) ?_
   refine tk 3 rfl (by kernel_rfl) q42 (pv (fun _ y47 => rfa rfl fd48_1)) ?_
   refine tk 4 rfl (by kernel_rfl) q42 (pv (fun _ y48 => rldb2 rfl ag46 (r43.ext y48) rfl rfl )) ?_
   refine ef 2 (by kernel_rfl) rfl ?_
   refine xcall e177 (wNeg_ok _ _ _ _ _ _ _ _ (((hx.ext z41)).mono (by omega)) (hu2 _ (by omega))) rfl rfl ?_
   rintro _ W50 ⟨_, _, _, _, rfl, x51, hz49⟩
   have s52 := x51.sz
   have z53 := z41.trans x51
   replace b9 := b9.ext x51
   have q54 := q42.trans x51
   refine ⟨_, rfl, ?_⟩
   refine ⟨fun _ => q54, ?_⟩
   refine ef 5 (by kernel_rfl) rfl ?_
   refine xcall e177 (wNeg_ok _ _ _ _ _ _ _ _ (((hy.ext z53)).mono (by omega)) (hu2 _ (by omega))) rfl rfl ?_
   rintro _ W56 ⟨_, _, _, _, rfl, x57, hz55⟩
   have s58 := x57.sz
   have z59 := z53.trans x57
   replace b9 := b9.ext x57
   have q60 := q54.trans x57
   refine ⟨_, rfl, ?_⟩
   refine ⟨fun _ => q60, ?_⟩
   refine tk 6 rfl (by kernel_rfl) q60 (pv (fun _ y61 => rbd (ps := [(0, .agg #[_, _]), (1, .agg #[_, _])]) (cs := [.bool _, .slice _ _ _, .bool _, .slice _ _ _]) pl144 rfl rfl)) ?_
   refine ef 7 (by kernel_rfl) rfl ?_
   refine sta (cs' := [_, _, _, _]) b9 rfl rfl sz144 rfl rfl rfl ?_
   intro W62 y63 b9
   have z64 := z59.below (y63.below (by omega))
   have s65 := y63.size
   refine lastT (by kernel_rfl) ?_
   refine dn (by kernel_rfl) ?_
   refine V.ret ?_
   refine ⟨[_], ⟨⟨_, rfl, lvb ag144 b9 rfl⟩, trivial⟩, ?_⟩
   have hyn := sg_neg (hs_.symm.trans c2)
   exact ⟨_, rfl, z64, -x, -y, PA.mk' (((hz49.ck ((x57.ck _).trans (y63.ck (by intro hh; first | (simp [SX] at hh <;> omega) | omega))))).un.za_neg hx) (((hz55.ck (y63.ck (by intro hh; first | (simp [SX] at hh <;> omega) | omega)))).un.za_neg hy), by omega, by rw [qvn (by omega), Rat.neg_divInt_neg]⟩
  ·intro c2
   refine asb rfl ?_
   refine vnil ?_
   refine V.condF rfl ?_
   refine V.skip ?_
   refine V.seq (V.reg rfl ?_)
   refine vv (rfa rfl fd48_0) ?_
   refine vv (rldb2 rfl ag46 b3 rfl rfl ) ?_
   refine vv (rfa rfl fd48_1) ?_
   refine vv (rldb2 rfl ag46 b3 rfl rfl ) ?_
   refine vv (rbd (ps := [(0, .agg #[_, _]), (1, .agg #[_, _])]) (cs := [.bool _, .slice _ _ _, .bool _, .slice _ _ _]) pl144 rfl rfl) ?_
   refine vo ?_
   refine sta (cs' := [_, _, _, _]) b9 rfl rfl sz144 rfl rfl rfl ?_
   intro W66 y67 b9
   have z68 := z17.below (y67.below (by omega))
   have s69 := y67.size
   refine vnil ?_
   refine V.ret ?_
   refine ⟨[_], ⟨⟨_, rfl, lvb ag144 b9 rfl⟩, trivial⟩, ?_⟩
   have hyp := sg_pos (y := y) (fun h => c1 (hs_.trans h)) (fun h => c2 (hs_.trans h))
   exact ⟨_, rfl, z68, x, y, PA.mk' ((hx.ext z68)).un ((hy.ext z68)).un, hyp, qvn (by omega)⟩

section
variable {L : Nat} {S S' : Nat → Prop} {W W' : World} {n1 n2 : Bool} {a1 a2 : Option Addr} {l1 c1 l2 c2 : Nat} {x y : Int} {r : Rat}
theorem ZC.za_le {z : Int} {W1 : World} {S1 : Nat → Prop} (h : ZC S W n1 a1 l1 c1 z) (h1 : ZA L S1 W1 n2 a2 l2 c2 y) (hz : z.natAbs ≤ y.natAbs) : ZA L S W n1 a1 l1 c1 z := h.zaH (by have := h1.lt; omega)
theorem QC.mk1 (h : ZC S W n1 a1 l1 c1 r.num) (hd : r.den = 1) : QC S W [.bool n1, .slice a1 l1 c1, .bool false, .slice none 0 0] r := by
  obtain ⟨h1, rfl⟩ := h
  refine ⟨_, _, _, _, _, _, rfl, h1, ?_⟩
  show RN .u32 S W none 0 0 (if r.den = 1 then [] else dg b32 r.den)
  rw [if_pos hd]; exact RN.nil _ _ _ _ _ (by omega)
theorem QC.mk2 (h : ZC S W n1 a1 l1 c1 r.num) (h2 : ZC S W n2 a2 l2 c2 (r.den : Int)) (hd : r.den ≠ 1) : QC S W [.bool n1, .slice a1 l1 c1, .bool n2, .slice a2 l2 c2] r := by
  obtain ⟨h1, rfl⟩ := h
  obtain ⟨h2, h3⟩ := h2
  have e : n2 = false := by rw [h3]; simp
  subst e
  refine ⟨_, _, _, _, _, _, rfl, h1, ?_⟩
  show RN .u32 S W a2 l2 c2 (if r.den = 1 then [] else dg b32 r.den)
  rw [if_neg hd]; simpa using h2
theorem num_dv (hy : 0 < y) : (Rat.divInt x y).num = x / (Int.gcd x y : Int) := by
  rw [Rat.num_divInt, Int.sign_eq_one_of_pos hy, Int.one_mul, Int.gcd_comm]
theorem den_dv (hy : 0 < y) : ((Rat.divInt x y).den : Int) = y / (Int.gcd x y : Int) := by
  rw [Rat.den_divInt, if_neg (by omega), Int.gcd_comm]
  have : (y.natAbs : Int) = y := by omega
  rw [Int.natCast_ediv, this]
theorem gcd_le (hy : 0 < y) : ((Int.gcd x y : Int)).natAbs ≤ y.natAbs ∧ (Int.gcd x y : Int) ≠ 0 := by
  have h1 : 0 < Int.gcd x y := Int.gcd_pos_iff.2 (.inr (by omega))
  have h2 : Int.gcd x y ≤ y.natAbs := Int.gcd_le_natAbs_right x (by omega)
  omega
end

set_option maxHeartbeats 400000 in
theorem least_ok (q : List Value) (x y : Int) (L : Nat) (S S1 : Nat → Prop) (w : World) (h : PA L S1 w q x y) (hp : 0 < y) (hL : 1 ≤ L) (hL2 : L ≤ LY) (hu : Up S w) :
    Calls Tryz.prog 153 #[.agg q.toArray] w (PQ S (Rat.divInt x y) w) := by
 have z0 := Ext.refl w; have hLX : LX = 17592186044416 := rfl; have hLY : LY = 8796093022208 := rfl
 obtain ⟨n1, a1, l1, c1, n2, a2, l2, c2, rfl⟩ := h.form
 obtain ⟨hx, hy⟩ := h.one
 have hu2 : ∀ W : World, w.heap.size + 2 ≤ W.heap.size → Up (SX S [w.heap.size + 1]) W := fun W hW => SX.up (hu.mono (by omega)) (by simp <;> omega)
 refine enter (args := [.agg #[.bool n1, .slice a1 l1 c1, .bool n2, .slice a2 l2 c2]]) Tryz.func153 rfl rfl (Nat.le_of_ble_eq_true rfl) ?_
 refine V.seq (V.reg rfl ?_)
 refine vo ?_
 refine bxa rfl ?_
 intro W1 x2 b3 nn4
 have s5 := x2.sz
 have z6 := x2
 refine vo ?_
 refine xal zc48 ?_
 intro W7 x8 b9 nn10
 have s11 := x8.sz
 have z12 := z6.trans x8
 replace b3 := b3.ext x8
 refine vnil ?_
 refine V.seq (V.reg rfl ?_)
 refine vv (rfa rfl fd144_0) ?_
 refine vv (rldb2 rfl ag46 b3 rfl rfl ) ?_
 refine vv (rfa rfl fd144_1) ?_
 refine vv (rldb2 rfl ag46 b3 rfl rfl ) ?_
 refine vo ?_
 refine xcall e186 (wGCD_ok _ _ _ _ _ _ _ _ _ _ _ _ _ _ _ _ (hx.ext z12) (hy.ext z12) (by omega) (by omega) (hu2 _ (by omega))) rfl rfl ?_
 rintro _ W14 ⟨_, _, _, _, rfl, x15, hz13⟩
 have s16 := x15.sz
 have z17 := z12.trans x15
 replace b3 := b3.ext x15
 replace b9 := b9.ext x15
 refine ⟨_, rfl, ?_⟩
 have hg := (hz13).za_le hy (gcd_le hp).1
 refine vo ?_
 refine xal zc46 ?_
 intro W19 x20 b21 nn22
 have s23 := x20.sz
 have z24 := z17.trans x20
 have z25 := x20
 replace b3 := b3.ext x20
 replace b9 := b9.ext x20
 refine vo ?_
 refine sta (cs' := [_, _]) b21 rfl rfl sz46 rfl rfl rfl ?_
 intro W26 y27 b21
 have z28 := z24.below (y27.below (by omega))
 have z29 := z25.below (y27.below (by omega))
 replace b3 := b3.wr y27 (by omega)
 replace b9 := b9.wr y27 (by omega)
 have s30 := y27.size
 refine vnil ?_
 refine V.seq (V.reg rfl ?_)
 refine vv (rfa rfl fd144_0) ?_
 refine vv (rldb2 rfl ag46 b3 rfl rfl ) ?_
 refine vv (rldb2 rfl ag46 b21 rfl rfl ) ?_
 refine vo ?_
 refine xcall e187 (wDivMod_ok _ _ _ _ _ _ _ _ _ _ _ _ _ _ _ _ (hx.ext z28) (hg.ext z29) (by omega) (by omega) (hu2 _ (by omega)) ((gcd_le hp).2)) rfl rfl ?_
 rintro _ W33 ⟨_, _, _, _, _, _, _, _, rfl, x34, hq31, hr32⟩
 have s35 := x34.sz
 have z36 := z28.trans x34
 have z37 := z29.trans x34
 replace b3 := b3.ext x34
 replace b9 := b9.ext x34
 replace b21 := b21.ext x34
 refine ⟨_, rfl, ?_⟩
 refine mvt rfl ?_
 refine vv (rext (v := .agg #[_, _]) rfl rfl) ?_
 refine vv (rext (v := .agg #[_, _]) rfl rfl) ?_
 refine vv (rext (v := .int _ _) rfl rfl) ?_
 refine vo ?_
 refine xal zc46 ?_
 intro W39 x40 b41 nn42
 have s43 := x40.sz
 have z44 := z36.trans x40
 have z45 := z37.trans x40
 have z46 := x40
 replace b3 := b3.ext x40
 replace b9 := b9.ext x40
 replace b21 := b21.ext x40
 refine vo ?_
 refine xal zc46 ?_
 intro W47 x48 b49 nn50
 have s51 := x48.sz
 have z52 := z44.trans x48
 have z53 := z45.trans x48
 have z54 := z46.trans x48
 replace b3 := b3.ext x48
 replace b9 := b9.ext x48
 replace b21 := b21.ext x48
 replace b41 := b41.ext x48
 refine vo ?_
 refine sta (cs' := [_, _]) b41 rfl rfl sz46 rfl rfl rfl ?_
 intro W55 y56 b41
 have z57 := z52.below (y56.below (by omega))
 have z58 := z53.below (y56.below (by omega))
 have z59 := z54.below (y56.below (by omega))
 replace b3 := b3.wr y56 (by omega)
 replace b9 := b9.wr y56 (by omega)
 replace b21 := b21.wr y56 (by omega)
 replace b49 := b49.wr y56 (by omega)
 have s60 := y56.size
 refine vo ?_
 refine sta (cs' := [_, _]) b49 rfl rfl sz46 rfl rfl rfl ?_
 intro W61 y62 b49
 have z63 := z57.below (y62.below (by omega))
 have z64 := z58.below (y62.below (by omega))
 have z65 := z59.below (y62.below (by omega))
 replace b3 := b3.wr y62 (by omega)
 replace b9 := b9.wr y62 (by omega)
 replace b21 := b21.wr y62 (by omega)
 replace b41 := b41.wr y62 (by omega)
 have s66 := y62.size
 refine asi rfl ?_
 refine vnil ?_
 refine V.seq (V.reg rfl ?_)
 refine vv (rfa rfl fd144_1) ?_
 refine vv (rldb2 rfl ag46 b3 rfl rfl ) ?_
 refine vv (rldb2 rfl ag46 b21 rfl rfl ) ?_
 refine vo ?_
 refine xcall e187 (wDivMod_ok _ _ _ _ _ _ _ _ _ _ _ _ _ _ _ _ (hy.ext z63) (hg.ext z64) (by omega) (by omega) (hu2 _ (by omega)) ((gcd_le hp).2)) rfl rfl ?_
 rintro _ W69 ⟨_, _, _, _, _, _, _, _, rfl, x70, hq67, hr68⟩
 have s71 := x70.sz
 have z72 := z63.trans x70
 have z74 := z65.trans x70
 replace b3 := b3.ext x70
 replace b9 := b9.ext x70
 replace b21 := b21.ext x70
 replace b41 := b41.ext x70
 replace b49 := b49.ext x70
 refine ⟨_, rfl, ?_⟩
 refine mvt rfl ?_
 refine vv (rext (v := .agg #[_, _]) rfl rfl) ?_
 refine vv (rext (v := .agg #[_, _]) rfl rfl) ?_
 refine vv (rext (v := .int _ _) rfl rfl) ?_
 refine vo ?_
 refine xal zc46 ?_
 intro W76 x77 b78 nn79
 have s80 := x77.sz
 have z81 := z72.trans x77
 have z83 := z74.trans x77
 have z84 := x77
 replace b3 := b3.ext x77
 replace b9 := b9.ext x77
 replace b21 := b21.ext x77
 replace b41 := b41.ext x77
 replace b49 := b49.ext x77
 refine vo ?_
 refine xal zc46 ?_
 intro W85 x86 b87 nn88
 have s89 := x86.sz
 have z90 := z81.trans x86
 have z92 := z83.trans x86
 have z93 := z84.trans x86
 replace b3 := b3.ext x86
 replace b9 := b9.ext x86
 replace b21 := b21.ext x86
 replace b41 := b41.ext x86
 replace b49 := b49.ext x86
 replace b78 := b78.ext x86
 refine vo ?_
 refine sta (cs' := [_, _]) b78 rfl rfl sz46 rfl rfl rfl ?_
 intro W94 y95 b78
 have z96 := z90.below (y95.below (by omega))
 have z98 := z92.below (y95.below (by omega))
 have z99 := z93.below (y95.below (by omega))
 replace b3 := b3.wr y95 (by omega)
 replace b9 := b9.wr y95 (by omega)
 replace b21 := b21.wr y95 (by omega)
 replace b41 := b41.wr y95 (by omega)
 replace b49 := b49.wr y95 (by omega)
 replace b87 := b87.wr y95 (by omega)
 have s100 := y95.size
 refine vo ?_
 refine sta (cs' := [_, _]) b87 rfl rfl sz46 rfl rfl rfl ?_
 intro W101 y102 b87
 have z103 := z96.below (y102.below (by omega))
 have z105 := z98.below (y102.below (by omega))
 have z106 := z99.below (y102.below (by omega))
 replace b3 := b3.wr y102 (by omega)
 replace b9 := b9.wr y102 (by omega)
 replace b21 := b21.wr y102 (by omega)
 replace b41 := b41.wr y102 (by omega)
 replace b49 := b49.wr y102 (by omega)
 replace b78 := b78.wr y102 (by omega)
 have s107 := y102.size
 have hd := ((hq67.ext z106)).za_le hy (Int.natAbs_ediv_le_natAbs _ _)
 refine asi rfl ?_
 refine vnil ?_
 refine V.seq ?_
 refine V.seq (V.regD mixed rfl ?_)
 intro W109 x110
 have s111 := x110.sz
 have z112 := z103.trans x110
 have z114 := z105.trans x110
 have z115 := z106.trans x110
 have z116 := x110
 replace b3 := b3.ext x110
 replace b9 := b9.ext x110
 replace b21 := b21.ext x110
 replace b41 := b41.ext x110
 replace b49 := b49.ext x110
 replace b78 := b78.ext x110
 replace b87 := b87.ext x110
 have q117 := Ext.refl W109
 have r118 := b3
 have r119 := b9
 have r120 := b21
 have r121 := b41
 have r122 := b49
 have r123 := b78
 have r124 := b87
 refine tk 0 rfl (by kernel_rfl) q117 (pv (fun _ y125 => rldb2 rfl ag46 (r123.ext y125) rfl rfl )) ?_
 refine ef 1 (by kernel_rfl) rfl ?_
 refine xcall e98 (wFrom_ok _ _ _ (by omega) (hu2 _ (by omega))) rfl rfl ?_
 rintro _ W127 ⟨_, _, _, _, rfl, x128, hz126⟩
 have s129 := x128.sz
 have z130 := z112.trans x128
 have z132 := z114.trans x128
 have z133 := z115.trans x128
 have z134 := z116.trans x128
 replace b9 := b9.ext x128
 replace b41 := b41.ext x128
 replace b78 := b78.ext x128
 have q135 := q117.trans x128
 refine ⟨_, rfl, ?_⟩
 refine ⟨fun _ => q135, ?_⟩
 refine ef 2 (by kernel_rfl) rfl ?_
 have ho := (hz126).za1 (L := L) hL
 refine xcall e178 (wCmp_ok _ _ _ _ _ _ _ _ _ _ _ _ _ _ _ (hd.ext z134) ho (by omega) (by omega)) rfl rfl ?_
 rintro _ W138 ⟨_, rfl, x139, hs137⟩
 have s140 := x139.sz
 have z141 := z130.trans x139
 have z143 := z132.trans x139
 have z144 := z133.trans x139
 replace b9 := b9.ext x139
 replace b41 := b41.ext x139
 replace b78 := b78.ext x139
 have q147 := q135.trans x139
 refine ⟨_, rfl, ?_⟩
 refine ⟨fun _ => q147, ?_⟩
 refine tk 3 rfl (by kernel_rfl) q147 (pv (fun _ y148 => rcmp (cEq rfl) rfl rfl rfl)) ?_
 refine dn (by kernel_rfl) ?_
 refine V.condB rfl ?_ ?_
 ·intro c1
  refine V.seq (V.reg rfl ?_)
  refine vv (rldb2 rfl ag46 b41 rfl rfl ) ?_
  refine vv (rbd (ps := [(0, .agg #[_, _])]) (cs := [.bool _, .slice _ _ _, .bool false, .slice _ _ _]) pl48 rfl rfl) ?_
  refine vo ?_
  refine sta (cs' := [_, _, _, _]) b9 rfl rfl sz48 rfl rfl rfl ?_
  intro W149 y150 b9
  have z151 := z141.below (y150.below (by omega))
  have s152 := y150.size
  refine vnil ?_
  refine V.ret ?_
  refine ⟨[_], ⟨⟨_, rfl, lvb ag48 b9 rfl⟩, trivial⟩, ?_⟩
  have hd1 := sg_eq0 (hs137.symm.trans (of_decide_eq_true c1))
  exact ⟨_, rfl, z151, QC.mk1 (((((hq31.ext z143).ck (y150.ck (by intro hh; first | (simp [SX] at hh <;> omega) | omega)))).un).cast (num_dv hp).symm) (by have := den_dv (x := x) hp; omega)⟩
 ·intro c1
  refine V.skip ?_
  refine V.seq (V.reg rfl ?_)
  refine vv (rldb2 rfl ag46 b41 rfl rfl ) ?_
  refine vv (rldb2 rfl ag46 b78 rfl rfl ) ?_
  refine vv (rbd (ps := [(0, .agg #[_, _]), (1, .agg #[_, _])]) (cs := [.bool _, .slice _ _ _, .bool _, .slice _ _ _]) pl48 rfl rfl) ?_
  refine vo ?_
  refine sta (cs' := [_, _, _, _]) b9 rfl rfl sz48 rfl rfl rfl ?_
  intro W153 y154 b9
  have z155 := z141.below (y154.below (by omega))
  have s156 := y154.size
  refine vnil ?_
  refine V.ret ?_
  refine ⟨[_], ⟨⟨_, rfl, lvb ag48 b9 rfl⟩, trivial⟩, ?_⟩
  have hd1 : y / (Int.gcd x y : Int) ≠ 1 := fun h => of_decide_eq_false c1 (by rw [hs137, h]; rfl)
  exact ⟨_, rfl, z155, QC.mk2 (((((hq31.ext z143).ck (y154.ck (by intro hh; first | (simp [SX] at hh <;> omega) | omega)))).un).cast (num_dv hp).symm) (((((hq67.ext z144).ck (y154.ck (by intro hh; first | (simp [SX] at hh <;> omega) | omega)))).un).cast (den_dv hp).symm) (by have := den_dv (x := x) hp; omega)⟩
end Go.Proofs.YtknbjfefeeojlaaGreat

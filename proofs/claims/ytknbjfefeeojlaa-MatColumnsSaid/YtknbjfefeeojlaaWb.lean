/- Package whole: pairs, carrier, add, sub, cmp. -/
import Derived.Test.YtknbjfefeeojlaaWa
namespace Go.Proofs.Ytknbjfefeeojlaa
open Go.RowKit
attribute [local irreducible] RV VH V OpF Calls

/-- What a call of carrier's functions may do. -/
def PK (B bo bc : Nat) (W W' : World) : Prop := KB B W W' ∧ ∀ k cs T fz, W.heap[k]? = some (.cells cs T fz) → T ≠ 124 → k ≠ bo → k ≠ bc → W'.heap[k]? = some (.cells cs T fz)
theorem BoxAt.pk {B bo bc b : Nat} {W W' : World} {cs : List Value} {T : TypeId} (h : BoxAt W b cs T) (p : PK B bo bc W W') (hT : T ≠ 124) (h1 : b ≠ bo) (h2 : b ≠ bc) : BoxAt W' b cs T := p.2 b _ T _ h hT h1 h2
/-- The state of a carrier: its words so far, and the carry. -/
def CR (W : World) (B bo bc : Nat) (xs : List Int) (c : Int) : Prop := ∃ u, BoxAt W bo [u] 39 ∧ BoxAt W bc [.int .u64 c] 122 ∧ OI .u32 B W 124 u xs
theorem CR.ext {W W' : World} {B bo bc : Nat} {xs : List Int} {c : Int} (h : CR W B bo bc xs c) (x : Ext W W') : CR W' B bo bc xs c := by
  obtain ⟨u, h1, h2, h3⟩ := h; exact ⟨u, h1.ext x, h2.ext x, h3.ext x⟩
theorem CR.lt {W : World} {B bo bc : Nat} {xs : List Int} {c : Int} (h : CR W B bo bc xs c) : bo < W.heap.size ∧ bc < W.heap.size := by
  obtain ⟨u, h1, h2, h3⟩ := h; exact ⟨h1.lt, h2.lt⟩
theorem CR.tn {W W' : World} {Bt B bo bc : Nat} {xs : List Int} {c : Int} (h : CR W B bo bc xs c) (x : Tn Bt W W') : CR W' B bo bc xs c := by
  obtain ⟨u, h1, h2, h3⟩ := h; exact ⟨u, h1.tn x, h2.tn x, h3.ck (x.ck fun _ => True) fun _ _ => trivial⟩
theorem OI.setRow {k : IntKind} {B : Nat} {W : World} {e : TypeId} {v : Value} {xs : List Int} {b : Nat} {W' : World} (h : OI k B W e v xs) (y : Wr b W W') (hb : v.ownBlock ≠ some b) : OI k B W' e v xs :=
  h.ck (y.ck (S := fun q => some q ≠ some b) (fun h => h rfl)) (fun q e => by rw [e] at hb; exact hb)

theorem carrier_ok (w : World) : Calls Try.prog 118 #[] w fun e w' => ∃ bo bc, bo = w.heap.size ∧ bc = w.heap.size + 1 ∧
    e = .returned (.tuple #[.func (.func 122) #[] #[.pointer (some ⟨bc, 0, none⟩), .pointer (some ⟨bo, 0, none⟩)], .func (.func 123) #[] #[.pointer (some ⟨bo, 0, none⟩), .pointer (some ⟨bc, 0, none⟩)]]) ∧ Ext w w' ∧ CR w' w.heap.size bo bc [] 0 := by
  refine enter (args := []) Try.func118 rfl rfl (Nat.le_of_ble_eq_true rfl) ?_
  refine V.seq (V.reg rfl ?_)
  refine asn rfl ?_
  refine asn rfl ?_
  refine vnil ?_
  refine V.seq (V.reg rfl ?_)
  refine vo ?_
  refine xal zc39 ?_
  intro W1 x1 b1 n1
  refine vnil ?_
  refine V.seq (V.reg rfl ?_)
  refine vo ?_
  refine xal zc122 ?_
  intro W2 x2 b2 n2
  refine vo ?_
  refine st1 (v := .int _ _) (cs' := [_]) b2 rfl rfl sz122 rfl rfl rfl rfl ?_
  intro W3 y3 b2
  refine vnil ?_
  refine V.seq (V.reg rfl ?_)
  refine vv (rmk2 (v := .pointer (some ⟨_, _, none⟩)) (u := .pointer (some ⟨_, _, none⟩)) rfl rfl) ?_
  refine asf rfl ?_
  refine vnil ?_
  refine V.seq (V.reg rfl ?_)
  refine mvf rfl ?_
  refine vv (rmk2 (v := .pointer (some ⟨_, _, none⟩)) (u := .pointer (some ⟨_, _, none⟩)) rfl rfl) ?_
  refine asf rfl ?_
  refine asf rfl ?_
  refine vnil ?_
  refine V.ret ?_
  refine ⟨[.func _ _ _, .func _ _ _], ⟨rfl, rfl, trivial⟩, ?_⟩
  exact ⟨_, _, rfl, n1, rfl, (x1.trans x2).below (y3.below (by omega)), .slice none 0 0, (b1.ext x2).wr y3 (by omega), b2, OI.nil _ _ _ _⟩

set_option maxHeartbeats 400000 in
theorem put_ok (B bo bc : Nat) (xs : List Int) (c v : Int) (w : World) (h : CR w B bo bc xs c) (hc : 0 ≤ c) (hv : 0 ≤ v) (hs : v + c ≤ 18446744073709551615) (hl : (xs.length + 1) * 4 ≤ 140737488355328) (hbo : B ≤ bo) (hbc : B ≤ bc) (hne : bo ≠ bc) :
    Calls Try.prog 122 #[.int .u64 v, .pointer (some ⟨bc, 0, none⟩), .pointer (some ⟨bo, 0, none⟩)] w fun e w' => e = .returned (.tuple #[]) ∧ PK B bo bc w w' ∧ CR w' B bo bc (xs ++ [(v + c) % 4294967296]) ((v + c) / 4294967296) := by
  obtain ⟨u, b1, b2, hO⟩ := h
  have l1 := b1.lt
  have l2 := b2.lt
  have d1 := hO.neBox b1 (by decide)
  have d2 := hO.neBox b2 (by decide)
  refine enter (args := [.int .u64 v, .pointer (some ⟨bc, 0, none⟩), .pointer (some ⟨bo, 0, none⟩)]) Try.func122 rfl rfl (Nat.le_of_ble_eq_true rfl) ?_
  refine V.seq (V.reg rfl ?_)
  refine mvi rfl ?_
  refine vv (rldb (v := .int .u64 c) rfl sc122 b2 rfl) ?_
  refine vv (rbin (bAdd (wu (by omega))) rfl rfl) ?_
  refine asi rfl ?_
  refine vnil ?_
  refine V.reg rfl ?_
  refine vv (rldb (v := u) rfl sc39 b1 rfl) ?_
  refine mvi rfl ?_
  refine vv (rcv Try.underlying122 Try.underlying124 rfl (m32 _)) ?_
  refine vo ?_
  refine xbs (ps := [(0, .int _ _)]) (cs := [.int _ _]) sl39 zr124 sz124 rfl rfl rfl rfl rfl rfl ?_
  intro W1 x1 b3 n3
  refine vo ?_
  refine xapp sl39 in124 (hO.ext x1) rfl rfl b3 (by simp only [kb]; omega) hl (by decide) (by omega) ?_
  intro v' W2 hO2 hg ho
  have k2 : KB B W1 W2 := KB.grown (hO.ext x1) hg (Nat.le_refl _) (by omega)
  have c2 : CK (fun q => u.ownBlock ≠ some q) W1 W2 := grown_ck hg fun b e h => h e
  have b1' := (b1.ext x1).ck c2 d1
  have b2' := (b2.ext x1).ck c2 d2
  have e1 : v'.ownBlock ≠ some bo := by
    rcases ho with h | h <;> rw [h]
    · exact d1
    · intro e; injection e with e; omega
  have e2 : v'.ownBlock ≠ some bc := by
    rcases ho with h | h <;> rw [h]
    · exact d2
    · intro e; injection e with e; omega
  have s2 := k2.below.size
  refine mvi rfl ?_
  refine vv (rshr (n := 32) rfl rfl (by decide) (shr32 _)) ?_
  refine vo ?_
  obtain ⟨a', c', rfl⟩ := hO2.form
  refine st1 (v := .slice _ _ _) (cs' := [_]) b1' rfl rfl sz39 rfl rfl rfl rfl ?_
  intro W3 y3 b1''
  refine vo ?_
  refine st1 (v := .int _ _) (cs' := [_]) (b2'.wr y3 (by omega)) rfl rfl sz122 rfl rfl rfl rfl ?_
  intro W4 y4 b2''
  refine vnil ?_
  refine ⟨[], trivial, ?_⟩
  refine ⟨rfl, ⟨(KB.ext x1 (by omega)).trans (k2.trans ((KB.wr y3 b1' hbo).trans (KB.wr y4 (b2'.wr y3 (by omega)) hbc))), ?_⟩, _, b1''.wr y4 hne, b2'', (hO2.setRow y3 e1).setRow y4 e2⟩
  intro k cs T fz hk hT h1 h2
  have hk1 := (x1.block k (Array.getElem?_eq_some_iff.1 hk).1).trans hk
  have hk2 := c2.2 k cs T fz (by
    intro e
    rcases (hO.ext x1).row.2 with ⟨rfl, _⟩ | ⟨b', cap, cur, rfl, _, hh, _⟩
    · cases e
    · simp only [Value.ownBlock, Option.some.injEq] at e
      subst e
      rw [hk1] at hh
      injection hh with hh
      injection hh with _ h2 _
      exact hT h2) hk1
  exact (y4.block k h2).trans ((y3.block k h1).trans hk2)

set_option maxHeartbeats 400000 in
theorem all_ok (B bo bc : Nat) (xs : List Int) (c : Int) (w : World) (h : CR w B bo bc xs c) (hl : (xs.length + 1) * 4 ≤ 140737488355328) (hbo : B ≤ bo) :
    Calls Try.prog 123 #[.pointer (some ⟨bo, 0, none⟩), .pointer (some ⟨bc, 0, none⟩)] w fun e w' => ∃ a n d, e = .returned (.slice a n d) ∧ KB B w w' ∧ OI .u32 B w' 124 (.slice a n d) (xs ++ [c % 4294967296]) := by
  obtain ⟨u, b1, b2, hO⟩ := h
  have l1 := b1.lt
  refine enter (args := [.pointer (some ⟨bo, 0, none⟩), .pointer (some ⟨bc, 0, none⟩)]) Try.func123 rfl rfl (Nat.le_of_ble_eq_true rfl) ?_
  refine V.seq (V.reg rfl ?_)
  refine ass rfl ?_
  refine vnil ?_
  refine V.seq (V.reg rfl ?_)
  refine vv (rldb (v := u) rfl sc39 b1 rfl) ?_
  refine vv (rldb (v := .int .u64 c) rfl sc122 b2 rfl) ?_
  refine vv (rcv Try.underlying122 Try.underlying124 rfl (m32 _)) ?_
  refine vo ?_
  refine xbs (ps := [(0, .int _ _)]) (cs := [.int _ _]) sl39 zr124 sz124 rfl rfl rfl rfl rfl rfl ?_
  intro W1 x1 b3 n3
  refine vo ?_
  refine xapp sl39 in124 (hO.ext x1) rfl rfl b3 (by simp only [kb]; omega) hl (by decide) (by omega) ?_
  intro v' W2 hO2 hg ho
  obtain ⟨a', c', rfl⟩ := hO2.form
  refine ass rfl ?_
  refine vnil ?_
  refine V.ret ?_
  refine ⟨[.slice _ _ _], ⟨rfl, trivial⟩, ?_⟩
  exact ⟨_, _, _, rfl, (KB.ext x1 (by omega)).trans (KB.grown (hO.ext x1) hg (Nat.le_refl _) (by omega)), hO2⟩


theorem wd_ge {xs : List Int} {i : Int} (h : xs.length ≤ i.toNat) : wd xs i = 0 := by
  unfold wd; rw [List.getD_eq_getElem?_getD, List.getElem?_eq_none h]; rfl
theorem RN.kd {D : Nat → Prop} {k : IntKind} {W W' : World} {a : Option Addr} {n c : Nat} {xs : List Int} (h : RN k D W a n c xs) (x : KD D W W') : RN k D W' a n c xs := h.ck x.ck

set_option maxHeartbeats 400000 in
theorem pairs_iter {D : Nat → Prop} {w : World} {a1 a2 : Option Addr} {n c m d : Nat} {xs ys : List Int} {b1 b2 : Nat} (hb1 : BoxAt w b1 [.slice a1 n c] 39) (hb2 : BoxAt w b2 [.slice a2 m d] 39) (hx : RN .u32 D w a1 n c xs) (hy : RN .u32 D w a2 m d ys) (h1 : D b1) (h2 : D b2) :
    Iter Try.prog 124 #[.pointer (some ⟨b1, 0, none⟩), .pointer (some ⟨b2, 0, none⟩)] (fun i => .int .u64 (wd xs i)) (fun i => .int .u64 (wd ys i)) D (max n m) w := by
  have z0 := Ext.refl w; have hLX : LX = 17592186044416 := rfl; have hLY : LY = 8796093022208 := rfl
  intro l J Jx X hX hJs hJxs hY hJ0
  have hx0 := hx.ext hX; have hy0 := hy.ext hX; have b10 := hb1.ext hX; have b20 := hb2.ext hX
  have l1 := hx.len; have l2 := hy.len; have q1 := hx.cap; have q2 := hy.cap; have q3 := hx.max; have q4 := hy.max
  refine enter (args := [.func (.yield l) #[] #[], .pointer (some ⟨b1, 0, none⟩), .pointer (some ⟨b2, 0, none⟩)]) Try.func124 rfl rfl (Nat.le_of_ble_eq_true rfl) ?_
  refine V.seq (V.reg rfl ?_)
  refine vv (rldb (v := .slice _ _ _) rfl sc39 b10 rfl) ?_
  refine vv (rlen sl39 rfl) ?_
  refine vv (rldb (v := .slice _ _ _) rfl sc39 b20 rfl) ?_
  refine vv (rlen sl39 rfl) ?_
  refine vv (rmax rfl rfl rfl) ?_
  refine mvi rfl ?_
  refine vnil ?_
  refine V.block ?_
  refine V.loopK (ι := Nat) [(0, .func _ _ _), (1, .pointer (some ⟨_, _, none⟩)), (2, .pointer (some ⟨_, _, none⟩)), (11, .int _ _)] (fun k => [(12, .int .i64 (k : Int))]) (fun k W => J k W ∧ KD D w W ∧ k ≤ max n m) (fun k => max n m - k) (0) ⟨rfl, rfl, rfl, rfl, trivial⟩ ⟨rfl, trivial⟩ ⟨hJ0, hX.kd, Nat.zero_le _⟩ ?_
  intro k E2 W1 h3
  obtain ⟨hJ, hkd, hk⟩ := h3
  have hx1 := hx.kd hkd
  have hy1 := hy.kd hkd
  have b1' := hb1.kd hkd h1; have b2' := hb2.kd hkd h2
  have hYk : ∀ x y, x = wd xs k → y = wd ys k → k < max n m → YieldAt Fence.wide 0 Try.prog l #[.int .u64 x, .int .u64 y] W1 (fun e B => (e = .returned (.bool true) ∧ J (k + 1) B ∧ KD D W1 B) ∨ (e = .returned (.bool false) ∧ Jx k B ∧ KD D W1 B)) := by intro x y ex ey hlt; subst ex; subst ey; exact hY k _ hJ hlt hkd
  refine V.seq (V.reg rfl ?_)
  refine vlt rfl rfl ?_ ?_
  · intro c4
    refine vnil ?_
    refine V.seq ?_
    refine V.condT rfl ?_
    refine V.skip ?_
    refine V.seq ?_
    refine V.block ?_
    refine V.seq (V.reg rfl ?_)
    refine mvi rfl ?_
    refine asi rfl ?_
    refine vnil ?_
    refine V.seq (V.reg rfl ?_)
    refine asi rfl ?_
    refine asi rfl ?_
    refine vnil ?_
    refine V.seq ?_
    refine V.seq (V.reg rfl ?_)
    refine mvi rfl ?_
    refine vv (rldb (v := .slice _ _ _) rfl sc39 b1' rfl) ?_
    refine vv (rlen sl39 rfl) ?_
    refine vlt rfl rfl ?_ ?_
    · intro c5
      refine vnil ?_
      refine V.condT rfl ?_
      refine V.reg rfl ?_
      refine vv (rldb (v := .slice _ _ _) rfl sc39 b1' rfl) ?_
      refine mvi rfl ?_
      refine vv (rixn hx1 sl39 sz124 rfl rfl (by omega) (by omega)) ?_
      refine vldN hx1 rfl sc124 (by omega) (by omega) ?_
      intro q6 hq6 hk7
      simp only [kb] at hk7
      refine vv (rcv Try.underlying124 Try.underlying122 rfl (wu (by omega))) ?_
      refine asi rfl ?_
      refine vnil ?_
      refine V.seq ?_
      refine V.seq (V.reg rfl ?_)
      refine mvi rfl ?_
      refine vv (rldb (v := .slice _ _ _) rfl sc39 b2' rfl) ?_
      refine vv (rlen sl39 rfl) ?_
      refine vlt rfl rfl ?_ ?_
      · intro c8
        refine vnil ?_
        refine V.condT rfl ?_
        refine V.reg rfl ?_
        refine vv (rldb (v := .slice _ _ _) rfl sc39 b2' rfl) ?_
        refine mvi rfl ?_
        refine vv (rixn hy1 sl39 sz124 rfl rfl (by omega) (by omega)) ?_
        refine vldN hy1 rfl sc124 (by omega) (by omega) ?_
        intro q9 hq9 hk10
        simp only [kb] at hk10
        refine vv (rcv Try.underlying124 Try.underlying122 rfl (wu (by omega))) ?_
        refine asi rfl ?_
        refine vnil ?_
        refine V.seq (V.reg rfl ?_)
        refine mvf rfl ?_
        refine mvi rfl ?_
        refine mvi rfl ?_
        refine vo ?_
        refine xyield (vs := [.int _ _, .int _ _]) rfl rfl (hYk _ _ hq6 hq9 (by omega)) ?_
        rintro _ W' (⟨rfl, hJ', hkd'⟩ | ⟨rfl, hJx, hkd'⟩) <;> refine ⟨_, rfl, ?_⟩
        · skip
          refine vv (rnot (q := false) rfl rfl) ?_
          refine vnil ?_
          refine V.condF rfl ?_
          refine V.skip ?_
          refine V.reg rfl ?_
          refine vv (rbin (bAdd (wi (by omega))) rfl rfl) ?_
          refine mvi rfl ?_
          refine vnil ?_
          refine ⟨rfl, k + 1, ⟨rfl, rfl, rfl, rfl, trivial⟩, ⟨rfl, trivial⟩, ⟨hJ', hkd.trans hkd', by omega⟩, ?_⟩
          show max n m - (k + 1) < max n m - k
          omega
        · skip
          refine vv (rnot (q := true) rfl rfl) ?_
          refine vnil ?_
          refine V.condT rfl ?_
          refine V.ret ?_
          refine ⟨[], trivial, ?_⟩
          exact ⟨⟨_, rfl⟩, .inr ⟨k, by omega, hJx⟩⟩
      · intro c8
        refine vnil ?_
        refine V.condF rfl ?_
        refine V.skip ?_
        refine V.seq (V.reg rfl ?_)
        refine mvf rfl ?_
        refine mvi rfl ?_
        refine mvi rfl ?_
        refine vo ?_
        refine xyield (vs := [.int _ _, .int _ _]) rfl rfl (hYk _ _ hq6 (wd_ge (by omega)).symm (by omega)) ?_
        rintro _ W' (⟨rfl, hJ', hkd'⟩ | ⟨rfl, hJx, hkd'⟩) <;> refine ⟨_, rfl, ?_⟩
        · skip
          refine vv (rnot (q := false) rfl rfl) ?_
          refine vnil ?_
          refine V.condF rfl ?_
          refine V.skip ?_
          refine V.reg rfl ?_
          refine vv (rbin (bAdd (wi (by omega))) rfl rfl) ?_
          refine mvi rfl ?_
          refine vnil ?_
          refine ⟨rfl, k + 1, ⟨rfl, rfl, rfl, rfl, trivial⟩, ⟨rfl, trivial⟩, ⟨hJ', hkd.trans hkd', by omega⟩, ?_⟩
          show max n m - (k + 1) < max n m - k
          omega
        · skip
          refine vv (rnot (q := true) rfl rfl) ?_
          refine vnil ?_
          refine V.condT rfl ?_
          refine V.ret ?_
          refine ⟨[], trivial, ?_⟩
          exact ⟨⟨_, rfl⟩, .inr ⟨k, by omega, hJx⟩⟩
    · intro c5
      refine vnil ?_
      refine V.condF rfl ?_
      refine V.skip ?_
      refine V.seq ?_
      refine V.seq (V.reg rfl ?_)
      refine mvi rfl ?_
      refine vv (rldb (v := .slice _ _ _) rfl sc39 b2' rfl) ?_
      refine vv (rlen sl39 rfl) ?_
      refine vlt rfl rfl ?_ ?_
      · intro c11
        refine vnil ?_
        refine V.condT rfl ?_
        refine V.reg rfl ?_
        refine vv (rldb (v := .slice _ _ _) rfl sc39 b2' rfl) ?_
        refine mvi rfl ?_
        refine vv (rixn hy1 sl39 sz124 rfl rfl (by omega) (by omega)) ?_
        refine vldN hy1 rfl sc124 (by omega) (by omega) ?_
        intro q12 hq12 hk13
        simp only [kb] at hk13
        refine vv (rcv Try.underlying124 Try.underlying122 rfl (wu (by omega))) ?_
        refine asi rfl ?_
        refine vnil ?_
        refine V.seq (V.reg rfl ?_)
        refine mvf rfl ?_
        refine mvi rfl ?_
        refine mvi rfl ?_
        refine vo ?_
        refine xyield (vs := [.int _ _, .int _ _]) rfl rfl (hYk _ _ (wd_ge (by omega)).symm hq12 (by omega)) ?_
        rintro _ W' (⟨rfl, hJ', hkd'⟩ | ⟨rfl, hJx, hkd'⟩) <;> refine ⟨_, rfl, ?_⟩
        · skip
          refine vv (rnot (q := false) rfl rfl) ?_
          refine vnil ?_
          refine V.condF rfl ?_
          refine V.skip ?_
          refine V.reg rfl ?_
          refine vv (rbin (bAdd (wi (by omega))) rfl rfl) ?_
          refine mvi rfl ?_
          refine vnil ?_
          refine ⟨rfl, k + 1, ⟨rfl, rfl, rfl, rfl, trivial⟩, ⟨rfl, trivial⟩, ⟨hJ', hkd.trans hkd', by omega⟩, ?_⟩
          show max n m - (k + 1) < max n m - k
          omega
        · skip
          refine vv (rnot (q := true) rfl rfl) ?_
          refine vnil ?_
          refine V.condT rfl ?_
          refine V.ret ?_
          refine ⟨[], trivial, ?_⟩
          exact ⟨⟨_, rfl⟩, .inr ⟨k, by omega, hJx⟩⟩
      · intro c11
        refine vnil ?_
        refine V.condF rfl ?_
        refine V.skip ?_
        refine V.seq (V.reg rfl ?_)
        refine mvf rfl ?_
        refine mvi rfl ?_
        refine mvi rfl ?_
        refine vo ?_
        refine xyield (vs := [.int _ _, .int _ _]) rfl rfl (hYk _ _ (wd_ge (by omega)).symm (wd_ge (by omega)).symm (by omega)) ?_
        rintro _ W' (⟨rfl, hJ', hkd'⟩ | ⟨rfl, hJx, hkd'⟩) <;> refine ⟨_, rfl, ?_⟩
        · skip
          refine vv (rnot (q := false) rfl rfl) ?_
          refine vnil ?_
          refine V.condF rfl ?_
          refine V.skip ?_
          refine V.reg rfl ?_
          refine vv (rbin (bAdd (wi (by omega))) rfl rfl) ?_
          refine mvi rfl ?_
          refine vnil ?_
          refine ⟨rfl, k + 1, ⟨rfl, rfl, rfl, rfl, trivial⟩, ⟨rfl, trivial⟩, ⟨hJ', hkd.trans hkd', by omega⟩, ?_⟩
          show max n m - (k + 1) < max n m - k
          omega
        · skip
          refine vv (rnot (q := true) rfl rfl) ?_
          refine vnil ?_
          refine V.condT rfl ?_
          refine V.ret ?_
          refine ⟨[], trivial, ?_⟩
          exact ⟨⟨_, rfl⟩, .inr ⟨k, by omega, hJx⟩⟩
  · intro c4
    refine vnil ?_
    refine V.seq ?_
    refine V.condF rfl ?_
    refine V.exit ?_
    refine ⟨[], trivial, ?_⟩
    exact ⟨⟨_, rfl⟩, .inl (by rw [show max n m = k by omega]; exact hJ)⟩
set_option maxHeartbeats 400000 in
theorem pairs_ok (a1 a2 : Option Addr) (n c m d : Nat) (w : World) :
    Calls Try.prog 119 #[.slice a1 n c, .slice a2 m d] w (fun e w' => ∃ b1 b2, b1 = w.heap.size ∧ b2 = w.heap.size + 1 ∧ e = .returned (.func (.func 124) #[] #[.pointer (some ⟨b1, 0, none⟩), .pointer (some ⟨b2, 0, none⟩)]) ∧ Ext w w' ∧ BoxAt w' b1 [.slice a1 n c] 39 ∧ BoxAt w' b2 [.slice a2 m d] 39) := by
  have z0 := Ext.refl w; have hLX : LX = 17592186044416 := rfl; have hLY : LY = 8796093022208 := rfl
  refine enter (args := [.slice a1 n c, .slice a2 m d]) Try.func119 rfl rfl (Nat.le_of_ble_eq_true rfl) ?_
  refine V.seq (V.reg rfl ?_)
  refine vo ?_
  refine bxs rfl ?_
  intro W1 x2 b3 nn4
  have s5 := x2.sz
  have z6 := x2
  refine vo ?_
  refine bxs rfl ?_
  intro W7 x8 b9 nn10
  have s11 := x8.sz
  have z12 := z6.trans x8
  replace b3 := b3.ext x8
  refine asn rfl ?_
  refine vnil ?_
  refine V.seq (V.reg rfl ?_)
  refine vv (rmk2 (v := .pointer (some ⟨_, _, none⟩)) (u := .pointer (some ⟨_, _, none⟩)) rfl rfl) ?_
  refine asf rfl ?_
  refine vnil ?_
  refine V.ret ?_
  refine ⟨[.func _ _ _], ⟨rfl, trivial⟩, ?_⟩
  exact ⟨_, _, rfl, by omega, rfl, z12, b3, b9⟩

theorem PK.kd {D : Nat → Prop} {B bo bc : Nat} {X Y : World} (p : PK B bo bc X Y) (hD : ∀ k, D k → k < B ∨ (k ≠ bo ∧ k ≠ bc ∧ ∃ cs T, T ≠ 124 ∧ BoxAt X k cs T)) : KD D X Y :=
  ⟨p.1.below.os, p.1.below.tape, p.1.below.output, p.1.below.size, fun k hk hl => by
    rcases hD k hk with h | ⟨h1, h2, cs, T, hT, hb⟩
    · exact p.1.below.block k h
    · exact (p.2 k _ T _ hb hT h1 h2).trans hb.symm⟩
theorem RN.wdb {k : IntKind} {S : Nat → Prop} {W : World} {a : Option Addr} {n c : Nat} {xs : List Int} (h : RN k S W a n c xs) (h0 : kb k 0) (i : Int) : kb k (wd xs i) := by
  by_cases hi : i.toNat < xs.length
  · refine h.wf _ ?_
    simp [wd, hi]
  · rw [wd_ge (by omega)]; exact h0
theorem vl_take_succ (B : Int) (xs : List Int) (i : Nat) : vl B (xs.take (i + 1)) = vl B (xs.take i) + B ^ i * wd xs i := by
  by_cases h : i < xs.length
  · rw [take_succ_wd xs i h, vl_snoc]
    rw [List.length_take, Nat.min_eq_left (by omega)]
  · rw [wd_ge (by simp; omega), List.take_of_length_le (by omega), List.take_of_length_le (by omega)]; simp
theorem add_step {B v c lo hi : Int} {i : Nat} {out xs ys : List Int} (hl : out.length = i) (h : vl B out + B ^ i * c = vl B (xs.take i) + vl B (ys.take i)) (hv : v = wd xs i + wd ys i + c) (e : B * hi + lo = v) :
    vl B (out ++ [lo]) + B ^ (i + 1) * hi = vl B (xs.take (i + 1)) + vl B (ys.take (i + 1)) := by
  rw [vl_snoc, vl_take_succ, vl_take_succ, hl, Int.pow_succ]
  have : vl B out = vl B (xs.take i) + vl B (ys.take i) - B ^ i * c := by omega
  rw [this]
  have e2 : B ^ i * lo + B ^ i * B * hi = B ^ i * (wd xs i + wd ys i + c) := by rw [← hv, ← e, Int.mul_add, Int.mul_assoc, Int.add_comm]
  rw [Int.mul_add, Int.mul_add] at e2
  omega
/-- The state of the loops of add and sub. -/
structure AI (w : World) (T5 : TypeId) (b5 bo bc b1 b2 : Nat) (f v1 v2 : Value) (out : List Int) (c : Int) (X : World) : Prop where
  ext : Ext w X
  cr : CR X w.heap.size bo bc out c
  x5 : BoxAt X b5 [f] T5
  x1 : BoxAt X b1 [v1] 39
  x2 : BoxAt X b2 [v2] 39
theorem AI.tn {w X Y : World} {T5 : TypeId} {B b5 bo bc b1 b2 : Nat} {f v1 v2 : Value} {out : List Int} {c : Int} (h : AI w T5 b5 bo bc b1 b2 f v1 v2 out c X) (t : Tn B X Y) (hB : w.heap.size ≤ B) : AI w T5 b5 bo bc b1 b2 f v1 v2 out c Y :=
  ⟨t.ext h.ext hB, h.cr.tn t, h.x5.tn t, h.x1.tn t, h.x2.tn t⟩
theorem AI.put {w X Y : World} {T5 : TypeId} {b5 bo bc b1 b2 : Nat} {f v1 v2 : Value} {out out' : List Int} {c c' : Int} (h : AI w T5 b5 bo bc b1 b2 f v1 v2 out c X) (p : PK w.heap.size bo bc X Y) (hC : CR Y w.heap.size bo bc out' c') (hT : T5 ≠ 124) (h5 : b5 ≠ bo ∧ b5 ≠ bc) (h1 : b1 ≠ bo ∧ b1 ≠ bc) (h2 : b2 ≠ bo ∧ b2 ≠ bc) : AI w T5 b5 bo bc b1 b2 f v1 v2 out' c' Y :=
  ⟨h.ext.below p.1.below, hC, h.x5.pk p hT h5.1 h5.2, h.x1.pk p (by decide) h1.1 h1.2, h.x2.pk p (by decide) h2.1 h2.2⟩

set_option maxHeartbeats 400000 in
theorem add_ok (a1 a2 : Option Addr) (n c m d : Nat) (xs ys : List Int) (S S1 S2 : Nat → Prop) (w : World) (hx : RN .u32 S1 w a1 n c xs) (hy : RN .u32 S2 w a2 m d ys) (hn : n ≤ LX) (hm : m ≤ LX) (hu : Up S w) :
    Calls Try.prog 112 #[.slice a1 n c, .slice a2 m d] w (fun e w' => ∃ zs, PW S zs w e w' ∧ vl b32 zs = vl b32 xs + vl b32 ys ∧ zs.length = max n m + 1) := by
  have z0 := Ext.refl w; have hLX : LX = 17592186044416 := rfl; have hLY : LY = 8796093022208 := rfl
  have l1 := hx.len; have l2 := hy.len
  refine enter (args := [.slice a1 n c, .slice a2 m d]) Try.func112 rfl rfl (Nat.le_of_ble_eq_true rfl) ?_
  refine V.seq (V.reg rfl ?_)
  refine ass rfl ?_
  refine vnil ?_
  refine V.seq (V.reg rfl ?_)
  refine vo ?_
  refine xcall e118 (carrier_ok _) rfl rfl ?_
  rintro _ W1 ⟨bo, bc, ebo, ebc, rfl, x2, hC⟩
  have s3 := x2.sz
  have z4 := x2
  have lC := hC.lt
  refine ⟨_, rfl, ?_⟩
  refine mvt rfl ?_
  refine vv (rext (v := .func _ _ _) rfl rfl) ?_
  refine vv (rext (v := .func _ _ _) rfl rfl) ?_
  have z5 := Ext.refl W1
  refine vo ?_
  refine xal zc149 ?_
  intro W6 x7 b8 nn9
  have s10 := x7.sz
  have z11 := z4.trans x7
  have z12 := x7
  refine vo ?_
  refine st1 (v := .func _ _ _) (cs' := [_]) b8 rfl rfl sz149 rfl rfl rfl rfl ?_
  intro W13 y14 b8
  have z15 := z11.below (y14.below (by omega))
  have z16 := z12.below (y14.below (by omega))
  have s17 := y14.size
  refine asf rfl ?_
  refine vnil ?_
  refine V.seq ?_
  refine V.seq (V.reg rfl ?_)
  refine mvs rfl ?_
  refine mvs rfl ?_
  refine vo ?_
  refine xcall e119 (pairs_ok _ _ _ _ _ _ _) rfl rfl ?_
  rintro _ W18 ⟨b1, b2, eb1, eb2, rfl, x19, hb1, hb2⟩
  have s20 := x19.sz
  have z21 := z15.trans x19
  have z22 := z16.trans x19
  replace b8 := b8.ext x19
  have lb1 := hb1.lt; have lb2 := hb2.lt
  refine ⟨_, rfl, ?_⟩
  refine vnil ?_
  refine V.block ?_
  refine V.rf (gf := 124) rfl e124 (pairs_iter hb1 hb2 ((hx.sub (S' := fun q => q < w.heap.size ∨ q = b1 ∨ q = b2) (fun b hb _ => .inl hb)).ext z21) ((hy.sub (S' := fun q => q < w.heap.size ∨ q = b1 ∨ q = b2) (fun b hb _ => .inl hb)).ext z21) (.inr (.inl rfl)) (.inr (.inr rfl))) (Ext.refl _) (by rintro k (h | rfl | rfl) <;> omega) rfl (fun i X => ∃ out cy, AI w 149 W1.heap.size bo bc b1 b2 (.func (.func 122) #[] #[.pointer (some ⟨bc, 0, none⟩), .pointer (some ⟨bo, 0, none⟩)]) (.slice a1 n c) (.slice a2 m d) out cy X ∧ out.length = i ∧ 0 ≤ cy ∧ cy ≤ 1 ∧ vl b32 out + b32 ^ i * cy = vl b32 (xs.take i) + vl b32 (ys.take i)) (fun _ _ _ => False) (fun i X Y ⟨out, cy, hA, h1, h2⟩ t => ⟨out, cy, hA.tn t (by omega), h1, h2⟩) (fun _ _ _ _ h _ => h) (⟨[], 0, ⟨z21, (hC.ext z22), b8, hb1, hb2⟩, rfl, by omega, by omega, by simp [vl]⟩) ?_ ?_ ?_
  · intro l23 i24 X25 hi26 hM27 hk28 hs29
    refine V.seq (V.reg rfl ?_)
    refine asi rfl ?_
    refine vnil ?_
    refine V.reg rfl ?_
    refine asi rfl ?_
    refine vnil ?_
    refine ⟨rfl, Kf.refl _ _ _, ?_⟩
    intro Z30 t31
    obtain ⟨out, cy, hA, hlen, hinv⟩ := hi26
    replace hA := hA.tn t31 (by omega)
    have x5 := hA.x5; have kx := hx.wdb (by simp [kb]) i24; have ky := hy.wdb (by simp [kb]) i24; simp only [kb] at kx ky
    refine V.block ?_
    refine V.reg rfl ?_
    refine vv (rldb (v := .func _ _ _) rfl sc149 x5 rfl) ?_
    refine mvi rfl ?_
    refine mvi rfl ?_
    refine vv (rbin (bAdd (wu (by omega))) rfl rfl) ?_
    refine vo ?_
    refine xcall e122 (put_ok _ _ _ _ _ _ _ hA.cr (by omega) (by omega) (by omega) (by omega) (by omega) (by omega) (by omega)) rfl rfl ?_
    rintro _ W8 ⟨rfl, hp, hC2⟩
    refine ⟨_, rfl, ?_⟩
    refine vnil ?_
    refine ⟨⟨hp.1.keeps _, hp.kd ?_⟩, _, _, hA.put hp hC2 (by decide) (by omega) (by omega) (by omega), by simp; omega, ?_⟩
    · rintro q (h | rfl | rfl)
      · exact .inl h
      · exact .inr ⟨by omega, by omega, _, _, by decide, hA.x1⟩
      · exact .inr ⟨by omega, by omega, _, _, by decide, hA.x2⟩
    · exact ⟨by omega, by omega, add_step hlen hinv.2.2 rfl (by unfold b32; omega)⟩
  · intro D32 X33 hD34 hI35 hdf36 hs37
    obtain ⟨out, cy, hA, hlen, hinv⟩ := hI35
    refine V.seq (V.reg rfl ?_)
    refine mvf rfl ?_
    refine vo ?_
    refine xcall e123 (all_ok _ _ _ _ _ _ hA.cr (by omega) (by omega)) rfl rfl ?_
    rintro _ W9 ⟨a', n', c', rfl, hk, hO⟩
    refine ⟨_, rfl, ?_⟩
    have hO9 := hO.rn (S := fun q => w.heap.size ≤ q) (fun b hb _ => hb)
    have ln9 : out.length + 1 = n' := by have := hO9.len; simpa using this
    refine ass rfl ?_
    refine vnil ?_
    refine V.ret ?_
    refine ⟨D32, rfl, (hk.recs _ _ hdf36 rfl), ?_⟩
    have tp := Tn.putObj (B := w.heap.size) (.deferred none) (hk.recs _ _ hdf36 rfl) (by omega) rfl
    refine ⟨[.slice _ _ _], ⟨rfl, trivial⟩, ?_⟩
    have tp := Tn.putObj (B := w.heap.size) (.deferred none) (hk.recs _ _ hdf36 rfl) (by omega) rfl
    refine ⟨_, ⟨_, _, _, rfl, tp.ext (hA.ext.below hk.below) (Nat.le_refl _), (hO.ck (tp.ck fun _ => True) (fun _ _ => trivial)).rn (fun b hb _ => hu b hb)⟩, ?_, by simp; omega⟩
    rw [vl_snoc, hlen, Int.emod_eq_of_lt hinv.1 (by have := hinv.2.1; omega), hinv.2.2, List.take_of_length_le (by omega), List.take_of_length_le (by omega)]
  · intro _ _ _ _ _ _ h; exact h.elim

theorem sub_step {B v c lo hi : Int} {i : Nat} {out xs ys : List Int} (hl : out.length = i + 1) (h : vl B out + B ^ (i + 1) * c = B * (vl B (xs.take i) - vl B (ys.take i) + B ^ i)) (hv : v = wd xs i + B - 1 - wd ys i + c) (e : B * hi + lo = v) :
    vl B (out ++ [lo]) + B ^ (i + 2) * hi = B * (vl B (xs.take (i + 1)) - vl B (ys.take (i + 1)) + B ^ (i + 1)) := by
  rw [vl_snoc, vl_take_succ, vl_take_succ, hl]
  have e0 : B ^ (i + 2) = B ^ (i + 1) * B := Int.pow_succ ..
  have e2 : B ^ (i + 1) * lo + B ^ (i + 1) * B * hi = B ^ (i + 1) * (wd xs i + B - 1 - wd ys i + c) := by rw [← hv, ← e, Int.mul_add, Int.mul_assoc, Int.add_comm]
  have e1 : B ^ (i + 1) = B ^ i * B := Int.pow_succ ..
  rw [e0]
  rw [e1] at h e2 ⊢
  have : vl B out = B * (vl B (xs.take i) - vl B (ys.take i) + B ^ i) - B ^ i * B * c := by omega
  rw [this]
  grind
theorem sub_end {B c X Y : Int} {M : Nat} {o : Int} {t : List Int} (hB : 2 ≤ B) (hd : Dg B (o :: t)) (hl : t.length = M) (h0 : 0 ≤ c) (h1 : c ≤ 1) (h : vl B (o :: t) + B ^ (M + 1) * c = B * (X - Y + B ^ M)) (hx : X < B ^ M) (hle : Y ≤ X) (hY : 0 ≤ Y) : vl B t = X - Y := by
  rw [vl_cons] at h
  obtain ⟨⟨d1, d2⟩, d3⟩ := Dg.cons.1 hd
  have p := vl_nonneg (by omega) d3
  have q := vl_lt (by omega) d3
  rw [hl] at q
  have e1 : B ^ (M + 1) = B * B ^ M := by rw [Int.pow_succ, Int.mul_comm]
  rw [e1] at h
  have h2 : o = B * (X - Y + B ^ M - vl B t - B ^ M * c) := by grind
  have h3 : X - Y + B ^ M - vl B t - B ^ M * c = 0 := by
    rcases Int.lt_trichotomy (X - Y + B ^ M - vl B t - B ^ M * c) 0 with hh | hh | hh
    · have := Int.mul_lt_mul_of_pos_left hh (show 0 < B by omega); omega
    · exact hh
    · have : B * 1 ≤ B * (X - Y + B ^ M - vl B t - B ^ M * c) := Int.mul_le_mul_of_nonneg_left (by omega) (by omega)
      omega
  have : c = 0 ∨ c = 1 := by omega
  rcases this with rfl | rfl
  · omega
  · omega

set_option maxHeartbeats 400000 in
theorem sub_ok (a1 a2 : Option Addr) (n c m d : Nat) (xs ys : List Int) (S S1 S2 : Nat → Prop) (w : World) (hx : RN .u32 S1 w a1 n c xs) (hy : RN .u32 S2 w a2 m d ys) (hn : n ≤ LX) (hm : m ≤ n) (hle : vl b32 ys ≤ vl b32 xs) (hu : Up S w) :
    Calls Try.prog 113 #[.slice a1 n c, .slice a2 m d] w (fun e w' => ∃ zs, PW S zs w e w' ∧ vl b32 zs = vl b32 xs - vl b32 ys ∧ zs.length = n) := by
  have z0 := Ext.refl w; have hLX : LX = 17592186044416 := rfl; have hLY : LY = 8796093022208 := rfl
  have l1 := hx.len; have l2 := hy.len
  refine enter (args := [.slice a1 n c, .slice a2 m d]) Try.func113 rfl rfl (Nat.le_of_ble_eq_true rfl) ?_
  refine V.seq (V.reg rfl ?_)
  refine ass rfl ?_
  refine vnil ?_
  refine V.seq (V.reg rfl ?_)
  refine vo ?_
  refine xcall e118 (carrier_ok _) rfl rfl ?_
  rintro _ W1 ⟨bo, bc, ebo, ebc, rfl, x2, hC⟩
  have s3 := x2.sz
  have z4 := x2
  have lC := hC.lt
  refine ⟨_, rfl, ?_⟩
  refine mvt rfl ?_
  refine vv (rext (v := .func _ _ _) rfl rfl) ?_
  refine vv (rext (v := .func _ _ _) rfl rfl) ?_
  have z5 := Ext.refl W1
  refine vo ?_
  refine xal zc149 ?_
  intro W6 x7 b8 nn9
  have s10 := x7.sz
  have z11 := z4.trans x7
  have z12 := x7
  refine vo ?_
  refine st1 (v := .func _ _ _) (cs' := [_]) b8 rfl rfl sz149 rfl rfl rfl rfl ?_
  intro W13 y14 b8
  have z15 := z11.below (y14.below (by omega))
  have z16 := z12.below (y14.below (by omega))
  have s17 := y14.size
  refine asf rfl ?_
  refine vnil ?_
  refine V.seq (V.reg rfl ?_)
  refine vv (rldb (v := .func _ _ _) rfl sc149 b8 rfl) ?_
  refine vo ?_
  refine xcall e122 (put_ok _ _ _ _ _ _ _ (hC.ext z16) (by omega) (by omega) (by omega) (by simp) (by omega) (by omega) (by omega)) rfl rfl ?_
  rintro _ W8 ⟨rfl, hp, hC2⟩
  refine ⟨_, rfl, ?_⟩
  have hC1 := hC2
  have hz2 := (z15).below hp.1.below
  have b18 := b8.pk hp (by decide) (by omega) (by omega)
  have s8 := hp.1.below.size; have lC2 := hC1.lt
  have z19 := Ext.refl W8
  refine vnil ?_
  refine V.seq ?_
  refine V.seq (V.reg rfl ?_)
  refine mvs rfl ?_
  refine mvs rfl ?_
  refine vo ?_
  refine xcall e119 (pairs_ok _ _ _ _ _ _ _) rfl rfl ?_
  rintro _ W20 ⟨b1, b2, eb1, eb2, rfl, x21, hb1, hb2⟩
  have s22 := x21.sz
  have z23 := hz2.trans x21
  have z24 := x21
  replace b18 := b18.ext x21
  have lb1 := hb1.lt; have lb2 := hb2.lt
  refine ⟨_, rfl, ?_⟩
  refine vnil ?_
  refine V.block ?_
  refine V.rf (gf := 124) rfl e124 (pairs_iter hb1 hb2 ((hx.sub (S' := fun q => q < w.heap.size ∨ q = b1 ∨ q = b2) (fun b hb _ => .inl hb)).ext z23) ((hy.sub (S' := fun q => q < w.heap.size ∨ q = b1 ∨ q = b2) (fun b hb _ => .inl hb)).ext z23) (.inr (.inl rfl)) (.inr (.inr rfl))) (Ext.refl _) (by rintro k (h | rfl | rfl) <;> omega) rfl (fun i X => ∃ out cy, AI w 149 W1.heap.size bo bc b1 b2 (.func (.func 122) #[] #[.pointer (some ⟨bc, 0, none⟩), .pointer (some ⟨bo, 0, none⟩)]) (.slice a1 n c) (.slice a2 m d) out cy X ∧ out.length = i + 1 ∧ 0 ≤ cy ∧ cy ≤ 1 ∧ Dg b32 out ∧ vl b32 out + b32 ^ (i + 1) * cy = b32 * (vl b32 (xs.take i) - vl b32 (ys.take i) + b32 ^ i)) (fun _ _ _ => False) (fun i X Y ⟨out, cy, hA, h1, h2⟩ t => ⟨out, cy, hA.tn t (by omega), h1, h2⟩) (fun _ _ _ _ h _ => h) (⟨_, _, ⟨z23, (hC1.ext z24), b18, hb1, hb2⟩, rfl, by simp, by simp, by simp [Dg, b32], by simp [vl, b32]⟩) ?_ ?_ ?_
  · intro l25 i26 X27 hi28 hM29 hk30 hs31
    refine V.seq (V.reg rfl ?_)
    refine asi rfl ?_
    refine vnil ?_
    refine V.reg rfl ?_
    refine asi rfl ?_
    refine vnil ?_
    refine ⟨rfl, Kf.refl _ _ _, ?_⟩
    intro Z32 t33
    obtain ⟨out, cy, hA, hlen, hinv⟩ := hi28
    replace hA := hA.tn t33 (by omega)
    have x5 := hA.x5; have kx := hx.wdb (by simp [kb]) i26; have ky := hy.wdb (by simp [kb]) i26; simp only [kb] at kx ky
    refine V.block ?_
    refine V.reg rfl ?_
    refine vv (rldb (v := .func _ _ _) rfl sc149 x5 rfl) ?_
    refine mvi rfl ?_
    refine vv (rbin (bAdd (wu (by omega))) rfl rfl) ?_
    refine vv (rbin (bSub (wu (by omega))) rfl rfl) ?_
    refine mvi rfl ?_
    refine vv (rbin (bSub (wu (by omega))) rfl rfl) ?_
    refine vo ?_
    refine xcall e122 (put_ok _ _ _ _ _ _ _ hA.cr (by omega) (by omega) (by omega) (by omega) (by omega) (by omega) (by omega)) rfl rfl ?_
    rintro _ W9 ⟨rfl, hp, hC2⟩
    refine ⟨_, rfl, ?_⟩
    refine vnil ?_
    refine ⟨⟨hp.1.keeps _, hp.kd ?_⟩, _, _, hA.put hp hC2 (by decide) (by omega) (by omega) (by omega), by simp; omega, ?_⟩
    · rintro q (h | rfl | rfl)
      · exact .inl h
      · exact .inr ⟨by omega, by omega, _, _, by decide, hA.x1⟩
      · exact .inr ⟨by omega, by omega, _, _, by decide, hA.x2⟩
    · exact ⟨by omega, by omega, Dg.append.2 ⟨hinv.2.2.1, by simp [Dg, b32]; omega⟩, sub_step hlen hinv.2.2.2 rfl (by unfold b32; omega)⟩
  · intro D34 X35 hD36 hI37 hdf38 hs39
    obtain ⟨out, cy, hA, hlen, hinv⟩ := hI37
    refine V.seq (V.reg rfl ?_)
    refine mvf rfl ?_
    refine vo ?_
    refine xcall e123 (all_ok _ _ _ _ _ _ hA.cr (by omega) (by omega)) rfl rfl ?_
    rintro _ W9 ⟨a', n', c', rfl, hk, hO⟩
    refine ⟨_, rfl, ?_⟩
    have hO9 := hO.rn (S := fun q => w.heap.size ≤ q) (fun b hb _ => hb)
    have ln9 : out.length + 1 = n' := by have := hO9.len; simpa using this
    refine ass rfl ?_
    refine vnil ?_
    refine V.seq (V.reg rfl ?_)
    refine mvs rfl ?_
    refine mvs rfl ?_
    refine vv (rlen sl39 rfl) ?_
    refine vv (rbin (bSub (wi (by omega))) rfl rfl) ?_
    have hsl := (hO9).cut (l := 1) (m := n + 1) (by omega) (by omega)
    refine vv (rsll (l := 1) (m := n + 1) hO9 sl39 sz124 rfl rfl rfl (by omega) (by omega) (by omega) (by omega)) ?_
    refine ass rfl ?_
    refine vnil ?_
    refine V.ret ?_
    refine ⟨D34, rfl, (hk.recs _ _ hdf38 rfl), ?_⟩
    have tp := Tn.putObj (B := w.heap.size) (.deferred none) (hk.recs _ _ hdf38 rfl) (by omega) rfl
    refine ⟨[.slice _ _ _], ⟨rfl, trivial⟩, ?_⟩
    have tp := Tn.putObj (B := w.heap.size) (.deferred none) (hk.recs _ _ hdf38 rfl) (by omega) rfl
    refine ⟨_, ⟨_, _, _, rfl, tp.ext (hA.ext.below hk.below) (Nat.le_refl _), (hsl.ck (tp.ck _)).sub (fun b _ hb => hu b hb)⟩, ?_, by simp; omega⟩
    obtain ⟨i1, i2, i3, i4⟩ := hinv
    rw [show max n m = n by omega] at hlen i4
    rw [List.take_of_length_le (by omega), List.take_of_length_le (by omega)] at i4
    match out, hlen, i3, i4 with
    | o :: t, hlen, i3, i4 =>
      have ht : t.length = n := by simpa using hlen
      have e : ((o :: t ++ [cy % 4294967296]).take (n + 1)).drop 1 = t := by subst ht; simp
      rw [e]
      have hq := vl_lt (B := b32) (by decide) hx.dg32
      rw [hx.len] at hq
      exact sub_end (by decide) i3 ht i1 i2 i4 hq hle (vl_nonneg (by decide) hy.dg32)
  · intro _ _ _ _ _ _ h; exact h.elim

theorem dg_len_lt {u v : Int} (hv : 0 ≤ v) (hu : 0 ≤ u) (h : (dg b32 u).length < (dg b32 v).length) : u < v := by
  rcases Int.lt_or_le u v with h1 | h1
  · exact h1
  · have h2 := vl_lt (B := b32) (by decide) (Dg.dg (by decide) u)
    rw [vl_dg (by decide) hu] at h2
    have := dg_length_le (B := b32) (by decide) (show v < b32 ^ (dg b32 u).length by omega)
    omega
theorem cmp_step {xs ys : List Int} {i : Nat} {cy s : Int} (hx : Dg b32 xs) (hy : Dg b32 ys) (hlx : i < xs.length) (hly : i < ys.length) (h : cy = sg (vl b32 (xs.take i) - vl b32 (ys.take i)))
    (hs : (wd xs i < wd ys i ∧ s = -1) ∨ (wd ys i < wd xs i ∧ s = 1) ∨ (wd xs i = wd ys i ∧ s = cy)) : s = sg (vl b32 (xs.take (i + 1)) - vl b32 (ys.take (i + 1))) := by
  rw [vl_take_succ, vl_take_succ]
  have p1 := vl_nonneg (B := b32) (by decide) (hx.take i)
  have p2 := vl_nonneg (B := b32) (by decide) (hy.take i)
  have q1 := vl_lt (B := b32) (by decide) (hx.take i)
  have q2 := vl_lt (B := b32) (by decide) (hy.take i)
  rw [List.length_take, Nat.min_eq_left (by omega)] at q1 q2
  generalize vl b32 (xs.take i) = X at *
  generalize vl b32 (ys.take i) = Y at *
  generalize wd xs i = x at *
  generalize wd ys i = y at *
  have hp : 0 < b32 ^ i := pow_pos' (by decide) i
  generalize b32 ^ i = q at *
  rcases hs with ⟨h1, rfl⟩ | ⟨h1, rfl⟩ | ⟨h1, rfl⟩
  · have : q * x + q ≤ q * y := by
      have := Int.mul_le_mul_of_nonneg_left (show x + 1 ≤ y by omega) (Int.le_of_lt hp)
      rw [Int.mul_add] at this; omega
    unfold sg; rw [if_pos (by omega)]
  · have : q * y + q ≤ q * x := by
      have := Int.mul_le_mul_of_nonneg_left (show y + 1 ≤ x by omega) (Int.le_of_lt hp)
      rw [Int.mul_add] at this; omega
    unfold sg; rw [if_neg (by omega), if_neg (by omega)]
  · subst h1; rw [h]; congr 1; omega
theorem sg_cmp {u v s : Int} (h : s = sg (u - v)) : (s < 0 ↔ u < v) ∧ (s = 0 ↔ u = v) := by
  unfold sg at h
  split at h
  · omega
  · split at h <;> omega
structure CI (w : World) (b6 b1 b2 : Nat) (v1 v2 : Value) (cy : Int) (X : World) : Prop where
  ext : Ext w X
  x6 : BoxAt X b6 [.int .i64 cy] 3
  x1 : BoxAt X b1 [v1] 39
  x2 : BoxAt X b2 [v2] 39
theorem CI.tn {w X Y : World} {B b6 b1 b2 : Nat} {v1 v2 : Value} {cy : Int} (h : CI w b6 b1 b2 v1 v2 cy X) (t : Tn B X Y) (hB : w.heap.size ≤ B) : CI w b6 b1 b2 v1 v2 cy Y :=
  ⟨t.ext h.ext hB, h.x6.tn t, h.x1.tn t, h.x2.tn t⟩

set_option maxHeartbeats 400000 in
theorem cmp_ok (a1 a2 : Option Addr) (n c m d : Nat) (u v : Int) (S1 S2 : Nat → Prop) (w : World) (hx : RN .u32 S1 w a1 n c (dg b32 u)) (hy : RN .u32 S2 w a2 m d (dg b32 v)) (hu : 0 ≤ u) (hv : 0 ≤ v) :
    Calls Try.prog 116 #[.slice a1 n c, .slice a2 m d] w (fun e w' => ∃ s, e = .returned (.int .i64 s) ∧ Ext w w' ∧ (s < 0 ↔ u < v) ∧ (s = 0 ↔ u = v)) := by
  have z0 := Ext.refl w; have hLX : LX = 17592186044416 := rfl; have hLY : LY = 8796093022208 := rfl
  have l1 := hx.len; have l2 := hy.len; have q1 := hx.cap; have q2 := hy.cap; have q3 := hx.max; have q4 := hy.max
  refine enter (args := [.slice a1 n c, .slice a2 m d]) Try.func116 rfl rfl (Nat.le_of_ble_eq_true rfl) ?_
  refine V.seq (V.reg rfl ?_)
  refine asi rfl ?_
  refine vnil ?_
  refine V.seq ?_
  refine V.seq (V.reg rfl ?_)
  refine mvs rfl ?_
  refine vv (rlen sl39 rfl) ?_
  refine mvs rfl ?_
  refine vv (rlen sl39 rfl) ?_
  refine vv (rbin (bSub (wi (by omega))) rfl rfl) ?_
  refine asi rfl ?_
  refine vnil ?_
  refine V.seq (V.reg rfl ?_)
  refine mvi rfl ?_
  refine vne rfl rfl ?_ ?_
  · intro c1
    refine vnil ?_
    refine V.condT rfl ?_
    refine V.seq (V.reg rfl ?_)
    refine mvi rfl ?_
    refine asi rfl ?_
    refine vnil ?_
    refine V.ret ?_
    refine ⟨[.int _ _], ⟨rfl, trivial⟩, ?_⟩
    refine ⟨_, rfl, (Ext.refl w), ?_⟩
    have e1 := @dg_len_lt u v hv hu
    have e2 := @dg_len_lt v u hu hv
    rw [hx.len, hy.len] at e1 e2
    refine ⟨⟨fun h => e1 (by omega), fun h => ?_⟩, ⟨fun h => by omega, fun h => ?_⟩⟩
    · rcases Nat.lt_trichotomy n m with h1 | h1 | h1
      · omega
      · omega
      · have := e2 h1; omega
    · subst h; have := hx.len; have := hy.len; omega
  · intro c1
    refine vnil ?_
    refine V.condF rfl ?_
    refine V.skip ?_
    refine V.seq (V.reg rfl ?_)
    refine vo ?_
    refine xal zc3 ?_
    intro W2 x3 b4 nn5
    have s6 := x3.sz
    have z7 := x3
    refine vo ?_
    refine st1 (v := .int _ _) (cs' := [_]) b4 rfl rfl sz3 rfl rfl rfl rfl ?_
    intro W8 y9 b4
    have z10 := z7.below (y9.below (by omega))
    have s11 := y9.size
    refine vnil ?_
    refine V.seq ?_
    refine V.seq (V.reg rfl ?_)
    refine mvs rfl ?_
    refine mvs rfl ?_
    refine vo ?_
    refine xcall e119 (pairs_ok _ _ _ _ _ _ _) rfl rfl ?_
    rintro _ W12 ⟨b1, b2, eb1, eb2, rfl, x13, hb1, hb2⟩
    have s14 := x13.sz
    have z15 := z10.trans x13
    replace b4 := b4.ext x13
    have lb1 := hb1.lt; have lb2 := hb2.lt
    refine ⟨_, rfl, ?_⟩
    refine vnil ?_
    refine V.block ?_
    refine V.rf (gf := 124) rfl e124 (pairs_iter hb1 hb2 ((hx.sub (S' := fun q => q < w.heap.size ∨ q = b1 ∨ q = b2) (fun b hb _ => .inl hb)).ext z15) ((hy.sub (S' := fun q => q < w.heap.size ∨ q = b1 ∨ q = b2) (fun b hb _ => .inl hb)).ext z15) (.inr (.inl rfl)) (.inr (.inr rfl))) (Ext.refl _) (by rintro k (h | rfl | rfl) <;> omega) rfl (fun i X => ∃ cy, CI w (w.heap.size) b1 b2 (.slice a1 n c) (.slice a2 m d) cy X ∧ cy = sg (vl b32 ((dg b32 u).take i) - vl b32 ((dg b32 v).take i))) (fun _ _ _ => False) (fun i X Y ⟨cy, hA, h1⟩ t => ⟨cy, hA.tn t (by omega), h1⟩) (fun _ _ _ _ h _ => h) (⟨_, ⟨z15, b4, hb1, hb2⟩, by simp [vl, sg]⟩) ?_ ?_ ?_
    · intro l16 i17 X18 hi19 hM20 hk21 hs22
      refine V.seq (V.reg rfl ?_)
      refine asi rfl ?_
      refine vnil ?_
      refine V.reg rfl ?_
      refine asi rfl ?_
      refine vnil ?_
      refine ⟨rfl, Kf.refl _ _ _, ?_⟩
      intro Z23 t24
      obtain ⟨cy, hA, hinv⟩ := hi19
      replace hA := hA.tn t24 (by omega); have x6 := hA.x6
      refine V.block ?_
      refine V.block ?_
      refine V.seq (V.reg rfl ?_)
      refine mvi rfl ?_
      refine mvi rfl ?_
      refine vlt rfl rfl ?_ ?_
      · intro c25
        refine asb rfl ?_
        refine vnil ?_
        refine V.condT rfl ?_
        refine V.reg rfl ?_
        refine vo ?_
        refine st1 (v := .int _ _) (cs' := [_]) x6 rfl rfl sz3 rfl rfl rfl rfl ?_
        intro W26 y27 x6
        have s28 := y27.size
        refine vnil ?_
        exact ⟨Kf.wr y27 hA.x6 (by rintro (h | h | h) <;> omega), _, ⟨hA.ext.below (y27.below (by omega)), x6, hA.x1.wr y27 (by omega), hA.x2.wr y27 (by omega)⟩, cmp_step hx.dg32 hy.dg32 (by omega) (by omega) hinv (.inl ⟨by assumption, rfl⟩)⟩
      · intro c25
        refine asb rfl ?_
        refine vnil ?_
        refine V.condF rfl ?_
        refine V.seq (V.reg rfl ?_)
        refine mvi rfl ?_
        refine mvi rfl ?_
        refine vgt rfl rfl ?_ ?_
        · intro c29
          refine asb rfl ?_
          refine vnil ?_
          refine V.condT rfl ?_
          refine V.reg rfl ?_
          refine vo ?_
          refine st1 (v := .int _ _) (cs' := [_]) x6 rfl rfl sz3 rfl rfl rfl rfl ?_
          intro W30 y31 x6
          have s32 := y31.size
          refine vnil ?_
          exact ⟨Kf.wr y31 hA.x6 (by rintro (h | h | h) <;> omega), _, ⟨hA.ext.below (y31.below (by omega)), x6, hA.x1.wr y31 (by omega), hA.x2.wr y31 (by omega)⟩, cmp_step hx.dg32 hy.dg32 (by omega) (by omega) hinv (.inr (.inl ⟨by assumption, rfl⟩))⟩
        · intro c29
          refine asb rfl ?_
          refine vnil ?_
          refine V.condF rfl ?_
          refine V.skip ?_
          exact ⟨Kf.refl _ _ _, _, hA, cmp_step hx.dg32 hy.dg32 (by omega) (by omega) hinv (.inr (.inr ⟨by omega, rfl⟩))⟩
    · intro D33 X34 hD35 hI36 hdf37 hs38
      obtain ⟨cy, hA, hinv⟩ := hI36
      have x6 := hA.x6
      refine V.seq (V.reg rfl ?_)
      refine vv (rldb (v := .int _ _) rfl sc3 x6 rfl) ?_
      refine asi rfl ?_
      refine vnil ?_
      refine V.ret ?_
      refine ⟨D33, rfl, hdf37, ?_⟩
      have tp := Tn.putObj (B := w.heap.size) (.deferred none) hdf37 (by omega) rfl
      have x6 := x6.tn tp
      have z39 := tp.ext hA.ext (Nat.le_refl _)
      refine ⟨[.int _ _], ⟨rfl, trivial⟩, ?_⟩
      have tp := Tn.putObj (B := w.heap.size) (.deferred none) hdf37 (by omega) rfl
      rw [show max n m = n by omega, List.take_of_length_le (by omega), List.take_of_length_le (by omega), vl_dg (by decide) hu, vl_dg (by decide) hv] at hinv
      exact ⟨_, rfl, tp.ext hA.ext (Nat.le_refl _), sg_cmp hinv⟩
    · intro _ _ _ _ _ _ h; exact h.elim
end Go.Proofs.Ytknbjfefeeojlaa

/- Package frac: what it exports. -/
import Derived.Test.YtknbjfefeeojlaaFb
namespace Go.Proofs.Ytknbjfefeeojlaa
open Go.RowKit
attribute [local irreducible] RV VH V OpF Calls
theorem QC.zero (S : Nat → Prop) (W : World) : QC S W [.bool false, .slice none 0 0, .bool false, .slice none 0 0] 0 := ⟨_, _, _, _, _, _, rfl, by rw [show (canon 0).xs = [] from dg_zero _]; exact RN.nil _ _ _ _ _ (by omega), RN.nil _ _ _ _ _ (by omega)⟩
theorem sz_zero : sz 1 0 := by constructor <;> decide
theorem sz_one : sz 1 1 := by constructor <;> decide
def cq (a b : Rat) : Int := if a < b then -1 else if a = b then 0 else 1
theorem dv_lt {x1 y1 x2 y2 : Int} (h1 : 0 < y1) (h2 : 0 < y2) : (Rat.divInt x1 y1 < Rat.divInt x2 y2 ↔ x1 * y2 < x2 * y1) ∧ (Rat.divInt x1 y1 = Rat.divInt x2 y2 ↔ x1 * y2 = x2 * y1) := by
  refine ⟨?_, Rat.divInt_eq_divInt_iff (by omega) (by omega)⟩
  rw [← Rat.not_le, Rat.le_iff_sub_nonneg, Rat.divInt_sub_divInt _ _ (by omega) (by omega), Rat.divInt_nonneg_iff_of_pos_right (Int.mul_pos h1 h2)]
  omega
theorem sg_cq {x1 y1 x2 y2 : Int} (h1 : 0 < y1) (h2 : 0 < y2) : sg (x1 * y2 - x2 * y1) = cq (Rat.divInt x1 y1) (Rat.divInt x2 y2) := by
  obtain ⟨e1, e2⟩ := dv_lt (x1 := x1) (x2 := x2) h1 h2
  unfold sg cq
  simp only [e1, e2]
  split <;> split <;> (try split) <;> (try split) <;> omega
theorem sg_cq0 {x y : Int} (h : 0 < y) : sg x = cq (Rat.divInt x y) 0 := by
  have := sg_cq (x1 := x) (x2 := 0) h (show (0 : Int) < 1 by decide)
  simpa using this
theorem cq_eq {a b : Rat} : cq a b = 0 ↔ a = b := by
  unfold cq
  split
  · rename_i h; simp; exact Rat.ne_of_lt h
  · split <;> simp_all
theorem cq_pos {a b : Rat} : 0 < cq a b ↔ b < a := by
  unfold cq
  split
  · rename_i h; simp; exact Rat.not_lt.2 (Rat.le_of_lt h)
  · split
    · rename_i h; subst h; simp [Rat.lt_irrefl]
    · rename_i h1 h2; simp; exact Rat.lt_of_le_of_ne (Rat.not_lt.1 h1) (Ne.symm h2)
theorem cq_neg {a b : Rat} : cq a b < 0 ↔ a < b := by
  unfold cq
  split
  · rename_i h; simp [h]
  · rename_i h; split <;> simp [h]

set_option maxHeartbeats 400000 in
theorem fFrom_ok (n : Int) (S : Nat → Prop) (w : World) (hn : -9223372036854775808 ≤ n ∧ n ≤ 9223372036854775807) (hu : Up S w) :
    Calls Try.prog 37 #[.int .i64 n] w (PQ S (n : Rat) w) := by
  have z0 := Ext.refl w; have hLX : LX = 17592186044416 := rfl; have hLY : LY = 8796093022208 := rfl
  have hu2 : ∀ W : World, w.heap.size + 1 ≤ W.heap.size → Up (SX S [w.heap.size]) W := fun W hW => SX.up (hu.mono (by omega)) (by simp <;> omega)
  refine enter (args := [.int .i64 n]) Try.func37 rfl rfl (Nat.le_of_ble_eq_true rfl) ?_
  refine V.seq (V.reg rfl ?_)
  refine vo ?_
  refine xal zc43 ?_
  intro W1 x2 b3 nn4
  have s5 := x2.sz
  have z6 := x2
  refine vnil ?_
  refine V.seq (V.reg rfl ?_)
  refine mvi rfl ?_
  refine vo ?_
  refine xcall e61 (wFrom_ok _ _ _ (by omega) (hu2 _ (by omega))) rfl rfl ?_
  rintro _ W8 ⟨_, _, _, _, rfl, x9, hz7⟩
  have s10 := x9.sz
  have z11 := z6.trans x9
  replace b3 := b3.ext x9
  refine ⟨_, rfl, ?_⟩
  refine vv (rbd (ps := [(0, .agg #[_, _])]) (cs := [.bool _, .slice _ _ _, .bool false, .slice _ _ _]) pl43 rfl rfl) ?_
  refine vo ?_
  refine sta (cs' := [_, _, _, _]) b3 rfl rfl sz43 rfl rfl rfl ?_
  intro W12 y13 b3
  have z14 := z11.below (y13.below (by omega))
  have s15 := y13.size
  refine vnil ?_
  refine V.ret ?_
  refine ⟨[_], ⟨⟨_, rfl, lvb ag43 b3 rfl⟩, trivial⟩, ?_⟩
  exact ⟨_, rfl, z14, QC.mk1 (r := (n : Rat)) ((hz7.ck (y13.ck (by intro hh; simp [SX] at hh <;> omega)))).un rfl⟩
set_option maxHeartbeats 400000 in
theorem fCanon_ok (q : List Value) (r : Rat) (L : Nat) (S S1 : Nat → Prop) (w : World) (h : QA L S1 w q r) (hL : L < LY) (hl : 1 ≤ L) (hu : Up S w) :
    Calls Try.prog 39 #[.agg q.toArray] w (PQ S r w) := by
  have z0 := Ext.refl w; have hLX : LX = 17592186044416 := rfl; have hLY : LY = 8796093022208 := rfl
  obtain ⟨n1, a1, l1, c1, n2, a2, l2, c2, rfl⟩ := h.form
  have hn := h.sub (S' := fun b => b ≠ w.heap.size + 1) (fun b hb _ => by omega)
  have hu2 : ∀ W : World, w.heap.size + 2 ≤ W.heap.size → Up (SX S [w.heap.size + 1]) W := fun W hW => SX.up (hu.mono (by omega)) (by simp <;> omega)
  refine enter (args := [.agg #[.bool n1, .slice a1 l1 c1, .bool n2, .slice a2 l2 c2]]) Try.func39 rfl rfl (Nat.le_of_ble_eq_true rfl) ?_
  refine V.seq (V.reg rfl ?_)
  refine vo ?_
  refine bxa rfl ?_
  intro W1 x2 b3 nn4
  have s5 := x2.sz
  have z6 := x2
  refine vo ?_
  refine xal zc43 ?_
  intro W7 x8 b9 nn10
  have s11 := x8.sz
  have z12 := z6.trans x8
  replace b3 := b3.ext x8
  refine vnil ?_
  refine V.seq (V.reg rfl ?_)
  refine vv (rldb4 rfl ag43 b3 rfl rfl rfl rfl ) ?_
  refine vo ?_
  refine xcall e62 (of_ok _ _ _ _ _ (hn.ext z12) (by omega) (by omega) (fun b hb => by omega)) rfl rfl ?_
  rintro _ W20 ⟨_, rfl, x21, px14, py15, hp13, pp16, pe17⟩
  have s22 := x21.sz
  have z23 := z12.trans x21
  replace b3 := b3.ext x21
  replace b9 := b9.ext x21
  obtain ⟨_, _, _, _, _, _, _, _, rfl⟩ := hp13.form
  obtain ⟨zx18, zy19⟩ := hp13.one
  refine ⟨_, rfl, ?_⟩
  refine vo ?_
  refine xcall e65 (least_ok _ _ _ _ _ _ _ hp13 pp16 (by omega) (by omega) (hu2 _ (by omega))) rfl rfl ?_
  rintro _ W25 ⟨_, rfl, x26, hq24⟩
  have s27 := x26.sz
  have z28 := z23.trans x26
  replace b3 := b3.ext x26
  replace b9 := b9.ext x26
  obtain ⟨_, _, _, _, _, _, _, _, rfl⟩ := hq24.form
  refine ⟨_, rfl, ?_⟩
  refine vo ?_
  refine sta (cs' := [_, _, _, _]) b9 rfl rfl sz43 rfl rfl rfl ?_
  intro W29 y30 b9
  have z31 := z28.below (y30.below (by omega))
  replace b3 := b3.wr y30 (by omega)
  have s32 := y30.size
  refine vnil ?_
  refine V.ret ?_
  refine ⟨[_], ⟨⟨_, rfl, lvb ag43 b9 rfl⟩, trivial⟩, ?_⟩
  exact ⟨_, rfl, z31, ((hq24.ck (y30.ck (by intro hh; simp [SX] at hh <;> omega)))).un.cast pe17.symm⟩
set_option maxHeartbeats 400000 in
theorem fAdd_ok (q1 q2 : List Value) (r1 r2 : Rat) (L1 L2 : Nat) (S S1 S2 : Nat → Prop) (w : World) (h1 : QA L1 S1 w q1 r1) (h2 : QA L2 S2 w q2 r2) (hL : L1 + L2 < LY) (hl1 : 1 ≤ L1) (hl2 : 1 ≤ L2) (hu : Up S w) :
    Calls Try.prog 86 #[.agg q1.toArray, .agg q2.toArray] w (PQ S (r1 + r2) w) := by
  have z0 := Ext.refl w; have hLX : LX = 17592186044416 := rfl; have hLY : LY = 8796093022208 := rfl
  obtain ⟨n1, a1, l1, c1, n2, a2, l2, c2, rfl⟩ := h1.form; obtain ⟨n3, a3, l3, c3, n4, a4, l4, c4, rfl⟩ := h2.form
  have hu2 : ∀ W : World, w.heap.size + 3 ≤ W.heap.size → Up (SX S [w.heap.size + 2]) W := fun W hW => SX.up (hu.mono (by omega)) (by simp <;> omega)
  refine enter (args := [.agg #[.bool n1, .slice a1 l1 c1, .bool n2, .slice a2 l2 c2], .agg #[.bool n3, .slice a3 l3 c3, .bool n4, .slice a4 l4 c4]]) Try.func86 rfl rfl (Nat.le_of_ble_eq_true rfl) ?_
  refine V.seq (V.reg rfl ?_)
  refine vo ?_
  refine bxa rfl ?_
  intro W1 x2 b3 nn4
  have s5 := x2.sz
  have z6 := x2
  refine vo ?_
  refine bxa rfl ?_
  intro W7 x8 b9 nn10
  have s11 := x8.sz
  have z12 := z6.trans x8
  replace b3 := b3.ext x8
  refine vo ?_
  refine xal zc43 ?_
  intro W13 x14 b15 nn16
  have s17 := x14.sz
  have z18 := z12.trans x14
  replace b3 := b3.ext x14
  replace b9 := b9.ext x14
  refine vnil ?_
  refine V.seq (V.reg rfl ?_)
  refine vv (rldb4 rfl ag43 b3 rfl rfl rfl rfl ) ?_
  refine vv (rldb4 rfl ag43 b9 rfl rfl rfl rfl ) ?_
  refine vo ?_
  refine xcall e90 (dAdd_ok _ _ _ _ _ _ _ _ _ _ (h1.ext z18) (h2.ext z18) (by omega) (by omega) (by omega) (hu2 _ (by omega))) rfl rfl ?_
  rintro _ W20 ⟨_, rfl, x21, hq19⟩
  have s22 := x21.sz
  have z23 := z18.trans x21
  replace b3 := b3.ext x21
  replace b9 := b9.ext x21
  replace b15 := b15.ext x21
  obtain ⟨_, _, _, _, _, _, _, _, rfl⟩ := hq19.form
  refine ⟨_, rfl, ?_⟩
  refine vo ?_
  refine sta (cs' := [_, _, _, _]) b15 rfl rfl sz43 rfl rfl rfl ?_
  intro W24 y25 b15
  have z26 := z23.below (y25.below (by omega))
  replace b3 := b3.wr y25 (by omega)
  replace b9 := b9.wr y25 (by omega)
  have s27 := y25.size
  refine vnil ?_
  refine V.ret ?_
  refine ⟨[_], ⟨⟨_, rfl, lvb ag43 b15 rfl⟩, trivial⟩, ?_⟩
  exact ⟨_, rfl, z26, ((hq19.ck (y25.ck (by intro hh; simp [SX] at hh <;> omega)))).un⟩
set_option maxHeartbeats 400000 in
theorem fSub_ok (q1 q2 : List Value) (r1 r2 : Rat) (L1 L2 : Nat) (S S1 S2 : Nat → Prop) (w : World) (h1 : QA L1 S1 w q1 r1) (h2 : QA L2 S2 w q2 r2) (hL : L1 + L2 < LY) (hl1 : 1 ≤ L1) (hl2 : 1 ≤ L2) (hu : Up S w) :
    Calls Try.prog 101 #[.agg q1.toArray, .agg q2.toArray] w (PQ S (r1 - r2) w) := by
  have z0 := Ext.refl w; have hLX : LX = 17592186044416 := rfl; have hLY : LY = 8796093022208 := rfl
  obtain ⟨n1, a1, l1, c1, n2, a2, l2, c2, rfl⟩ := h1.form; obtain ⟨n3, a3, l3, c3, n4, a4, l4, c4, rfl⟩ := h2.form
  have hu2 : ∀ W : World, w.heap.size + 3 ≤ W.heap.size → Up (SX S [w.heap.size + 2]) W := fun W hW => SX.up (hu.mono (by omega)) (by simp <;> omega)
  refine enter (args := [.agg #[.bool n1, .slice a1 l1 c1, .bool n2, .slice a2 l2 c2], .agg #[.bool n3, .slice a3 l3 c3, .bool n4, .slice a4 l4 c4]]) Try.func101 rfl rfl (Nat.le_of_ble_eq_true rfl) ?_
  refine V.seq (V.reg rfl ?_)
  refine vo ?_
  refine bxa rfl ?_
  intro W1 x2 b3 nn4
  have s5 := x2.sz
  have z6 := x2
  refine vo ?_
  refine bxa rfl ?_
  intro W7 x8 b9 nn10
  have s11 := x8.sz
  have z12 := z6.trans x8
  replace b3 := b3.ext x8
  refine vo ?_
  refine xal zc43 ?_
  intro W13 x14 b15 nn16
  have s17 := x14.sz
  have z18 := z12.trans x14
  replace b3 := b3.ext x14
  replace b9 := b9.ext x14
  refine vnil ?_
  refine V.seq (V.reg rfl ?_)
  refine vv (rldb4 rfl ag43 b3 rfl rfl rfl rfl ) ?_
  refine vv (rldb4 rfl ag43 b9 rfl rfl rfl rfl ) ?_
  refine vo ?_
  refine xcall e90 (dSub_ok _ _ _ _ _ _ _ _ _ _ (h1.ext z18) (h2.ext z18) (by omega) (by omega) (by omega) (hu2 _ (by omega))) rfl rfl ?_
  rintro _ W20 ⟨_, rfl, x21, hq19⟩
  have s22 := x21.sz
  have z23 := z18.trans x21
  replace b3 := b3.ext x21
  replace b9 := b9.ext x21
  replace b15 := b15.ext x21
  obtain ⟨_, _, _, _, _, _, _, _, rfl⟩ := hq19.form
  refine ⟨_, rfl, ?_⟩
  refine vo ?_
  refine sta (cs' := [_, _, _, _]) b15 rfl rfl sz43 rfl rfl rfl ?_
  intro W24 y25 b15
  have z26 := z23.below (y25.below (by omega))
  replace b3 := b3.wr y25 (by omega)
  replace b9 := b9.wr y25 (by omega)
  have s27 := y25.size
  refine vnil ?_
  refine V.ret ?_
  refine ⟨[_], ⟨⟨_, rfl, lvb ag43 b15 rfl⟩, trivial⟩, ?_⟩
  exact ⟨_, rfl, z26, ((hq19.ck (y25.ck (by intro hh; simp [SX] at hh <;> omega)))).un⟩
set_option maxHeartbeats 400000 in
theorem fMul_ok (q1 q2 : List Value) (r1 r2 : Rat) (L1 L2 : Nat) (S S1 S2 : Nat → Prop) (w : World) (h1 : QA L1 S1 w q1 r1) (h2 : QA L2 S2 w q2 r2) (hL : L1 + L2 < LY) (hl1 : 1 ≤ L1) (hl2 : 1 ≤ L2) (hu : Up S w) :
    Calls Try.prog 60 #[.agg q1.toArray, .agg q2.toArray] w (PQ S (r1 * r2) w) := by
  have z0 := Ext.refl w; have hLX : LX = 17592186044416 := rfl; have hLY : LY = 8796093022208 := rfl
  obtain ⟨n1, a1, l1, c1, n2, a2, l2, c2, rfl⟩ := h1.form; obtain ⟨n3, a3, l3, c3, n4, a4, l4, c4, rfl⟩ := h2.form
  have hu2 : ∀ W : World, w.heap.size + 3 ≤ W.heap.size → Up (SX S [w.heap.size + 2]) W := fun W hW => SX.up (hu.mono (by omega)) (by simp <;> omega)
  refine enter (args := [.agg #[.bool n1, .slice a1 l1 c1, .bool n2, .slice a2 l2 c2], .agg #[.bool n3, .slice a3 l3 c3, .bool n4, .slice a4 l4 c4]]) Try.func60 rfl rfl (Nat.le_of_ble_eq_true rfl) ?_
  refine V.seq (V.reg rfl ?_)
  refine vo ?_
  refine bxa rfl ?_
  intro W1 x2 b3 nn4
  have s5 := x2.sz
  have z6 := x2
  refine vo ?_
  refine bxa rfl ?_
  intro W7 x8 b9 nn10
  have s11 := x8.sz
  have z12 := z6.trans x8
  replace b3 := b3.ext x8
  refine vo ?_
  refine xal zc43 ?_
  intro W13 x14 b15 nn16
  have s17 := x14.sz
  have z18 := z12.trans x14
  replace b3 := b3.ext x14
  replace b9 := b9.ext x14
  refine vnil ?_
  refine V.seq (V.reg rfl ?_)
  refine vv (rldb4 rfl ag43 b3 rfl rfl rfl rfl ) ?_
  refine vv (rldb4 rfl ag43 b9 rfl rfl rfl rfl ) ?_
  refine vo ?_
  refine xcall e90 (dMul_ok _ _ _ _ _ _ _ _ _ _ (h1.ext z18) (h2.ext z18) (by omega) (by omega) (by omega) (hu2 _ (by omega))) rfl rfl ?_
  rintro _ W20 ⟨_, rfl, x21, hq19⟩
  have s22 := x21.sz
  have z23 := z18.trans x21
  replace b3 := b3.ext x21
  replace b9 := b9.ext x21
  replace b15 := b15.ext x21
  obtain ⟨_, _, _, _, _, _, _, _, rfl⟩ := hq19.form
  refine ⟨_, rfl, ?_⟩
  refine vo ?_
  refine sta (cs' := [_, _, _, _]) b15 rfl rfl sz43 rfl rfl rfl ?_
  intro W24 y25 b15
  have z26 := z23.below (y25.below (by omega))
  replace b3 := b3.wr y25 (by omega)
  replace b9 := b9.wr y25 (by omega)
  have s27 := y25.size
  refine vnil ?_
  refine V.ret ?_
  refine ⟨[_], ⟨⟨_, rfl, lvb ag43 b15 rfl⟩, trivial⟩, ?_⟩
  exact ⟨_, rfl, z26, ((hq19.ck (y25.ck (by intro hh; simp [SX] at hh <;> omega)))).un⟩
set_option maxHeartbeats 400000 in
theorem fNeg_ok (q : List Value) (r : Rat) (L : Nat) (S S1 : Nat → Prop) (w : World) (h : QA L S1 w q r) (hL : L + 1 < LY) (hl : 1 ≤ L) (hu : Up S w) :
    Calls Try.prog 78 #[.agg q.toArray] w (PQ S (-r) w) := by
  have z0 := Ext.refl w; have hLX : LX = 17592186044416 := rfl; have hLY : LY = 8796093022208 := rfl
  obtain ⟨n1, a1, l1, c1, n2, a2, l2, c2, rfl⟩ := h.form
  have hu2 : ∀ W : World, w.heap.size + 2 ≤ W.heap.size → Up (SX S [w.heap.size + 1]) W := fun W hW => SX.up (hu.mono (by omega)) (by simp <;> omega)
  refine enter (args := [.agg #[.bool n1, .slice a1 l1 c1, .bool n2, .slice a2 l2 c2]]) Try.func78 rfl rfl (Nat.le_of_ble_eq_true rfl) ?_
  refine V.seq (V.reg rfl ?_)
  refine vo ?_
  refine bxa rfl ?_
  intro W1 x2 b3 nn4
  have s5 := x2.sz
  have z6 := x2
  refine vo ?_
  refine xal zc43 ?_
  intro W7 x8 b9 nn10
  have s11 := x8.sz
  have z12 := z6.trans x8
  replace b3 := b3.ext x8
  refine vnil ?_
  refine V.seq (V.reg rfl ?_)
  refine vv (rbd (ps := []) (cs := [.bool false, .slice _ _ _, .bool false, .slice _ _ _]) pl43 rfl rfl) ?_
  refine vv (rldb4 rfl ag43 b3 rfl rfl rfl rfl ) ?_
  refine vo ?_
  refine xcall e101 (fSub_ok _ _ _ _ _ _ _ _ _ _ ((QC.zero (fun _ => True) _).qa sz_zero) (h.ext z12) (by omega) (by omega) (by omega) (hu2 _ (by omega))) rfl rfl ?_
  rintro _ W13 ⟨_, rfl, x14, hq⟩
  have s15 := x14.sz
  have z16 := z12.trans x14
  replace b3 := b3.ext x14
  replace b9 := b9.ext x14
  obtain ⟨_, _, _, _, _, _, _, _, rfl⟩ := hq.form
  refine ⟨_, rfl, ?_⟩
  refine vo ?_
  refine sta (cs' := [_, _, _, _]) b9 rfl rfl sz43 rfl rfl rfl ?_
  intro W17 y18 b9
  have z19 := z16.below (y18.below (by omega))
  replace b3 := b3.wr y18 (by omega)
  have s20 := y18.size
  refine vnil ?_
  refine V.ret ?_
  refine ⟨[_], ⟨⟨_, rfl, lvb ag43 b9 rfl⟩, trivial⟩, ?_⟩
  exact ⟨_, rfl, z19, ((hq.ck (y18.ck (by intro hh; simp [SX] at hh <;> omega)))).un.cast (by rw [Rat.sub_eq_add_neg, Rat.zero_add])⟩

section
variable {P : Program} {ρ : Operand → Value} {W : World} {d : Option Tmp} {ty T : TypeId} {pos : String} {af : Array Edge} {g : Option (Nat × Bool)} {x : Operand}
/-- A field that is a struct of two cells. -/
theorem rfl2 {f off : Nat} {l : List Value} {v0 v1 : Value} (hx : ρ x = .agg l.toArray) (hF : Fd P T f off) (hS : ∃ fs fd, P.underlying T = some (.struct fs) ∧ fs[f]? = some fd ∧ Ag P fd.type 2) (h0 : l[off]? = some v0) (h1 : l[off + 1]? = some v1) : (execOp ρ ⟨d, .field T x f, ty, pos, af, g⟩).run P W = .ok (.value (.agg #[v0, v1])) W := by
  obtain ⟨fs, fd, i, h2, h3, rfl, h4, h5⟩ := hF
  obtain ⟨fs', fd', h6, h7, h8⟩ := hS
  rw [h2] at h6; cases h6
  rw [h3] at h7; cases h7
  obtain ⟨i', e1, e2⟩ := h8.sz
  rw [h4] at e1; cases e1
  have hlt : fd.offset + 1 < l.length := (List.getElem?_eq_some_iff.1 h1).1
  unfold execOp
  simp only [Instr.field, hx, Sem.run_bind, run_underlying h2, Result.andThen_ok, h3, asAgg, Sem.run_pure, part, isAgg_ag h8, if_true, sizeOf_sz h8.sz]
  have : (l.toArray.extract fd.offset (fd.offset + 2)) = #[v0, v1] := by
    apply Array.ext'
    simp only [List.extract_toArray, List.extract_eq_take_drop, Nat.add_sub_cancel_left]
    apply List.ext_getElem?
    intro j
    match j with
    | 0 => simp [h0]
    | 1 => simp [h1]
    | j + 2 => simp [List.getElem?_take]; omega
  simp [this]
end

theorem PA.top {L : Nat} {S : Nat → Prop} {W : World} {q : List Value} {x y : Int} (h : PA L S W q x y) : PA L (fun _ => True) W q x y := h.sub fun _ _ _ => trivial

set_option maxHeartbeats 400000 in
theorem fSign_ok (q : List Value) (r : Rat) (L : Nat) (S1 : Nat → Prop) (w : World) (h : QA L S1 w q r) (hL : L < LY) (hl : 1 ≤ L) :
    Calls Try.prog 77 #[.agg q.toArray] w (fun e w' => e = .returned (.int .i64 (cq r 0)) ∧ Ext w w') := by
  have z0 := Ext.refl w; have hLX : LX = 17592186044416 := rfl; have hLY : LY = 8796093022208 := rfl
  obtain ⟨n1, a1, l1, c1, n2, a2, l2, c2, rfl⟩ := h.form
  have hn := h.sub (S' := fun _ => True) (fun _ _ _ => trivial)
  refine enter (args := [.agg #[.bool n1, .slice a1 l1 c1, .bool n2, .slice a2 l2 c2]]) Try.func77 rfl rfl (Nat.le_of_ble_eq_true rfl) ?_
  refine V.seq (V.reg rfl ?_)
  refine vo ?_
  refine bxa rfl ?_
  intro W1 x2 b3 nn4
  have s5 := x2.sz
  have z6 := x2
  refine asi rfl ?_
  refine vnil ?_
  refine V.seq (V.reg rfl ?_)
  refine vv (rldb4 rfl ag43 b3 rfl rfl rfl rfl ) ?_
  refine vo ?_
  refine xcall e62 (of_ok _ _ _ _ _ (hn.ext z6) (by omega) (by omega) (fun _ _ => trivial)) rfl rfl ?_
  rintro _ W14 ⟨_, rfl, x15, px8, py9, hp7, pp10, pe11⟩
  have s16 := x15.sz
  have z17 := z6.trans x15
  replace b3 := b3.ext x15
  obtain ⟨_, _, _, _, _, _, _, _, rfl⟩ := hp7.form
  obtain ⟨zx12, zy13⟩ := hp7.one
  refine ⟨_, rfl, ?_⟩
  refine vv (rfl2 (l := [.bool _, .slice _ _ _, .bool _, .slice _ _ _]) (v0 := .bool _) (v1 := .slice _ _ _) rfl fd89_0 ⟨_, _, Try.underlying89, rfl, ag41⟩ rfl rfl) ?_
  refine vo ?_
  refine xcall e92 (wSign_ok _ _ _ _ _ _ _ _ zx12) rfl rfl ?_
  rintro _ W19 ⟨_, rfl, x20, hs18⟩
  have s21 := x20.sz
  have z22 := z17.trans x20
  replace b3 := b3.ext x20
  refine ⟨_, rfl, ?_⟩
  refine asi rfl ?_
  refine vnil ?_
  refine V.ret ?_
  refine ⟨[.int _ _], ⟨rfl, trivial⟩, ?_⟩
  refine ⟨?_, z22⟩
  rw [pe11, ← sg_cq0 pp10, ← hs18]; rfl
set_option maxHeartbeats 400000 in
theorem fCmp_ok (q1 q2 : List Value) (r1 r2 : Rat) (L1 L2 : Nat) (S1 S2 : Nat → Prop) (w : World) (h1 : QA L1 S1 w q1 r1) (h2 : QA L2 S2 w q2 r2) (hL : L1 + L2 < LY) (hl1 : 1 ≤ L1) (hl2 : 1 ≤ L2) :
    Calls Try.prog 38 #[.agg q1.toArray, .agg q2.toArray] w (fun e w' => e = .returned (.int .i64 (cq r1 r2)) ∧ Ext w w') := by
  have z0 := Ext.refl w; have hLX : LX = 17592186044416 := rfl; have hLY : LY = 8796093022208 := rfl
  obtain ⟨n1, a1, l1, c1, n2, a2, l2, c2, rfl⟩ := h1.form; obtain ⟨n3, a3, l3, c3, n4, a4, l4, c4, rfl⟩ := h2.form
  have hu2 : ∀ W : World, w.heap.size ≤ W.heap.size → Up (fun _ => True) W := fun _ _ _ _ => trivial
  refine enter (args := [.agg #[.bool n1, .slice a1 l1 c1, .bool n2, .slice a2 l2 c2], .agg #[.bool n3, .slice a3 l3 c3, .bool n4, .slice a4 l4 c4]]) Try.func38 rfl rfl (Nat.le_of_ble_eq_true rfl) ?_
  refine V.seq (V.reg rfl ?_)
  refine vo ?_
  refine bxa rfl ?_
  intro W1 x2 b3 nn4
  have s5 := x2.sz
  have z6 := x2
  refine vo ?_
  refine bxa rfl ?_
  intro W7 x8 b9 nn10
  have s11 := x8.sz
  have z12 := z6.trans x8
  replace b3 := b3.ext x8
  refine asi rfl ?_
  refine vnil ?_
  refine V.seq (V.regJ (ι := Nat × Nat × List Value × List Value × Int × Int × Int × Int) [(2, .pointer (some ⟨_, _, none⟩)), (3, .pointer (some ⟨_, _, none⟩)), (4, .int _ _)] (fun ⟨b5, b6, p1, p2, x1, y1, x2, y2⟩ => [(5, .pointer (some ⟨b5, 0, none⟩)), (6, .pointer (some ⟨b6, 0, none⟩))]) (fun ⟨b5, b6, p1, p2, x1, y1, x2, y2⟩ W => Ext W7 W ∧ BoxAt W b5 p1 89 ∧ BoxAt W b6 p2 89 ∧ PA L1 (fun _ => True) W p1 x1 y1 ∧ PA L2 (fun _ => True) W p2 x2 y2 ∧ 0 < y1 ∧ 0 < y2 ∧ r1 = Rat.divInt x1 y1 ∧ r2 = Rat.divInt x2 y2) mixed rfl ⟨rfl, rfl, rfl, trivial⟩ ?_ ?_)
  have z13 := Ext.refl W7
  · skip
    intro W14 x15
    have s16 := x15.sz
    have z17 := z12.trans x15
    have z18 := x15
    replace b3 := b3.ext x15
    replace b9 := b9.ext x15
    have q19 := Ext.refl W14
    have r20 := b3
    have r21 := b9
    refine tk 0 rfl (by kernel_rfl) q19 (pv (fun _ y22 => rldb4 rfl ag43 (r20.ext y22) rfl rfl rfl rfl )) ?_
    refine tk 2 rfl (by kernel_rfl) q19 (pv (fun _ y23 => rldb4 rfl ag43 (r21.ext y23) rfl rfl rfl rfl )) ?_
    refine efs 1 [4, 5] (by kernel_rfl) ⟨?_, ?_, ?_, trivial⟩
    · skip
      refine efI rfl ?_
      refine xcall e62 (of_ok _ _ _ _ _ ((h1.sub (S' := SX (fun _ => True) [w.heap.size, W1.heap.size]) (fun b hb _ => ⟨trivial, by simp <;> omega⟩)).ext z17) (by omega) (by omega) (SX.up (fun _ _ => trivial) (by simp <;> omega))) rfl rfl ?_
      rintro _ W31 ⟨_, rfl, x32, px25, py26, hp24, pp27, pe28⟩
      have s33 := x32.sz
      have z34 := z17.trans x32
      have z35 := z18.trans x32
      replace b3 := b3.ext x32
      replace b9 := b9.ext x32
      have q36 := q19.trans x32
      obtain ⟨_, _, _, _, _, _, _, _, rfl⟩ := hp24.form
      obtain ⟨zx29, zy30⟩ := hp24.one
      refine ⟨_, rfl, ?_⟩
      refine ⟨fun _ => q36, ?_⟩
      refine efs 3 [4, 5] (by kernel_rfl) ⟨?_, ?_, ?_, trivial⟩
      · skip
        refine efI rfl ?_
        refine xcall e62 (of_ok _ _ _ _ _ ((h2.sub (S' := SX (fun _ => True) [w.heap.size, W1.heap.size]) (fun b hb _ => ⟨trivial, by simp <;> omega⟩)).ext z34) (by omega) (by omega) (SX.up (fun _ _ => trivial) (by simp <;> omega))) rfl rfl ?_
        rintro _ W44 ⟨_, rfl, x45, px38, py39, hp37, pp40, pe41⟩
        have s46 := x45.sz
        have z47 := z34.trans x45
        have z48 := z35.trans x45
        replace b3 := b3.ext x45
        replace b9 := b9.ext x45
        have q49 := q36.trans x45
        obtain ⟨_, _, _, _, _, _, _, _, rfl⟩ := hp37.form
        obtain ⟨zx42, zy43⟩ := hp37.one
        refine ⟨_, rfl, ?_⟩
        refine ⟨fun _ => q49, ?_⟩
        refine efs 4 [5] (by kernel_rfl) ⟨?_, ?_, trivial⟩
        · skip
          refine efI rfl ?_
          refine xal zc89 ?_
          intro W50 x51 b52 nn53
          have s54 := x51.sz
          have z55 := z47.trans x51
          have z56 := z48.trans x51
          replace b3 := b3.ext x51
          replace b9 := b9.ext x51
          have q57 := q49.trans x51
          refine ⟨fun _ => q57, ?_⟩
          refine ef 5 (by kernel_rfl) rfl ?_
          refine xal zc89 ?_
          intro W58 x59 b60 nn61
          have s62 := x59.sz
          have z63 := z55.trans x59
          have z64 := z56.trans x59
          replace b3 := b3.ext x59
          replace b9 := b9.ext x59
          replace b52 := b52.ext x59
          have q65 := q57.trans x59
          refine ⟨fun _ => q65, ?_⟩
          refine ef 6 (by kernel_rfl) rfl ?_
          refine sta (cs' := [_, _, _, _]) b52 rfl rfl sz89 rfl rfl rfl ?_
          intro W66 y67 b52
          have z68 := z63.below (y67.below (by omega))
          have z69 := z64.below (y67.below (by omega))
          replace b3 := b3.wr y67 (by omega)
          replace b9 := b9.wr y67 (by omega)
          replace b60 := b60.wr y67 (by omega)
          have q70 := q65.below (y67.below (by omega))
          have s71 := y67.size
          refine ⟨fun _ => q70, ?_⟩
          refine ef 7 (by kernel_rfl) rfl ?_
          refine sta (cs' := [_, _, _, _]) b60 rfl rfl sz89 rfl rfl rfl ?_
          intro W72 y73 b60
          have z74 := z68.below (y73.below (by omega))
          have z75 := z69.below (y73.below (by omega))
          replace b3 := b3.wr y73 (by omega)
          replace b9 := b9.wr y73 (by omega)
          replace b52 := b52.wr y73 (by omega)
          have s76 := y73.size
          refine lastT (by kernel_rfl) ?_
          refine dn (by kernel_rfl) ?_
          exact ⟨(_, _, _, _, _, _, _, _), ⟨rfl, rfl, rfl, trivial⟩, ⟨rfl, rfl, trivial⟩, z75, b52, b60, (((hp24.sub (S' := SX _ [W44.heap.size, W50.heap.size]) (SX.old (by simp <;> omega))).ck (((((x45.ck _).trans (x51.ck _)).trans (x59.ck _)).trans (y67.ck (by intro hh; simp [SX] at hh <;> omega))).trans (y73.ck (by intro hh; simp [SX] at hh <;> omega))))).top, (((hp37.sub (S' := SX _ [W44.heap.size, W50.heap.size]) (SX.old (by simp <;> omega))).ck ((((x51.ck _).trans (x59.ck _)).trans (y67.ck (by intro hh; simp [SX] at hh <;> omega))).trans (y73.ck (by intro hh; simp [SX] at hh <;> omega))))).top, pp27, pp40, pe28, pe41⟩
        · skip
          refine efI rfl ?_
          refine xal zc89 ?_
          intro W77 x78 b79 nn80
          have s81 := x78.sz
          have z82 := z47.trans x78
          have z83 := z48.trans x78
          replace b3 := b3.ext x78
          replace b9 := b9.ext x78
          have q84 := q49.trans x78
          refine ⟨fun _ => q84, ?_⟩
          refine ef 4 (by kernel_rfl) rfl ?_
          refine xal zc89 ?_
          intro W85 x86 b87 nn88
          have s89 := x86.sz
          have z90 := z82.trans x86
          have z91 := z83.trans x86
          replace b3 := b3.ext x86
          replace b9 := b9.ext x86
          replace b79 := b79.ext x86
          have q92 := q84.trans x86
          refine ⟨fun _ => q92, ?_⟩
          refine ef 6 (by kernel_rfl) rfl ?_
          refine sta (cs' := [_, _, _, _]) b87 rfl rfl sz89 rfl rfl rfl ?_
          intro W93 y94 b87
          have z95 := z90.below (y94.below (by omega))
          have z96 := z91.below (y94.below (by omega))
          replace b3 := b3.wr y94 (by omega)
          replace b9 := b9.wr y94 (by omega)
          replace b79 := b79.wr y94 (by omega)
          have q97 := q92.below (y94.below (by omega))
          have s98 := y94.size
          refine ⟨fun _ => q97, ?_⟩
          refine ef 7 (by kernel_rfl) rfl ?_
          refine sta (cs' := [_, _, _, _]) b79 rfl rfl sz89 rfl rfl rfl ?_
          intro W99 y100 b79
          have z101 := z95.below (y100.below (by omega))
          have z102 := z96.below (y100.below (by omega))
          replace b3 := b3.wr y100 (by omega)
          replace b9 := b9.wr y100 (by omega)
          replace b87 := b87.wr y100 (by omega)
          have s103 := y100.size
          refine lastT (by kernel_rfl) ?_
          refine dn (by kernel_rfl) ?_
          exact ⟨(_, _, _, _, _, _, _, _), ⟨rfl, rfl, rfl, trivial⟩, ⟨rfl, rfl, trivial⟩, z102, b87, b79, (((hp24.sub (S' := SX _ [W44.heap.size, W77.heap.size]) (SX.old (by simp <;> omega))).ck (((((x45.ck _).trans (x78.ck _)).trans (x86.ck _)).trans (y94.ck (by intro hh; simp [SX] at hh <;> omega))).trans (y100.ck (by intro hh; simp [SX] at hh <;> omega))))).top, (((hp37.sub (S' := SX _ [W44.heap.size, W77.heap.size]) (SX.old (by simp <;> omega))).ck ((((x78.ck _).trans (x86.ck _)).trans (y94.ck (by intro hh; simp [SX] at hh <;> omega))).trans (y100.ck (by intro hh; simp [SX] at hh <;> omega))))).top, pp27, pp40, pe28, pe41⟩
      · skip
        refine efI rfl ?_
        refine xal zc89 ?_
        intro W104 x105 b106 nn107
        have s108 := x105.sz
        have z109 := z34.trans x105
        have z110 := z35.trans x105
        replace b3 := b3.ext x105
        replace b9 := b9.ext x105
        have q111 := q36.trans x105
        refine ⟨fun _ => q111, ?_⟩
        refine efs 3 [5] (by kernel_rfl) ⟨?_, ?_, trivial⟩
        · skip
          refine efI rfl ?_
          refine xcall e62 (of_ok _ _ _ _ _ ((h2.sub (S' := SX (fun _ => True) [w.heap.size, W1.heap.size, W31.heap.size]) (fun b hb _ => ⟨trivial, by simp <;> omega⟩)).ext z109) (by omega) (by omega) (SX.up (fun _ _ => trivial) (by simp <;> omega))) rfl rfl ?_
          rintro _ W119 ⟨_, rfl, x120, px113, py114, hp112, pp115, pe116⟩
          have s121 := x120.sz
          have z122 := z109.trans x120
          have z123 := z110.trans x120
          replace b3 := b3.ext x120
          replace b9 := b9.ext x120
          replace b106 := b106.ext x120
          have q124 := q111.trans x120
          obtain ⟨_, _, _, _, _, _, _, _, rfl⟩ := hp112.form
          obtain ⟨zx117, zy118⟩ := hp112.one
          refine ⟨_, rfl, ?_⟩
          refine ⟨fun _ => q124, ?_⟩
          refine ef 5 (by kernel_rfl) rfl ?_
          refine xal zc89 ?_
          intro W125 x126 b127 nn128
          have s129 := x126.sz
          have z130 := z122.trans x126
          have z131 := z123.trans x126
          replace b3 := b3.ext x126
          replace b9 := b9.ext x126
          replace b106 := b106.ext x126
          have q132 := q124.trans x126
          refine ⟨fun _ => q132, ?_⟩
          refine ef 6 (by kernel_rfl) rfl ?_
          refine sta (cs' := [_, _, _, _]) b106 rfl rfl sz89 rfl rfl rfl ?_
          intro W133 y134 b106
          have z135 := z130.below (y134.below (by omega))
          have z136 := z131.below (y134.below (by omega))
          replace b3 := b3.wr y134 (by omega)
          replace b9 := b9.wr y134 (by omega)
          replace b127 := b127.wr y134 (by omega)
          have q137 := q132.below (y134.below (by omega))
          have s138 := y134.size
          refine ⟨fun _ => q137, ?_⟩
          refine ef 7 (by kernel_rfl) rfl ?_
          refine sta (cs' := [_, _, _, _]) b127 rfl rfl sz89 rfl rfl rfl ?_
          intro W139 y140 b127
          have z141 := z135.below (y140.below (by omega))
          have z142 := z136.below (y140.below (by omega))
          replace b3 := b3.wr y140 (by omega)
          replace b9 := b9.wr y140 (by omega)
          replace b106 := b106.wr y140 (by omega)
          have s143 := y140.size
          refine lastT (by kernel_rfl) ?_
          refine dn (by kernel_rfl) ?_
          exact ⟨(_, _, _, _, _, _, _, _), ⟨rfl, rfl, rfl, trivial⟩, ⟨rfl, rfl, trivial⟩, z142, b106, b127, (((hp24.sub (S' := SX _ [W119.heap.size, W31.heap.size]) (SX.old (by simp <;> omega))).ck (((((x105.ck _).trans (x120.ck _)).trans (x126.ck _)).trans (y134.ck (by intro hh; simp [SX] at hh <;> omega))).trans (y140.ck (by intro hh; simp [SX] at hh <;> omega))))).top, (((hp112.sub (S' := SX _ [W119.heap.size]) (SX.old (by simp <;> omega))).ck (((x126.ck _).trans (y134.ck (by intro hh; simp [SX] at hh <;> omega))).trans (y140.ck (by intro hh; simp [SX] at hh <;> omega))))).top, pp27, pp115, pe28, pe116⟩
        · skip
          refine efI rfl ?_
          refine xal zc89 ?_
          intro W144 x145 b146 nn147
          have s148 := x145.sz
          have z149 := z109.trans x145
          have z150 := z110.trans x145
          replace b3 := b3.ext x145
          replace b9 := b9.ext x145
          replace b106 := b106.ext x145
          have q151 := q111.trans x145
          refine ⟨fun _ => q151, ?_⟩
          refine ef 3 (by kernel_rfl) rfl ?_
          refine xcall e62 (of_ok _ _ _ _ _ ((h2.sub (S' := SX (fun _ => True) [w.heap.size, W1.heap.size, W31.heap.size, W104.heap.size]) (fun b hb _ => ⟨trivial, by simp <;> omega⟩)).ext z149) (by omega) (by omega) (SX.up (fun _ _ => trivial) (by simp <;> omega))) rfl rfl ?_
          rintro _ W159 ⟨_, rfl, x160, px153, py154, hp152, pp155, pe156⟩
          have s161 := x160.sz
          have z162 := z149.trans x160
          have z163 := z150.trans x160
          replace b3 := b3.ext x160
          replace b9 := b9.ext x160
          replace b106 := b106.ext x160
          replace b146 := b146.ext x160
          have q164 := q151.trans x160
          obtain ⟨_, _, _, _, _, _, _, _, rfl⟩ := hp152.form
          obtain ⟨zx157, zy158⟩ := hp152.one
          refine ⟨_, rfl, ?_⟩
          refine ⟨fun _ => q164, ?_⟩
          refine ef 6 (by kernel_rfl) rfl ?_
          refine sta (cs' := [_, _, _, _]) b106 rfl rfl sz89 rfl rfl rfl ?_
          intro W165 y166 b106
          have z167 := z162.below (y166.below (by omega))
          have z168 := z163.below (y166.below (by omega))
          replace b3 := b3.wr y166 (by omega)
          replace b9 := b9.wr y166 (by omega)
          replace b146 := b146.wr y166 (by omega)
          have q169 := q164.below (y166.below (by omega))
          have s170 := y166.size
          refine ⟨fun _ => q169, ?_⟩
          refine ef 7 (by kernel_rfl) rfl ?_
          refine sta (cs' := [_, _, _, _]) b146 rfl rfl sz89 rfl rfl rfl ?_
          intro W171 y172 b146
          have z173 := z167.below (y172.below (by omega))
          have z174 := z168.below (y172.below (by omega))
          replace b3 := b3.wr y172 (by omega)
          replace b9 := b9.wr y172 (by omega)
          replace b106 := b106.wr y172 (by omega)
          have s175 := y172.size
          refine lastT (by kernel_rfl) ?_
          refine dn (by kernel_rfl) ?_
          exact ⟨(_, _, _, _, _, _, _, _), ⟨rfl, rfl, rfl, trivial⟩, ⟨rfl, rfl, trivial⟩, z174, b106, b146, (((hp24.sub (S' := SX _ [W104.heap.size, W31.heap.size]) (SX.old (by simp <;> omega))).ck (((((x105.ck _).trans (x145.ck _)).trans (x160.ck _)).trans (y166.ck (by intro hh; simp [SX] at hh <;> omega))).trans (y172.ck (by intro hh; simp [SX] at hh <;> omega))))).top, ((hp152.ck ((y166.ck (by intro hh; simp [SX] at hh <;> omega)).trans (y172.ck (by intro hh; simp [SX] at hh <;> omega))))).top, pp27, pp155, pe28, pe156⟩
      · skip
        refine efI rfl ?_
        refine xal zc89 ?_
        intro W176 x177 b178 nn179
        have s180 := x177.sz
        have z181 := z34.trans x177
        have z182 := z35.trans x177
        replace b3 := b3.ext x177
        replace b9 := b9.ext x177
        have q183 := q36.trans x177
        refine ⟨fun _ => q183, ?_⟩
        refine efs 3 [4] (by kernel_rfl) ⟨?_, ?_, trivial⟩
        · skip
          refine efI rfl ?_
          refine xcall e62 (of_ok _ _ _ _ _ ((h2.sub (S' := SX (fun _ => True) [w.heap.size, W1.heap.size, W31.heap.size]) (fun b hb _ => ⟨trivial, by simp <;> omega⟩)).ext z181) (by omega) (by omega) (SX.up (fun _ _ => trivial) (by simp <;> omega))) rfl rfl ?_
          rintro _ W191 ⟨_, rfl, x192, px185, py186, hp184, pp187, pe188⟩
          have s193 := x192.sz
          have z194 := z181.trans x192
          have z195 := z182.trans x192
          replace b3 := b3.ext x192
          replace b9 := b9.ext x192
          replace b178 := b178.ext x192
          have q196 := q183.trans x192
          obtain ⟨_, _, _, _, _, _, _, _, rfl⟩ := hp184.form
          obtain ⟨zx189, zy190⟩ := hp184.one
          refine ⟨_, rfl, ?_⟩
          refine ⟨fun _ => q196, ?_⟩
          refine ef 4 (by kernel_rfl) rfl ?_
          refine xal zc89 ?_
          intro W197 x198 b199 nn200
          have s201 := x198.sz
          have z202 := z194.trans x198
          have z203 := z195.trans x198
          replace b3 := b3.ext x198
          replace b9 := b9.ext x198
          replace b178 := b178.ext x198
          have q204 := q196.trans x198
          refine ⟨fun _ => q204, ?_⟩
          refine ef 6 (by kernel_rfl) rfl ?_
          refine sta (cs' := [_, _, _, _]) b199 rfl rfl sz89 rfl rfl rfl ?_
          intro W205 y206 b199
          have z207 := z202.below (y206.below (by omega))
          have z208 := z203.below (y206.below (by omega))
          replace b3 := b3.wr y206 (by omega)
          replace b9 := b9.wr y206 (by omega)
          replace b178 := b178.wr y206 (by omega)
          have q209 := q204.below (y206.below (by omega))
          have s210 := y206.size
          refine ⟨fun _ => q209, ?_⟩
          refine ef 7 (by kernel_rfl) rfl ?_
          refine sta (cs' := [_, _, _, _]) b178 rfl rfl sz89 rfl rfl rfl ?_
          intro W211 y212 b178
          have z213 := z207.below (y212.below (by omega))
          have z214 := z208.below (y212.below (by omega))
          replace b3 := b3.wr y212 (by omega)
          replace b9 := b9.wr y212 (by omega)
          replace b199 := b199.wr y212 (by omega)
          have s215 := y212.size
          refine lastT (by kernel_rfl) ?_
          refine dn (by kernel_rfl) ?_
          exact ⟨(_, _, _, _, _, _, _, _), ⟨rfl, rfl, rfl, trivial⟩, ⟨rfl, rfl, trivial⟩, z214, b199, b178, (((hp24.sub (S' := SX _ [W191.heap.size, W31.heap.size]) (SX.old (by simp <;> omega))).ck (((((x177.ck _).trans (x192.ck _)).trans (x198.ck _)).trans (y206.ck (by intro hh; simp [SX] at hh <;> omega))).trans (y212.ck (by intro hh; simp [SX] at hh <;> omega))))).top, (((hp184.sub (S' := SX _ [W191.heap.size]) (SX.old (by simp <;> omega))).ck (((x198.ck _).trans (y206.ck (by intro hh; simp [SX] at hh <;> omega))).trans (y212.ck (by intro hh; simp [SX] at hh <;> omega))))).top, pp27, pp187, pe28, pe188⟩
        · skip
          refine efI rfl ?_
          refine xal zc89 ?_
          intro W216 x217 b218 nn219
          have s220 := x217.sz
          have z221 := z181.trans x217
          have z222 := z182.trans x217
          replace b3 := b3.ext x217
          replace b9 := b9.ext x217
          replace b178 := b178.ext x217
          have q223 := q183.trans x217
          refine ⟨fun _ => q223, ?_⟩
          refine ef 3 (by kernel_rfl) rfl ?_
          refine xcall e62 (of_ok _ _ _ _ _ ((h2.sub (S' := SX (fun _ => True) [w.heap.size, W1.heap.size, W31.heap.size, W176.heap.size]) (fun b hb _ => ⟨trivial, by simp <;> omega⟩)).ext z221) (by omega) (by omega) (SX.up (fun _ _ => trivial) (by simp <;> omega))) rfl rfl ?_
          rintro _ W231 ⟨_, rfl, x232, px225, py226, hp224, pp227, pe228⟩
          have s233 := x232.sz
          have z234 := z221.trans x232
          have z235 := z222.trans x232
          replace b3 := b3.ext x232
          replace b9 := b9.ext x232
          replace b178 := b178.ext x232
          replace b218 := b218.ext x232
          have q236 := q223.trans x232
          obtain ⟨_, _, _, _, _, _, _, _, rfl⟩ := hp224.form
          obtain ⟨zx229, zy230⟩ := hp224.one
          refine ⟨_, rfl, ?_⟩
          refine ⟨fun _ => q236, ?_⟩
          refine ef 6 (by kernel_rfl) rfl ?_
          refine sta (cs' := [_, _, _, _]) b218 rfl rfl sz89 rfl rfl rfl ?_
          intro W237 y238 b218
          have z239 := z234.below (y238.below (by omega))
          have z240 := z235.below (y238.below (by omega))
          replace b3 := b3.wr y238 (by omega)
          replace b9 := b9.wr y238 (by omega)
          replace b178 := b178.wr y238 (by omega)
          have q241 := q236.below (y238.below (by omega))
          have s242 := y238.size
          refine ⟨fun _ => q241, ?_⟩
          refine ef 7 (by kernel_rfl) rfl ?_
          refine sta (cs' := [_, _, _, _]) b178 rfl rfl sz89 rfl rfl rfl ?_
          intro W243 y244 b178
          have z245 := z239.below (y244.below (by omega))
          have z246 := z240.below (y244.below (by omega))
          replace b3 := b3.wr y244 (by omega)
          replace b9 := b9.wr y244 (by omega)
          replace b218 := b218.wr y244 (by omega)
          have s247 := y244.size
          refine lastT (by kernel_rfl) ?_
          refine dn (by kernel_rfl) ?_
          exact ⟨(_, _, _, _, _, _, _, _), ⟨rfl, rfl, rfl, trivial⟩, ⟨rfl, rfl, trivial⟩, z246, b218, b178, (((hp24.sub (S' := SX _ [W176.heap.size, W31.heap.size]) (SX.old (by simp <;> omega))).ck (((((x177.ck _).trans (x217.ck _)).trans (x232.ck _)).trans (y238.ck (by intro hh; simp [SX] at hh <;> omega))).trans (y244.ck (by intro hh; simp [SX] at hh <;> omega))))).top, ((hp224.ck ((y238.ck (by intro hh; simp [SX] at hh <;> omega)).trans (y244.ck (by intro hh; simp [SX] at hh <;> omega))))).top, pp27, pp227, pe28, pe228⟩
    · skip
      refine efI rfl ?_
      refine xal zc89 ?_
      intro W248 x249 b250 nn251
      have s252 := x249.sz
      have z253 := z17.trans x249
      have z254 := z18.trans x249
      replace b3 := b3.ext x249
      replace b9 := b9.ext x249
      have q255 := q19.trans x249
      refine ⟨fun _ => q255, ?_⟩
      refine efs 1 [5] (by kernel_rfl) ⟨?_, ?_, trivial⟩
      · skip
        refine efI rfl ?_
        refine xcall e62 (of_ok _ _ _ _ _ ((h1.sub (S' := SX (fun _ => True) [w.heap.size, W1.heap.size, W14.heap.size]) (fun b hb _ => ⟨trivial, by simp <;> omega⟩)).ext z253) (by omega) (by omega) (SX.up (fun _ _ => trivial) (by simp <;> omega))) rfl rfl ?_
        rintro _ W263 ⟨_, rfl, x264, px257, py258, hp256, pp259, pe260⟩
        have s265 := x264.sz
        have z266 := z253.trans x264
        have z267 := z254.trans x264
        replace b3 := b3.ext x264
        replace b9 := b9.ext x264
        replace b250 := b250.ext x264
        have q268 := q255.trans x264
        obtain ⟨_, _, _, _, _, _, _, _, rfl⟩ := hp256.form
        obtain ⟨zx261, zy262⟩ := hp256.one
        refine ⟨_, rfl, ?_⟩
        refine ⟨fun _ => q268, ?_⟩
        refine efs 3 [5] (by kernel_rfl) ⟨?_, ?_, trivial⟩
        · skip
          refine efI rfl ?_
          refine xcall e62 (of_ok _ _ _ _ _ ((h2.sub (S' := SX (fun _ => True) [w.heap.size, W1.heap.size, W14.heap.size]) (fun b hb _ => ⟨trivial, by simp <;> omega⟩)).ext z266) (by omega) (by omega) (SX.up (fun _ _ => trivial) (by simp <;> omega))) rfl rfl ?_
          rintro _ W276 ⟨_, rfl, x277, px270, py271, hp269, pp272, pe273⟩
          have s278 := x277.sz
          have z279 := z266.trans x277
          have z280 := z267.trans x277
          replace b3 := b3.ext x277
          replace b9 := b9.ext x277
          replace b250 := b250.ext x277
          have q281 := q268.trans x277
          obtain ⟨_, _, _, _, _, _, _, _, rfl⟩ := hp269.form
          obtain ⟨zx274, zy275⟩ := hp269.one
          refine ⟨_, rfl, ?_⟩
          refine ⟨fun _ => q281, ?_⟩
          refine ef 5 (by kernel_rfl) rfl ?_
          refine xal zc89 ?_
          intro W282 x283 b284 nn285
          have s286 := x283.sz
          have z287 := z279.trans x283
          have z288 := z280.trans x283
          replace b3 := b3.ext x283
          replace b9 := b9.ext x283
          replace b250 := b250.ext x283
          have q289 := q281.trans x283
          refine ⟨fun _ => q289, ?_⟩
          refine ef 6 (by kernel_rfl) rfl ?_
          refine sta (cs' := [_, _, _, _]) b250 rfl rfl sz89 rfl rfl rfl ?_
          intro W290 y291 b250
          have z292 := z287.below (y291.below (by omega))
          have z293 := z288.below (y291.below (by omega))
          replace b3 := b3.wr y291 (by omega)
          replace b9 := b9.wr y291 (by omega)
          replace b284 := b284.wr y291 (by omega)
          have q294 := q289.below (y291.below (by omega))
          have s295 := y291.size
          refine ⟨fun _ => q294, ?_⟩
          refine ef 7 (by kernel_rfl) rfl ?_
          refine sta (cs' := [_, _, _, _]) b284 rfl rfl sz89 rfl rfl rfl ?_
          intro W296 y297 b284
          have z298 := z292.below (y297.below (by omega))
          have z299 := z293.below (y297.below (by omega))
          replace b3 := b3.wr y297 (by omega)
          replace b9 := b9.wr y297 (by omega)
          replace b250 := b250.wr y297 (by omega)
          have s300 := y297.size
          refine lastT (by kernel_rfl) ?_
          refine dn (by kernel_rfl) ?_
          exact ⟨(_, _, _, _, _, _, _, _), ⟨rfl, rfl, rfl, trivial⟩, ⟨rfl, rfl, trivial⟩, z299, b250, b284, (((hp256.sub (S' := SX _ [W276.heap.size]) (SX.old (by simp <;> omega))).ck ((((x277.ck _).trans (x283.ck _)).trans (y291.ck (by intro hh; simp [SX] at hh <;> omega))).trans (y297.ck (by intro hh; simp [SX] at hh <;> omega))))).top, (((hp269.sub (S' := SX _ [W276.heap.size]) (SX.old (by simp <;> omega))).ck (((x283.ck _).trans (y291.ck (by intro hh; simp [SX] at hh <;> omega))).trans (y297.ck (by intro hh; simp [SX] at hh <;> omega))))).top, pp259, pp272, pe260, pe273⟩
        · skip
          refine efI rfl ?_
          refine xal zc89 ?_
          intro W301 x302 b303 nn304
          have s305 := x302.sz
          have z306 := z266.trans x302
          have z307 := z267.trans x302
          replace b3 := b3.ext x302
          replace b9 := b9.ext x302
          replace b250 := b250.ext x302
          have q308 := q268.trans x302
          refine ⟨fun _ => q308, ?_⟩
          refine ef 3 (by kernel_rfl) rfl ?_
          refine xcall e62 (of_ok _ _ _ _ _ ((h2.sub (S' := SX (fun _ => True) [w.heap.size, W1.heap.size, W14.heap.size, W263.heap.size]) (fun b hb _ => ⟨trivial, by simp <;> omega⟩)).ext z306) (by omega) (by omega) (SX.up (fun _ _ => trivial) (by simp <;> omega))) rfl rfl ?_
          rintro _ W316 ⟨_, rfl, x317, px310, py311, hp309, pp312, pe313⟩
          have s318 := x317.sz
          have z319 := z306.trans x317
          have z320 := z307.trans x317
          replace b3 := b3.ext x317
          replace b9 := b9.ext x317
          replace b250 := b250.ext x317
          replace b303 := b303.ext x317
          have q321 := q308.trans x317
          obtain ⟨_, _, _, _, _, _, _, _, rfl⟩ := hp309.form
          obtain ⟨zx314, zy315⟩ := hp309.one
          refine ⟨_, rfl, ?_⟩
          refine ⟨fun _ => q321, ?_⟩
          refine ef 6 (by kernel_rfl) rfl ?_
          refine sta (cs' := [_, _, _, _]) b250 rfl rfl sz89 rfl rfl rfl ?_
          intro W322 y323 b250
          have z324 := z319.below (y323.below (by omega))
          have z325 := z320.below (y323.below (by omega))
          replace b3 := b3.wr y323 (by omega)
          replace b9 := b9.wr y323 (by omega)
          replace b303 := b303.wr y323 (by omega)
          have q326 := q321.below (y323.below (by omega))
          have s327 := y323.size
          refine ⟨fun _ => q326, ?_⟩
          refine ef 7 (by kernel_rfl) rfl ?_
          refine sta (cs' := [_, _, _, _]) b303 rfl rfl sz89 rfl rfl rfl ?_
          intro W328 y329 b303
          have z330 := z324.below (y329.below (by omega))
          have z331 := z325.below (y329.below (by omega))
          replace b3 := b3.wr y329 (by omega)
          replace b9 := b9.wr y329 (by omega)
          replace b250 := b250.wr y329 (by omega)
          have s332 := y329.size
          refine lastT (by kernel_rfl) ?_
          refine dn (by kernel_rfl) ?_
          exact ⟨(_, _, _, _, _, _, _, _), ⟨rfl, rfl, rfl, trivial⟩, ⟨rfl, rfl, trivial⟩, z331, b250, b303, (((hp256.sub (S' := SX _ [W263.heap.size]) (SX.old (by simp <;> omega))).ck ((((x302.ck _).trans (x317.ck _)).trans (y323.ck (by intro hh; simp [SX] at hh <;> omega))).trans (y329.ck (by intro hh; simp [SX] at hh <;> omega))))).top, ((hp309.ck ((y323.ck (by intro hh; simp [SX] at hh <;> omega)).trans (y329.ck (by intro hh; simp [SX] at hh <;> omega))))).top, pp259, pp312, pe260, pe313⟩
      · skip
        refine efI rfl ?_
        refine xal zc89 ?_
        intro W333 x334 b335 nn336
        have s337 := x334.sz
        have z338 := z253.trans x334
        have z339 := z254.trans x334
        replace b3 := b3.ext x334
        replace b9 := b9.ext x334
        replace b250 := b250.ext x334
        have q340 := q255.trans x334
        refine ⟨fun _ => q340, ?_⟩
        refine ef 1 (by kernel_rfl) rfl ?_
        refine xcall e62 (of_ok _ _ _ _ _ ((h1.sub (S' := SX (fun _ => True) [w.heap.size, W1.heap.size, W14.heap.size, W248.heap.size]) (fun b hb _ => ⟨trivial, by simp <;> omega⟩)).ext z338) (by omega) (by omega) (SX.up (fun _ _ => trivial) (by simp <;> omega))) rfl rfl ?_
        rintro _ W348 ⟨_, rfl, x349, px342, py343, hp341, pp344, pe345⟩
        have s350 := x349.sz
        have z351 := z338.trans x349
        have z352 := z339.trans x349
        replace b3 := b3.ext x349
        replace b9 := b9.ext x349
        replace b250 := b250.ext x349
        replace b335 := b335.ext x349
        have q353 := q340.trans x349
        obtain ⟨_, _, _, _, _, _, _, _, rfl⟩ := hp341.form
        obtain ⟨zx346, zy347⟩ := hp341.one
        refine ⟨_, rfl, ?_⟩
        refine ⟨fun _ => q353, ?_⟩
        refine ef 3 (by kernel_rfl) rfl ?_
        refine xcall e62 (of_ok _ _ _ _ _ ((h2.sub (S' := SX (fun _ => True) [w.heap.size, W1.heap.size, W14.heap.size, W248.heap.size]) (fun b hb _ => ⟨trivial, by simp <;> omega⟩)).ext z351) (by omega) (by omega) (SX.up (fun _ _ => trivial) (by simp <;> omega))) rfl rfl ?_
        rintro _ W361 ⟨_, rfl, x362, px355, py356, hp354, pp357, pe358⟩
        have s363 := x362.sz
        have z364 := z351.trans x362
        have z365 := z352.trans x362
        replace b3 := b3.ext x362
        replace b9 := b9.ext x362
        replace b250 := b250.ext x362
        replace b335 := b335.ext x362
        have q366 := q353.trans x362
        obtain ⟨_, _, _, _, _, _, _, _, rfl⟩ := hp354.form
        obtain ⟨zx359, zy360⟩ := hp354.one
        refine ⟨_, rfl, ?_⟩
        refine ⟨fun _ => q366, ?_⟩
        refine ef 6 (by kernel_rfl) rfl ?_
        refine sta (cs' := [_, _, _, _]) b250 rfl rfl sz89 rfl rfl rfl ?_
        intro W367 y368 b250
        have z369 := z364.below (y368.below (by omega))
        have z370 := z365.below (y368.below (by omega))
        replace b3 := b3.wr y368 (by omega)
        replace b9 := b9.wr y368 (by omega)
        replace b335 := b335.wr y368 (by omega)
        have q371 := q366.below (y368.below (by omega))
        have s372 := y368.size
        refine ⟨fun _ => q371, ?_⟩
        refine ef 7 (by kernel_rfl) rfl ?_
        refine sta (cs' := [_, _, _, _]) b335 rfl rfl sz89 rfl rfl rfl ?_
        intro W373 y374 b335
        have z375 := z369.below (y374.below (by omega))
        have z376 := z370.below (y374.below (by omega))
        replace b3 := b3.wr y374 (by omega)
        replace b9 := b9.wr y374 (by omega)
        replace b250 := b250.wr y374 (by omega)
        have s377 := y374.size
        refine lastT (by kernel_rfl) ?_
        refine dn (by kernel_rfl) ?_
        exact ⟨(_, _, _, _, _, _, _, _), ⟨rfl, rfl, rfl, trivial⟩, ⟨rfl, rfl, trivial⟩, z376, b250, b335, ((hp341.ck (((x362.ck _).trans (y368.ck (by intro hh; simp [SX] at hh <;> omega))).trans (y374.ck (by intro hh; simp [SX] at hh <;> omega))))).top, ((hp354.ck ((y368.ck (by intro hh; simp [SX] at hh <;> omega)).trans (y374.ck (by intro hh; simp [SX] at hh <;> omega))))).top, pp344, pp357, pe345, pe358⟩
    · skip
      refine efI rfl ?_
      refine xal zc89 ?_
      intro W378 x379 b380 nn381
      have s382 := x379.sz
      have z383 := z17.trans x379
      have z384 := z18.trans x379
      replace b3 := b3.ext x379
      replace b9 := b9.ext x379
      have q385 := q19.trans x379
      refine ⟨fun _ => q385, ?_⟩
      refine efs 1 [4] (by kernel_rfl) ⟨?_, ?_, trivial⟩
      · skip
        refine efI rfl ?_
        refine xcall e62 (of_ok _ _ _ _ _ ((h1.sub (S' := SX (fun _ => True) [w.heap.size, W1.heap.size, W14.heap.size]) (fun b hb _ => ⟨trivial, by simp <;> omega⟩)).ext z383) (by omega) (by omega) (SX.up (fun _ _ => trivial) (by simp <;> omega))) rfl rfl ?_
        rintro _ W393 ⟨_, rfl, x394, px387, py388, hp386, pp389, pe390⟩
        have s395 := x394.sz
        have z396 := z383.trans x394
        have z397 := z384.trans x394
        replace b3 := b3.ext x394
        replace b9 := b9.ext x394
        replace b380 := b380.ext x394
        have q398 := q385.trans x394
        obtain ⟨_, _, _, _, _, _, _, _, rfl⟩ := hp386.form
        obtain ⟨zx391, zy392⟩ := hp386.one
        refine ⟨_, rfl, ?_⟩
        refine ⟨fun _ => q398, ?_⟩
        refine efs 3 [4] (by kernel_rfl) ⟨?_, ?_, trivial⟩
        · skip
          refine efI rfl ?_
          refine xcall e62 (of_ok _ _ _ _ _ ((h2.sub (S' := SX (fun _ => True) [w.heap.size, W1.heap.size, W14.heap.size]) (fun b hb _ => ⟨trivial, by simp <;> omega⟩)).ext z396) (by omega) (by omega) (SX.up (fun _ _ => trivial) (by simp <;> omega))) rfl rfl ?_
          rintro _ W406 ⟨_, rfl, x407, px400, py401, hp399, pp402, pe403⟩
          have s408 := x407.sz
          have z409 := z396.trans x407
          have z410 := z397.trans x407
          replace b3 := b3.ext x407
          replace b9 := b9.ext x407
          replace b380 := b380.ext x407
          have q411 := q398.trans x407
          obtain ⟨_, _, _, _, _, _, _, _, rfl⟩ := hp399.form
          obtain ⟨zx404, zy405⟩ := hp399.one
          refine ⟨_, rfl, ?_⟩
          refine ⟨fun _ => q411, ?_⟩
          refine ef 4 (by kernel_rfl) rfl ?_
          refine xal zc89 ?_
          intro W412 x413 b414 nn415
          have s416 := x413.sz
          have z417 := z409.trans x413
          have z418 := z410.trans x413
          replace b3 := b3.ext x413
          replace b9 := b9.ext x413
          replace b380 := b380.ext x413
          have q419 := q411.trans x413
          refine ⟨fun _ => q419, ?_⟩
          refine ef 6 (by kernel_rfl) rfl ?_
          refine sta (cs' := [_, _, _, _]) b414 rfl rfl sz89 rfl rfl rfl ?_
          intro W420 y421 b414
          have z422 := z417.below (y421.below (by omega))
          have z423 := z418.below (y421.below (by omega))
          replace b3 := b3.wr y421 (by omega)
          replace b9 := b9.wr y421 (by omega)
          replace b380 := b380.wr y421 (by omega)
          have q424 := q419.below (y421.below (by omega))
          have s425 := y421.size
          refine ⟨fun _ => q424, ?_⟩
          refine ef 7 (by kernel_rfl) rfl ?_
          refine sta (cs' := [_, _, _, _]) b380 rfl rfl sz89 rfl rfl rfl ?_
          intro W426 y427 b380
          have z428 := z422.below (y427.below (by omega))
          have z429 := z423.below (y427.below (by omega))
          replace b3 := b3.wr y427 (by omega)
          replace b9 := b9.wr y427 (by omega)
          replace b414 := b414.wr y427 (by omega)
          have s430 := y427.size
          refine lastT (by kernel_rfl) ?_
          refine dn (by kernel_rfl) ?_
          exact ⟨(_, _, _, _, _, _, _, _), ⟨rfl, rfl, rfl, trivial⟩, ⟨rfl, rfl, trivial⟩, z429, b414, b380, (((hp386.sub (S' := SX _ [W406.heap.size]) (SX.old (by simp <;> omega))).ck ((((x407.ck _).trans (x413.ck _)).trans (y421.ck (by intro hh; simp [SX] at hh <;> omega))).trans (y427.ck (by intro hh; simp [SX] at hh <;> omega))))).top, (((hp399.sub (S' := SX _ [W406.heap.size]) (SX.old (by simp <;> omega))).ck (((x413.ck _).trans (y421.ck (by intro hh; simp [SX] at hh <;> omega))).trans (y427.ck (by intro hh; simp [SX] at hh <;> omega))))).top, pp389, pp402, pe390, pe403⟩
        · skip
          refine efI rfl ?_
          refine xal zc89 ?_
          intro W431 x432 b433 nn434
          have s435 := x432.sz
          have z436 := z396.trans x432
          have z437 := z397.trans x432
          replace b3 := b3.ext x432
          replace b9 := b9.ext x432
          replace b380 := b380.ext x432
          have q438 := q398.trans x432
          refine ⟨fun _ => q438, ?_⟩
          refine ef 3 (by kernel_rfl) rfl ?_
          refine xcall e62 (of_ok _ _ _ _ _ ((h2.sub (S' := SX (fun _ => True) [w.heap.size, W1.heap.size, W14.heap.size, W393.heap.size]) (fun b hb _ => ⟨trivial, by simp <;> omega⟩)).ext z436) (by omega) (by omega) (SX.up (fun _ _ => trivial) (by simp <;> omega))) rfl rfl ?_
          rintro _ W446 ⟨_, rfl, x447, px440, py441, hp439, pp442, pe443⟩
          have s448 := x447.sz
          have z449 := z436.trans x447
          have z450 := z437.trans x447
          replace b3 := b3.ext x447
          replace b9 := b9.ext x447
          replace b380 := b380.ext x447
          replace b433 := b433.ext x447
          have q451 := q438.trans x447
          obtain ⟨_, _, _, _, _, _, _, _, rfl⟩ := hp439.form
          obtain ⟨zx444, zy445⟩ := hp439.one
          refine ⟨_, rfl, ?_⟩
          refine ⟨fun _ => q451, ?_⟩
          refine ef 6 (by kernel_rfl) rfl ?_
          refine sta (cs' := [_, _, _, _]) b433 rfl rfl sz89 rfl rfl rfl ?_
          intro W452 y453 b433
          have z454 := z449.below (y453.below (by omega))
          have z455 := z450.below (y453.below (by omega))
          replace b3 := b3.wr y453 (by omega)
          replace b9 := b9.wr y453 (by omega)
          replace b380 := b380.wr y453 (by omega)
          have q456 := q451.below (y453.below (by omega))
          have s457 := y453.size
          refine ⟨fun _ => q456, ?_⟩
          refine ef 7 (by kernel_rfl) rfl ?_
          refine sta (cs' := [_, _, _, _]) b380 rfl rfl sz89 rfl rfl rfl ?_
          intro W458 y459 b380
          have z460 := z454.below (y459.below (by omega))
          have z461 := z455.below (y459.below (by omega))
          replace b3 := b3.wr y459 (by omega)
          replace b9 := b9.wr y459 (by omega)
          replace b433 := b433.wr y459 (by omega)
          have s462 := y459.size
          refine lastT (by kernel_rfl) ?_
          refine dn (by kernel_rfl) ?_
          exact ⟨(_, _, _, _, _, _, _, _), ⟨rfl, rfl, rfl, trivial⟩, ⟨rfl, rfl, trivial⟩, z461, b433, b380, (((hp386.sub (S' := SX _ [W393.heap.size]) (SX.old (by simp <;> omega))).ck ((((x432.ck _).trans (x447.ck _)).trans (y453.ck (by intro hh; simp [SX] at hh <;> omega))).trans (y459.ck (by intro hh; simp [SX] at hh <;> omega))))).top, ((hp439.ck ((y453.ck (by intro hh; simp [SX] at hh <;> omega)).trans (y459.ck (by intro hh; simp [SX] at hh <;> omega))))).top, pp389, pp442, pe390, pe443⟩
      · skip
        refine efI rfl ?_
        refine xal zc89 ?_
        intro W463 x464 b465 nn466
        have s467 := x464.sz
        have z468 := z383.trans x464
        have z469 := z384.trans x464
        replace b3 := b3.ext x464
        replace b9 := b9.ext x464
        replace b380 := b380.ext x464
        have q470 := q385.trans x464
        refine ⟨fun _ => q470, ?_⟩
        refine ef 1 (by kernel_rfl) rfl ?_
        refine xcall e62 (of_ok _ _ _ _ _ ((h1.sub (S' := SX (fun _ => True) [w.heap.size, W1.heap.size, W14.heap.size, W378.heap.size]) (fun b hb _ => ⟨trivial, by simp <;> omega⟩)).ext z468) (by omega) (by omega) (SX.up (fun _ _ => trivial) (by simp <;> omega))) rfl rfl ?_
        rintro _ W478 ⟨_, rfl, x479, px472, py473, hp471, pp474, pe475⟩
        have s480 := x479.sz
        have z481 := z468.trans x479
        have z482 := z469.trans x479
        replace b3 := b3.ext x479
        replace b9 := b9.ext x479
        replace b380 := b380.ext x479
        replace b465 := b465.ext x479
        have q483 := q470.trans x479
        obtain ⟨_, _, _, _, _, _, _, _, rfl⟩ := hp471.form
        obtain ⟨zx476, zy477⟩ := hp471.one
        refine ⟨_, rfl, ?_⟩
        refine ⟨fun _ => q483, ?_⟩
        refine ef 3 (by kernel_rfl) rfl ?_
        refine xcall e62 (of_ok _ _ _ _ _ ((h2.sub (S' := SX (fun _ => True) [w.heap.size, W1.heap.size, W14.heap.size, W378.heap.size]) (fun b hb _ => ⟨trivial, by simp <;> omega⟩)).ext z481) (by omega) (by omega) (SX.up (fun _ _ => trivial) (by simp <;> omega))) rfl rfl ?_
        rintro _ W491 ⟨_, rfl, x492, px485, py486, hp484, pp487, pe488⟩
        have s493 := x492.sz
        have z494 := z481.trans x492
        have z495 := z482.trans x492
        replace b3 := b3.ext x492
        replace b9 := b9.ext x492
        replace b380 := b380.ext x492
        replace b465 := b465.ext x492
        have q496 := q483.trans x492
        obtain ⟨_, _, _, _, _, _, _, _, rfl⟩ := hp484.form
        obtain ⟨zx489, zy490⟩ := hp484.one
        refine ⟨_, rfl, ?_⟩
        refine ⟨fun _ => q496, ?_⟩
        refine ef 6 (by kernel_rfl) rfl ?_
        refine sta (cs' := [_, _, _, _]) b465 rfl rfl sz89 rfl rfl rfl ?_
        intro W497 y498 b465
        have z499 := z494.below (y498.below (by omega))
        have z500 := z495.below (y498.below (by omega))
        replace b3 := b3.wr y498 (by omega)
        replace b9 := b9.wr y498 (by omega)
        replace b380 := b380.wr y498 (by omega)
        have q501 := q496.below (y498.below (by omega))
        have s502 := y498.size
        refine ⟨fun _ => q501, ?_⟩
        refine ef 7 (by kernel_rfl) rfl ?_
        refine sta (cs' := [_, _, _, _]) b380 rfl rfl sz89 rfl rfl rfl ?_
        intro W503 y504 b380
        have z505 := z499.below (y504.below (by omega))
        have z506 := z500.below (y504.below (by omega))
        replace b3 := b3.wr y504 (by omega)
        replace b9 := b9.wr y504 (by omega)
        replace b465 := b465.wr y504 (by omega)
        have s507 := y504.size
        refine lastT (by kernel_rfl) ?_
        refine dn (by kernel_rfl) ?_
        exact ⟨(_, _, _, _, _, _, _, _), ⟨rfl, rfl, rfl, trivial⟩, ⟨rfl, rfl, trivial⟩, z506, b465, b380, ((hp471.ck (((x492.ck _).trans (y498.ck (by intro hh; simp [SX] at hh <;> omega))).trans (y504.ck (by intro hh; simp [SX] at hh <;> omega))))).top, ((hp484.ck ((y498.ck (by intro hh; simp [SX] at hh <;> omega)).trans (y504.ck (by intro hh; simp [SX] at hh <;> omega))))).top, pp474, pp487, pe475, pe488⟩
  · skip
    have z508 := Ext.refl W7
    intro i510 E511 W509 h512
    obtain ⟨b5, b6, p1, p2, x1, y1, x2, y2⟩ := i510
    simp only at h512
    show thenV _ _ .normal (ups (ups _ _) [(5, .pointer (some ⟨b5, 0, none⟩)), (6, .pointer (some ⟨b6, 0, none⟩))]) _ _
    obtain ⟨x513, hb5, hb6, hp1, hp2, k1, k2, er1, er2⟩ := h512
    have s514 := x513.sz
    have z515 := z12.trans x513
    have z516 := x513
    replace b3 := b3.ext x513
    replace b9 := b9.ext x513
    obtain ⟨m1, d1, e1, f1, m2, d2, e2, f2, rfl⟩ := hp1.form; obtain ⟨m3, d3, e3, f3, m4, d4, e4, f4, rfl⟩ := hp2.form; obtain ⟨zx1, zy1⟩ := hp1.one; obtain ⟨zx2, zy2⟩ := hp2.one
    have z517 := Ext.refl W509
    refine V.seq (V.regD mixed rfl ?_)
    intro W518 x519
    have s520 := x519.sz
    have z521 := z515.trans x519
    have z522 := z516.trans x519
    have z523 := x519
    replace b3 := b3.ext x519
    replace b9 := b9.ext x519
    replace hb5 := hb5.ext x519
    replace hb6 := hb6.ext x519
    have q524 := Ext.refl W518
    have r525 := b3
    have r526 := b9
    have r527 := hb5
    have r528 := hb6
    refine tk 0 rfl (by kernel_rfl) q524 (pv (fun _ y529 => rfa rfl fd89_0)) ?_
    refine tk 1 rfl (by kernel_rfl) q524 (pv (fun _ y530 => rldb2 rfl ag41 (r527.ext y530) rfl rfl )) ?_
    refine tk 2 rfl (by kernel_rfl) q524 (pv (fun _ y531 => rfa rfl fd89_1)) ?_
    refine tk 3 rfl (by kernel_rfl) q524 (pv (fun _ y532 => rldb2 rfl ag41 (r528.ext y532) rfl rfl )) ?_
    refine tk 5 rfl (by kernel_rfl) q524 (pv (fun _ y533 => rfa rfl fd89_0)) ?_
    refine tk 6 rfl (by kernel_rfl) q524 (pv (fun _ y534 => rldb2 rfl ag41 (r528.ext y534) rfl rfl )) ?_
    refine tk 7 rfl (by kernel_rfl) q524 (pv (fun _ y535 => rfa rfl fd89_1)) ?_
    refine tk 8 rfl (by kernel_rfl) q524 (pv (fun _ y536 => rldb2 rfl ag41 (r527.ext y536) rfl rfl )) ?_
    refine ef 4 (by kernel_rfl) rfl ?_
    refine xcall e64 (wMul_ok _ _ _ _ _ _ _ _ _ _ _ _ _ _ _ _ (zx1.ext z523) (zy2.ext z523) (by omega) (by omega) (hu2 _ (by omega))) rfl rfl ?_
    rintro _ W538 ⟨_, _, _, _, rfl, x539, hz537⟩
    have s540 := x539.sz
    have z541 := z521.trans x539
    have z542 := z522.trans x539
    have z543 := z523.trans x539
    replace b3 := b3.ext x539
    replace b9 := b9.ext x539
    replace hb5 := hb5.ext x539
    replace hb6 := hb6.ext x539
    have q544 := q524.trans x539
    refine ⟨_, rfl, ?_⟩
    refine ⟨fun _ => q544, ?_⟩
    refine ef 9 (by kernel_rfl) rfl ?_
    have hm1 := (hz537).za_mul zx1 zy2
    refine xcall e64 (wMul_ok _ _ _ _ _ _ _ _ _ _ _ _ _ _ _ _ (zx2.ext z543) (zy1.ext z543) (by omega) (by omega) (hu2 _ (by omega))) rfl rfl ?_
    rintro _ W546 ⟨_, _, _, _, rfl, x547, hz545⟩
    have s548 := x547.sz
    have z549 := z541.trans x547
    have z550 := z542.trans x547
    have z551 := z543.trans x547
    replace b3 := b3.ext x547
    replace b9 := b9.ext x547
    replace hb5 := hb5.ext x547
    replace hb6 := hb6.ext x547
    have q552 := q544.trans x547
    refine ⟨_, rfl, ?_⟩
    refine ⟨fun _ => q552, ?_⟩
    refine ef 10 (by kernel_rfl) rfl ?_
    have hm2 := (hz545).za_mul zx2 zy1
    refine xcall e63 (wCmp_ok _ _ _ _ _ _ _ _ _ _ _ _ _ _ _ (hm1.ext x547) hm2 (by omega) (by omega)) rfl rfl ?_
    rintro _ W554 ⟨_, rfl, x555, hs553⟩
    have s556 := x555.sz
    have z557 := z549.trans x555
    have z558 := z550.trans x555
    have z559 := z551.trans x555
    replace b3 := b3.ext x555
    replace b9 := b9.ext x555
    replace hb5 := hb5.ext x555
    replace hb6 := hb6.ext x555
    have q560 := q552.trans x555
    refine ⟨_, rfl, ?_⟩
    refine ⟨fun _ => q560, ?_⟩
    refine tk 11 rfl (by kernel_rfl) q560 (pv (fun _ y561 => ras (v := .int _ _) rfl)) ?_
    refine dn (by kernel_rfl) ?_
    refine V.ret ?_
    refine ⟨[.int _ _], ⟨rfl, trivial⟩, ?_⟩
    refine ⟨?_, z557⟩
    rw [er1, er2, ← sg_cq k1 k2, ← hs553]; rfl
set_option maxHeartbeats 400000 in
theorem fEqual_ok (q1 q2 : List Value) (r1 r2 : Rat) (L1 L2 : Nat) (S1 S2 : Nat → Prop) (w : World) (h1 : QA L1 S1 w q1 r1) (h2 : QA L2 S2 w q2 r2) (hL : L1 + L2 < LY) (hl1 : 1 ≤ L1) (hl2 : 1 ≤ L2) :
    Calls Try.prog 20 #[.agg q1.toArray, .agg q2.toArray] w (fun e w' => e = .returned (.bool (decide (r1 = r2))) ∧ Ext w w') := by
  have z0 := Ext.refl w; have hLX : LX = 17592186044416 := rfl; have hLY : LY = 8796093022208 := rfl
  obtain ⟨n1, a1, l1, c1, n2, a2, l2, c2, rfl⟩ := h1.form; obtain ⟨n3, a3, l3, c3, n4, a4, l4, c4, rfl⟩ := h2.form
  refine enter (args := [.agg #[.bool n1, .slice a1 l1 c1, .bool n2, .slice a2 l2 c2], .agg #[.bool n3, .slice a3 l3 c3, .bool n4, .slice a4 l4 c4]]) Try.func20 rfl rfl (Nat.le_of_ble_eq_true rfl) ?_
  refine V.seq (V.reg rfl ?_)
  refine vo ?_
  refine bxa rfl ?_
  intro W1 x2 b3 nn4
  have s5 := x2.sz
  have z6 := x2
  refine vo ?_
  refine bxa rfl ?_
  intro W7 x8 b9 nn10
  have s11 := x8.sz
  have z12 := z6.trans x8
  replace b3 := b3.ext x8
  refine asb rfl ?_
  refine vnil ?_
  refine V.seq (V.reg rfl ?_)
  refine vv (rldb4 rfl ag43 b3 rfl rfl rfl rfl ) ?_
  refine vv (rldb4 rfl ag43 b9 rfl rfl rfl rfl ) ?_
  refine vo ?_
  refine xcall e38 (fCmp_ok _ _ _ _ _ _ _ _ _ (h1.ext z12) (h2.ext z12) (by omega) (by omega) (by omega)) rfl rfl ?_
  rintro _ W13 ⟨rfl, x14⟩
  have s15 := x14.sz
  have z16 := z12.trans x14
  replace b3 := b3.ext x14
  replace b9 := b9.ext x14
  refine ⟨_, rfl, ?_⟩
  refine veq rfl rfl ?_ ?_
  · intro c1
    refine asb rfl ?_
    refine vnil ?_
    refine V.ret ?_
    refine ⟨[.bool true], ⟨rfl, trivial⟩, ?_⟩
    exact ⟨by rw [decide_eq_true (cq_eq.1 c1)]; rfl, z16⟩
  · intro c1
    refine asb rfl ?_
    refine vnil ?_
    refine V.ret ?_
    refine ⟨[.bool false], ⟨rfl, trivial⟩, ?_⟩
    exact ⟨by rw [decide_eq_false (fun h => c1 (cq_eq.2 h))]; rfl, z16⟩
set_option maxHeartbeats 400000 in
theorem fDiv_ok (q1 q2 : List Value) (r1 r2 : Rat) (L1 L2 : Nat) (S S1 S2 : Nat → Prop) (w : World) (h1 : QA L1 S1 w q1 r1) (h2 : QA L2 S2 w q2 r2) (hL : L1 + L2 < LY) (hl1 : 1 ≤ L1) (hl2 : 1 ≤ L2) (hu : Up S w) (hnz : r2 ≠ 0) :
    Calls Try.prog 73 #[.agg q1.toArray, .agg q2.toArray] w (fun e w' => ∃ q, e = .returned (.tuple #[.agg q.toArray, .int .i64 0]) ∧ Ext w w' ∧ QC S w' q (r1 / r2)) := by
  have z0 := Ext.refl w; have hLX : LX = 17592186044416 := rfl; have hLY : LY = 8796093022208 := rfl
  obtain ⟨n1, a1, l1, c1, n2, a2, l2, c2, rfl⟩ := h1.form; obtain ⟨n3, a3, l3, c3, n4, a4, l4, c4, rfl⟩ := h2.form
  have hu2 : ∀ W : World, w.heap.size + 3 ≤ W.heap.size → Up (SX S [w.heap.size + 2]) W := fun W hW => SX.up (hu.mono (by omega)) (by simp <;> omega)
  refine enter (args := [.agg #[.bool n1, .slice a1 l1 c1, .bool n2, .slice a2 l2 c2], .agg #[.bool n3, .slice a3 l3 c3, .bool n4, .slice a4 l4 c4]]) Try.func73 rfl rfl (Nat.le_of_ble_eq_true rfl) ?_
  refine V.seq (V.reg rfl ?_)
  refine vo ?_
  refine bxa rfl ?_
  intro W1 x2 b3 nn4
  have s5 := x2.sz
  have z6 := x2
  refine vo ?_
  refine bxa rfl ?_
  intro W7 x8 b9 nn10
  have s11 := x8.sz
  have z12 := z6.trans x8
  replace b3 := b3.ext x8
  refine vo ?_
  refine xal zc43 ?_
  intro W13 x14 b15 nn16
  have s17 := x14.sz
  have z18 := z12.trans x14
  replace b3 := b3.ext x14
  replace b9 := b9.ext x14
  refine asi rfl ?_
  refine vnil ?_
  refine V.seq ?_
  refine V.seq (V.reg rfl ?_)
  refine vv (rldb4 rfl ag43 b9 rfl rfl rfl rfl ) ?_
  refine vo ?_
  refine xcall e77 (fSign_ok _ _ _ _ _ (h2.ext z18) (by omega) (by omega)) rfl rfl ?_
  rintro _ W19 ⟨rfl, x20⟩
  have s21 := x20.sz
  have z22 := z18.trans x20
  replace b3 := b3.ext x20
  replace b9 := b9.ext x20
  replace b15 := b15.ext x20
  refine ⟨_, rfl, ?_⟩
  refine veq rfl rfl ?_ ?_
  · intro c1
    exact absurd (cq_eq.1 c1) hnz
  · intro c1
    refine vnil ?_
    refine V.condF rfl ?_
    refine V.skip ?_
    refine V.seq (V.reg rfl ?_)
    refine vv (rldb4 rfl ag43 b3 rfl rfl rfl rfl ) ?_
    refine vv (rldb4 rfl ag43 b9 rfl rfl rfl rfl ) ?_
    refine vo ?_
    refine xcall e90 (dDiv_ok _ _ _ _ _ _ _ _ _ _ (h1.ext z22) (h2.ext z22) (by omega) (by omega) (by omega) (hu2 _ (by omega)) hnz) rfl rfl ?_
    rintro _ W24 ⟨_, rfl, x25, hq23⟩
    have s26 := x25.sz
    have z27 := z22.trans x25
    replace b3 := b3.ext x25
    replace b9 := b9.ext x25
    replace b15 := b15.ext x25
    obtain ⟨_, _, _, _, _, _, _, _, rfl⟩ := hq23.form
    refine ⟨_, rfl, ?_⟩
    refine vo ?_
    refine sta (cs' := [_, _, _, _]) b15 rfl rfl sz43 rfl rfl rfl ?_
    intro W28 y29 b15
    have z30 := z27.below (y29.below (by omega))
    replace b3 := b3.wr y29 (by omega)
    replace b9 := b9.wr y29 (by omega)
    have s31 := y29.size
    refine asi rfl ?_
    refine vnil ?_
    refine V.ret ?_
    refine ⟨[_, .int _ _], ⟨⟨_, rfl, lvb ag43 b15 rfl⟩, rfl, trivial⟩, ?_⟩
    exact ⟨_, rfl, z30, ((hq23.ck (y29.ck (by intro hh; simp [SX] at hh <;> omega)))).un⟩
end Go.Proofs.Ytknbjfefeeojlaa

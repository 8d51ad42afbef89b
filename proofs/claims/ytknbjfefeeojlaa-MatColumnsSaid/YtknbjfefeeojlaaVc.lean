/- Package vec: the operations that use with. -/
import Derived.Test.YtknbjfefeeojlaaVb
namespace Go.Proofs.Ytknbjfefeeojlaa
open Go.RowKit
attribute [local irreducible] RV VH V OpF Calls
theorem pow_mul_lt {x y : Int} {a b : Nat} (hx0 : 0 ≤ x) (hy0 : 0 ≤ y) (hx : x < b32 ^ a) (hy : y < b32 ^ b) : x * y < b32 ^ (a + b) := by
  rw [Int.pow_add]
  have p := pow_pos' (B := b32) (by decide) b
  have m1 : x * y ≤ x * b32 ^ b := Int.mul_le_mul_of_nonneg_left (Int.le_of_lt hy) hx0
  have m2 : x * b32 ^ b < b32 ^ a * b32 ^ b := Int.mul_lt_mul_of_pos_right hx p
  omega
theorem sz_mul {a b : Nat} {r s : Rat} (hr : sz a r) (hs : sz b s) : sz (a + b) (r * s) := by
  rw [Rat.mul_def', ← Rat.divInt_ofNat]
  have h1 := r.den_pos
  have h2 := s.den_pos
  refine sz_divInt ?_ (by have := Nat.mul_pos h1 h2; omega) ?_
  · rw [Int.natAbs_mul, Int.natCast_mul]; exact pow_mul_lt (by omega) (by omega) hr.1 hs.1
  · rw [Int.natCast_mul]; exact pow_mul_lt (by omega) (by omega) hr.2 hs.2
theorem sz_add {a b : Nat} {r s : Rat} (hr : sz a r) (hs : sz b s) : sz (a + b + 1) (r + s) := by
  rw [Rat.add_def', ← Rat.divInt_ofNat]
  have h1 := r.den_pos
  have h2 := s.den_pos
  have e := pow_succ' (a + b)
  have e0 := pow_pos' (B := b32) (by decide) (a + b)
  refine sz_divInt ?_ (by have := Nat.mul_pos h1 h2; omega) ?_
  · have i1 := pow_mul_lt (by omega) (by omega) hr.1 hs.2
    have i2 := pow_mul_lt (by omega) (by omega) hs.1 hr.2
    rw [Nat.add_comm b a] at i2
    have j1 : (r.num * s.den).natAbs = r.num.natAbs * s.den := by rw [Int.natAbs_mul]; simp
    have j2 : (s.num * r.den).natAbs = s.num.natAbs * r.den := by rw [Int.natAbs_mul]; simp
    rw [← Int.natCast_mul, ← j1] at i1
    rw [← Int.natCast_mul, ← j2] at i2
    omega
  · rw [Int.natCast_mul]
    have := pow_mul_lt (by omega) (by omega) hr.2 hs.2
    omega
theorem sz_neg {a : Nat} {r : Rat} (hr : sz a r) : sz a (-r) := ⟨by rw [Rat.neg_num, Int.natAbs_neg]; exact hr.1, hr.2⟩
theorem sz_sub {a b : Nat} {r s : Rat} (hr : sz a r) (hs : sz b s) : sz (a + b + 1) (r - s) := by rw [Rat.sub_eq_add_neg]; exact sz_add hr (sz_neg hs)
theorem sz_zero' (L : Nat) (h : 1 ≤ L) : sz L 0 := sz_zero.mono h
theorem szV_at {L : Nat} {rs : List Rat} (h : szV L rs) (hL : 1 ≤ L) (i : Nat) : sz L (vat rs i) := by
  unfold vat; rw [List.getD_eq_getElem?_getD]
  cases hq : rs[i]? with
  | none => exact sz_zero' L hL
  | some r => exact h r (List.mem_of_getElem? hq)
theorem szV_zip {L : Nat} {gf : Rat → Rat → Rat} {xs ys : List Rat} {n : Nat} (h : ∀ i, i < n → sz L (gf (vat xs i) (vat ys i))) : szV L (zipf gf xs ys n) := by
  intro r hr
  simp only [zipf, List.mem_map, List.mem_range] at hr
  obtain ⟨i, hi, rfl⟩ := hr
  exact h i hi

set_option maxHeartbeats 400000 in
theorem scl_ok (q1 q2 q3 : List Value) (r1 r2 r3 : Rat) (L1 L2 L3 : Nat) (S S1 S2 S3 : Nat → Prop) (w : World) (b : Nat) (hb : BoxAt w b q3 43) (h1 : QA L1 S1 w q1 r1) (h2 : QA L2 S2 w q2 r2) (h3 : QA L3 S3 w q3 r3) (hL : L1 + L2 + L3 < LY) (hl1 : 1 ≤ L1) (hl2 : 1 ≤ L2) (hl3 : 1 ≤ L3) (hu : Up S w) :
    Calls Try.prog 85 #[.agg q1.toArray, .agg q2.toArray, .pointer (some ⟨b, 0, none⟩)] w (PQ S (r3 * r1 + r2) w) := by
  have z0 := Ext.refl w; have hLX : LX = 17592186044416 := rfl; have hLY : LY = 8796093022208 := rfl
  obtain ⟨n1, a1, l1, c1, n2, a2, l2, c2, rfl⟩ := h1.form; obtain ⟨n3, a3, l3, c3, n4, a4, l4, c4, rfl⟩ := h2.form
  obtain ⟨n5, a5, l5, c5, n6, a6, l6, c6, rfl⟩ := h3.form
  have lb := hb.lt
  have hu2 : ∀ W : World, w.heap.size + 3 ≤ W.heap.size → Up (SX S [w.heap.size + 2]) W := fun W hW => SX.up (hu.mono (by omega)) (by simp <;> omega)
  refine enter (args := [.agg #[.bool n1, .slice a1 l1 c1, .bool n2, .slice a2 l2 c2], .agg #[.bool n3, .slice a3 l3 c3, .bool n4, .slice a4 l4 c4], .pointer (some ⟨b, 0, none⟩)]) Try.func85 rfl rfl (Nat.le_of_ble_eq_true rfl) ?_
  refine V.seq (V.reg rfl ?_)
  refine vo ?_
  refine bxa rfl ?_
  intro W1 x2 b3 nn4
  have s5 := x2.sz
  have z6 := x2
  replace hb := hb.ext x2
  refine vo ?_
  refine bxa rfl ?_
  intro W7 x8 b9 nn10
  have s11 := x8.sz
  have z12 := z6.trans x8
  replace hb := hb.ext x8
  replace b3 := b3.ext x8
  refine vo ?_
  refine xal zc43 ?_
  intro W13 x14 b15 nn16
  have s17 := x14.sz
  have z18 := z12.trans x14
  replace hb := hb.ext x14
  replace b3 := b3.ext x14
  replace b9 := b9.ext x14
  refine vnil ?_
  refine V.seq (V.regD mixed rfl ?_)
  intro W19 x20
  have s21 := x20.sz
  have z22 := z18.trans x20
  replace hb := hb.ext x20
  replace b3 := b3.ext x20
  replace b9 := b9.ext x20
  replace b15 := b15.ext x20
  have q23 := Ext.refl W19
  have r24 := hb
  have r25 := b3
  have r26 := b9
  have r27 := b15
  refine tk 0 rfl (by kernel_rfl) q23 (pv (fun _ y28 => rldb4 rfl ag43 (r24.ext y28) rfl rfl rfl rfl )) ?_
  refine tk 1 rfl (by kernel_rfl) q23 (pv (fun _ y29 => rldb4 rfl ag43 (r25.ext y29) rfl rfl rfl rfl )) ?_
  refine tk 3 rfl (by kernel_rfl) q23 (pv (fun _ y30 => rldb4 rfl ag43 (r26.ext y30) rfl rfl rfl rfl )) ?_
  refine ef 2 (by kernel_rfl) rfl ?_
  refine xcall e60 (fMul_ok _ _ _ _ _ _ _ _ _ _ (h3.ext z22) (h1.ext z22) (by omega) (by omega) (by omega) (hu2 _ (by omega))) rfl rfl ?_
  rintro _ W32 ⟨_, rfl, x33, hq31⟩
  have s34 := x33.sz
  have z35 := z22.trans x33
  replace hb := hb.ext x33
  replace b3 := b3.ext x33
  replace b9 := b9.ext x33
  replace b15 := b15.ext x33
  have q36 := q23.trans x33
  obtain ⟨_, _, _, _, _, _, _, _, rfl⟩ := hq31.form
  refine ⟨_, rfl, ?_⟩
  refine ⟨fun _ => q36, ?_⟩
  refine ef 4 (by kernel_rfl) rfl ?_
  have hm := (hq31).qa (sz_mul (h3.sz' hl3) (h1.sz' hl1))
  have z37 := Ext.refl W32
  refine xcall e86 (fAdd_ok _ _ _ _ _ _ _ _ _ _ hm (h2.ext z35) (by omega) (by omega) (by omega) (hu2 _ (by omega))) rfl rfl ?_
  rintro _ W39 ⟨_, rfl, x40, hq38⟩
  have s41 := x40.sz
  have z42 := z35.trans x40
  have z43 := x40
  replace hb := hb.ext x40
  replace b3 := b3.ext x40
  replace b9 := b9.ext x40
  replace b15 := b15.ext x40
  have q44 := q36.trans x40
  obtain ⟨_, _, _, _, _, _, _, _, rfl⟩ := hq38.form
  refine ⟨_, rfl, ?_⟩
  refine ⟨fun _ => q44, ?_⟩
  refine ef 5 (by kernel_rfl) rfl ?_
  refine sta (cs' := [_, _, _, _]) b15 rfl rfl sz43 rfl rfl rfl ?_
  intro W45 y46 b15
  have z47 := z42.below (y46.below (by omega))
  replace hb := hb.wr y46 (by omega)
  replace b3 := b3.wr y46 (by omega)
  replace b9 := b9.wr y46 (by omega)
  have s48 := y46.size
  refine lastT (by kernel_rfl) ?_
  refine dn (by kernel_rfl) ?_
  refine V.ret ?_
  refine ⟨[_], ⟨⟨_, rfl, lvb ag43 b15 rfl⟩, trivial⟩, ?_⟩
  exact ⟨_, rfl, z47, ((hq38.ck (y46.ck (by intro hh; simp [SX] at hh <;> omega)))).un⟩
set_option maxHeartbeats 400000 in
theorem vScl_ok (q : List Value) (r : Rat) (L3 : Nat) (S3 : Nat → Prop) (a1 a2 : Option Addr) (n c m d : Nat) (L1 L2 : Nat) (xs ys : List Rat) (S S1 S2 : Nat → Prop) (w : World) (hx : GA L1 S1 w a1 n c xs) (hy : GA L2 S2 w a2 m d ys) (h3 : QA L3 S3 w q r) (hL : L1 + L2 + L3 < LY) (hl3 : 1 ≤ L3) (hl1 : 1 ≤ L1) (hl2 : 1 ≤ L2) (hn : n ≤ LV) (hm : m ≤ LV) (hu : Up S w) :
    Calls Try.prog 55 #[.agg q.toArray, .slice a1 n c, .slice a2 m d] w (fun e w' => ∃ ra rk rc, e = .returned (.slice ra rk rc) ∧ Ext w w' ∧ GC S w' ra rk rc (zipf (fun a b => r * a + b) xs ys (max n m))) := by
  have z0 := Ext.refl w; have hLX : LX = 17592186044416 := rfl; have hLY : LY = 8796093022208 := rfl
  obtain ⟨n5, a5, l5, c5, n6, a6, l6, c6, rfl⟩ := h3.form
  have l1 := hx.len; have l2 := hy.len
  refine enter (args := [.agg #[.bool n5, .slice a5 l5 c5, .bool n6, .slice a6 l6 c6], .slice a1 n c, .slice a2 m d]) Try.func55 rfl rfl (Nat.le_of_ble_eq_true rfl) ?_
  refine V.seq (V.reg rfl ?_)
  refine vo ?_
  refine bxa rfl ?_
  intro W1 x2 b3 nn4
  have s5 := x2.sz
  have z6 := x2
  refine ass rfl ?_
  refine vnil ?_
  refine V.seq (V.reg rfl ?_)
  refine mvs rfl ?_
  refine mvs rfl ?_
  refine vv (rmk1 (v := .pointer (some ⟨_, _, none⟩)) rfl) ?_
  refine vo ?_
  refine xcall e84 (with_ok _ _ _ _ _ _ 85 [.pointer (some ⟨w.heap.size, 0, none⟩)] (fun a b => r * a + b) L1 L2 xs ys S _ _ _ (hx.ext z6) (hy.ext z6) e85 (fun W q1 q2 r1 r2 S' x u h1 h2 => scl_ok q1 q2 _ r1 r2 r L1 L2 L3 S' _ _ _ W _ (b3.ext x) h1 h2 ((h3.ext z6).ext x) hL hl1 hl2 hl3 u) hn hm (hu.mono (by omega))) rfl rfl ?_
  rintro _ W7 ⟨_, _, _, rfl, x8, hv⟩
  have s9 := x8.sz
  have z10 := z6.trans x8
  replace b3 := b3.ext x8
  refine ⟨_, rfl, ?_⟩
  refine ass rfl ?_
  refine vnil ?_
  refine V.ret ?_
  refine ⟨[.slice _ _ _], ⟨rfl, trivial⟩, ?_⟩
  exact ⟨_, _, _, rfl, z10, hv⟩
end Go.Proofs.Ytknbjfefeeojlaa

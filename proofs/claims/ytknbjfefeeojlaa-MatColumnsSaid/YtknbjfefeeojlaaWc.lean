/- Package whole: mul, small, div. -/
import Derived.Test.YtknbjfefeeojlaaWb
namespace Go.Proofs.Ytknbjfefeeojlaa
open Go.RowKit
attribute [local irreducible] RV VH V OpF Calls
theorem mul_bd {x y M N : Int} (h0 : 0 ≤ x) (h1 : x ≤ M) (h2 : 0 ≤ y) (h3 : y ≤ N) : 0 ≤ x * y ∧ x * y ≤ M * N :=
  ⟨Int.mul_nonneg h0 h2, Int.mul_le_mul h1 h3 h2 (Int.le_trans h0 h1)⟩
theorem vl_set {B : Int} : ∀ (xs : List Int) (i : Nat) (z : Int), i < xs.length → vl B (xs.set i z) = vl B xs + B ^ i * (z - wd xs i)
  | [], _, _, h => by simp at h
  | x :: xs, 0, z, _ => by simp [vl, wd]; omega
  | x :: xs, i + 1, z, h => by
    rw [List.set_cons_succ, vl_cons, vl_cons, vl_set xs i z (by simpa using h), Int.pow_succ]
    have : wd (x :: xs) ((i + 1 : Nat) : Int) = wd xs i := by simp only [wd, Int.toNat_natCast, List.getD_cons_succ]
    rw [this]
    grind
theorem vl_set' {B z : Int} {xs : List Int} {i : Int} (h0 : 0 ≤ i) (h : i < xs.length) : vl B (xs.set i.toNat z) = vl B xs + B ^ i.toNat * (z - wd xs i) := by
  have := vl_set (B := B) xs i.toNat z (by omega)
  rwa [show ((i.toNat : Nat) : Int) = i by omega] at this
theorem wd_set_ne {xs : List Int} {i : Nat} {j z : Int} (h : j.toNat ≠ i) : wd (xs.set i z) j = wd xs j := by
  simp only [wd, List.getD_eq_getElem?_getD, List.getElem?_set]
  rw [if_neg (fun e => h e.symm)]
theorem vl_zeros (B : Int) : ∀ n, vl B (List.replicate n 0) = 0
  | 0 => rfl
  | n + 1 => by rw [List.replicate_succ, vl_cons, vl_zeros B n]; simp
theorem wd_zeros (n : Nat) (i : Int) : wd (List.replicate n 0) i = 0 := by
  simp only [wd, List.getD_eq_getElem?_getD, List.getElem?_replicate]; split <;> rfl
theorem mul_in {B c hi lo x q2 q3 os : Int} {i k : Nat} {A Y Yk : Int} (h : os + B ^ (i + k) * c = A * Y + B ^ i * x * Yk) (h2 : B * hi + lo = c + (x * q2 + q3)) :
    os + B ^ (i + k) * (lo - q3) + B ^ (i + (k + 1)) * hi = A * Y + B ^ i * x * (Yk + B ^ k * q2) := by
  have e1 : B ^ (i + (k + 1)) = B ^ i * B ^ k * B := by rw [← Nat.add_assoc, Int.pow_succ, Int.pow_add]
  have e2 : B ^ (i + k) = B ^ i * B ^ k := Int.pow_add ..
  rw [e1]; rw [e2] at h ⊢
  clear e1 e2
  generalize B ^ i = p at *
  generalize B ^ k = r at *
  have e3 : p * r * (B * hi + lo) = p * r * (c + (x * q2 + q3)) := by rw [h2]
  grind
theorem mul_in2 {os ys : List Int} {p k : Nat} {c x y o v A Y : Int} (hl : p + k < os.length) (ho : o = wd os ((p : Int) + k)) (hy : y = wd ys k) (hv : v = c + (x * y + o)) (h : vl b32 os + b32 ^ (p + k) * c = A * Y + b32 ^ p * x * vl b32 (ys.take k)) :
    vl b32 (os.set ((p : Int) + k).toNat (v % 4294967296)) + b32 ^ (p + (k + 1)) * (v / 4294967296) = A * Y + b32 ^ p * x * vl b32 (ys.take (k + 1)) := by
  rw [vl_set' (by omega) (by omega), vl_take_succ, show ((p : Int) + k).toNat = p + k by omega, ← ho, ← hy]
  exact mul_in h (by unfold b32; omega)
theorem mul_out {os xs ys : List Int} {p m : Nat} {c x : Int} (hm : ys.length = m) (hl : p + m < os.length) (hx : x = wd xs p) (hz : wd os ((p + m : Nat) : Int) = 0) (c0 : 0 ≤ c) (c1 : c ≤ 4294967295) (h : vl b32 os + b32 ^ (p + m) * c = vl b32 (xs.take p) * vl b32 ys + b32 ^ p * x * vl b32 (ys.take m)) :
    vl b32 (os.set ((p : Int) + m).toNat (c % 4294967296)) = vl b32 (xs.take (p + 1)) * vl b32 ys := by
  rw [vl_set' (by omega) (by omega), vl_take_succ, show ((p : Int) + m).toNat = p + m by omega, Int.emod_eq_of_lt c0 (by omega)]
  rw [show ((p + m : Nat) : Int) = (p : Int) + m by omega] at hz
  rw [hz, Int.sub_zero, h, List.take_of_length_le (l := ys) (by omega), ← hx, Int.add_mul]

set_option maxHeartbeats 400000 in
theorem mul_ok (a1 a2 : Option Addr) (n c m d : Nat) (xs ys : List Int) (S S1 S2 : Nat → Prop) (w : World) (hx : RN .u32 S1 w a1 n c xs) (hy : RN .u32 S2 w a2 m d ys) (hn : n ≤ LX) (hm : m ≤ LX) (hu : Up S w) :
    Calls Try.prog 95 #[.slice a1 n c, .slice a2 m d] w (fun e w' => ∃ zs, PW S zs w e w' ∧ vl b32 zs = vl b32 xs * vl b32 ys ∧ zs.length = n + m) := by
  have z0 := Ext.refl w; have hLX : LX = 17592186044416 := rfl; have hLY : LY = 8796093022208 := rfl
  have l1 := hx.len; have l2 := hy.len
  refine enter (args := [.slice a1 n c, .slice a2 m d]) Try.func95 rfl rfl (Nat.le_of_ble_eq_true rfl) ?_
  refine V.seq (V.reg rfl ?_)
  refine ass rfl ?_
  refine vnil ?_
  refine V.seq (V.reg rfl ?_)
  refine mvs rfl ?_
  refine vv (rlen sl39 rfl) ?_
  refine mvs rfl ?_
  refine vv (rlen sl39 rfl) ?_
  refine vv (rbin (bAdd (wi (by omega))) rfl rfl) ?_
  refine vo ?_
  refine xmk (n + m) sl39 in124 (by simp [kb]) rfl rfl (by omega) (by omega) (by omega) ?_
  intro W1 x2 out n3
  have s4 := x2.sz
  have z5 := x2
  refine ass rfl ?_
  refine vnil ?_
  refine V.seq ?_
  refine V.seq (V.reg rfl ?_)
  refine mvs rfl ?_
  refine vv (rlen sl39 rfl) ?_
  refine mvi rfl ?_
  refine vnil ?_
  refine V.block ?_
  refine V.loopK (ι := Nat × List Int) [(1, .slice _ _ _), (4, .slice _ _ _), (5, .slice _ _ _), (17, .slice _ _ _), (18, .int _ _)] (fun ⟨p, os⟩ => [(19, .int .i64 (p : Int))]) (fun ⟨p, os⟩ W => Ext w W ∧ p ≤ n ∧ AR .u32 W (w.heap.size) 124 (n + m) os ∧ vl b32 os = vl b32 (xs.take p) * vl b32 ys ∧ ∀ j : Nat, p + m ≤ j → wd os j = 0) (fun ⟨p, os⟩ => n - p) ((0, _)) ⟨rfl, rfl, rfl, rfl, rfl, trivial⟩ ⟨rfl, trivial⟩ ⟨z5, Nat.zero_le _, out, by simp [vl_zeros, vl], fun j _ => wd_zeros _ _⟩ ?_
  intro i7 E8 W6 h9
  obtain ⟨p, os⟩ := i7
  simp only at h9
  show V _ _ _ _ _ _ (ups (ups _ _) [(19, .int .i64 (p : Int))]) _
  obtain ⟨x10, hp, hA, hinv, hz⟩ := h9
  have s11 := x10.sz
  have z12 := x10
  have lA := hA.len; have lb := hA.box.lt
  refine V.seq (V.reg rfl ?_)
  refine vlt rfl rfl ?_ ?_
  · intro c13
    refine vnil ?_
    refine V.seq ?_
    refine V.condT rfl ?_
    refine V.skip ?_
    refine V.seq ?_
    refine V.block ?_
    refine V.seq (V.reg rfl ?_)
    refine mvi rfl ?_
    refine vv (rixn (hx.ext z12) sl39 sz124 rfl rfl (by omega) (by omega)) ?_
    refine vldN (hx.ext z12) rfl sc124 (by omega) (by omega) ?_
    intro q14 hq14 hk15
    simp only [kb] at hk15
    refine asi rfl ?_
    refine asi rfl ?_
    refine vnil ?_
    refine V.seq (V.reg rfl ?_)
    refine asi rfl ?_
    refine vnil ?_
    refine V.seq ?_
    refine V.seq (V.reg rfl ?_)
    refine mvs rfl ?_
    refine vv (rlen sl39 rfl) ?_
    refine mvi rfl ?_
    refine vnil ?_
    refine V.block ?_
    refine V.loopK (ι := Nat × List Int × Int) [(1, .slice _ _ _), (4, .slice _ _ _), (5, .slice _ _ _), (6, .int _ _), (7, .int _ _), (17, .slice _ _ _), (18, .int _ _), (19, .int _ _), (20, .bool true), (21, .int _ _), (22, .pointer _), (23, .int _ _), (24, .slice _ _ _), (25, .int _ _)] (fun ⟨k, os, cy⟩ => [(26, .int .i64 (k : Int)), (8, .int .u64 cy)]) (fun ⟨k, os, cy⟩ W => Ext w W ∧ k ≤ m ∧ AR .u32 W (w.heap.size) 124 (n + m) os ∧ 0 ≤ cy ∧ cy ≤ 4294967295 ∧ vl b32 os + b32 ^ (p + k) * cy = vl b32 (xs.take p) * vl b32 ys + b32 ^ p * q14 * vl b32 (ys.take k) ∧ ∀ j : Nat, p + m ≤ j → wd os j = 0) (fun ⟨k, os, cy⟩ => m - k) ((0, _, _)) ⟨rfl, rfl, rfl, rfl, rfl, rfl, rfl, rfl, rfl, rfl, rfl, rfl, rfl, rfl, trivial⟩ ⟨rfl, rfl, trivial⟩ ⟨z12, Nat.zero_le _, hA, by omega, by omega, by simp [hinv, vl], hz⟩ ?_
    intro i17 E18 W16 h19
    obtain ⟨k, os, cy⟩ := i17
    simp only at h19
    show V _ _ _ _ _ _ (ups (ups _ _) [(26, .int .i64 (k : Int)), (8, .int .u64 cy)]) _
    obtain ⟨x20, hk, hA, c0, c1, hinv, hz⟩ := h19
    have s21 := x20.sz
    have z22 := x20
    have lA := hA.len; have lb := hA.box.lt
    refine V.seq (V.reg rfl ?_)
    refine vlt rfl rfl ?_ ?_
    · intro c23
      refine vnil ?_
      refine V.seq ?_
      refine V.condT rfl ?_
      refine V.skip ?_
      refine V.seq ?_
      refine V.block ?_
      refine V.seq (V.reg rfl ?_)
      refine mvi rfl ?_
      refine vv (rixn (hy.ext z22) sl39 sz124 rfl rfl (by omega) (by omega)) ?_
      refine vldN (hy.ext z22) rfl sc124 (by omega) (by omega) ?_
      intro q24 hq24 hk25
      simp only [kb] at hk25
      refine asi rfl ?_
      refine asi rfl ?_
      refine vnil ?_
      refine V.seq (V.reg rfl ?_)
      refine mvi rfl ?_
      refine mvi rfl ?_
      refine vv (rcv Try.underlying124 Try.underlying122 rfl (wu (by omega))) ?_
      refine mvi rfl ?_
      refine vv (rcv Try.underlying124 Try.underlying122 rfl (wu (by omega))) ?_
      have hxy := mul_bd hk15.1 hk15.2 hk25.1 hk25.2
      refine vv (rbin (bMul (wu (by omega))) rfl rfl) ?_
      refine mvs rfl ?_
      refine mvi rfl ?_
      refine mvi rfl ?_
      refine vv (rbin (bAdd (wi (by omega))) rfl rfl) ?_
      refine vv (rix sl39 sz124 rfl rfl (by omega) (by omega) rfl) ?_
      refine vldN (hA.rn (S := fun _ => True) trivial) rfl sc124 (by omega) (by omega) ?_
      intro q26 hq26 hk27
      simp only [kb] at hk27
      refine vv (rcv Try.underlying124 Try.underlying122 rfl (wu (by omega))) ?_
      refine vv (rbin (bAdd (wu (by omega))) rfl rfl) ?_
      refine vv (rbin (bAdd (wu (by omega))) rfl rfl) ?_
      refine asi rfl ?_
      refine vnil ?_
      refine V.reg rfl ?_
      refine mvs rfl ?_
      refine mvi rfl ?_
      refine mvi rfl ?_
      refine vv (rbin (bAdd (wi (by omega))) rfl rfl) ?_
      refine mvi rfl ?_
      refine vv (rcv Try.underlying122 Try.underlying124 rfl (m32 _)) ?_
      refine mvi rfl ?_
      refine vv (rshr (n := 32) rfl rfl (by decide) (shr32 _)) ?_
      refine vv (rix sl39 sz124 rfl rfl (by omega) (by omega) rfl) ?_
      refine vo ?_
      refine xsti hA rfl rfl sz124 (by simp only [kb]; omega) (by omega) (by omega) ?_
      intro W28 y29 hA
      have z30 := z22.below (y29.below (by omega))
      have s31 := y29.size
      refine asi rfl ?_
      refine vnil ?_
      refine V.reg rfl ?_
      refine vv (rbin (bAdd (wi (by omega))) rfl rfl) ?_
      refine mvi rfl ?_
      refine vnil ?_
      refine ⟨rfl, (k + 1, _, _), ⟨rfl, rfl, rfl, rfl, rfl, rfl, rfl, rfl, rfl, rfl, rfl, rfl, rfl, rfl, trivial⟩, ⟨rfl, rfl, trivial⟩, ⟨z30, by omega, hA, by omega, by omega, mul_in2 (by omega) hq26 hq24 rfl hinv, fun j hj => (wd_set_ne (by omega)).trans (hz j hj)⟩, ?_⟩
      show m - (k + 1) < m - k
      omega
    · intro c23
      refine vnil ?_
      refine V.seq ?_
      refine V.condF rfl ?_
      refine V.exit ?_
      refine V.reg rfl ?_
      refine mvs rfl ?_
      refine mvi rfl ?_
      refine mvs rfl ?_
      refine vv (rlen sl39 rfl) ?_
      refine vv (rbin (bAdd (wi (by omega))) rfl rfl) ?_
      refine mvi rfl ?_
      refine vv (rcv Try.underlying122 Try.underlying124 rfl (m32 _)) ?_
      refine vv (rix sl39 sz124 rfl rfl (by omega) (by omega) rfl) ?_
      refine vo ?_
      refine xsti hA rfl rfl sz124 (by simp only [kb]; omega) (by omega) (by omega) ?_
      intro W32 y33 hA
      have z34 := z22.below (y33.below (by omega))
      have s35 := y33.size
      refine vnil ?_
      refine V.reg rfl ?_
      refine vv (rbin (bAdd (wi (by omega))) rfl rfl) ?_
      refine mvi rfl ?_
      refine vnil ?_
      refine ⟨rfl, (p + 1, _), ⟨rfl, rfl, rfl, rfl, rfl, trivial⟩, ⟨rfl, trivial⟩, ⟨z34, by omega, hA, mul_out l2 (by omega) hq14 (hz _ (by omega)) c0 c1 (by rw [show m = k by omega]; exact hinv), fun j hj => (wd_set_ne (by omega)).trans (hz j (by omega))⟩, ?_⟩
      show n - (p + 1) < n - p
      omega
  · intro c13
    refine vnil ?_
    refine V.seq ?_
    refine V.condF rfl ?_
    refine V.exit ?_
    refine V.seq (V.reg rfl ?_)
    refine mvs rfl ?_
    refine ass rfl ?_
    refine vnil ?_
    refine V.ret ?_
    refine ⟨[.slice _ _ _], ⟨rfl, trivial⟩, ?_⟩
    refine ⟨os, ⟨_, _, _, rfl, z12, hA.rn (hu _ (by omega))⟩, ?_, lA⟩
    rw [hinv, List.take_of_length_le (by omega)]

theorem divmod_of {u v q r : Int} (h : u = q * v + r) (h0 : 0 ≤ r) (h1 : r < v) : q = u / v ∧ r = u % v := by
  have := Int.ediv_emod_unique (a := u) (b := v) (r := r) (q := q) (by omega)
  have e : r + v * q = u := by rw [h, Int.mul_comm v]; omega
  exact ⟨(this.2 ⟨e, h0, h1⟩).1.symm, (this.2 ⟨e, h0, h1⟩).2.symm⟩
theorem div_facts {v r x : Int} (hv : 1 ≤ v) (r0 : 0 ≤ r) (r1 : r < v) (x0 : 0 ≤ x) (x1 : x ≤ 4294967295) : 0 ≤ (r * 4294967296 + x) / v ∧ (r * 4294967296 + x) / v ≤ 4294967295 ∧ 0 ≤ (r * 4294967296 + x) % v ∧ (r * 4294967296 + x) % v < v ∧ r * 4294967296 + x = ((r * 4294967296 + x) / v % 4294967296) * v + (r * 4294967296 + x) % v := by
  have h0 : 0 ≤ (r * 4294967296 + x) / v := Int.ediv_nonneg (by omega) (by omega)
  have h1 : (r * 4294967296 + x) / v < 4294967296 := Int.ediv_lt_of_lt_mul (by omega) (by omega)
  refine ⟨h0, by omega, Int.emod_nonneg _ (by omega), Int.emod_lt_of_pos _ (by omega), ?_⟩
  rw [Int.emod_eq_of_lt h0 h1]
  have := Int.mul_ediv_add_emod (r * 4294967296 + x) v
  rw [Int.mul_comm v] at this
  omega
theorem div_step {V Q R T x q r' : Int} {B : Int} {at_ : Nat} {u : Int} (h : u = Q * V + B ^ (at_ + 1) * R + (T + B ^ at_ * x)) (hq : R * B + x = q * V + r') : u = (Q + B ^ at_ * (q - 0)) * V + B ^ at_ * r' + T := by
  rw [Int.pow_succ] at h
  have : B ^ at_ * (R * B + x) = B ^ at_ * (q * V + r') := by rw [hq]
  grind
theorem small_step {qs xs : List Int} {k n : Nat} {V R x u : Int} (hk : k < n) (hq : qs.length = n) (hxl : xs.length = n) (hx : x = wd xs ((n : Int) - 1 - k)) (hz : ∀ j : Nat, j < n - k → wd qs j = 0)
    (h : u = vl b32 qs * V + b32 ^ (n - k) * R + vl b32 (xs.take (n - k))) {N q r' : Int} (hN : N = R * 4294967296 + x) (e : N = q * V + r') :
    u = vl b32 (qs.set ((n : Int) - 1 - k).toNat q) * V + b32 ^ (n - (k + 1)) * r' + vl b32 (xs.take (n - (k + 1))) := by
  obtain ⟨t, ht⟩ : ∃ t, n - k = t + 1 := ⟨n - k - 1, by omega⟩
  have e1 : n - (k + 1) = t := by omega
  have e2 : ((n : Int) - 1 - k) = (t : Int) := by omega
  rw [e2] at hx ⊢
  rw [ht, vl_take_succ, ← hx] at h
  rw [e1, vl_set' (by omega) (by omega), hz _ (by omega), Int.toNat_natCast]
  exact div_step h (by rw [← e, hN])

set_option maxHeartbeats 400000 in
theorem small_ok (a1 : Option Addr) (n c : Nat) (v : Int) (xs : List Int) (S S1 : Nat → Prop) (w : World) (hx : RN .u32 S1 w a1 n c xs) (hn : n ≤ LX) (hv0 : 1 ≤ v) (hv1 : v ≤ 4294967295) (hu : Up S w) :
    Calls Try.prog 117 #[.slice a1 n c, .int .u64 v] w (fun e w' => ∃ a m d r, e = .returned (.tuple #[.slice a m d, .int .u64 r]) ∧ Ext w w' ∧ RN .u32 S w' a m d (dg b32 (vl b32 xs / v)) ∧ r = vl b32 xs % v) := by
  have z0 := Ext.refl w; have hLX : LX = 17592186044416 := rfl; have hLY : LY = 8796093022208 := rfl
  have l1 := hx.len
  refine enter (args := [.slice a1 n c, .int .u64 v]) Try.func117 rfl rfl (Nat.le_of_ble_eq_true rfl) ?_
  refine V.seq (V.reg rfl ?_)
  refine ass rfl ?_
  refine asi rfl ?_
  refine vnil ?_
  refine V.seq (V.reg rfl ?_)
  refine mvs rfl ?_
  refine vv (rlen sl39 rfl) ?_
  refine vo ?_
  refine xmk (n) sl39 in124 (by simp [kb]) rfl rfl (by omega) (by omega) (by omega) ?_
  intro W1 x2 out n3
  have s4 := x2.sz
  have z5 := x2
  refine ass rfl ?_
  refine vnil ?_
  refine V.seq ?_
  refine V.seq (V.reg rfl ?_)
  refine mvs rfl ?_
  refine vv (rlen sl39 rfl) ?_
  refine mvi rfl ?_
  refine vnil ?_
  refine V.block ?_
  refine V.loopK (ι := Nat × List Int × Int) [(0, .slice _ _ _), (1, .int _ _), (4, .slice _ _ _), (12, .int _ _)] (fun ⟨k, qs, r⟩ => [(13, .int .i64 (k : Int)), (5, .int .u64 r)]) (fun ⟨k, qs, r⟩ W => Ext w W ∧ k ≤ n ∧ AR .u32 W (w.heap.size) 124 n qs ∧ 0 ≤ r ∧ r < v ∧ vl b32 xs = vl b32 qs * v + b32 ^ (n - k) * r + vl b32 (xs.take (n - k)) ∧ ∀ j : Nat, j < n - k → wd qs j = 0) (fun ⟨k, qs, r⟩ => n - k) ((0, _, _)) ⟨rfl, rfl, rfl, rfl, trivial⟩ ⟨rfl, rfl, trivial⟩ ⟨z5, Nat.zero_le _, out, by omega, by omega, by simp [vl_zeros, l1]; rw [List.take_of_length_le (by omega)], fun j _ => wd_zeros _ _⟩ ?_
  intro i7 E8 W6 h9
  obtain ⟨k, qs, r⟩ := i7
  simp only at h9
  show V _ _ _ _ _ _ (ups (ups _ _) [(13, .int .i64 (k : Int)), (5, .int .u64 r)]) _
  obtain ⟨x10, hk, hA, r0, r1, hinv, hz⟩ := h9
  have s11 := x10.sz
  have z12 := x10
  have lA := hA.len; have lb := hA.box.lt
  refine V.seq (V.reg rfl ?_)
  refine vlt rfl rfl ?_ ?_
  · intro c13
    refine vnil ?_
    refine V.seq ?_
    refine V.condT rfl ?_
    refine V.skip ?_
    refine V.seq ?_
    refine V.block ?_
    refine V.seq (V.reg rfl ?_)
    refine mvi rfl ?_
    refine asi rfl ?_
    refine vnil ?_
    refine V.seq (V.reg rfl ?_)
    refine mvs rfl ?_
    refine vv (rlen sl39 rfl) ?_
    refine vv (rbin (bSub (wi (by omega))) rfl rfl) ?_
    refine mvi rfl ?_
    refine vv (rbin (bSub (wi (by omega))) rfl rfl) ?_
    refine asi rfl ?_
    refine vnil ?_
    refine V.seq (V.reg rfl ?_)
    refine mvi rfl ?_
    refine vv (rshl (n := 32) rfl rfl (by decide) (shl32 (by omega))) ?_
    refine mvs rfl ?_
    refine mvi rfl ?_
    refine vv (rixn (hx.ext z12) sl39 sz124 rfl rfl (by omega) (by omega)) ?_
    refine vldN (hx.ext z12) rfl sc124 (by omega) (by omega) ?_
    intro q14 hq14 hk15
    simp only [kb] at hk15
    refine vv (rcv Try.underlying124 Try.underlying122 rfl (wu (by omega))) ?_
    refine vv (rbin (bAdd (wu (by omega))) rfl rfl) ?_
    obtain ⟨d0, d1, d2, d3, d4⟩ := div_facts hv0 r0 r1 hk15.1 hk15.2
    refine asi rfl ?_
    refine vnil ?_
    refine V.regT mixed rfl ?_
    intro W16 x17
    have s18 := x17.sz
    have z19 := z12.trans x17
    replace hA := hA.ext x17
    have q20 := Ext.refl W16
    have r21 := hA
    refine tk 0 rfl (by kernel_rfl) trivial (pv (fun _ y22 => rmv (v := .slice _ _ _) rfl)) ?_
    refine tk 1 rfl (by kernel_rfl) trivial (pv (fun _ y23 => rmv (v := .int _ _) rfl)) ?_
    refine tk 2 rfl (by kernel_rfl) trivial (pv (fun _ y24 => rmv (v := .int _ _) rfl)) ?_
    refine tk 3 rfl (by kernel_rfl) trivial (pv (fun _ y25 => rmv (v := .int _ _) rfl)) ?_
    refine tk 4 rfl (by kernel_rfl) trivial (pv (fun _ y26 => rbin (bQuo (by omega) (wuq (by rw [Int.tdiv_eq_ediv_of_nonneg (by omega)]; omega) (Int.tdiv_eq_ediv_of_nonneg (by omega)))) rfl rfl)) ?_
    refine tk 5 rfl (by kernel_rfl) trivial (pv (fun _ y27 => rcv Try.underlying122 Try.underlying124 rfl (m32 _))) ?_
    refine tk 6 rfl (by kernel_rfl) trivial (pv (fun _ y28 => rmv (v := .int _ _) rfl)) ?_
    refine tk 7 rfl (by kernel_rfl) trivial (pv (fun _ y29 => rmv (v := .int _ _) rfl)) ?_
    refine tk 8 rfl (by kernel_rfl) trivial (pv (fun _ y30 => rbin (bRem (by omega) (Int.tmod_eq_emod_of_nonneg (by omega))) rfl rfl)) ?_
    refine tk 9 rfl (by kernel_rfl) trivial (pv (fun _ y31 => rix sl39 sz124 rfl rfl (by omega) (by omega) rfl)) ?_
    refine ef 10 (by kernel_rfl) rfl ?_
    refine xsti hA rfl rfl sz124 (by simp only [kb]; omega) (by omega) (by omega) ?_
    intro W32 y33 hA
    have z34 := z19.below (y33.below (by omega))
    have s35 := y33.size
    refine ⟨fun _ => trivial, ?_⟩
    refine tk 11 rfl (by kernel_rfl) trivial (pv (fun _ y36 => ras (v := .int _ _) rfl)) ?_
    refine dn (by kernel_rfl) ?_
    refine V.reg rfl ?_
    refine vv (rbin (bAdd (wi (by omega))) rfl rfl) ?_
    refine mvi rfl ?_
    refine vnil ?_
    refine ⟨rfl, (k + 1, _, _), ⟨rfl, rfl, rfl, rfl, trivial⟩, ⟨rfl, rfl, trivial⟩, ⟨z34, by omega, hA, by omega, by omega, small_step (by omega) lA l1 hq14 hz hinv rfl d4, fun j hj => (wd_set_ne (by omega)).trans (hz j (by omega))⟩, ?_⟩
    show n - (k + 1) < n - k
    omega
  · intro c13
    refine vnil ?_
    refine V.seq ?_
    refine V.condF rfl ?_
    refine V.exit ?_
    refine V.seq (V.reg rfl ?_)
    refine mvs rfl ?_
    have ha37 := hA.rn (S := S) (hu _ (by omega))
    refine vo ?_
    refine xcall e96 (trim_ok _ _ _ _ _ _ ha37) rfl rfl ?_
    rintro _ _ ⟨m39, rfl, hr38, hm40, rfl⟩
    refine ⟨_, rfl, ?_⟩
    refine mvi rfl ?_
    refine ass rfl ?_
    refine asi rfl ?_
    refine vnil ?_
    refine V.ret ?_
    refine ⟨[.slice _ _ _, .int _ _], ⟨rfl, rfl, trivial⟩, ?_⟩
    have hq := divmod_of (u := vl b32 xs) (v := v) (by simpa [show n - k = 0 by omega, vl] using hinv) r0 r1
    exact ⟨_, _, _, _, rfl, z12, hq.1 ▸ hr38, hq.2⟩

theorem dg_len_mono {u v : Int} (hu : 0 ≤ u) (h : u ≤ v) : (dg b32 u).length ≤ (dg b32 v).length := by
  have h2 := vl_lt (B := b32) (by decide) (Dg.dg (by decide) v)
  rw [vl_dg (by decide) (by omega)] at h2
  exact dg_length_le (by decide) (by omega)
/-- One word more. -/
theorem long_step {qs xs : List Int} {k n : Nat} {V R x u q : Int} (hk : k < n) (hq : qs.length = n) (hxl : xs.length = n) (hx : x = wd xs ((n : Int) - 1 - k)) (hz : ∀ j : Nat, j < n - k → wd qs j = 0)
    (h : u = vl b32 qs * V + b32 ^ (n - k) * R + vl b32 (xs.take (n - k))) :
    u = vl b32 (qs.set ((n : Int) - 1 - k).toNat q) * V + b32 ^ (n - (k + 1)) * (x + b32 * R - V * q) + vl b32 (xs.take (n - (k + 1))) :=
  small_step hk hq hxl hx hz h (N := x + b32 * R) (by unfold b32; omega) (by rw [Int.mul_comm q V]; omega)
theorem one_len {v : Int} {n : Nat} (hv : 0 ≤ v) (h : (dg b32 v).length = n) (h1 : n = 1) : wd (dg b32 v) 0 = v := by
  have e := vl_dg (B := b32) (by decide) hv
  match hd : dg b32 v with
  | [] => rw [hd] at h; simp at h; omega
  | [x] => rw [hd] at e; simp [vl] at e; simp [wd, e]
  | _ :: _ :: _ => rw [hd] at h; simp at h; omega

set_option maxHeartbeats 400000 in
theorem div_ok (a1 a2 : Option Addr) (n c m d : Nat) (u v : Int) (S S1 S2 : Nat → Prop) (w : World) (hx : RN .u32 S1 w a1 n c (dg b32 u)) (hy : RN .u32 S2 w a2 m d (dg b32 v)) (hu0 : 0 ≤ u) (hv : 0 < v) (hn : n < LX) (hm : m < LX) (hu : Up S w) :
    Calls Try.prog 111 #[.slice a1 n c, .slice a2 m d] w (fun e w' => ∃ a3 n3 c3 a4 n4 c4, e = .returned (.tuple #[.slice a3 n3 c3, .slice a4 n4 c4]) ∧ Ext w w' ∧ RN .u32 S w' a3 n3 c3 (dg b32 (u / v)) ∧ RN .u32 S w' a4 n4 c4 (dg b32 (u % v))) := by
  have z0 := Ext.refl w; have hLX : LX = 17592186044416 := rfl; have hLY : LY = 8796093022208 := rfl
  have l1 := hx.len; have l2 := hy.len; have hv0 : 0 ≤ v := by omega
  refine enter (args := [.slice a1 n c, .slice a2 m d]) Try.func111 rfl rfl (Nat.le_of_ble_eq_true rfl) ?_
  refine V.seq (V.reg rfl ?_)
  refine ass rfl ?_
  refine ass rfl ?_
  refine vnil ?_
  refine V.seq ?_
  refine V.seq (V.reg rfl ?_)
  refine mvs rfl ?_
  refine vv (rlen sl39 rfl) ?_
  refine veq rfl rfl ?_ ?_
  · intro c1
    refine vnil ?_
    refine V.condT rfl ?_
    refine V.seq (V.reg rfl ?_)
    refine mvs rfl ?_
    refine mvs rfl ?_
    refine vv (rixn hy sl39 sz124 rfl rfl (by omega) (by omega)) ?_
    refine vldN hy rfl sc124 (by omega) (by omega) ?_
    intro q2 hq2 hk3
    simp only [kb] at hk3
    refine vv (rcv Try.underlying124 Try.underlying122 rfl (wu (by omega))) ?_
    have hu2 : ∀ W : World, w.heap.size ≤ W.heap.size → Up S W := fun W hW => hu.mono hW
    have hv1 : 1 ≤ q2 := by rw [hq2, one_len hv0 l2 (by omega)]; omega
    refine vo ?_
    refine xcall e117 (small_ok _ _ _ _ _ _ _ _ hx (by omega) (by omega) (by omega) (hu2 _ (by omega))) rfl rfl ?_
    rintro _ W7 ⟨_, _, _, r6, rfl, x8, hr4, hq5⟩
    have s9 := x8.sz
    have z10 := x8
    refine ⟨_, rfl, ?_⟩
    refine mvt rfl ?_
    refine vv (rext (v := .slice _ _ _) rfl rfl) ?_
    refine vv (rext (v := .int _ _) rfl rfl) ?_
    refine ass rfl ?_
    refine asi rfl ?_
    refine vnil ?_
    refine V.seq (V.reg rfl ?_)
    refine mvs rfl ?_
    refine mvi rfl ?_
    refine vv (rcv Try.underlying122 Try.underlying124 rfl (m32 _)) ?_
    refine vo ?_
    refine xbs (ps := [(0, .int _ _)]) (cs := [.int _ _]) sl39 zr124 sz124 rfl rfl rfl rfl rfl rfl ?_
    intro W11 x12 b13 nn14
    have s15 := x12.sz
    have z16 := z10.trans x12
    have hl17 := RN.lit (k := .u32) (xs := [_]) 1 b13 (by intro q hq; simp only [List.mem_cons, List.not_mem_nil, or_false] at hq; simp only [kb]; omega) (hu2 W7 (by omega) _ (Nat.le_refl _))
    refine vo ?_
    refine xcall e96 (trim_ok _ _ _ _ _ _ hl17) rfl rfl ?_
    rintro _ _ ⟨m19, rfl, hr18, hm20, rfl⟩
    refine ⟨_, rfl, ?_⟩
    refine ass rfl ?_
    refine ass rfl ?_
    refine vnil ?_
    refine V.ret ?_
    refine ⟨[.slice _ _ _, .slice _ _ _], ⟨rfl, rfl, trivial⟩, ?_⟩
    have hv1 : wd (dg b32 v) 0 = v := one_len hv0 l2 (by omega)
    rw [hq2, hv1, vl_dg (by decide) hu0] at hr4 hq5
    have rl : 0 ≤ r6 ∧ r6 < v := by rw [hq5]; exact ⟨Int.emod_nonneg _ (by omega), Int.emod_lt_of_pos _ (by omega)⟩
    exact ⟨_, _, _, _, _, _, rfl, z16, (hr4.ext x12), (hr18).cast (by rw [← hq5]; simp only [vl, Int.mul_zero, Int.add_zero]; rw [Int.emod_eq_of_lt rl.1 (by omega)])⟩
  · intro c1
    refine vnil ?_
    refine V.condF rfl ?_
    refine V.skip ?_
    refine V.seq (V.reg rfl ?_)
    refine mvs rfl ?_
    refine vv (rlen sl39 rfl) ?_
    refine vo ?_
    refine xmk (n) sl39 in124 (by simp [kb]) rfl rfl (by omega) (by omega) (by omega) ?_
    intro W22 x23 out n24
    have s25 := x23.sz
    have z26 := x23
    have hu2 : ∀ W : World, w.heap.size + 1 ≤ W.heap.size → Up (SX S [w.heap.size]) W := fun W hW => SX.up (hu.mono (by omega)) (by simp; omega)
    refine ass rfl ?_
    refine vnil ?_
    refine V.seq ?_
    refine V.seq (V.reg rfl ?_)
    refine mvs rfl ?_
    refine vv (rlen sl39 rfl) ?_
    refine mvi rfl ?_
    refine vnil ?_
    refine V.block ?_
    refine V.loopK (ι := Nat × List Int × Int × Option Addr × Nat × Nat) [(0, .slice _ _ _), (1, .slice _ _ _), (4, .slice _ _ _), (34, .int _ _)] (fun ⟨k, qs, R, ra, rn, rc⟩ => [(35, .int .i64 (k : Int)), (5, .slice ra rn rc)]) (fun ⟨k, qs, R, ra, rn, rc⟩ W => Ext w W ∧ k ≤ n ∧ AR .u32 W w.heap.size 124 n qs ∧ 0 ≤ R ∧ R < v ∧ RN .u32 (SX S [w.heap.size]) W ra rn rc (dg b32 R) ∧ rn ≤ m ∧ u = vl b32 qs * v + b32 ^ (n - k) * R + vl b32 ((dg b32 u).take (n - k)) ∧ ∀ j : Nat, j < n - k → wd qs j = 0) (fun ⟨k, qs, R, ra, rn, rc⟩ => n - k) ((0, _, 0, none, 0, 0)) ⟨rfl, rfl, rfl, rfl, trivial⟩ ⟨rfl, rfl, trivial⟩ ⟨z26, Nat.zero_le _, out, by omega, by omega, by rw [dg_zero]; exact RN.nil _ _ _ _ _ (by omega), by omega, by simp [vl_zeros]; rw [List.take_of_length_le (by omega), vl_dg (by decide) hu0], fun j _ => wd_zeros _ _⟩ ?_
    intro i28 E29 W27 h30
    obtain ⟨k, qs, R, ra, rn, rc⟩ := i28
    simp only at h30
    show V _ _ _ _ _ _ (ups (ups _ _) [(35, .int .i64 (k : Int)), (5, .slice ra rn rc)]) _
    obtain ⟨x31, hk, hA, r0, r1, hR, hrm, hinv, hz⟩ := h30
    have s32 := x31.sz
    have z33 := x31
    have lA := hA.len; have lb := hA.box.lt; have lR := hR.len
    have z34 := Ext.refl W27
    refine V.seq (V.reg rfl ?_)
    refine vlt rfl rfl ?_ ?_
    · intro c35
      refine vnil ?_
      refine V.seq ?_
      refine V.condT rfl ?_
      refine V.skip ?_
      refine V.seq ?_
      refine V.block ?_
      refine V.seq (V.reg rfl ?_)
      refine mvi rfl ?_
      refine asi rfl ?_
      refine vnil ?_
      refine V.seq (V.reg rfl ?_)
      refine mvs rfl ?_
      refine vv (rlen sl39 rfl) ?_
      refine vv (rbin (bSub (wi (by omega))) rfl rfl) ?_
      refine mvi rfl ?_
      refine vv (rbin (bSub (wi (by omega))) rfl rfl) ?_
      refine asi rfl ?_
      refine vnil ?_
      refine V.seq (V.reg rfl ?_)
      refine mvs rfl ?_
      refine mvi rfl ?_
      refine vv (rixn (hx.ext z33) sl39 sz124 rfl rfl (by omega) (by omega)) ?_
      refine vldN (hx.ext z33) rfl sc124 (by omega) (by omega) ?_
      intro q36 hq36 hk37
      simp only [kb] at hk37
      refine vo ?_
      refine xbs (ps := [(0, .int _ _)]) (cs := [.int _ _]) sl39 zr124 sz124 rfl rfl rfl rfl rfl rfl ?_
      intro W38 x39 b40 nn41
      have s42 := x39.sz
      have z43 := z33.trans x39
      have z44 := x39
      replace hA := hA.ext x39
      refine mvs rfl ?_
      refine vo ?_
      refine xappN sl39 in124 (OI.lit (B := W27.heap.size) (k := .u32) (xs := [_]) b40 (by intro q hq; simp only [List.mem_cons, List.not_mem_nil, or_false] at hq; simp only [kb]; omega) (by omega)) rfl rfl (hR.ext z44) (by simp only [List.length_nil, List.length_cons, List.length_append]; omega) (by decide) (by omega) ?_
      intro v45 W46 hO47 hg48 ho49
      have y50 := grown_below hg48 (by omega) (fun b e => ((OI.lit (B := W27.heap.size) (k := .u32) (xs := [_]) b40 (by intro q hq; simp only [List.mem_cons, List.not_mem_nil, or_false] at hq; simp only [kb]; omega) (by omega)).low b e).1)
      have s51 := y50.size
      have z52 := z43.below (y50.mono (by omega))
      have z53 := z44.below (y50.mono (by omega))
      replace hA := hA.bl y50 (by omega)
      obtain ⟨ra1, rc1, rfl⟩ := hO47.form
      have hr1 := hO47.rn (S := SX S [w.heap.size]) (fun b hb _ => ⟨hu b (by omega), by simp; omega⟩)
      have e1 : vl b32 ([q36] ++ dg b32 R) = q36 + b32 * R := by rw [List.singleton_append, vl_cons, vl_dg (by decide) r0]
      have l49 : ([q36] ++ dg b32 R).length = rn + 1 := by simp; omega
      have p1 : 0 ≤ q36 + b32 * R := by unfold b32; omega
      refine vo ?_
      refine xcall e96 (trim_ok _ _ _ _ _ _ hr1) rfl rfl ?_
      rintro _ _ ⟨m55, rfl, hr54, hm56, rfl⟩
      refine ⟨_, rfl, ?_⟩
      obtain ⟨R1, eR1⟩ : ∃ q, q = q36 + b32 * R := ⟨_, rfl⟩
      rw [e1, ← eR1] at hr54
      rw [← eR1] at p1; have l50 := hr54.len; have hb0 : R1 < v * 4294967296 := by unfold b32 at eR1; omega
      refine ass rfl ?_
      refine vnil ?_
      refine V.seq (V.reg rfl ?_)
      refine asi rfl ?_
      refine asi rfl ?_
      refine vnil ?_
      refine V.seq ?_
      refine V.seq (V.reg rfl ?_)
      refine mvs rfl ?_
      refine vv (rlen sl39 rfl) ?_
      refine mvs rfl ?_
      refine vv (rlen sl39 rfl) ?_
      refine vlt rfl rfl ?_ ?_
      · intro c58
        refine vnil ?_
        refine V.condT rfl ?_
        refine V.reg rfl ?_
        refine asi rfl ?_
        refine vnil ?_
        refine V.seq ?_
        refine V.block ?_
        refine V.loopK (ι := Int × Int) [(0, .slice _ _ _), (1, .slice _ _ _), (4, .slice _ _ _), (5, .slice _ _ _), (8, .int _ _), (9, .int _ _), (34, .int _ _), (35, .int _ _), (36, .bool true), (37, .int _ _), (38, .slice _ _ _), (39, .int _ _), (40, .int _ _), (41, .int _ _), (42, .int _ _), (43, .slice _ _ _), (44, .int _ _), (45, .pointer _), (46, .int _ _), (47, .slice _ _ _), (48, .slice _ _ _), (49, .slice _ _ _), (50, .slice _ _ _), (51, .slice _ _ _), (52, .int _ _), (53, .slice _ _ _), (54, .int _ _), (55, .bool true)] (fun ⟨lo, hi⟩ => [(10, .int .u64 lo), (11, .int .u64 hi)]) (fun ⟨lo, hi⟩ W => Ext W46 W ∧ 0 ≤ lo ∧ lo < hi ∧ hi ≤ 4294967296 ∧ v * lo ≤ R1 ∧ R1 < v * hi) (fun ⟨lo, hi⟩ => (hi - lo).toNat) ((_, _)) ⟨rfl, rfl, rfl, rfl, rfl, rfl, rfl, rfl, rfl, rfl, rfl, rfl, rfl, rfl, rfl, rfl, rfl, rfl, rfl, rfl, rfl, rfl, rfl, rfl, rfl, rfl, rfl, rfl, trivial⟩ ⟨rfl, rfl, trivial⟩ ⟨Ext.refl _, by omega, by omega, by omega, by rw [Int.mul_zero]; exact p1, by first | exact hb0 | (rw [Int.mul_one]; exact dg_len_lt hv0 p1 (by omega))⟩ ?_
        intro i60 E61 W59 h62
        obtain ⟨lo, hi⟩ := i60
        simp only at h62
        show V _ _ _ _ _ _ (ups (ups _ _) [(10, .int .u64 lo), (11, .int .u64 hi)]) _
        obtain ⟨x63, i1, i2, i3, i4, i5⟩ := h62
        have s64 := x63.sz
        have z65 := z52.trans x63
        have z66 := z53.trans x63
        have z67 := x63
        replace hA := hA.ext x63
        refine V.seq ?_
        refine V.seq (V.reg rfl ?_)
        refine mvi rfl ?_
        refine mvi rfl ?_
        refine vv (rbin (bSub (wu (by omega))) rfl rfl) ?_
        refine vgt rfl rfl ?_ ?_
        · intro c68
          refine vnil ?_
          refine V.condT rfl ?_
          refine V.skip ?_
          refine V.block ?_
          refine V.seq (V.reg rfl ?_)
          refine mvi rfl ?_
          refine mvi rfl ?_
          refine vv (rbin (bAdd (wu (by omega))) rfl rfl) ?_
          refine vv (rbin (bQuo (by omega) (wuq (by rw [Int.tdiv_eq_ediv_of_nonneg (by omega)]; omega) (Int.tdiv_eq_ediv_of_nonneg (by omega)))) rfl rfl) ?_
          refine asi rfl ?_
          refine vnil ?_
          refine V.seq (V.reg rfl ?_)
          refine mvs rfl ?_
          refine mvi rfl ?_
          refine vv (rcv Try.underlying122 Try.underlying124 rfl (m32 _)) ?_
          refine vo ?_
          refine xbs (ps := [(0, .int _ _)]) (cs := [.int _ _]) sl39 zr124 sz124 rfl rfl rfl rfl rfl rfl ?_
          intro W69 x70 b71 nn72
          have s73 := x70.sz
          have z74 := z65.trans x70
          have z75 := z66.trans x70
          have z76 := z67.trans x70
          replace hA := hA.ext x70
          have hl77 := RN.lit (k := .u32) (xs := [_]) 1 b71 (by intro q hq; simp only [List.mem_cons, List.not_mem_nil, or_false] at hq; simp only [kb]; omega) (hu2 W59 (by omega) _ (Nat.le_refl _))
          refine vo ?_
          refine xcall e95 (mul_ok _ _ _ _ _ _ _ _ _ _ _ _ (hy.ext z74) hl77 (by omega) (by omega) (hu2 _ (by omega))) rfl rfl ?_
          rintro _ W82 ⟨zs79, ⟨_, _, _, rfl, x83, hw78⟩, hv80, hl81⟩
          have s84 := x83.sz
          have z85 := z74.trans x83
          have z86 := z75.trans x83
          have z87 := z76.trans x83
          replace hA := hA.ext x83
          replace b71 := b71.ext x83
          have hw78l := hw78.len
          refine ⟨_, rfl, ?_⟩
          refine vo ?_
          refine xcall e96 (trim_ok _ _ _ _ _ _ hw78) rfl rfl ?_
          rintro _ _ ⟨m89, rfl, hr88, hm90, rfl⟩
          refine ⟨_, rfl, ?_⟩
          refine mvs rfl ?_
          refine vo ?_
          refine xcall e116 (cmp_ok _ _ _ _ _ _ _ _ _ _ _ hr88 (hr54.ext z87) (vl_nonneg (by decide) hw78.dg32) (p1)) rfl rfl ?_
          rintro _ W94 ⟨s93, rfl, x95, hc92⟩
          have s96 := x95.sz
          have z97 := z85.trans x95
          have z98 := z86.trans x95
          have z99 := z87.trans x95
          replace hA := hA.ext x95
          replace b71 := b71.ext x95
          refine ⟨_, rfl, ?_⟩
          have ez : vl b32 zs79 = v * ((lo + hi) / 2) := by rw [hv80, vl_dg (by decide) hv0]; simp only [vl, Int.mul_zero, Int.add_zero]; rw [Int.emod_eq_of_lt (by omega) (by omega)]
          rw [ez] at hc92
          refine vle rfl rfl ?_ ?_
          · intro c100
            refine vnil ?_
            refine V.condT rfl ?_
            refine V.reg rfl ?_
            refine mvi rfl ?_
            refine asi rfl ?_
            refine vnil ?_
            refine ⟨rfl, (_, _), ⟨rfl, rfl, rfl, rfl, rfl, rfl, rfl, rfl, rfl, rfl, rfl, rfl, rfl, rfl, rfl, rfl, rfl, rfl, rfl, rfl, rfl, rfl, rfl, rfl, rfl, rfl, rfl, rfl, trivial⟩, ⟨rfl, rfl, trivial⟩, ⟨z99, by omega, by omega, by omega, by omega, i5⟩, ?_⟩
            show (hi - (lo + hi) / 2).toNat < (hi - lo).toNat
            omega
          · intro c100
            refine vnil ?_
            refine V.condF rfl ?_
            refine V.reg rfl ?_
            refine mvi rfl ?_
            refine asi rfl ?_
            refine vnil ?_
            refine ⟨rfl, (_, _), ⟨rfl, rfl, rfl, rfl, rfl, rfl, rfl, rfl, rfl, rfl, rfl, rfl, rfl, rfl, rfl, rfl, rfl, rfl, rfl, rfl, rfl, rfl, rfl, rfl, rfl, rfl, rfl, rfl, trivial⟩, ⟨rfl, rfl, trivial⟩, ⟨z99, by omega, by omega, by omega, i4, by omega⟩, ?_⟩
            show ((lo + hi) / 2 - lo).toNat < (hi - lo).toNat
            omega
        · intro c68
          refine vnil ?_
          refine V.condF rfl ?_
          refine V.exit ?_
          refine V.seq (V.reg rfl ?_)
          refine mvs rfl ?_
          refine mvi rfl ?_
          refine mvi rfl ?_
          refine vv (rcv Try.underlying122 Try.underlying124 rfl (m32 _)) ?_
          refine vv (rix sl39 sz124 rfl rfl (by omega) (by omega) rfl) ?_
          refine vo ?_
          refine xsti hA rfl rfl sz124 (by simp only [kb]; omega) (by omega) (by omega) ?_
          intro W101 y102 hA
          have z103 := z65.below (y102.below (by omega))
          have s104 := y102.size
          refine vnil ?_
          refine V.reg rfl ?_
          refine mvs rfl ?_
          refine mvs rfl ?_
          refine mvi rfl ?_
          refine vv (rcv Try.underlying122 Try.underlying124 rfl (m32 _)) ?_
          refine vo ?_
          refine xbs (ps := [(0, .int _ _)]) (cs := [.int _ _]) sl39 zr124 sz124 rfl rfl rfl rfl rfl rfl ?_
          intro W105 x106 b107 nn108
          have s109 := x106.sz
          have z110 := z103.trans x106
          replace hA := hA.ext x106
          have hl111 := RN.lit (k := .u32) (xs := [_]) 1 b107 (by intro q hq; simp only [List.mem_cons, List.not_mem_nil, or_false] at hq; simp only [kb]; omega) (hu2 W101 (by omega) _ (Nat.le_refl _))
          refine vo ?_
          refine xcall e95 (mul_ok _ _ _ _ _ _ _ _ _ _ _ _ (hy.ext z110) hl111 (by omega) (by omega) (hu2 _ (by omega))) rfl rfl ?_
          rintro _ W116 ⟨zs113, ⟨_, _, _, rfl, x117, hw112⟩, hv114, hl115⟩
          have s118 := x117.sz
          have z119 := z110.trans x117
          replace hA := hA.ext x117
          replace b107 := b107.ext x117
          have hw112l := hw112.len
          refine ⟨_, rfl, ?_⟩
          refine vo ?_
          refine xcall e96 (trim_ok _ _ _ _ _ _ hw112) rfl rfl ?_
          rintro _ _ ⟨m121, rfl, hr120, hm122, rfl⟩
          refine ⟨_, rfl, ?_⟩
          have ez : vl b32 zs113 = v * lo := by rw [hv114, vl_dg (by decide) hv0]; simp only [vl, Int.mul_zero, Int.add_zero]; rw [Int.emod_eq_of_lt (by omega) (by omega)]
          have hlm : v * (lo + 1) = v * lo + v := by rw [Int.mul_add, Int.mul_one]
          have h1 : R1 < v * lo + v := by rw [← hlm, show lo + 1 = hi by omega]; exact i5
          have hz0 : 0 ≤ v * lo := Int.mul_nonneg (by omega) i1
          rw [ez] at hr120; have l86 := hr120.len; have l86b := dg_len_mono hz0 i4
          refine vo ?_
          refine xcall e113 (sub_ok _ _ _ _ _ _ _ _ _ _ _ _ ((hr54.ext z67).ck (((y102.ck (by intro hh; simp [SX] at hh <;> omega)).trans (x106.ck _)).trans (x117.ck _))) hr120 (by omega) (by omega) (by rw [vl_dg (by decide) hz0, vl_dg (by decide) p1]; exact i4) (hu2 _ (by omega))) rfl rfl ?_
          rintro _ W128 ⟨zs125, ⟨_, _, _, rfl, x129, hw124⟩, hv126, hl127⟩
          have s130 := x129.sz
          have z131 := z119.trans x129
          replace hA := hA.ext x129
          replace b107 := b107.ext x129
          have hw124l := hw124.len
          refine ⟨_, rfl, ?_⟩
          refine vo ?_
          refine xcall e96 (trim_ok _ _ _ _ _ _ hw124) rfl rfl ?_
          rintro _ _ ⟨m133, rfl, hr132, hm134, rfl⟩
          refine ⟨_, rfl, ?_⟩
          refine ass rfl ?_
          refine vnil ?_
          refine V.reg rfl ?_
          refine vv (rbin (bAdd (wi (by omega))) rfl rfl) ?_
          refine mvi rfl ?_
          refine vnil ?_
          have ez3 : vl b32 zs125 = R1 - v * lo := by rw [hv126, vl_dg (by decide) p1, vl_dg (by decide) hz0]
          rw [ez3] at hr132; have l87 := hr132.len; have l87b := dg_len_mono (u := R1 - v * lo) (v := v) (by omega) (by omega); have elo : lo % 4294967296 = lo := Int.emod_eq_of_lt (by omega) (by omega)
          refine ⟨rfl, (k + 1, _, R1 - v * lo, _, _, _), ⟨rfl, rfl, rfl, rfl, trivial⟩, ⟨rfl, rfl, trivial⟩, ⟨z131, by omega, hA, by omega, by omega, hr132, by omega, by rw [elo, eR1]; exact long_step (by omega) lA l1 hq36 hz hinv, fun j hj => (wd_set_ne (by omega)).trans (hz j (by omega))⟩, ?_⟩
          show n - (k + 1) < n - k
          omega
      · intro c58
        refine vnil ?_
        refine V.condF rfl ?_
        refine V.skip ?_
        refine V.seq ?_
        refine V.block ?_
        refine V.loopK (ι := Int × Int) [(0, .slice _ _ _), (1, .slice _ _ _), (4, .slice _ _ _), (5, .slice _ _ _), (8, .int _ _), (9, .int _ _), (34, .int _ _), (35, .int _ _), (36, .bool true), (37, .int _ _), (38, .slice _ _ _), (39, .int _ _), (40, .int _ _), (41, .int _ _), (42, .int _ _), (43, .slice _ _ _), (44, .int _ _), (45, .pointer _), (46, .int _ _), (47, .slice _ _ _), (48, .slice _ _ _), (49, .slice _ _ _), (50, .slice _ _ _), (51, .slice _ _ _), (52, .int _ _), (53, .slice _ _ _), (54, .int _ _), (55, .bool false)] (fun ⟨lo, hi⟩ => [(10, .int .u64 lo), (11, .int .u64 hi)]) (fun ⟨lo, hi⟩ W => Ext W46 W ∧ 0 ≤ lo ∧ lo < hi ∧ hi ≤ 4294967296 ∧ v * lo ≤ R1 ∧ R1 < v * hi) (fun ⟨lo, hi⟩ => (hi - lo).toNat) ((_, _)) ⟨rfl, rfl, rfl, rfl, rfl, rfl, rfl, rfl, rfl, rfl, rfl, rfl, rfl, rfl, rfl, rfl, rfl, rfl, rfl, rfl, rfl, rfl, rfl, rfl, rfl, rfl, rfl, rfl, trivial⟩ ⟨rfl, rfl, trivial⟩ ⟨Ext.refl _, by omega, by omega, by omega, by rw [Int.mul_zero]; exact p1, by first | exact hb0 | (rw [Int.mul_one]; exact dg_len_lt hv0 p1 (by omega))⟩ ?_
        intro i137 E138 W136 h139
        obtain ⟨lo, hi⟩ := i137
        simp only at h139
        show V _ _ _ _ _ _ (ups (ups _ _) [(10, .int .u64 lo), (11, .int .u64 hi)]) _
        obtain ⟨x140, i1, i2, i3, i4, i5⟩ := h139
        have s141 := x140.sz
        have z142 := z52.trans x140
        have z143 := z53.trans x140
        have z144 := x140
        replace hA := hA.ext x140
        refine V.seq ?_
        refine V.seq (V.reg rfl ?_)
        refine mvi rfl ?_
        refine mvi rfl ?_
        refine vv (rbin (bSub (wu (by omega))) rfl rfl) ?_
        refine vgt rfl rfl ?_ ?_
        · intro c145
          refine vnil ?_
          refine V.condT rfl ?_
          refine V.skip ?_
          refine V.block ?_
          refine V.seq (V.reg rfl ?_)
          refine mvi rfl ?_
          refine mvi rfl ?_
          refine vv (rbin (bAdd (wu (by omega))) rfl rfl) ?_
          refine vv (rbin (bQuo (by omega) (wuq (by rw [Int.tdiv_eq_ediv_of_nonneg (by omega)]; omega) (Int.tdiv_eq_ediv_of_nonneg (by omega)))) rfl rfl) ?_
          refine asi rfl ?_
          refine vnil ?_
          refine V.seq (V.reg rfl ?_)
          refine mvs rfl ?_
          refine mvi rfl ?_
          refine vv (rcv Try.underlying122 Try.underlying124 rfl (m32 _)) ?_
          refine vo ?_
          refine xbs (ps := [(0, .int _ _)]) (cs := [.int _ _]) sl39 zr124 sz124 rfl rfl rfl rfl rfl rfl ?_
          intro W146 x147 b148 nn149
          have s150 := x147.sz
          have z151 := z142.trans x147
          have z152 := z143.trans x147
          have z153 := z144.trans x147
          replace hA := hA.ext x147
          have hl154 := RN.lit (k := .u32) (xs := [_]) 1 b148 (by intro q hq; simp only [List.mem_cons, List.not_mem_nil, or_false] at hq; simp only [kb]; omega) (hu2 W136 (by omega) _ (Nat.le_refl _))
          refine vo ?_
          refine xcall e95 (mul_ok _ _ _ _ _ _ _ _ _ _ _ _ (hy.ext z151) hl154 (by omega) (by omega) (hu2 _ (by omega))) rfl rfl ?_
          rintro _ W159 ⟨zs156, ⟨_, _, _, rfl, x160, hw155⟩, hv157, hl158⟩
          have s161 := x160.sz
          have z162 := z151.trans x160
          have z163 := z152.trans x160
          have z164 := z153.trans x160
          replace hA := hA.ext x160
          replace b148 := b148.ext x160
          have hw155l := hw155.len
          refine ⟨_, rfl, ?_⟩
          refine vo ?_
          refine xcall e96 (trim_ok _ _ _ _ _ _ hw155) rfl rfl ?_
          rintro _ _ ⟨m166, rfl, hr165, hm167, rfl⟩
          refine ⟨_, rfl, ?_⟩
          refine mvs rfl ?_
          refine vo ?_
          refine xcall e116 (cmp_ok _ _ _ _ _ _ _ _ _ _ _ hr165 (hr54.ext z164) (vl_nonneg (by decide) hw155.dg32) (p1)) rfl rfl ?_
          rintro _ W171 ⟨s170, rfl, x172, hc169⟩
          have s173 := x172.sz
          have z174 := z162.trans x172
          have z175 := z163.trans x172
          have z176 := z164.trans x172
          replace hA := hA.ext x172
          replace b148 := b148.ext x172
          refine ⟨_, rfl, ?_⟩
          have ez : vl b32 zs156 = v * ((lo + hi) / 2) := by rw [hv157, vl_dg (by decide) hv0]; simp only [vl, Int.mul_zero, Int.add_zero]; rw [Int.emod_eq_of_lt (by omega) (by omega)]
          rw [ez] at hc169
          refine vle rfl rfl ?_ ?_
          · intro c177
            refine vnil ?_
            refine V.condT rfl ?_
            refine V.reg rfl ?_
            refine mvi rfl ?_
            refine asi rfl ?_
            refine vnil ?_
            refine ⟨rfl, (_, _), ⟨rfl, rfl, rfl, rfl, rfl, rfl, rfl, rfl, rfl, rfl, rfl, rfl, rfl, rfl, rfl, rfl, rfl, rfl, rfl, rfl, rfl, rfl, rfl, rfl, rfl, rfl, rfl, rfl, trivial⟩, ⟨rfl, rfl, trivial⟩, ⟨z176, by omega, by omega, by omega, by omega, i5⟩, ?_⟩
            show (hi - (lo + hi) / 2).toNat < (hi - lo).toNat
            omega
          · intro c177
            refine vnil ?_
            refine V.condF rfl ?_
            refine V.reg rfl ?_
            refine mvi rfl ?_
            refine asi rfl ?_
            refine vnil ?_
            refine ⟨rfl, (_, _), ⟨rfl, rfl, rfl, rfl, rfl, rfl, rfl, rfl, rfl, rfl, rfl, rfl, rfl, rfl, rfl, rfl, rfl, rfl, rfl, rfl, rfl, rfl, rfl, rfl, rfl, rfl, rfl, rfl, trivial⟩, ⟨rfl, rfl, trivial⟩, ⟨z176, by omega, by omega, by omega, i4, by omega⟩, ?_⟩
            show ((lo + hi) / 2 - lo).toNat < (hi - lo).toNat
            omega
        · intro c145
          refine vnil ?_
          refine V.condF rfl ?_
          refine V.exit ?_
          refine V.seq (V.reg rfl ?_)
          refine mvs rfl ?_
          refine mvi rfl ?_
          refine mvi rfl ?_
          refine vv (rcv Try.underlying122 Try.underlying124 rfl (m32 _)) ?_
          refine vv (rix sl39 sz124 rfl rfl (by omega) (by omega) rfl) ?_
          refine vo ?_
          refine xsti hA rfl rfl sz124 (by simp only [kb]; omega) (by omega) (by omega) ?_
          intro W178 y179 hA
          have z180 := z142.below (y179.below (by omega))
          have s181 := y179.size
          refine vnil ?_
          refine V.reg rfl ?_
          refine mvs rfl ?_
          refine mvs rfl ?_
          refine mvi rfl ?_
          refine vv (rcv Try.underlying122 Try.underlying124 rfl (m32 _)) ?_
          refine vo ?_
          refine xbs (ps := [(0, .int _ _)]) (cs := [.int _ _]) sl39 zr124 sz124 rfl rfl rfl rfl rfl rfl ?_
          intro W182 x183 b184 nn185
          have s186 := x183.sz
          have z187 := z180.trans x183
          replace hA := hA.ext x183
          have hl188 := RN.lit (k := .u32) (xs := [_]) 1 b184 (by intro q hq; simp only [List.mem_cons, List.not_mem_nil, or_false] at hq; simp only [kb]; omega) (hu2 W178 (by omega) _ (Nat.le_refl _))
          refine vo ?_
          refine xcall e95 (mul_ok _ _ _ _ _ _ _ _ _ _ _ _ (hy.ext z187) hl188 (by omega) (by omega) (hu2 _ (by omega))) rfl rfl ?_
          rintro _ W193 ⟨zs190, ⟨_, _, _, rfl, x194, hw189⟩, hv191, hl192⟩
          have s195 := x194.sz
          have z196 := z187.trans x194
          replace hA := hA.ext x194
          replace b184 := b184.ext x194
          have hw189l := hw189.len
          refine ⟨_, rfl, ?_⟩
          refine vo ?_
          refine xcall e96 (trim_ok _ _ _ _ _ _ hw189) rfl rfl ?_
          rintro _ _ ⟨m198, rfl, hr197, hm199, rfl⟩
          refine ⟨_, rfl, ?_⟩
          have ez : vl b32 zs190 = v * lo := by rw [hv191, vl_dg (by decide) hv0]; simp only [vl, Int.mul_zero, Int.add_zero]; rw [Int.emod_eq_of_lt (by omega) (by omega)]
          have hlm : v * (lo + 1) = v * lo + v := by rw [Int.mul_add, Int.mul_one]
          have h1 : R1 < v * lo + v := by rw [← hlm, show lo + 1 = hi by omega]; exact i5
          have hz0 : 0 ≤ v * lo := Int.mul_nonneg (by omega) i1
          rw [ez] at hr197; have l86 := hr197.len; have l86b := dg_len_mono hz0 i4
          refine vo ?_
          refine xcall e113 (sub_ok _ _ _ _ _ _ _ _ _ _ _ _ ((hr54.ext z144).ck (((y179.ck (by intro hh; simp [SX] at hh <;> omega)).trans (x183.ck _)).trans (x194.ck _))) hr197 (by omega) (by omega) (by rw [vl_dg (by decide) hz0, vl_dg (by decide) p1]; exact i4) (hu2 _ (by omega))) rfl rfl ?_
          rintro _ W205 ⟨zs202, ⟨_, _, _, rfl, x206, hw201⟩, hv203, hl204⟩
          have s207 := x206.sz
          have z208 := z196.trans x206
          replace hA := hA.ext x206
          replace b184 := b184.ext x206
          have hw201l := hw201.len
          refine ⟨_, rfl, ?_⟩
          refine vo ?_
          refine xcall e96 (trim_ok _ _ _ _ _ _ hw201) rfl rfl ?_
          rintro _ _ ⟨m210, rfl, hr209, hm211, rfl⟩
          refine ⟨_, rfl, ?_⟩
          refine ass rfl ?_
          refine vnil ?_
          refine V.reg rfl ?_
          refine vv (rbin (bAdd (wi (by omega))) rfl rfl) ?_
          refine mvi rfl ?_
          refine vnil ?_
          have ez3 : vl b32 zs202 = R1 - v * lo := by rw [hv203, vl_dg (by decide) p1, vl_dg (by decide) hz0]
          rw [ez3] at hr209; have l87 := hr209.len; have l87b := dg_len_mono (u := R1 - v * lo) (v := v) (by omega) (by omega); have elo : lo % 4294967296 = lo := Int.emod_eq_of_lt (by omega) (by omega)
          refine ⟨rfl, (k + 1, _, R1 - v * lo, _, _, _), ⟨rfl, rfl, rfl, rfl, trivial⟩, ⟨rfl, rfl, trivial⟩, ⟨z208, by omega, hA, by omega, by omega, hr209, by omega, by rw [elo, eR1]; exact long_step (by omega) lA l1 hq36 hz hinv, fun j hj => (wd_set_ne (by omega)).trans (hz j (by omega))⟩, ?_⟩
          show n - (k + 1) < n - k
          omega
    · intro c35
      refine vnil ?_
      refine V.seq ?_
      refine V.condF rfl ?_
      refine V.exit ?_
      refine V.seq (V.reg rfl ?_)
      refine mvs rfl ?_
      have ha213 := hA.rn (S := S) (hu _ (by omega))
      refine vo ?_
      refine xcall e96 (trim_ok _ _ _ _ _ _ ha213) rfl rfl ?_
      rintro _ _ ⟨m215, rfl, hr214, hm216, rfl⟩
      refine ⟨_, rfl, ?_⟩
      refine mvs rfl ?_
      refine ass rfl ?_
      refine ass rfl ?_
      refine vnil ?_
      refine V.ret ?_
      refine ⟨[.slice _ _ _, .slice _ _ _], ⟨rfl, rfl, trivial⟩, ?_⟩
      have hq := divmod_of (u := u) (v := v) (by simpa [show n - k = 0 by omega, vl] using hinv) r0 r1
      exact ⟨_, _, _, _, _, _, rfl, z33, hq.1 ▸ hr214, hq.2 ▸ (hR).un⟩
end Go.Proofs.Ytknbjfefeeojlaa

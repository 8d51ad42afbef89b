/- Digits in base 65536: plain mathematics. -/
import Derived.Test.YtknbjfefeeojlaaMf
namespace Go.Proofs.Ytknbjfefeeojlaa
abbrev b16 : Int := 65536
/-- Any block. -/
def TT (_ : Nat) : Prop := True
theorem TT.up (w : Go.World) : Up TT w := fun _ _ => trivial
/-- Each word in two halves. -/
def h2 (xs : List Int) : List Int := xs.flatMap fun x => [x % 65536, x / 65536]
theorem h2_cons (x : Int) (xs : List Int) : h2 (x :: xs) = x % 65536 :: x / 65536 :: h2 xs := by simp [h2]
theorem h2_snoc (xs : List Int) (x : Int) : h2 (xs ++ [x]) = h2 xs ++ [x % 65536, x / 65536] := by simp [h2]
theorem h2_len (xs : List Int) : (h2 xs).length = 2 * xs.length := by
  induction xs with
  | nil => rfl
  | cons x xs ih => rw [h2_cons]; simp only [List.length_cons, ih]; omega
theorem h2_vl (xs : List Int) : vl b16 (h2 xs) = vl b32 xs := by
  induction xs with
  | nil => rfl
  | cons x xs ih =>
    rw [h2_cons]
    simp only [vl, ih]
    unfold b16 b32
    omega
theorem h2_dg {xs : List Int} (h : Dg b32 xs) : Dg b16 (h2 xs) := by
  induction xs with
  | nil => exact Dg.nil _
  | cons x xs ih =>
    obtain ⟨h1, h3⟩ := Dg.cons.1 h
    rw [h2_cons]
    unfold b32 at h1
    exact Dg.cons.2 ⟨by unfold b16; omega, Dg.cons.2 ⟨by unfold b16; omega, ih h3⟩⟩
theorem h2_tr {xs : List Int} (h : Dg b32 xs) : tr (h2 xs) = dg b16 (vl b32 xs) := by rw [← h2_vl, dg_vl (by decide) (h2_dg h)]
/-- Two halves to a word. -/
def p2 : List Int → List Int
  | [] => []
  | [a] => [a]
  | a :: b :: l => (a + b * 65536) :: p2 l
theorem p2_vl : ∀ (l : List Int), vl b32 (p2 l) = vl b16 l
  | [] => rfl
  | [a] => by simp [p2, vl]
  | a :: b :: l => by
    simp only [p2, vl, p2_vl l]
    unfold b16 b32
    omega
theorem p2_dg : ∀ {l : List Int}, Dg b16 l → Dg b32 (p2 l)
  | [], _ => Dg.nil _
  | [a], h => by
    have := (Dg.cons.1 h).1
    unfold b16 at this
    exact Dg.cons.2 ⟨by unfold b32; omega, Dg.nil _⟩
  | a :: b :: l, h => by
    have h1 := Dg.cons.1 h
    have h3 := Dg.cons.1 h1.2
    have e1 := h1.1
    have e2 := h3.1
    unfold b16 at e1 e2
    exact Dg.cons.2 ⟨by unfold b32; omega, p2_dg h3.2⟩
theorem last_of_tr {l : List Int} (h : tr l = l) : ∀ y, l.getLast? = some y → y ≠ 0 := by
  rcases List.eq_nil_or_concat l with rfl | ⟨ys, z, rfl⟩
  · intro y hy; simp at hy
  · intro y hy h0
    rw [List.concat_eq_append] at hy h
    simp at hy
    subst hy h0
    rw [tr_snoc_zero] at h
    have := tr_length_le ys
    rw [h] at this
    simp at this
    omega
theorem p2_ne : ∀ {l : List Int}, l ≠ [] → p2 l ≠ []
  | [], h => absurd rfl h
  | [_], _ => by simp [p2]
  | _ :: _ :: _, _ => by simp [p2]
theorem p2_last : ∀ {l : List Int}, Dg b16 l → (∀ y, l.getLast? = some y → y ≠ 0) → ∀ y, (p2 l).getLast? = some y → y ≠ 0
  | [], _, _ => by simp [p2]
  | [a], _, h => by intro y hy; exact h y (by simpa [p2] using hy)
  | [a, b], hd, h => by
    intro y hy
    have h1 := Dg.cons.1 hd
    have h3 := Dg.cons.1 h1.2
    have e1 := h1.1
    have e2 := h3.1
    unfold b16 at e1 e2
    have := h b (by simp)
    simp [p2] at hy
    omega
  | a :: b :: c :: l, hd, h => by
    intro y hy
    have h1 := Dg.cons.1 hd
    have h3 := Dg.cons.1 h1.2
    refine p2_last (l := c :: l) h3.2 (fun z hz => h z (by simpa [List.getLast?_cons_cons] using hz)) y ?_
    have hn := p2_ne (l := c :: l) (by simp)
    simp only [p2] at hy
    obtain ⟨u, us, e⟩ := List.exists_cons_of_ne_nil hn
    rw [e] at hy ⊢
    rwa [List.getLast?_cons_cons] at hy
theorem p2_tr {l : List Int} (hd : Dg b16 l) (h : tr l = l) : p2 l = dg b32 (vl b16 l) := by
  rw [← p2_vl, dg_vl (by decide) (p2_dg hd)]
  exact (tr_eq_self_of_last (p2_last hd (last_of_tr h))).symm
theorem p2_step : ∀ (k : Nat) (l : List Int), 2 * k < l.length → p2 (l.take (2 * (k + 1))) = p2 (l.take (2 * k)) ++ [(l[2 * k]?).getD 0 + (l[2 * k + 1]?).getD 0 * 65536]
  | 0, [], h => by simp at h
  | 0, [a], _ => by simp [p2]
  | 0, a :: b :: l, _ => by simp [p2]
  | k + 1, [], h => by simp at h
  | k + 1, [a], h => by simp at h
  | k + 1, a :: b :: l, h => by
    have ih := p2_step k l (by simp at h; omega)
    rw [show 2 * (k + 1 + 1) = 2 * (k + 1) + 1 + 1 by omega, show 2 * (k + 1) = 2 * k + 1 + 1 by omega]
    simp only [List.take_succ_cons, p2, List.cons_append]
    rw [show 2 * k + 1 + 1 = 2 * (k + 1) by omega, ih]
    have e1 : (a :: b :: l)[2 * (k + 1)]? = l[2 * k]? := by rw [show 2 * (k + 1) = 2 * k + 1 + 1 by omega]; simp
    have e2 : (a :: b :: l)[2 * (k + 1) + 1]? = l[2 * k + 1]? := by rw [show 2 * (k + 1) + 1 = 2 * k + 1 + 1 + 1 by omega]; simp
    rw [e1, e2]
theorem p2_wd (k : Nat) (l : List Int) (h : 2 * k < l.length) : p2 (l.take (2 * (k + 1))) = p2 (l.take (2 * k)) ++ [wd l (2 * (k : Int)) + wd l (2 * (k : Int) + 1) * 65536] := by
  rw [p2_step k l h]
  unfold wd
  rw [List.getD_eq_getElem?_getD, List.getD_eq_getElem?_getD, show (2 * (k : Int)).toNat = 2 * k by omega, show (2 * (k : Int) + 1).toNat = 2 * k + 1 by omega]
theorem vl16_abs (neg : Bool) (l : List Int) : (if neg then -(vl b16 (tr l)) else vl b16 (tr l)) = if neg then -(vl b16 l) else vl b16 l := by rw [vl_tr]
theorem p2_le : ∀ (l : List Int), (p2 l).length ≤ l.length
  | [] => Nat.le_refl _
  | [_] => Nat.le_refl _
  | _ :: _ :: l => by have := p2_le l; simp only [p2, List.length_cons]; omega
theorem p2_len (k : Nat) (l : List Int) : (p2 (l.take (2 * k))).length ≤ 2 * k := by
  have := p2_le (l.take (2 * k)); rw [List.length_take] at this; omega
theorem wd_dg {B : Int} {xs : List Int} (hB : 0 < B) (h : Dg B xs) (i : Int) : 0 ≤ wd xs i ∧ wd xs i < B := by
  unfold wd
  rw [List.getD_eq_getElem?_getD]
  cases hq : xs[i.toNat]? with
  | none => exact ⟨Int.le_refl _, hB⟩
  | some x => exact h x (List.mem_of_getElem? hq)
theorem w32q {z u : Int} (h : 0 ≤ z ∧ z ≤ 4294967295) (e : z = u) : IntKind.u32.wrap z = u := by rw [w32 h, e]
theorem h2_wd (k : Nat) (xs : List Int) (h : k < xs.length) : h2 (xs.take (k + 1)) = h2 (xs.take k) ++ [wd xs k % 65536, wd xs k / 65536] := by rw [take_succ_wd xs k h, h2_snoc]
end Go.Proofs.Ytknbjfefeeojlaa

/- Matrices as lists: plain mathematics for the laws of layer 4. -/
import Derived.Test.YtknbjfefeeojlaaMf
namespace Go.Proofs.Ytknbjfefeeojlaa
/-- f 0 + .. + f (k - 1). -/
def sumk (f : Nat → Rat) : Nat → Rat
  | 0 => 0
  | k + 1 => sumk f k + f k
theorem sumk_ext {f g : Nat → Rat} : ∀ {k : Nat}, (∀ i, i < k → f i = g i) → sumk f k = sumk g k
  | 0, _ => rfl
  | k + 1, h => by simp only [sumk]; rw [sumk_ext fun i hi => h i (by omega), h k (by omega)]
theorem sumk_zero {f : Nat → Rat} : ∀ {k : Nat}, (∀ i, i < k → f i = 0) → sumk f k = 0
  | 0, _ => rfl
  | k + 1, h => by simp only [sumk]; rw [sumk_zero fun i hi => h i (by omega), h k (by omega), Rat.zero_add]
theorem sumk_le {f : Nat → Rat} {k : Nat} : ∀ {m : Nat}, k ≤ m → (∀ i, k ≤ i → i < m → f i = 0) → sumk f m = sumk f k
  | 0, h, _ => by obtain rfl : k = 0 := by omega
                  rfl
  | m + 1, h, hz => by
    rcases Nat.lt_or_ge m k with h1 | h1
    · obtain rfl : k = m + 1 := by omega
      rfl
    · simp only [sumk]
      rw [sumk_le h1 fun i h2 h3 => hz i h2 (by omega), hz m h1 (by omega), Rat.add_zero]
theorem sumk_one {f : Nat → Rat} {j : Nat} : ∀ {k : Nat}, j < k → (∀ i, i ≠ j → f i = 0) → sumk f k = f j
  | 0, h, _ => by omega
  | k + 1, h, hz => by
    simp only [sumk]
    by_cases e : k = j
    · subst e; rw [sumk_zero fun i hi => hz i (by omega), Rat.zero_add]
    · rw [sumk_one (by omega) hz, hz k e, Rat.add_zero]
theorem vat_ge {rs : List Rat} {i : Nat} (h : rs.length ≤ i) : vat rs i = 0 := by unfold vat; rw [List.getD_eq_getElem?_getD, List.getElem?_eq_none h]; rfl
theorem vat_lt {rs : List Rat} {i : Nat} (h : i < rs.length) : vat rs i = rs[i] := by unfold vat; rw [List.getD_eq_getElem?_getD, List.getElem?_eq_getElem h]; rfl
theorem dotk_sum (xs ys : List Rat) : ∀ k, dotk xs ys k = sumk (fun i => vat xs i * vat ys i) k
  | 0 => rfl
  | k + 1 => by simp only [dotk, sumk, dotk_sum xs ys k]
theorem dotv_sum (xs ys : List Rat) {m : Nat} (h : min xs.length ys.length ≤ m) : dotv xs ys = sumk (fun i => vat xs i * vat ys i) m := by
  have hz : ∀ i, min xs.length ys.length ≤ i → vat xs i * vat ys i = 0 := fun i hi => by
    rcases Nat.lt_or_ge i xs.length with h1 | h1
    · rw [vat_ge (rs := ys) (by omega), Rat.mul_zero]
    · rw [vat_ge (rs := xs) (by omega), Rat.zero_mul]
  unfold dotv
  rw [dotk_sum, sumk_le (show min xs.length ys.length ≤ max xs.length ys.length by omega) fun i h1 _ => hz i h1, sumk_le h fun i h1 _ => hz i h1]
theorem vat_rep (N : Nat) (j : Nat) : vat (List.replicate N 0) j = 0 := by
  rcases Nat.lt_or_ge j N with h | h
  · rw [vat_lt (by simpa using h)]; simp
  · exact vat_ge (by simpa using h)
theorem vat_zipf (gf : Rat → Rat → Rat) (xs ys : List Rat) {k i : Nat} (h : i < k) : vat (zipf gf xs ys k) i = gf (vat xs i) (vat ys i) := by
  rw [vat_lt (by rw [zipf_len]; exact h)]; simp [zipf]
theorem vmk_at {ys : List Rat} {rss : List (List Rat)} {N : Nat} (hr : ∀ r ∈ rss, r.length ≤ N) (j : Nat) : ∀ k, vat (vmk ys rss N k) j = sumk (fun i => vat ys i * mat rss i j) k
  | 0 => vat_rep N j
  | k + 1 => by
    have ih := vmk_at (ys := ys) hr j k
    have hl := row_le hr k
    have hv := vmk_len (ys := ys) hr k
    simp only [sumk, vmk]
    split
    · rename_i hk
      by_cases hj : j < N
      · rw [vat_zipf _ _ _ (by omega), ih, Rat.add_comm]; rfl
      · rw [vat_ge (by rw [zipf_len]; omega), ← ih, vat_ge (rs := vmk ys rss N k) (by omega), show mat rss k j = 0 from vat_ge (by omega), Rat.mul_zero, Rat.add_zero]
    · rw [ih, vat_ge (rs := ys) (by omega), Rat.zero_mul, Rat.add_zero]
theorem mat_mulm (a b : List (List Rat)) (i j : Nat) : mat (mulm a b) i j = sumk (fun t => mat a i t * mat b t j) b.length := by
  by_cases hi : i < a.length
  · have : rowat (mulm a b) i = vmk (rowat a i) b (colsN b) b.length := by
      unfold rowat mulm; rw [List.getD_eq_getElem?_getD, List.getD_eq_getElem?_getD, List.getElem?_map, List.getElem?_eq_getElem hi]; rfl
    unfold mat
    rw [this, vmk_at cols_ge]; rfl
  · rw [mat_ge1 (by simp [mulm]; omega)]
    exact (sumk_zero fun t _ => by rw [mat_ge1 (rss := a) (by omega), Rat.zero_mul]).symm
theorem vat_mulv (a : List (List Rat)) (x : List Rat) (i : Nat) : vat (mulv a x) i = dotv (rowat a i) x := by
  by_cases hi : i < a.length
  · rw [vat_lt (by simpa [mulv] using hi)]
    simp [mulv, rowat, hi]
  · rw [vat_ge (by simp [mulv]; omega), dotv_sum (m := 0) _ _ (by unfold rowat; rw [List.getD_eq_getElem?_getD, List.getElem?_eq_none (by omega)]; simp)]; rfl
theorem mat_gridm (f : Int → Int → Rat) (R C i j : Nat) : mat (gridm f R C) i j = if i < R ∧ j < C then f i j else 0 := by
  by_cases hi : i < R
  · have : rowat (gridm f R C) i = (List.range C).map fun j : Nat => f (i : Int) (j : Int) := by
      unfold rowat gridm; rw [List.getD_eq_getElem?_getD, List.getElem?_map, List.getElem?_range hi]; rfl
    unfold mat
    rw [this]
    by_cases hj : j < C
    · rw [if_pos ⟨hi, hj⟩, vat_lt (by simpa using hj)]; simp
    · rw [if_neg (by omega), vat_ge (by simp; omega)]
  · rw [if_neg (by omega), mat_ge1 (by simp [gridm]; omega)]
theorem colsN_le {rss : List (List Rat)} {N : Nat} (h : ∀ r ∈ rss, r.length ≤ N) : colsN rss ≤ N := by
  have key : ∀ (l : List (List Rat)) (m : Nat), m ≤ N → (∀ r ∈ l, r.length ≤ N) → l.foldl (fun m r => max m r.length) m ≤ N := by
    intro l
    induction l with
    | nil => intro m hm _; exact hm
    | cons x l ih => intro m hm h; exact ih _ (by have := h x (by simp); show max m x.length ≤ N; omega) fun r hr => h r (by simp [hr])
  exact key rss 0 (Nat.zero_le _) h
theorem colsN_gridm (f : Int → Int → Rat) (R C : Nat) : colsN (gridm f R C) = C * min R 1 := by
  rcases Nat.eq_zero_or_pos R with rfl | h
  · simp [gridm, colsN]
  · have h1 : colsN (gridm f R C) ≤ C := colsN_le fun r hr => by
      obtain ⟨i, _, rfl⟩ := List.mem_map.1 hr; simp
    have h2 := cols_ge (rss := gridm f R C) ((List.range C).map fun j : Nat => f ((0 : Nat) : Int) (j : Int)) (List.mem_map.2 ⟨0, by simpa using h, rfl⟩)
    simp at h2
    rw [show min R 1 = 1 by omega]; omega
theorem matI_nat (rss : List (List Rat)) (i j : Nat) : matI rss i j = mat rss i j := by unfold matI; rw [if_pos (by omega)]; rfl
theorem vat_unitv (N k j : Nat) : vat (unitv N k) j = if j = k ∧ k < N then 1 else 0 := by
  unfold unitv
  by_cases h : k < N
  · rw [if_pos (by omega)]
    by_cases hj : j = k
    · subst hj; rw [if_pos ⟨rfl, h⟩, vat_lt (by simpa using h)]; simp
    · rw [if_neg (by omega)]
      unfold vat
      rw [List.getD_eq_getElem?_getD, Int.toNat_natCast, List.getElem?_set_ne (by omega), ← List.getD_eq_getElem?_getD]
      exact vat_rep N j
  · rw [if_neg (by omega), if_neg (by omega)]; exact vat_rep N j
theorem unitv_len (N : Nat) (k : Int) : (unitv N k).length = N := by unfold unitv; split <;> simp
theorem dotv_unit (r : List Rat) {N k : Nat} (h : k < N) (hr : r.length ≤ N) : dotv r (unitv N k) = vat r k := by
  rw [dotv_sum r _ (m := N) (by omega), sumk_one h fun i hi => by rw [vat_unitv, if_neg (by omega), Rat.mul_zero]]
  rw [vat_unitv, if_pos ⟨rfl, h⟩, Rat.mul_one]
/-! ### The law of columns -/
theorem col_prod (a : List (List Rat)) (x : List Rat) (i j : Nat) : vat (rowat (mulm a (x.map fun r => [r])) i) j = vat [vat (mulv a x) i] j := by
  show mat (mulm a (x.map fun r => [r])) i j = _
  have hm : ∀ t, mat (x.map fun r => [r]) t j = if j = 0 then vat x t else 0 := fun t => by
    by_cases ht : t < x.length
    · have : rowat (x.map fun r => [r]) t = [vat x t] := by unfold rowat; rw [List.getD_eq_getElem?_getD, List.getElem?_map, List.getElem?_eq_getElem ht, vat_lt ht]; rfl
      unfold mat
      rw [this]
      cases j <;> simp [vat]
    · rw [mat_ge1 (by simpa using ht), vat_ge (rs := x) (by omega)]; simp
  rw [mat_mulm, vat_mulv]
  cases j with
  | zero =>
    rw [show vat [dotv (rowat a i) x] 0 = dotv (rowat a i) x from rfl, dotv_sum _ _ (m := x.length) (by omega), List.length_map]
    exact sumk_ext fun t _ => by rw [hm, if_pos rfl]; rfl
  | succ j =>
    rw [show vat [dotv (rowat a i) x] (j + 1) = 0 from vat_ge (by simp)]
    exact sumk_zero fun t _ => by rw [hm, if_neg (by omega), Rat.mul_zero]
theorem col_unit (a : List (List Rat)) {k : Nat} (i : Nat) (h : k < colsN a) : vat (mulv a (unitv (colsN a) k)) i = matI a i k := by
  rw [vat_mulv, matI_nat, dotv_unit _ h (row_le cols_ge i)]; rfl
theorem cat_left (a b : List (List Rat)) (R : Nat) (hR : R = max a.length b.length) (i j : Nat) :
    mat (gridm (matI (gridm (catI a b (colsN a)) R (colsN a + colsN b))) R (colsN a)) i j = mat a i j := by
  rw [mat_gridm]
  split
  · rename_i h
    rw [matI_nat, mat_gridm, if_pos (by omega), catI, if_pos (by omega), matI_nat]
  · rename_i h
    by_cases hi : i < a.length
    · exact (mat_ge2 (by have := row_le (cols_ge (rss := a)) i; omega)).symm
    · exact (mat_ge1 (by omega)).symm
end Go.Proofs.Ytknbjfefeeojlaa

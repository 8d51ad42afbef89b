/- Numbers as lists of digits: plain mathematics. -/
namespace Go.Proofs.Ytknbjfefeeojlaa

/-- The value of a list of digits, least significant first. -/
def vl (B : Int) : List Int → Int
  | [] => 0
  | x :: xs => x + B * vl B xs
/-- Each is a digit. -/
def Dg (B : Int) (xs : List Int) : Prop := ∀ x ∈ xs, 0 ≤ x ∧ x < B
/-- Without zero digits at the end. -/
def tr : List Int → List Int
  | [] => []
  | x :: xs => match tr xs with
    | [] => if x = 0 then [] else [x]
    | y :: ys => x :: y :: ys
/-- The digits of a number. -/
def dgN (b : Nat) (v : Nat) : List Int := if h : 0 < v ∧ 2 ≤ b then ((v % b : Nat) : Int) :: dgN b (v / b) else []
termination_by v
decreasing_by exact Nat.div_lt_self h.1 h.2
def dg (B v : Int) : List Int := dgN B.toNat v.toNat

theorem vl_nil (B : Int) : vl B [] = 0 := rfl
theorem vl_cons (B x : Int) (xs : List Int) : vl B (x :: xs) = x + B * vl B xs := rfl
theorem Dg.nil (B : Int) : Dg B [] := by simp [Dg]
theorem Dg.cons {B x : Int} {xs : List Int} : Dg B (x :: xs) ↔ (0 ≤ x ∧ x < B) ∧ Dg B xs := by simp [Dg]
theorem Dg.append {B : Int} {xs ys : List Int} : Dg B (xs ++ ys) ↔ Dg B xs ∧ Dg B ys := by
  simp only [Dg, List.mem_append]
  constructor
  · exact fun h => ⟨fun x hx => h x (.inl hx), fun x hx => h x (.inr hx)⟩
  · rintro ⟨h1, h2⟩ x (h | h)
    · exact h1 x h
    · exact h2 x h
theorem Dg.take {B : Int} {xs : List Int} (h : Dg B xs) (k : Nat) : Dg B (xs.take k) := fun x hx => h x (List.mem_of_mem_take hx)
theorem Dg.drop {B : Int} {xs : List Int} (h : Dg B xs) (k : Nat) : Dg B (xs.drop k) := fun x hx => h x (List.mem_of_mem_drop hx)
theorem vl_append (B : Int) (xs ys : List Int) : vl B (xs ++ ys) = vl B xs + B ^ xs.length * vl B ys := by
  induction xs with
  | nil => simp [vl]
  | cons x xs ih => simp only [List.cons_append, vl, ih, List.length_cons, Int.pow_succ]; rw [Int.mul_add]; rw [← Int.mul_assoc, Int.mul_comm B (B ^ xs.length)]; omega
theorem vl_snoc (B : Int) (xs : List Int) (y : Int) : vl B (xs ++ [y]) = vl B xs + B ^ xs.length * y := by rw [vl_append]; simp [vl]
theorem pow_pos' {B : Int} (hB : 0 < B) (n : Nat) : 0 < B ^ n := Int.pow_pos hB
theorem vl_nonneg {B : Int} (hB : 0 < B) {xs : List Int} (h : Dg B xs) : 0 ≤ vl B xs := by
  induction xs with
  | nil => simp [vl]
  | cons x xs ih =>
    obtain ⟨h1, h2⟩ := Dg.cons.1 h
    have := Int.mul_nonneg (Int.le_of_lt hB) (ih h2)
    simp only [vl]; omega
theorem vl_lt {B : Int} (hB : 0 < B) {xs : List Int} (h : Dg B xs) : vl B xs < B ^ xs.length := by
  induction xs with
  | nil => simp [vl]
  | cons x xs ih =>
    obtain ⟨h1, h2⟩ := Dg.cons.1 h
    have h3 := ih h2
    have h4 : B * (vl B xs + 1) ≤ B * B ^ xs.length := Int.mul_le_mul_of_nonneg_left (by omega) (Int.le_of_lt hB)
    rw [Int.mul_add] at h4
    simp only [vl, List.length_cons, Int.pow_succ]
    rw [Int.mul_comm (B ^ xs.length) B]; omega
theorem vl_tr (B : Int) (xs : List Int) : vl B (tr xs) = vl B xs := by
  induction xs with
  | nil => rfl
  | cons x xs ih =>
    simp only [tr]
    cases h : tr xs with
    | nil =>
      rw [h] at ih
      simp only [vl] at ih
      by_cases hx : x = 0 <;> simp [hx, vl, ← ih]
    | cons y ys => rw [h] at ih; simp only [vl] at ih ⊢; rw [ih]
theorem Dg.tr {B : Int} {xs : List Int} (h : Dg B xs) : Dg B (tr xs) := by
  induction xs with
  | nil => exact h
  | cons x xs ih =>
    obtain ⟨h1, h2⟩ := Dg.cons.1 h
    have h3 := ih h2
    simp only [Go.Proofs.Ytknbjfefeeojlaa.tr]
    cases h4 : Go.Proofs.Ytknbjfefeeojlaa.tr xs with
    | nil => by_cases hx : x = 0 <;> simp [hx, Dg]; omega
    | cons y ys => rw [h4] at h3; exact Dg.cons.2 ⟨h1, h3⟩
theorem dgN_zero (b : Nat) : dgN b 0 = [] := by unfold dgN; simp
theorem dgN_pos {b v : Nat} (hv : 0 < v) (hb : 2 ≤ b) : dgN b v = ((v % b : Nat) : Int) :: dgN b (v / b) := by rw [dgN, dif_pos ⟨hv, hb⟩]
theorem dg_zero (B : Int) : dg B 0 = [] := by simp [dg, dgN_zero]
theorem Dg.dgN (b : Nat) (hb : 2 ≤ b) : ∀ v, Dg (b : Int) (dgN b v) := by
  intro v
  induction v using Nat.strongRecOn with
  | ind v ih =>
    by_cases hv : 0 < v
    · rw [dgN_pos hv hb]
      refine Dg.cons.2 ⟨⟨by omega, ?_⟩, ih _ (Nat.div_lt_self hv hb)⟩
      have := Nat.mod_lt v (show 0 < b by omega); omega
    · obtain rfl : v = 0 := by omega
      rw [dgN_zero]; exact Dg.nil _
theorem vl_dgN (b : Nat) (hb : 2 ≤ b) : ∀ v : Nat, vl (b : Int) (dgN b v) = v := by
  intro v
  induction v using Nat.strongRecOn with
  | ind v ih =>
    by_cases hv : 0 < v
    · rw [dgN_pos hv hb, vl, ih _ (Nat.div_lt_self hv hb)]
      have := Nat.mod_add_div v b
      have h2 : (((v % b + b * (v / b) : Nat)) : Int) = v := by rw [this]
      simpa using h2
    · obtain rfl : v = 0 := by omega
      rw [dgN_zero]; rfl
theorem dgN_length_le (b : Nat) (hb : 2 ≤ b) (k : Nat) : ∀ v : Nat, v < b ^ k → (dgN b v).length ≤ k := by
  induction k with
  | zero => intro v hv; obtain rfl : v = 0 := by simpa using hv
            rw [dgN_zero]; simp
  | succ k ih =>
    intro v hv
    by_cases h0 : 0 < v
    · rw [dgN_pos h0 hb, List.length_cons]
      have := ih (v / b) ((Nat.div_lt_iff_lt_mul (by omega)).2 (by rw [Nat.pow_succ] at hv; exact hv))
      omega
    · obtain rfl : v = 0 := by omega
      rw [dgN_zero]; simp
section
variable {B : Int} (hB : 2 ≤ B)
theorem Dg.dg (hB : 2 ≤ B) (v : Int) : Dg B (dg B v) := by
  obtain ⟨b, rfl⟩ := Int.eq_ofNat_of_zero_le (show 0 ≤ B by omega)
  exact Dg.dgN b (by omega) _
theorem vl_dg (hB : 2 ≤ B) {v : Int} (hv : 0 ≤ v) : vl B (dg B v) = v := by
  obtain ⟨b, rfl⟩ := Int.eq_ofNat_of_zero_le (show 0 ≤ B by omega)
  obtain ⟨n, rfl⟩ := Int.eq_ofNat_of_zero_le hv
  exact vl_dgN b (by omega) n
theorem dg_length_le (hB : 2 ≤ B) {v : Int} {k : Nat} (h : v < B ^ k) : (dg B v).length ≤ k := by
  obtain ⟨b, rfl⟩ := Int.eq_ofNat_of_zero_le (show 0 ≤ B by omega)
  refine dgN_length_le b (by omega) k _ ?_
  have h2 : 0 < b ^ k := Nat.pow_pos (by omega)
  have : ((b ^ k : Nat) : Int) = (b : Int) ^ k := by simp
  rw [← this] at h
  generalize b ^ k = m at *
  omega
/-- The digits of the value of a list of digits are that list without the zeros at its end. -/
theorem dg_vl (hB : 2 ≤ B) {xs : List Int} (h : Dg B xs) : dg B (vl B xs) = tr xs := by
  induction xs with
  | nil => simp [vl, dg_zero, tr]
  | cons x xs ih =>
    obtain ⟨h1, h2⟩ := Dg.cons.1 h
    have ih := ih h2
    have h0 := vl_nonneg (by omega) h2
    obtain ⟨b, rfl⟩ := Int.eq_ofNat_of_zero_le (show 0 ≤ B by omega)
    obtain ⟨u, hu⟩ := Int.eq_ofNat_of_zero_le h0
    obtain ⟨d, rfl⟩ := Int.eq_ofNat_of_zero_le h1.1
    rw [hu] at ih
    have hdb : d < b := by omega
    simp only [vl, hu]
    have e : ((d : Int) + (b : Int) * (u : Int)) = ((d + b * u : Nat) : Int) := by simp
    rw [e]
    unfold dg at ih ⊢
    simp only [Int.toNat_natCast] at ih ⊢
    by_cases hz : 0 < d + b * u
    · rw [dgN_pos hz (by omega)]
      have e1 : (d + b * u) % b = d := by rw [Nat.add_mul_mod_self_left]; exact Nat.mod_eq_of_lt hdb
      have e2 : (d + b * u) / b = u := by rw [Nat.add_mul_div_left _ _ (by omega), Nat.div_eq_of_lt hdb]; omega
      rw [e1, e2, ih]
      simp only [tr]
      cases ht : tr xs with
      | nil =>
        have : u = 0 := by
          have h3 := vl_tr (b : Int) xs
          rw [ht, hu] at h3
          simp only [vl] at h3; omega
        subst this
        have hd : (d : Int) ≠ 0 := by simp at hz; omega
        simp only [hd, if_false]
      | cons y ys => rfl
    · have hd : d = 0 := by omega
      have hbu : b * u = 0 := by omega
      subst hd
      have hu0 : u = 0 := by
        rcases Nat.mul_eq_zero.1 hbu with h | h
        · omega
        · exact h
      subst hu0
      simp only [Nat.zero_add, Nat.mul_zero, dgN_zero] at ih ⊢
      simp only [tr, ← ih]
      simp
theorem tr_dg (hB : 2 ≤ B) {v : Int} (hv : 0 ≤ v) : tr (dg B v) = dg B v := by
  rw [← dg_vl hB (Dg.dg hB v), vl_dg hB hv]
theorem vl_inj (hB : 2 ≤ B) {xs ys : List Int} (hx : Dg B xs) (hy : Dg B ys) (h : vl B xs = vl B ys) : tr xs = tr ys := by
  rw [← dg_vl hB hx, ← dg_vl hB hy, h]
theorem dg_eq_nil (hB : 2 ≤ B) {v : Int} (hv : 0 ≤ v) : dg B v = [] ↔ v = 0 := by
  constructor
  · intro h; have := vl_dg hB hv; rw [h] at this; exact this.symm
  · rintro rfl; exact dg_zero B
end
theorem tr_length_le (xs : List Int) : (tr xs).length ≤ xs.length := by
  induction xs with
  | nil => simp [tr]
  | cons x xs ih =>
    simp only [tr]
    cases h : tr xs with
    | nil => by_cases hx : x = 0 <;> simp [hx]
    | cons y ys => rw [h] at ih; simp at ih ⊢; omega
theorem tr_snoc_zero (xs : List Int) : tr (xs ++ [0]) = tr xs := by
  induction xs with
  | nil => simp [tr]
  | cons x xs ih => simp only [List.cons_append, tr, ih]
theorem tr_snoc_ne (xs : List Int) {y : Int} (h : y ≠ 0) : tr (xs ++ [y]) = xs ++ [y] := by
  induction xs with
  | nil => simp [tr, h]
  | cons x xs ih =>
    simp only [List.cons_append, tr, ih]
    cases hx : xs ++ [y] with
    | nil => simp at hx
    | cons z zs => rfl
theorem tr_take (xs : List Int) : xs.take (tr xs).length = tr xs := by
  induction xs with
  | nil => rfl
  | cons x xs ih =>
    simp only [tr]
    cases h : tr xs with
    | nil => by_cases hx : x = 0 <;> simp [hx]
    | cons y ys => rw [h] at ih; simp only [List.length_cons, List.take_succ_cons] at ih ⊢; rw [ih]
/-- A list without zeros at its end is one of the digits of its value. -/
theorem tr_eq_self_of_last {xs : List Int} (h : ∀ y, xs.getLast? = some y → y ≠ 0) : tr xs = xs := by
  rcases List.eq_nil_or_concat xs with rfl | ⟨ys, y, rfl⟩
  · rfl
  · rw [List.concat_eq_append]; exact tr_snoc_ne ys (h y (by simp))
end Go.Proofs.Ytknbjfefeeojlaa

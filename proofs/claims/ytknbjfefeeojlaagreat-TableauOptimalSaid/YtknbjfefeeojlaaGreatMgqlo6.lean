/- Tableaus: what is reckoned, in plain mathematics. -/
import Derived.Laws.IdiomCopy
import Derived.Test.YtknbjfefeeojlaaGreatMgqlo5
namespace Go.Proofs.YtknbjfefeeojlaaGreat
open Go.RowKit
theorem vat_map (f : Nat → Rat) {k j : Nat} : vat ((List.range k).map f) j = if j < k then f j else 0 := by
  unfold vat; rw [List.getD_eq_getElem?_getD, List.getElem?_map]
  by_cases h : j < k
  · rw [List.getElem?_range h, if_pos h]; rfl
  · rw [List.getElem?_eq_none (by simp; omega), if_neg h]; rfl
theorem vat_resz (xs : List Rat) (k j : Nat) : vat (resz xs k) j = if j < k then vat xs j else 0 := vat_map _
theorem vec_ext {xs ys : List Rat} (hl : xs.length = ys.length) (h : ∀ j, j < xs.length → vat xs j = vat ys j) : xs = ys := by
  refine List.ext_getElem hl fun j h1 h2 => ?_
  have := h j h1
  rwa [vat_lt h1, vat_lt h2] at this
/-- The value vector of column k: its objective coefficients and minus its unit vector; 0 behind the variables. -/
def gcol (goals : List (List Rat)) (ng N k j : Nat) : Rat := if k < N then (if j < ng then mat goals j k else if j = ng + k then -1 else 0) else 0
def addV (u : Rat) (g : Nat → Rat) (xs : List Rat) : List Rat := (List.range xs.length).map fun j => vat xs j + u * g j
theorem addV_len (u : Rat) (g : Nat → Rat) (xs : List Rat) : (addV u g xs).length = xs.length := by simp [addV]
theorem vat_addV (u : Rat) (g : Nat → Rat) (xs : List Rat) (j : Nat) : vat (addV u g xs) j = if j < xs.length then vat xs j + u * g j else 0 := vat_map _
def addK (goals : List (List Rat)) (k : Nat) (u : Rat) (xs : List Rat) (i : Nat) : List Rat := (List.range xs.length).map fun j => if j < i then vat xs j + u * mat goals j k else vat xs j
theorem addK_len (goals : List (List Rat)) (k : Nat) (u : Rat) (xs : List Rat) (i : Nat) : (addK goals k u xs i).length = xs.length := by simp [addK]
theorem vat_addK (goals : List (List Rat)) (k : Nat) (u : Rat) (xs : List Rat) (i : Nat) {j : Nat} (h : j < xs.length) : vat (addK goals k u xs i) j = if j < i then vat xs j + u * mat goals j k else vat xs j := by unfold addK; rw [vat_map, if_pos h]
theorem addK_zero (goals : List (List Rat)) (k : Nat) (u : Rat) (xs : List Rat) : addK goals k u xs 0 = xs := vec_ext (addK_len _ _ _ _ _) fun j hj => by rw [addK_len] at hj; rw [vat_addK _ _ _ _ _ hj, if_neg (by omega)]
theorem addK_succ {goals : List (List Rat)} {k : Nat} {u : Rat} {xs : List Rat} {i : Nat} (h : i < xs.length) : (addK goals k u xs i).set i (vat (addK goals k u xs i) i + u * mat goals i k) = addK goals k u xs (i + 1) := by
  refine vec_ext (by simp [addK_len]) fun j hj => ?_
  rw [List.length_set, addK_len] at hj
  rw [vat_set, addK_len, vat_addK goals k u xs (i + 1) hj]
  by_cases e : j = i
  · subst e
    rw [if_pos ⟨rfl, h⟩, vat_addK goals k u xs j h, if_neg (by omega), if_pos (by omega)]
  · rw [if_neg (fun h => e h.1), vat_addK goals k u xs i hj]
    by_cases h2 : j < i
    · rw [if_pos h2, if_pos (by omega)]
    · rw [if_neg h2, if_neg (by omega)]
theorem addK_done {goals : List (List Rat)} {ng N k : Nat} {u : Rat} {xs : List Rat} (hl : xs.length = ng + N) (hk : k < N) : (addK goals k u xs ng).set (ng + k) (vat (addK goals k u xs ng) (ng + k) - u) = addV u (gcol goals ng N k) xs := by
  refine vec_ext (by simp [addK_len, addV_len]) fun j hj => ?_
  rw [List.length_set, addK_len] at hj
  rw [vat_set, addK_len, vat_addV, if_pos hj, gcol, if_pos hk]
  by_cases e : j = ng + k
  · subst e
    rw [if_pos ⟨rfl, by omega⟩, vat_addK _ _ _ _ _ (by omega), if_neg (by omega), if_neg (by omega), if_pos rfl]; grind
  · rw [if_neg (fun h => e h.1), vat_addK _ _ _ _ _ hj]
    by_cases h2 : j < ng
    · rw [if_pos h2, if_pos h2]
    · rw [if_neg h2, if_neg h2, if_neg e]; grind
theorem addV_no {goals : List (List Rat)} {ng N k : Nat} {u : Rat} (xs : List Rat) (h : N ≤ k ∨ u = 0) : addV u (gcol goals ng N k) xs = xs := by
  refine vec_ext (addV_len _ _ _) fun j hj => ?_
  rw [addV_len] at hj
  rw [vat_addV, if_pos hj]
  rcases h with h | h
  · rw [gcol, if_neg (by omega)]; grind
  · rw [h]; grind
/-- A sum of value vectors of the basic columns. -/
def combS (goals : List (List Rat)) (ng N : Nat) (f : Nat → Rat) (piv : List Int) (i : Nat) : List Rat := (List.range (ng + N)).map fun j => sumk (fun t => f t * gcol goals ng N (pvt piv t) j) i
theorem combS_len (goals : List (List Rat)) (ng N : Nat) (f : Nat → Rat) (piv : List Int) (i : Nat) : (combS goals ng N f piv i).length = ng + N := by simp [combS]
theorem vat_combS (goals : List (List Rat)) (ng N : Nat) (f : Nat → Rat) (piv : List Int) (i j : Nat) : vat (combS goals ng N f piv i) j = if j < ng + N then sumk (fun t => f t * gcol goals ng N (pvt piv t) j) i else 0 := vat_map _
theorem combS_zero (goals : List (List Rat)) (ng N : Nat) (f : Nat → Rat) (piv : List Int) : combS goals ng N f piv 0 = List.replicate (ng + N) 0 := by
  refine vec_ext (by simp [combS]) fun j hj => ?_
  rw [vat_combS, vat_rep]; simp [sumk]
theorem combS_succ (goals : List (List Rat)) (ng N : Nat) (f : Nat → Rat) (piv : List Int) (i : Nat) : addV (f i) (gcol goals ng N (pvt piv i)) (combS goals ng N f piv i) = combS goals ng N f piv (i + 1) := by
  refine vec_ext (by simp [addV_len, combS_len]) fun j hj => ?_
  rw [addV_len, combS_len] at hj
  rw [vat_addV, combS_len, if_pos hj, vat_combS, if_pos hj, vat_combS, if_pos hj]; rfl
/-- The reduced cost of column k. -/
def rcost (goals : List (List Rat)) (ng N : Nat) (rows : List (List Rat)) (piv : List Int) (k : Nat) : List Rat := addV (-1) (gcol goals ng N k) (combS goals ng N (fun t => mat rows t k) piv piv.length)
def tval (goals : List (List Rat)) (ng N : Nat) (rows : List (List Rat)) (piv : List Int) (M : Nat) : List Rat := combS goals ng N (fun t => mat rows t M) piv piv.length
theorem rcost_len (goals : List (List Rat)) (ng N : Nat) (rows : List (List Rat)) (piv : List Int) (k : Nat) : (rcost goals ng N rows piv k).length = ng + N := by simp [rcost, addV_len, combS_len]
theorem tval_len (goals : List (List Rat)) (ng N : Nat) (rows : List (List Rat)) (piv : List Int) (M : Nat) : (tval goals ng N rows piv M).length = ng + N := combS_len _ _ _ _ _ _
/-- The basic solution. -/
def solT (rows : List (List Rat)) (piv : List Int) (N M : Nat) : Nat → List Rat
  | 0 => List.replicate N 0
  | i + 1 => if wd piv i < N then (solT rows piv N M i).set (pvt piv i) (mat rows i M) else solT rows piv N M i
theorem solT_len (rows : List (List Rat)) (piv : List Int) (N M i : Nat) : (solT rows piv N M i).length = N := by
  induction i with
  | zero => simp [solT]
  | succ i ih => unfold solT; split <;> simp [ih]
/-! ### Sizes -/
theorem gcol_sz {L ng N : Nat} {goals : List (List Rat)} (h : szR L goals) (hL : 1 ≤ L) (k j : Nat) : sz L (gcol goals ng N k j) := by
  unfold gcol
  split
  · split
    · exact h.at hL _ _
    · split
      · exact (sz_neg sz_one).mono hL
      · exact sz_zero' L hL
  · exact sz_zero' L hL
theorem sumk_sz {L : Nat} {f : Nat → Rat} : ∀ n, (∀ t, t < n → sz L (f t)) → sz ((L + 1) * n + 1) (sumk f n)
  | 0, _ => by simpa [sumk] using sz_zero
  | n + 1, h => by
    have h1 := sumk_sz n fun t ht => h t (by omega)
    have h2 := sz_add h1 (h n (by omega))
    exact h2.mono (by rw [Nat.mul_add]; omega)
theorem combS_sz {L0 L ng N : Nat} {goals : List (List Rat)} {f : Nat → Rat} {piv : List Int} {i : Nat} (hg : szR L0 goals) (h0 : 1 ≤ L0) (hf : ∀ t, t < i → sz L (f t)) : szV ((L + L0 + 1) * i + 1) (combS goals ng N f piv i) := by
  intro r hr
  obtain ⟨j, _, rfl⟩ := List.mem_map.1 hr
  exact sumk_sz i fun t ht => sz_mul (hf t ht) (gcol_sz hg h0 _ _)
theorem addV_sz {L0 L L1 ng N k : Nat} {goals : List (List Rat)} {u : Rat} {xs : List Rat} (hg : szR L0 goals) (h0 : 1 ≤ L0) (hu : sz L u) (hx : szV L1 xs) (h1 : 1 ≤ L1) : szV (L1 + (L + L0) + 1) (addV u (gcol goals ng N k) xs) := by
  intro r hr
  obtain ⟨j, _, rfl⟩ := List.mem_map.1 hr
  exact sz_add (szV_at hx h1 _) (sz_mul hu (gcol_sz hg h0 _ _))
theorem addK_sz {L0 L L1 k i : Nat} {goals : List (List Rat)} {u : Rat} {xs : List Rat} (hg : szR L0 goals) (h0 : 1 ≤ L0) (hu : sz L u) (hx : szV L1 xs) (h1 : 1 ≤ L1) : szV (L1 + (L + L0) + 1) (addK goals k u xs i) := by
  intro r hr
  obtain ⟨j, _, rfl⟩ := List.mem_map.1 hr
  split
  · exact sz_add (szV_at hx h1 _) (sz_mul hu (hg.at h0 _ _))
  · exact (szV_at hx h1 _).mono (by omega)
theorem rcost_sz {L0 L ng N k : Nat} {goals rows : List (List Rat)} {piv : List Int} (hg : szR L0 goals) (h0 : 1 ≤ L0) (hr : szR L rows) (hL : 1 ≤ L) : szV ((L + L0 + 1) * (piv.length + 1) + 2) (rcost goals ng N rows piv k) := by
  have h := addV_sz (ng := ng) (N := N) (k := k) hg h0 (sz_neg sz_one) (combS_sz (ng := ng) (N := N) (f := fun t => mat rows t k) (piv := piv) (i := piv.length) hg h0 fun t _ => hr.at hL t k) (by omega)
  intro r hq
  exact (h r hq).mono (by rw [Nat.mul_add]; omega)
theorem tval_sz {L0 L ng N M : Nat} {goals rows : List (List Rat)} {piv : List Int} (hg : szR L0 goals) (h0 : 1 ≤ L0) (hr : szR L rows) (hL : 1 ≤ L) : szV ((L + L0 + 1) * piv.length + 1) (tval goals ng N rows piv M) := combS_sz hg h0 fun t _ => hr.at hL t M
theorem solT_sz {L : Nat} {rows : List (List Rat)} {piv : List Int} {N M : Nat} (hr : szR L rows) (hL : 1 ≤ L) : ∀ i, szV L (solT rows piv N M i)
  | 0 => by intro r h; simp only [solT] at h; rw [(List.mem_replicate.1 h).2]; exact sz_zero' L hL
  | i + 1 => by
    unfold solT; split
    · exact (solT_sz hr hL i).set (hr.at hL _ _)
    · exact solT_sz hr hL i
/-! ### Pivots -/
def pivOK (rows : List (List Rat)) (piv : List Int) (M : Nat) (r c : Int) : Prop := 0 ≤ r ∧ r < rows.length ∧ 0 ≤ c ∧ c < M ∧ c ∉ piv ∧ mat rows r.toNat c.toNat ≠ 0
instance (rows : List (List Rat)) (piv : List Int) (M : Nat) (r c : Int) : Decidable (pivOK rows piv M r c) := by unfold pivOK; exact inferInstance
/-- The rows after a pivot, ahead of row i. -/
def pivS (rows : List (List Rat)) (r c i : Nat) : List (List Rat) := (List.range rows.length).map fun j => if j < i then elimT (divR rows r c) r c j else rowat rows j
def pivR (rows : List (List Rat)) (piv : List Int) (M : Nat) (r c : Int) : List (List Rat) := if pivOK rows piv M r c then elimS (divR rows r.toNat c.toNat) r.toNat c.toNat rows.length else rows
def pivP (rows : List (List Rat)) (piv : List Int) (M : Nat) (r c : Int) : List Int := if pivOK rows piv M r c then piv.set r.toNat c else piv
theorem pivS_len (rows : List (List Rat)) (r c i : Nat) : (pivS rows r c i).length = rows.length := by simp [pivS]
theorem pivS_row {rows : List (List Rat)} {r c i j : Nat} (h : j < rows.length) : rowat (pivS rows r c i) j = if j < i then elimT (divR rows r c) r c j else rowat rows j := by
  unfold pivS; rw [rowat, List.getD_eq_getElem?_getD, List.getElem?_map, List.getElem?_range h]; simp
theorem pivS_zero (rows : List (List Rat)) (r c : Nat) : pivS rows r c 0 = rows := rows_ext (pivS_len _ _ _ _) fun j hj => by rw [pivS_len] at hj; rw [pivS_row hj, if_neg (by omega)]
theorem pivS_succ {rows : List (List Rat)} {r c i : Nat} (h : i < rows.length) : pivS rows r c (i + 1) = (pivS rows r c i).set i (elimT (divR rows r c) r c i) := by
  refine rows_ext (by simp [pivS_len]) fun j hj => ?_
  rw [pivS_len] at hj
  rw [rowat_set (by rw [pivS_len]; exact h), pivS_row hj, pivS_row hj]
  by_cases e : j = i
  · subst e; rw [if_pos (by omega), if_pos rfl]
  · rw [if_neg e]
    by_cases h2 : j < i
    · rw [if_pos h2, if_pos (by omega)]
    · rw [if_neg h2, if_neg (by omega)]
theorem pivS_done (rows : List (List Rat)) (r c : Nat) : pivS rows r c rows.length = elimS (divR rows r c) r c rows.length := by
  refine rows_ext (by rw [pivS_len, elimS_len, divR_len]) fun j hj => ?_
  rw [pivS_len] at hj
  rw [pivS_row hj, if_pos hj, elimS_row (by rw [divR_len]; exact hj), if_pos hj]
theorem elimT_at {rows : List (List Rat)} {r c : Nat} (hr : r < rows.length) : elimT (divR rows r c) r c r = sclR (1 / mat rows r c) (rowat rows r) := by
  rw [elimT, if_pos (.inl rfl)]; unfold divR; rw [rowat_set hr, if_pos rfl]
theorem divR_ne {rows : List (List Rat)} {r c j : Nat} (hr : r < rows.length) (h : j ≠ r) : rowat (divR rows r c) j = rowat rows j := by unfold divR; rw [rowat_set hr, if_neg h]
theorem elimT_zero {rows : List (List Rat)} {r c j : Nat} (hr : r < rows.length) (h : j ≠ r) (h0 : mat rows j c = 0) : elimT (divR rows r c) r c j = rowat rows j := by
  rw [elimT, if_pos (.inr (by rw [mat, divR_ne hr h]; exact h0)), divR_ne hr h]
theorem elimT_ne {rows : List (List Rat)} {r c j : Nat} (hr : r < rows.length) (h : j ≠ r) (h0 : mat rows j c ≠ 0) : elimT (divR rows r c) r c j = axR (-(mat rows j c)) (sclR (1 / mat rows r c) (rowat rows r)) (rowat rows j) := by
  have e : mat (divR rows r c) j c = mat rows j c := by rw [mat, divR_ne hr h, mat]
  rw [elimT, if_neg (by rw [e]; rintro (h' | h'); exact h h'; exact h0 h'), e, divR_ne hr h]
  unfold divR; rw [rowat_set hr, if_pos rfl]
theorem pivR_len (rows : List (List Rat)) (piv : List Int) (M : Nat) (r c : Int) : (pivR rows piv M r c).length = rows.length := by unfold pivR; split <;> simp [elimS_len, divR_len]
theorem pivP_len (rows : List (List Rat)) (piv : List Int) (M : Nat) (r c : Int) : (pivP rows piv M r c).length = piv.length := by unfold pivP; split <;> simp
theorem pivR_rect {N M : Nat} {rows : List (List Rat)} {piv : List Int} {r c : Int} (h : rect N rows) : rect N (pivR rows piv M r c) := by
  unfold pivR; split
  · rename_i ok; obtain ⟨h0, h1, _⟩ := ok
    exact (h.div (by omega)).elim (by rw [divR_len]; omega)
  · exact h
theorem pivR_sz {L M : Nat} {rows : List (List Rat)} {piv : List Int} {r c : Int} (h : szR L rows) (hL : 1 ≤ L) : szR (5 * L) (pivR rows piv M r c) := by
  unfold pivR; split
  · rename_i ok; obtain ⟨h0, h1, _⟩ := ok
    exact elimS_sz h hL (by omega) _ _
  · exact h.mono (by omega)
def lexnn (v : List Rat) : Prop := ∀ i, (∀ j, j < i → vat v j = 0) → 0 ≤ vat v i
theorem cq_lt {a b : Rat} : cq a b < 0 ↔ a < b := by
  unfold cq
  split
  · rename_i h; exact ⟨fun _ => h, fun _ => by decide⟩
  · rename_i h
    split
    · exact ⟨fun h' => absurd h' (by decide), fun h' => absurd h' h⟩
    · exact ⟨fun h' => absurd h' (by decide), fun h' => absurd h' h⟩
theorem sign_nn {v : List Rat} {M : Nat} {s : Int} (h : LexP v [] M s) (hl : v.length ≤ M) : s < 0 ↔ ¬ lexnn v := by
  have e0 : ∀ j, vat [] j = 0 := fun j => vat_ge (Nat.zero_le _)
  rcases h with ⟨i, hi, e, hne, hj⟩ | ⟨e, hj⟩
  · simp only [e0] at e hj
    constructor
    · intro hs h2
      have h3 := h2 i hj
      rw [e] at hs; have := cq_lt.1 hs; grind
    · intro h2
      false_or_by_contra; rename_i hs
      apply h2
      intro k hk
      rcases Nat.lt_trichotomy k i with h3 | h3 | h3
      · rw [hj k h3]; exact Rat.le_refl
      · subst h3
        false_or_by_contra; rename_i h4
        exact hs (by rw [e]; exact cq_lt.2 (by grind))
      · have := hk i h3
        rw [this] at e; exact absurd e (by rw [show cq 0 0 = 0 from rfl]; exact hne)
  · simp only [e0] at hj
    subst e
    refine ⟨fun h => absurd h (by decide), fun h => absurd (fun k _ => ?_) h⟩
    rcases Nat.lt_or_ge k M with h3 | h3
    · rw [hj k h3]; exact Rat.le_refl
    · rw [vat_ge (by omega)]; exact Rat.le_refl
/-! ### The first tableau: what is made -/
def wideB (rss : List (List Rat)) (N m : Nat) : List (List Rat) := gridm (catI (gridm (matI rss) m N) (identm m) (colsN (gridm (matI rss) m N))) (max m m) (colsN (gridm (matI rss) m N) + colsN (identm m))
def sideB (bs : List Rat) (m : Nat) : List (List Rat) := gridm (fun i k => matI [resz bs m] k i) (colsN [resz bs m]) 1
def allB (rss : List (List Rat)) (bs : List Rat) (N m : Nat) : List (List Rat) := gridm (catI (wideB rss N m) (sideB bs m) (colsN (wideB rss N m))) (max (max m m) (colsN [resz bs m])) (colsN (wideB rss N m) + colsN (sideB bs m))
def newR (rss : List (List Rat)) (bs : List Rat) (N m i : Nat) : List (List Rat) := (List.range i).map fun t => resz (rowat (allB rss bs N m) t) (N + m + 1)
def newP (N i : Nat) : List Int := (List.range i).map fun t : Nat => (N : Int) + (t : Int)
theorem newR_succ (rss : List (List Rat)) (bs : List Rat) (N m i : Nat) : newR rss bs N m (i + 1) = newR rss bs N m i ++ [resz (rowat (allB rss bs N m) i) (N + m + 1)] := by simp [newR, List.range_succ]
theorem newP_succ (N i : Nat) : newP N (i + 1) = newP N i ++ [(N : Int) + (i : Int)] := by simp [newP, List.range_succ]
theorem newR_len (rss : List (List Rat)) (bs : List Rat) (N m i : Nat) : (newR rss bs N m i).length = i := by simp [newR]
theorem newP_len (N i : Nat) : (newP N i).length = i := by simp [newP]
theorem newR_rect (rss : List (List Rat)) (bs : List Rat) (N m i : Nat) : rect (N + m + 1) (newR rss bs N m i) := fun r hr => by
  obtain ⟨t, _, rfl⟩ := List.mem_map.1 hr; exact resz_len _ _
theorem catI_sz {L : Nat} {rss mss : List (List Rat)} (h1 : szR L rss) (h2 : szR L mss) (hL : 1 ≤ L) (N : Nat) (i k : Int) : sz L (catI rss mss N i k) := by
  unfold catI; split
  · exact h1.matI hL _ _
  · exact h2.matI hL _ _
theorem wideB_sz {L : Nat} {rss : List (List Rat)} (h : szR L rss) (hL : 1 ≤ L) (N m : Nat) : szR L (wideB rss N m) := gridm_sz fun i k => catI_sz (gridm_sz fun i k => h.matI hL _ _) ((identm_sz m).mono hL) hL _ _ _
theorem sideB_sz {L : Nat} {bs : List Rat} (h : szV L bs) (hL : 1 ≤ L) (m : Nat) : szR L (sideB bs m) := gridm_sz fun i k => szR.matI (rows := [resz bs m]) (fun r hr => by simp at hr; subst hr; exact resz_sz h hL m) hL _ _
theorem allB_sz {L : Nat} {rss : List (List Rat)} {bs : List Rat} (h : szR L rss) (hb : szV L bs) (hL : 1 ≤ L) (N m : Nat) : szR L (allB rss bs N m) := gridm_sz fun i k => catI_sz (wideB_sz h hL N m) (sideB_sz hb hL m) hL _ _ _
theorem newR_sz {L : Nat} {rss : List (List Rat)} {bs : List Rat} (h : szR L rss) (hb : szV L bs) (hL : 1 ≤ L) (N m i : Nat) : szR L (newR rss bs N m i) := fun r hr => by
  obtain ⟨t, _, rfl⟩ := List.mem_map.1 hr; exact resz_sz ((allB_sz h hb hL N m).row t) hL _
end Go.Proofs.YtknbjfefeeojlaaGreat
/- Package tableau: value, ReducedCost, Value, Solution. -/
namespace Go.Proofs.YtknbjfefeeojlaaGreat
open Go.RowKit
attribute [local irreducible] RV VH V OpF Calls
/-- An array of rationals, made at once. -/
def VQ (S : Nat → Prop) (W : World) (b n : Nat) (xs : List Rat) : Prop := ∃ qs, AQ 4 W b 48 n qs ∧ All2 (QC (SX S [b]) W) qs xs
section
variable {S : Nat → Prop} {W W' : World} {b n : Nat} {xs : List Rat}
theorem VQ.ext (h : VQ S W b n xs) (x : Ext W W') : VQ S W' b n xs := by obtain ⟨qs, h1, h2⟩ := h; exact ⟨qs, h1.ext x, h2.imp fun _ _ h => h.ext x⟩
theorem VQ.len (h : VQ S W b n xs) : xs.length = n := by obtain ⟨qs, h1, h2⟩ := h; rw [← h2.len, h1.len]
theorem VQ.lt (h : VQ S W b n xs) : b < W.heap.size := by obtain ⟨qs, h1, h2⟩ := h; exact h1.box.lt
theorem VQ.gc (h : VQ S W b n xs) (hS : S b) : GC S W (some ⟨b, 0, none⟩) n n xs := by obtain ⟨qs, h1, h2⟩ := h; exact ⟨qs, h1.rs hS, h2.imp fun _ _ h => h.sub fun _ _ h => h.1⟩
theorem VQ.top (h : VQ S W b n xs) : GC TT W (some ⟨b, 0, none⟩) n n xs := by obtain ⟨qs, h1, h2⟩ := h; exact ⟨qs, h1.rs trivial, h2.imp fun _ _ h => h.sub fun _ _ _ => trivial⟩
theorem VQ.cast {ys : List Rat} (h : VQ S W b n xs) (e : xs = ys) : VQ S W b n ys := e ▸ h
theorem VQ.made {n0 : Nat} (h : AQ 4 W b 48 n (List.replicate n [.bool false, .slice none 0 0, .bool false, .slice none 0 0])) (hn : n0 = n) : VQ S W b n (List.replicate n0 0) := ⟨_, h, by subst hn; exact All2.rep (QC.zero _ _) _⟩
theorem xstV {P : Program} {ρ : Operand → Value} {d : Option Tmp} {ty T : TypeId} {pos : String} {af : Array Edge} {g : Option (Nat × Bool)} {x y : Operand} {K : Value → World → Prop} {r : Option Nat} {i : Int} {u : Rat} {n1 n2 : Bool} {a1 a2 : Option Addr} {l1 c1 l2 c2 : Nat} (h : VQ S W b n xs) (hx : ρ x = .pointer (some (adr (some ⟨b, 0, none⟩) i 4))) (hy : ρ y = .agg #[.bool n1, .slice a1 l1 c1, .bool n2, .slice a2 l2 c2]) (hT : Sz P T 4) (h0 : 0 ≤ i) (h1 : i < n)
    (hq : QC (SX S [b]) W [.bool n1, .slice a1 l1 c1, .bool n2, .slice a2 l2 c2] u) (hk2 : ∀ W', Wr b W W' → VQ S W' b n (xs.set i.toNat u) → K undef W') : OpF r P ρ ⟨d, .store T x y, ty, pos, af, g⟩ W K := by
  obtain ⟨qs, hA, hQ⟩ := h
  refine xstq (q := [.bool n1, .slice a1 l1 c1, .bool n2, .slice a2 l2 c2]) hA hx hy rfl hT rfl rfl h0 h1 ?_
  intro W' y' hA'
  exact hk2 W' y' ⟨_, hA', (hQ.set hq).imp fun _ _ h => h.ck (y'.ck (fun hh => hh.2 (by simp)))⟩
/-- Cells that lie in a block of a set. -/
def CB (D : Nat → Prop) (W : World) (ad : Addr) (l : List Value) : Prop := ∃ b off cs T fz, ad = ⟨b, off, none⟩ ∧ D b ∧ W.heap[b]? = some (.cells cs T fz) ∧ ∀ j u, l[j]? = some u → cs[off + j]? = some u
theorem CB.ck {D : Nat → Prop} {ad : Addr} {l : List Value} (h : CB D W ad l) (x : CK D W W') : CB D W' ad l := by
  obtain ⟨b, off, cs, T, fz, e, h1, h2, h3⟩ := h; exact ⟨b, off, cs, T, fz, e, h1, x.2 b cs T fz h1 h2, h3⟩
theorem CB.ext {D : Nat → Prop} {ad : Addr} {l : List Value} (h : CB D W ad l) (x : Ext W W') : CB D W' ad l := h.ck (x.ck _)
theorem CB.ce {D : Nat → Prop} {ad : Addr} {l : List Value} (h : CB D W ad l) : CE W ad l := by
  obtain ⟨b, off, cs, T, fz, rfl, h1, h2, h3⟩ := h
  intro j u hj; rw [addO]; simp [World.cell?, h2, h3 j u hj]
theorem CB.c1 {D : Nat → Prop} {ad : Addr} {v : Value} (h : CB D W ad [v]) : C1 W ad v := by
  obtain ⟨b, off, cs, T, fz, rfl, h1, h2, h3⟩ := h
  have := h3 0 v rfl
  unfold C1; simp only [World.cell?, h2]; simpa using this
theorem RS.elB {s : Nat} {a : Option Addr} {n c : Nat} {qs : List (List Value)} (h : RS s S W a n c qs) {i : Int} (hi : 0 ≤ i) (hn : i < n) : ∃ q, qs[i.toNat]? = some q ∧ q.length = s ∧ CB S W (adr a i s) q := by
  have hlt : i.toNat < qs.length := by rw [h.len]; omega
  obtain ⟨b, off, cs, T, fz, rfl, h1, h2, h3⟩ := h.at_ (by omega)
  refine ⟨qs[i.toNat], List.getElem?_eq_getElem hlt, h.wd _ (List.getElem_mem hlt), b, off + i.toNat * s, cs, T, fz, by simp [adr, addO], h1, h2, fun j u hj => ?_⟩
  have := h3 _ _ (List.getElem?_eq_getElem hlt) j u hj
  exact this
theorem MG.elB {ρt : Type} {G : (Nat → Prop) → World → Option Addr → Nat → Nat → List ρt → Prop} {a : Option Addr} {n c : Nat} {rss : List (List ρt)} (h : MG G S W a n c rss) {i : Int} (hi : 0 ≤ i) (hn : i < n) : ∃ a' n' c', CB S W (adr a i 1) [.slice a' n' c'] ∧ G S W a' n' c' (rowat rss i.toNat) := by
  obtain ⟨qs, h1, h2⟩ := h
  obtain ⟨q, h3, h4, h5⟩ := h1.elB hi hn
  obtain ⟨r, h6, a', n', c', rfl, h8⟩ := h2.get h3
  have e : rowat rss i.toNat = r := by unfold rowat; rw [List.getD_eq_getElem?_getD, h6]; rfl
  exact ⟨a', n', c', h5, e ▸ h8⟩
theorem GA.elB {L : Nat} {a : Option Addr} {n c : Nat} {rs : List Rat} (h : GA L S W a n c rs) {i : Int} (hi : 0 ≤ i) (hn : i < n) : ∃ n1 a1 l1 c1 n2 a2 l2 c2, QA L S W [.bool n1, .slice a1 l1 c1, .bool n2, .slice a2 l2 c2] (vat rs i.toNat) ∧ CB S W (adr a i 4) [.bool n1, .slice a1 l1 c1, .bool n2, .slice a2 l2 c2] := by
  obtain ⟨qs, h1, h2⟩ := h
  obtain ⟨q, h3, h4, h5⟩ := h1.elB hi hn
  obtain ⟨r, h6, h7⟩ := h2.get h3
  obtain ⟨n1, a1, l1, c1, n2, a2, l2, c2, rfl⟩ := h7.form
  have : vat rs i.toNat = r := by unfold vat; rw [List.getD_eq_getElem?_getD, h6]; rfl
  exact ⟨n1, a1, l1, c1, n2, a2, l2, c2, this ▸ h7, h5⟩
/-- copy(x, y) into an array of the call's own. -/
theorem xcpy {P : Program} {ρ : Operand → Value} {d : Option Tmp} {ty T1 T2 e e' : TypeId} {pos : String} {af : Array Edge} {g : Option (Nat × Bool)} {x y : Operand} {K : Value → World → Prop} {r : Option Nat} {k : IntKind} {m c : Nat} {a : Option Addr} {zs ys : List Int} (h : AR k W b e' n zs) (hs : RN k S W a m c ys) (hm : m = n) (hx : ρ x = .slice (some ⟨b, 0, none⟩) n n) (hy : ρ y = .slice a m c) (hT : Sl P T1 e) (hi : Sz P e 1)
    (hk2 : ∀ v W', Wr b W W' → AR k W' b e' n ys → K v W') : OpF r P ρ ⟨d, .call ⟨.builtin .copy, #[x, y], #[T1, T2]⟩, ty, pos, af, g⟩ W K := by
  subst hm
  have hsz : (P.info? e).map (·.size) = some 1 := by obtain ⟨i, h1, h2⟩ := hi; rw [h1]; simp [h2]
  have hl := h.len
  have hl2 := hs.len
  rcases Nat.eq_zero_or_pos m with h0 | h0
  · subst h0
    have hr := run_copy_none (P := P) W T1 T2 ty e (some ⟨b, 0, none⟩) a 0 0 0 c hT hsz rfl
    unfold OpF execOp
    simp only [resolve, invoke, builtin, Sem.run_bind, Sem.run_pure, Result.andThen_ok, List.map_toArray, List.map_cons, List.map_nil, hx, hy, hr]
    refine hk2 _ W ⟨rfl, rfl, rfl, rfl, fun _ _ => rfl⟩ ?_
    have e1 : zs = [] := List.eq_nil_of_length_eq_zero hl
    have e2 : ys = [] := List.eq_nil_of_length_eq_zero hl2
    subst e1 e2; exact h
  · obtain ⟨b2, off, e1, h1, h2, h3⟩ := hs.cells h0
    subst e1
    have hr := run_copy_row (P := P) W T1 T2 ty e b 0 m m ⟨b2, off, none⟩ m c (zs.map (Value.int k)).toArray e' (ys.map (Value.int k)) hT hsz h.box (by simp [hl2]) (fun j v hj => by
      rw [List.getElem?_map] at hj
      obtain ⟨z, hz, rfl⟩ := Option.map_eq_some_iff.1 hj
      have hj2 : j < m := by rw [← hl2]; exact (List.getElem?_eq_some_iff.1 hz).1
      rw [addO, h3 j hj2]
      unfold wd
      rw [List.getD_eq_getElem?_getD, Int.toNat_natCast, hz]; rfl) (by simp [hl, hl2]) (by simp [Value.oneCell'])
    unfold OpF execOp
    simp only [resolve, invoke, builtin, Sem.run_bind, Sem.run_pure, Result.andThen_ok, List.map_toArray, List.map_cons, List.map_nil, hx, hy, hr]
    have hb := h.box.setRow (ys.map (Value.int k))
    have e3 : (((zs.map (Value.int k)).toArray.toList.take 0 ++ ys.map (Value.int k) ++ (zs.map (Value.int k)).toArray.toList.drop (0 + (ys.map (Value.int k)).length)).toArray) = (ys.map (Value.int k)).toArray := by
      simp [hl, hl2]
    rw [e3]
    exact hk2 _ _ hb.2 ⟨hb.1, hs.wf, hl2, h.max⟩
theorem KD.ex {D : Nat → Prop} {X Y : World} (k : KD D X Y) (hD : ∀ q, q < X.heap.size → D q) : Ext X Y := k.below hD (Nat.le_refl _)
end

set_option maxHeartbeats 1000000 in
theorem tValue1_ok (bw bt : Nat) (N : Int) (ag ap a : Option Addr) (ng cg np cp n c Nn : Nat) (kc : Int) (L0 Lq Lx : Nat) (goals : List (List Rat)) (u : Rat) (xs : List Rat) (q : List Value) (S : Nat → Prop) (w : World) (hb : BoxAt w bw [.int .i64 N, .slice ag ng cg, .slice ap np cp, .slice a n c] 91) (hm : MA L0 (fun b => b ≠ bt) w ag ng cg goals) (hq : QA Lq (fun b => b ≠ bt) w q u) (hv : VQ S w bt (ng + Nn) xs) (hbt : bw ≠ bt) (hN : N = (Nn : Int)) (hNb : Nn ≤ 64) (hng : ng ≤ 64) (hk0 : 0 ≤ kc) (hgr : ∀ r ∈ goals, r.length = Nn) (hgs : szR L0 goals) (hx : szV Lx xs) (h0 : 1 ≤ L0) (h1 : 1 ≤ Lq) (h2 : 1 ≤ Lx) (hL : 2 * Lx + 4 * L0 + 4 * Lq + 4 < LY) (hu : Up S w) :
    Calls Tryz.prog 100 #[.pointer (some ⟨bw, 0, none⟩), .agg q.toArray, .int .i64 kc, .slice (some ⟨bt, 0, none⟩) (ng + Nn) (ng + Nn)] w (fun e w' => e = .returned (.slice (some ⟨bt, 0, none⟩) (ng + Nn) (ng + Nn)) ∧ KD (fun b => b ≠ bt) w w' ∧ VQ S w' bt (ng + Nn) (addV u (gcol goals ng Nn kc.toNat) xs)) := by
 have z0 := Ext.refl w; have hLX : LX = 17592186044416 := rfl; have hLY : LY = 8796093022208 := rfl
 obtain ⟨n1, a1, l1, c1, n2, a2, l2, c2, rfl⟩ := hq.form
 have lvt := hv.lt; have lbw := hb.lt; have hbw0 := hb
 refine enter (args := [.pointer (some ⟨bw, 0, none⟩), .agg #[.bool n1, .slice a1 l1 c1, .bool n2, .slice a2 l2 c2], .int .i64 kc, .slice (some ⟨bt, 0, none⟩) (ng + Nn) (ng + Nn)]) Tryz.func100 rfl rfl (Nat.le_of_ble_eq_true rfl) ?_
 refine V.seq (V.reg rfl ?_)
 refine vo ?_
 refine bxa rfl ?_
 intro W1 x2 b3 nn4
 have s5 := x2.sz
 have z6 := x2
 replace hb := hb.ext x2
 refine ass rfl ?_
 refine vnil ?_
 refine V.seq ?_
 refine V.seq (V.reg rfl ?_)
 refine mvi rfl ?_
 refine mvp rfl ?_
 refine vv (rnc (v := .pointer (some ⟨_, _, none⟩)) rfl rfl) ?_
 refine vv (rfa rfl fd91_0) ?_
 refine vv (rldb (v := .int _ _) rfl sc3 hb rfl) ?_
 refine vge rfl rfl ?_ ?_
 ·intro c15
  refine mvb rfl ?_
  refine vgn (b := true) rfl rfl ?_
  refine vgn (b := true) rfl rfl ?_
  refine vgn (b := true) rfl rfl ?_
  refine vv (rpk (v := .bool true) rfl rfl) ?_
  refine vnil ?_
  refine V.condT rfl ?_
  refine V.seq (V.reg rfl ?_)
  refine mvs rfl ?_
  refine ass rfl ?_
  refine vnil ?_
  refine V.ret ?_
  refine ⟨[.slice _ _ _], ⟨rfl, trivial⟩, ?_⟩
  exact ⟨rfl, Ext.kd z6, (hv.ext z6).cast (addV_no xs (.inl (by omega))).symm⟩
 ·intro c15
  refine mvb rfl ?_
  refine vg rfl ?_
  refine vv (rldb4 rfl ag48 b3 rfl rfl rfl rfl ) ?_
  refine vg rfl ?_
  refine vo ?_
  refine xcall e66 (fSign_ok _ _ _ _ _ (hq.ext z6) (by omega) (by omega)) rfl rfl ?_
  rintro _ W7 ⟨rfl, x8⟩
  have s9 := x8.sz
  have z10 := z6.trans x8
  replace hb := hb.ext x8
  replace b3 := b3.ext x8
  refine ⟨_, rfl, ?_⟩
  refine vg rfl ?_
  refine veq rfl rfl ?_ ?_
  ·intro c19
   refine vv (rpk (v := .bool true) rfl rfl) ?_
   refine vnil ?_
   refine V.condT rfl ?_
   refine V.seq (V.reg rfl ?_)
   refine mvs rfl ?_
   refine ass rfl ?_
   refine vnil ?_
   refine V.ret ?_
   refine ⟨[.slice _ _ _], ⟨rfl, trivial⟩, ?_⟩
   exact ⟨rfl, Ext.kd z10, (hv.ext z10).cast (addV_no xs (.inr (cq_eq.1 c19))).symm⟩
  ·intro c19
   refine vv (rpk (v := .bool false) rfl rfl) ?_
   refine vnil ?_
   refine V.condF rfl ?_
   refine V.skip ?_
   refine V.seq (V.reg rfl ?_)
   refine mvp rfl ?_
   refine vv (rnc (v := .pointer (some ⟨_, _, none⟩)) rfl rfl) ?_
   refine vv (rfa rfl fd91_1) ?_
   refine vv (rldb (v := .slice _ _ _) rfl sc22 hb rfl) ?_
   refine vv (rlen sl22 rfl) ?_
   refine asi rfl ?_
   refine vnil ?_
   refine V.seq ?_
   refine V.seq (V.reg rfl ?_)
   refine mvi rfl ?_
   refine mvi rfl ?_
   refine vnil ?_
   refine V.block ?_
   refine V.loopK (ι := Nat) [(0, .pointer (some ⟨_, _, none⟩)), (2, .int _ _), (3, .slice _ _ _), (5, .pointer (some ⟨_, _, none⟩)), (9, .int _ _), (28, .int _ _)] (fun i => [(29, .int .i64 (i : Int))]) (fun i W => i ≤ ng ∧ VQ S W bt (ng + Nn) (addK goals kc.toNat u xs i) ∧ KD (fun b => b ≠ bt) w W ∧ BoxAt W w.heap.size [.bool n1, .slice a1 l1 c1, .bool n2, .slice a2 l2 c2] 48) (fun i => ng - i) (0) ⟨rfl, rfl, rfl, rfl, rfl, rfl, trivial⟩ ⟨rfl, trivial⟩ ⟨Nat.zero_le _, (by rw [addK_zero]; exact hv.ext z10), Ext.kd z10, b3⟩ ?_
   intro i E12 W11 h13
   obtain ⟨hi, hV, hkd, h5⟩ := h13
   have hbk := hbw0.kd (D := fun b => b ≠ bt) hkd hbt; have hmk : MA L0 (fun b => b ≠ bt) W11 ag ng cg goals := MG.ck (okRowA L0) hm hkd.ck; have hqk := hq.ck hkd.ck; have zz := Ext.refl W11; have szk := hkd.size; have hgV := hV.top.va (addK_sz hgs h0 (hqk.sz' h1) hx h2 (i := i)); have l5 := h5.lt; have lV := hV.lt; have hml := hmk.len; have lbk := hbk.lt
   refine V.seq (V.reg rfl ?_)
   refine vlt rfl rfl ?_ ?_
   ·intro c14
    obtain ⟨ra0, rk0, rc0, hc0, hg0⟩ := hmk.el (i := (i : Int)) (by omega) (by omega)
    have ce0 : C1 W11 _ _ := hc0; have hgl0 := hg0.len; have hgr0 : (rowat goals ((i : Int)).toNat).length = Nn := hgr _ (row_mem (by omega))
    obtain ⟨en1, ea1, el1, ec1, em1, eb1, ek1, ed1, hq1, hc1⟩ := (hg0).el (i := kc) (by omega) (by omega)
    have ce1 : CE W11 _ _ := hc1
    obtain ⟨en2, ea2, el2, ec2, em2, eb2, ek2, ed2, hq2, hc2⟩ := (hgV).el (i := (i : Int)) (by omega) (by omega)
    have ce2 : CE W11 _ _ := hc2
    refine vnil ?_
    refine V.seq ?_
    refine V.condT rfl ?_
    refine V.skip ?_
    refine V.seq ?_
    refine V.block ?_
    refine V.seq (V.reg rfl ?_)
    refine mvi rfl ?_
    refine asi rfl ?_
    refine vnil ?_
    refine V.regD mixed rfl ?_
    intro W15 x16
    have s17 := x16.sz
    have z18 := x16
    replace hbk := hbk.ext x16
    replace h5 := h5.ext x16
    have q19 := Ext.refl W15
    have r20 := hbk
    have r21 := h5
    refine tk 0 rfl (by kernel_rfl) q19 (pv (fun _ y22 => rmv (v := .slice _ _ _) rfl)) ?_
    refine tk 1 rfl (by kernel_rfl) q19 (pv (fun _ y23 => rmv (v := .int _ _) rfl)) ?_
    refine tk 2 rfl (by kernel_rfl) q19 (pv (fun _ y24 => rmv (v := .slice _ _ _) rfl)) ?_
    refine tk 3 rfl (by kernel_rfl) q19 (pv (fun _ y25 => rmv (v := .int _ _) rfl)) ?_
    refine tk 4 rfl (by kernel_rfl) q19 (pv (fun _ y26 => rix sl23 sz48 rfl rfl (by omega) (by omega) (((hgV.ext z18).ext y26).isS (i := 0) (by omega) (by omega)))) ?_
    refine tk 5 rfl (by kernel_rfl) q19 (pv (fun _ y27 => rldn (l := [.bool _, .slice _ _ _, .bool _, .slice _ _ _]) rfl ag48 rfl ((ce2.ext z18).ext y27))) ?_
    refine tk 6 rfl (by kernel_rfl) q19 (pv (fun _ y28 => rldb4 rfl ag48 (r21.ext y28) rfl rfl rfl rfl )) ?_
    refine tk 7 rfl (by kernel_rfl) q19 (pv (fun _ y29 => rmv (v := .pointer (some ⟨_, _, none⟩)) rfl)) ?_
    refine tk 8 rfl (by kernel_rfl) q19 (pv (fun _ y30 => rnc (v := .pointer (some ⟨_, _, none⟩)) rfl rfl)) ?_
    refine tk 9 rfl (by kernel_rfl) q19 (pv (fun _ y31 => rfa rfl fd91_1)) ?_
    refine tk 10 rfl (by kernel_rfl) q19 (pv (fun _ y32 => rldb (v := .slice _ _ _) rfl sc22 (r20.ext y32) rfl)) ?_
    refine tk 11 rfl (by kernel_rfl) q19 (pv (fun _ y33 => rmv (v := .int _ _) rfl)) ?_
    refine tk 12 rfl (by kernel_rfl) q19 (pv (fun _ y34 => rix sl22 sz23 rfl rfl (by omega) (by omega) (((hmk.ext z18).ext y34).isS (i := 0) (by omega) (by omega)))) ?_
    refine tk 13 rfl (by kernel_rfl) q19 (pv (fun _ y35 => rld1 (v := .slice _ _ _) rfl sc23 ((ce0.ext z18).ext y35))) ?_
    refine tk 14 rfl (by kernel_rfl) q19 (pv (fun _ y36 => rmv (v := .int _ _) rfl)) ?_
    refine tk 15 rfl (by kernel_rfl) q19 (pv (fun _ y37 => rix sl23 sz48 rfl rfl (by omega) (by omega) (((hg0.ext z18).ext y37).isS (i := 0) (by omega) (by omega)))) ?_
    refine tk 16 rfl (by kernel_rfl) q19 (pv (fun _ y38 => rldn (l := [.bool _, .slice _ _ _, .bool _, .slice _ _ _]) rfl ag48 rfl ((ce1.ext z18).ext y38))) ?_
    refine ef 17 (by kernel_rfl) rfl ?_
    refine xcall e71 (fMul_ok [_, _, _, _] [_, _, _, _] _ _ _ _ (SX S [bt]) _ _ _ (hqk.ext z18) (hq1.ext z18) (by omega) (by omega) (by omega) (SX.up (hu.mono (by omega)) (by simp; omega))) rfl rfl ?_
    rintro _ W40 ⟨_, rfl, x41, hq39⟩
    have s42 := x41.sz
    have z43 := z18.trans x41
    replace hbk := hbk.ext x41
    replace h5 := h5.ext x41
    have q44 := q19.trans x41
    obtain ⟨_, _, _, _, _, _, _, _, rfl⟩ := hq39.form
    refine ⟨_, rfl, ?_⟩
    refine ⟨fun _ => q44, ?_⟩
    refine ef 18 (by kernel_rfl) rfl ?_
    refine xcall e142 (fAdd_ok [_, _, _, _] [_, _, _, _] _ _ _ (Lq + L0) (SX S [bt]) _ _ _ (hq2.ext z43) ((hq39).qa (sz_mul (hqk.sz' h1) (hq1.sz' h0))) (by omega) (by omega) (by omega) (SX.up (hu.mono (by omega)) (by simp; omega))) rfl rfl ?_
    rintro _ W46 ⟨_, rfl, x47, hq45⟩
    have s48 := x47.sz
    have z49 := z43.trans x47
    replace hbk := hbk.ext x47
    replace h5 := h5.ext x47
    have q50 := q44.trans x47
    obtain ⟨_, _, _, _, _, _, _, _, rfl⟩ := hq45.form
    refine ⟨_, rfl, ?_⟩
    refine ⟨fun _ => q50, ?_⟩
    refine tk 19 rfl (by kernel_rfl) q50 (pv (fun _ y51 => rix sl23 sz48 rfl rfl (by omega) (by omega) (((hgV.ext z18).ext y51).isS (i := 0) (by omega) (by omega)))) ?_
    refine ef 20 (by kernel_rfl) rfl ?_
    refine xstV (hV.ext z49) rfl rfl sz48 (by omega) (by omega) hq45 ?_
    intro Wa ya hVa
    refine lastT (by kernel_rfl) ?_
    refine dn (by kernel_rfl) ?_
    refine V.reg rfl ?_
    refine vv (rbin (bAdd (wi (by omega))) rfl rfl) ?_
    refine mvi rfl ?_
    refine vnil ?_
    refine ⟨rfl, i + 1, ⟨rfl, rfl, rfl, rfl, rfl, rfl, trivial⟩, ⟨rfl, trivial⟩, ⟨by omega, (by rw [← addK_succ (by rw [hv.len]; omega)]; exact hVa), (hkd.trans (Ext.kd z49)).trans (ya.kd fun h => h rfl), h5.wr ya (by omega)⟩, ?_⟩
    show ng - (i + 1) < ng - i
    omega
   ·intro c14
    obtain ⟨en3, ea3, el3, ec3, em3, eb3, ek3, ed3, hq3, hc3⟩ := (hgV).el (i := ((ng : Int) + kc)) (by omega) (by omega)
    have ce3 : CE W11 _ _ := hc3
    refine vnil ?_
    refine V.seq ?_
    refine V.condF rfl ?_
    refine V.exit ?_
    refine V.seq (V.regD mixed rfl ?_)
    intro W52 x53
    have s54 := x53.sz
    have z55 := x53
    replace hbk := hbk.ext x53
    replace h5 := h5.ext x53
    have q56 := Ext.refl W52
    have r57 := hbk
    have r58 := h5
    refine tk 0 rfl (by kernel_rfl) q56 (pv (fun _ y59 => rmv (v := .slice _ _ _) rfl)) ?_
    refine tk 1 rfl (by kernel_rfl) q56 (pv (fun _ y60 => rmv (v := .int _ _) rfl)) ?_
    refine tk 2 rfl (by kernel_rfl) q56 (pv (fun _ y61 => rmv (v := .int _ _) rfl)) ?_
    refine tk 3 rfl (by kernel_rfl) q56 (pv (fun _ y62 => rbin (bAdd (wi (by omega))) rfl rfl)) ?_
    refine tk 4 rfl (by kernel_rfl) q56 (pv (fun _ y63 => rmv (v := .slice _ _ _) rfl)) ?_
    refine tk 5 rfl (by kernel_rfl) q56 (pv (fun _ y64 => rmv (v := .int _ _) rfl)) ?_
    refine tk 6 rfl (by kernel_rfl) q56 (pv (fun _ y65 => rmv (v := .int _ _) rfl)) ?_
    refine tk 7 rfl (by kernel_rfl) q56 (pv (fun _ y66 => rbin (bAdd (wi (by omega))) rfl rfl)) ?_
    refine tk 8 rfl (by kernel_rfl) q56 (pv (fun _ y67 => rix sl23 sz48 rfl rfl (by omega) (by omega) (((hgV.ext z55).ext y67).isS (i := 0) (by omega) (by omega)))) ?_
    refine tk 9 rfl (by kernel_rfl) q56 (pv (fun _ y68 => rldn (l := [.bool _, .slice _ _ _, .bool _, .slice _ _ _]) rfl ag48 rfl ((ce3.ext z55).ext y68))) ?_
    refine tk 10 rfl (by kernel_rfl) q56 (pv (fun _ y69 => rldb4 rfl ag48 (r58.ext y69) rfl rfl rfl rfl )) ?_
    refine ef 11 (by kernel_rfl) rfl ?_
    refine xcall e95 (fSub_ok [_, _, _, _] [_, _, _, _] _ _ _ _ (SX S [bt]) _ _ _ (hq3.ext z55) (hqk.ext z55) (by omega) (by omega) (by omega) (SX.up (hu.mono (by omega)) (by simp; omega))) rfl rfl ?_
    rintro _ W71 ⟨_, rfl, x72, hq70⟩
    have s73 := x72.sz
    have z74 := z55.trans x72
    replace hbk := hbk.ext x72
    replace h5 := h5.ext x72
    have q75 := q56.trans x72
    obtain ⟨_, _, _, _, _, _, _, _, rfl⟩ := hq70.form
    refine ⟨_, rfl, ?_⟩
    refine ⟨fun _ => q75, ?_⟩
    refine tk 12 rfl (by kernel_rfl) q75 (pv (fun _ y76 => rix sl23 sz48 rfl rfl (by omega) (by omega) (((hgV.ext z55).ext y76).isS (i := 0) (by omega) (by omega)))) ?_
    refine ef 13 (by kernel_rfl) rfl ?_
    refine xstV (hV.ext z74) rfl rfl sz48 (by omega) (by omega) hq70 ?_
    intro Wb yb hVb
    refine lastT (by kernel_rfl) ?_
    refine dn (by kernel_rfl) ?_
    refine V.seq (V.reg rfl ?_)
    refine mvs rfl ?_
    refine ass rfl ?_
    refine vnil ?_
    refine V.ret ?_
    refine ⟨[.slice _ _ _], ⟨rfl, trivial⟩, ?_⟩
    have ei : i = ng := by omega
    subst ei
    have e9 : ((i : Int) + kc).toNat = i + kc.toNat := by omega
    rw [e9] at hVb
    exact ⟨rfl, (hkd.trans (Ext.kd z74)).trans (yb.kd fun h => h rfl), hVb.cast (addK_done hv.len (by omega))⟩
set_option maxHeartbeats 1000000 in
theorem tCost_ok (bw : Nat) (N : Int) (ag ap a : Option Addr) (ng cg np cp n c Nn M : Nat) (L0 L1 : Nat) (goals rows : List (List Rat)) (piv : List Int) (S S0 S1 S2 : Nat → Prop) (w : World) (hb : BoxAt w bw [.int .i64 N, .slice ag ng cg, .slice ap np cp, .slice a n c] 91) (hm : MA L0 S0 w ag ng cg goals) (hr : MA L1 S1 w a n c rows) (hp : RN .i64 S2 w ap np cp piv) (hN : N = (Nn : Int)) (hNb : Nn ≤ 64) (hng : ng ≤ 64) (hn : n ≤ 64) (hnp : np = n) (hM : Nn + n = M) (hgr : ∀ r ∈ goals, r.length = Nn) (hrr : ∀ r ∈ rows, r.length = M + 1) (hpn : ∀ t : Nat, t < np → 0 ≤ wd piv t) (h0 : 1 ≤ L0) (h1 : 1 ≤ L1) (hL : (L1 + L0 + 1) * 200 + 100 < LY) (hu : Up S w) (kc : Int) (hk0 : 0 ≤ kc) (hk1 : kc < M) :
    Calls Tryz.prog 83 #[.pointer (some ⟨bw, 0, none⟩), .int .i64 kc] w (fun e w' => ∃ ra rk rc, e = .returned (.slice ra rk rc) ∧ Ext w w' ∧ GC S w' ra rk rc (rcost goals ng Nn rows piv kc.toNat)) := by
 have z0 := Ext.refl w; have hLX : LX = 17592186044416 := rfl; have hLY : LY = 8796093022208 := rfl
 have hbw0 := hb; have lbw := hb.lt; have l1 := hm.len; have l2 := hr.len; have l3 := hp.len; have hgs : szR L0 goals := hm.rowsz h0; have hrs : szR L1 rows := hr.rowsz h1; have hLV : LV = 1099511627776 := rfl
 refine enter (args := [.pointer (some ⟨bw, 0, none⟩), .int .i64 kc]) Tryz.func83 rfl rfl (Nat.le_of_ble_eq_true rfl) ?_
 refine V.seq (V.reg rfl ?_)
 refine ass rfl ?_
 refine vnil ?_
 refine V.seq ?_
 refine V.seq (V.reg rfl ?_)
 refine mvp rfl ?_
 refine vv (rpnil (q := false) (by kernel_rfl) rfl rfl rfl) ?_
 refine mvb rfl ?_
 refine vg rfl ?_
 refine mvi rfl ?_
 refine vg rfl ?_
 refine vlt rfl rfl ?_ ?_
 ·intro c1
  omega
 ·intro c1
  refine vv (rpk (v := .bool false) rfl rfl) ?_
  refine mvb rfl ?_
  refine vg rfl ?_
  refine mvi rfl ?_
  refine vg rfl ?_
  refine mvp rfl ?_
  refine vg rfl ?_
  refine vo ?_
  refine xcall e87 (cols_ok _ N _ _ _ _ _ _ _ n _ _ hb (by omega) (by omega)) rfl rfl ?_
  rintro _ W2 ⟨rfl, x3⟩
  have s4 := x3.sz
  have z5 := x3
  replace hb := hb.ext x3
  refine ⟨_, rfl, ?_⟩
  refine vg rfl ?_
  refine vge rfl rfl ?_ ?_
  ·intro c6
   omega
  ·intro c6
   refine vv (rpk (v := .bool false) rfl rfl) ?_
   refine vnil ?_
   refine V.condF rfl ?_
   refine V.skip ?_
   refine V.seq (V.regD mixed rfl ?_)
   intro W7 x8
   have s9 := x8.sz
   have z10 := z5.trans x8
   replace hb := hb.ext x8
   have q11 := Ext.refl W7
   have r12 := hb
   refine tk 0 rfl (by kernel_rfl) q11 (pv (fun _ y13 => rmv (v := .pointer (some ⟨_, _, none⟩)) rfl)) ?_
   refine tk 1 rfl (by kernel_rfl) q11 (pv (fun _ y14 => rnc (v := .pointer (some ⟨_, _, none⟩)) rfl rfl)) ?_
   refine tk 2 rfl (by kernel_rfl) q11 (pv (fun _ y15 => rfa rfl fd91_1)) ?_
   refine tk 3 rfl (by kernel_rfl) q11 (pv (fun _ y16 => rldb (v := .slice _ _ _) rfl sc22 (r12.ext y16) rfl)) ?_
   refine tk 4 rfl (by kernel_rfl) q11 (pv (fun _ y17 => rlen sl22 rfl)) ?_
   refine tk 5 rfl (by kernel_rfl) q11 (pv (fun _ y18 => rmv (v := .pointer (some ⟨_, _, none⟩)) rfl)) ?_
   refine tk 6 rfl (by kernel_rfl) q11 (pv (fun _ y19 => rnc (v := .pointer (some ⟨_, _, none⟩)) rfl rfl)) ?_
   refine tk 7 rfl (by kernel_rfl) q11 (pv (fun _ y20 => rfa rfl fd91_0)) ?_
   refine tk 8 rfl (by kernel_rfl) q11 (pv (fun _ y21 => rldb (v := .int _ _) rfl sc3 (r12.ext y21) rfl)) ?_
   refine tk 9 rfl (by kernel_rfl) q11 (pv (fun _ y22 => rbin (bAdd (wi (by omega))) rfl rfl)) ?_
   refine ef 10 (by kernel_rfl) rfl ?_
   refine xmkS (zs := [.bool false, .slice _ _ _, .bool false, .slice _ _ _]) ((ng + Nn)) sl23 in48 rfl rfl rfl rfl rfl (by omega) (by omega) (by omega) ?_
   intro W23 x24 out n25
   have s26 := x24.sz
   have z27 := z10.trans x24
   replace hb := hb.ext x24
   have q28 := q11.trans x24
   refine ⟨fun _ => q28, ?_⟩
   refine tk 11 rfl (by kernel_rfl) q28 (pv (fun _ y29 => ras (v := .slice _ _ _) rfl)) ?_
   refine dn (by kernel_rfl) ?_
   refine V.seq ?_
   refine V.seq (V.reg rfl ?_)
   refine mvp rfl ?_
   refine vv (rnc (v := .pointer (some ⟨_, _, none⟩)) rfl rfl) ?_
   refine vv (rfa rfl fd91_2) ?_
   refine vv (rldb (v := .slice _ _ _) rfl sc73 hb rfl) ?_
   refine vv (rlen sl73 rfl) ?_
   refine mvi rfl ?_
   refine vnil ?_
   refine V.block ?_
   have hV0 := VQ.made (S := S) (n0 := (ng + Nn)) out rfl; have z3 := z27; have s3 := z3.sz
   have hmD : MA L0 (fun b => b ≠ W7.heap.size) w ag ng cg goals := MG.sub (okRowA L0) hm fun b hb _ => by omega
   have hrD : MA L1 (fun b => b ≠ W7.heap.size) w a n c rows := MG.sub (okRowA L1) hr fun b hb _ => by omega
   have hpD : RN .i64 (fun b => b ≠ W7.heap.size) w ap np cp piv := hp.sub fun b hb _ => by omega
   refine V.loopK (ι := Nat) [(0, .pointer (some ⟨_, _, none⟩)), (1, .int _ _), (34, .slice _ _ _), (35, .int _ _)] (fun i => [(36, .int .i64 (i : Int)), (5, .slice (some ⟨W7.heap.size, 0, none⟩) (ng + Nn) (ng + Nn))]) (fun i W => i ≤ np ∧ VQ S W (W7.heap.size) (ng + Nn) (combS goals ng Nn (fun t => mat rows t kc.toNat) piv i) ∧ KD (fun b => b ≠ W7.heap.size) w W) (fun i => np - i) (0) ⟨rfl, rfl, rfl, rfl, trivial⟩ ⟨rfl, rfl, trivial⟩ ⟨Nat.zero_le _, hV0.cast (combS_zero _ _ _ _ _).symm, Ext.kd z27⟩ ?_
   intro i E31 W30 h32
   obtain ⟨hi, hV, hkd⟩ := h32
   have hbk := hbw0.kd (D := fun b => b ≠ W7.heap.size) hkd (show bw ≠ W7.heap.size by omega); have hmk : MA L0 (fun b => b ≠ W7.heap.size) W30 ag ng cg goals := MG.ck (okRowA L0) hmD hkd.ck; have hrk : MA L1 (fun b => b ≠ W7.heap.size) W30 a n c rows := MG.ck (okRowA L1) hrD hkd.ck; have hpk := hpD.ck hkd.ck; have zz := Ext.refl W30; have szk := hkd.size; have lV := hV.lt; have hrl := hrk.len; have lbk := hbk.lt; have hLi : (L1 + L0 + 1) * i ≤ (L1 + L0 + 1) * 64 := Nat.mul_le_mul_left _ (by omega)
   refine V.seq (V.reg rfl ?_)
   refine vlt rfl rfl ?_ ?_
   ·intro c33
    have hrw : (rowat rows ((i : Int)).toNat).length = M + 1 := hrr _ (row_mem (by omega))
    refine vnil ?_
    refine V.seq ?_
    refine V.condT rfl ?_
    refine V.skip ?_
    refine V.seq ?_
    refine V.block ?_
    refine V.seq (V.reg rfl ?_)
    refine mvi rfl ?_
    refine vv (rixn hpk sl73 sz3 rfl rfl (by omega) (by omega)) ?_
    refine vldN hpk rfl sc3 (by omega) (by omega) ?_
    intro q34 hq34 hk35
    simp only [kb] at hk35
    refine asi rfl ?_
    refine asi rfl ?_
    refine vnil ?_
    refine V.reg rfl ?_
    refine mvp rfl ?_
    refine mvp rfl ?_
    refine vv (rnc (v := .pointer (some ⟨_, _, none⟩)) rfl rfl) ?_
    refine vv (rfa rfl fd91_3) ?_
    refine vv (rldb (v := .slice _ _ _) rfl sc22 hbk rfl) ?_
    refine mvi rfl ?_
    refine vv (rix sl22 sz23 rfl rfl (by omega) (by omega) (hrk.isS (i := 0) (by omega) (by omega))) ?_
    refine vldRow hrk rfl sc23 (by omega) (by omega) ?_
    intro a36 n37 c38 hg39
    have hg39l := hg39.len; have hg39m := hg39.max
    refine mvi rfl ?_
    refine vv (rix sl23 sz48 rfl rfl (by omega) (by omega) (hg39.isS (i := 0) (by omega) (by omega))) ?_
    refine vldQ hg39 rfl ag48 (by omega) (by omega) ?_
    intro n40 a41 l42 c43 n44 a45 l46 c47 hq48
    refine mvi rfl ?_
    refine mvs rfl ?_
    refine vo ?_
    refine xcall e100 (tValue1_ok bw (W7.heap.size) N ag ap a ng cg np cp n c Nn _ L0 L1 (((L1 + L0 + 1) * i + 1)) goals _ (combS goals ng Nn (fun t => mat rows t kc.toNat) piv i) [_, _, _, _] S _ hbk hmk hq48 (hV.ext zz) (by omega) hN hNb hng (by rw [hq34]; exact hpn i (by omega)) hgr hgs (combS_sz hgs h0 fun t _ => hrs.at h1 t _) h0 h1 (by omega) (by omega) (hu.mono (by omega))) rfl rfl ?_
    rintro _ Va ⟨rfl, kda, hVa⟩
    refine ⟨_, rfl, ?_⟩
    refine ass rfl ?_
    refine vnil ?_
    refine V.reg rfl ?_
    refine vv (rbin (bAdd (wi (by omega))) rfl rfl) ?_
    refine mvi rfl ?_
    refine vnil ?_
    refine ⟨rfl, i + 1, ⟨rfl, rfl, rfl, rfl, trivial⟩, ⟨rfl, rfl, trivial⟩, ⟨by omega, hVa.cast (by rw [hq34]; exact combS_succ goals ng Nn (fun t => mat rows t kc.toNat) piv i), (hkd.trans (Ext.kd zz)).trans kda⟩, ?_⟩
    show np - (i + 1) < np - i
    omega
   ·intro c33
    refine vnil ?_
    refine V.seq ?_
    refine V.condF rfl ?_
    refine V.exit ?_
    refine V.seq (V.reg rfl ?_)
    refine mvp rfl ?_
    refine vo ?_
    refine xcall e27 (fFrom_ok (-1) (fun b => b ≠ W7.heap.size) _ (by omega) (fun b hb => by omega)) rfl rfl ?_
    rintro _ W50 ⟨_, rfl, x51, hq49⟩
    have s52 := x51.sz
    have z53 := x51
    replace hbk := hbk.ext x51
    obtain ⟨_, _, _, _, _, _, _, _, rfl⟩ := hq49.form
    refine ⟨_, rfl, ?_⟩
    refine mvi rfl ?_
    refine mvs rfl ?_
    refine vo ?_
    refine xcall e100 (tValue1_ok bw (W7.heap.size) N ag ap a ng cg np cp n c Nn _ L0 1 (((L1 + L0 + 1) * i + 1)) goals _ (combS goals ng Nn (fun t => mat rows t kc.toNat) piv i) [_, _, _, _] S _ hbk (hmk.ext z53) ((hq49).qa (L := 1) (szB_sz (by decide +kernel))) (hV.ext z53) (by omega) hN hNb hng (hk0) hgr hgs (combS_sz hgs h0 fun t _ => hrs.at h1 t _) h0 (by omega) (by omega) (by omega) (hu.mono (by omega))) rfl rfl ?_
    rintro _ Vb ⟨rfl, kdb, hVb⟩
    refine ⟨_, rfl, ?_⟩
    refine ass rfl ?_
    refine vnil ?_
    refine V.ret ?_
    refine ⟨[.slice _ _ _], ⟨rfl, trivial⟩, ?_⟩
    have ei : i = piv.length := by omega
    have kx := (hkd.trans (Ext.kd z53)).trans kdb
    have sx := kx.size
    refine ⟨_, _, _, rfl, KD.ex kx (fun q hq => by omega), (VQ.gc hVb (hu _ (by omega))).cast ?_⟩
    rw [ei]; rfl
set_option maxHeartbeats 1000000 in
theorem tVal_ok (bw : Nat) (N : Int) (ag ap a : Option Addr) (ng cg np cp n c Nn M : Nat) (L0 L1 : Nat) (goals rows : List (List Rat)) (piv : List Int) (S S0 S1 S2 : Nat → Prop) (w : World) (hb : BoxAt w bw [.int .i64 N, .slice ag ng cg, .slice ap np cp, .slice a n c] 91) (hm : MA L0 S0 w ag ng cg goals) (hr : MA L1 S1 w a n c rows) (hp : RN .i64 S2 w ap np cp piv) (hN : N = (Nn : Int)) (hNb : Nn ≤ 64) (hng : ng ≤ 64) (hn : n ≤ 64) (hnp : np = n) (hM : Nn + n = M) (hgr : ∀ r ∈ goals, r.length = Nn) (hrr : ∀ r ∈ rows, r.length = M + 1) (hpn : ∀ t : Nat, t < np → 0 ≤ wd piv t) (h0 : 1 ≤ L0) (h1 : 1 ≤ L1) (hL : (L1 + L0 + 1) * 200 + 100 < LY) (hu : Up S w) :
    Calls Tryz.prog 29 #[.pointer (some ⟨bw, 0, none⟩)] w (fun e w' => ∃ ra rk rc, e = .returned (.slice ra rk rc) ∧ Ext w w' ∧ GC S w' ra rk rc (tval goals ng Nn rows piv M)) := by
 have z0 := Ext.refl w; have hLX : LX = 17592186044416 := rfl; have hLY : LY = 8796093022208 := rfl
 have hbw0 := hb; have lbw := hb.lt; have l1 := hm.len; have l2 := hr.len; have l3 := hp.len; have hgs : szR L0 goals := hm.rowsz h0; have hrs : szR L1 rows := hr.rowsz h1; have hLV : LV = 1099511627776 := rfl
 refine enter (args := [.pointer (some ⟨bw, 0, none⟩)]) Tryz.func29 rfl rfl (Nat.le_of_ble_eq_true rfl) ?_
 refine V.seq (V.reg rfl ?_)
 refine ass rfl ?_
 refine vnil ?_
 refine V.seq ?_
 refine V.seq (V.reg rfl ?_)
 refine mvp rfl ?_
 refine vv (rpnil (q := false) (by kernel_rfl) rfl rfl rfl) ?_
 refine vnil ?_
 refine V.condF rfl ?_
 refine V.skip ?_
 refine V.seq (V.regD mixed rfl ?_)
 intro W1 x2
 have s3 := x2.sz
 have z4 := x2
 replace hb := hb.ext x2
 have q5 := Ext.refl W1
 have r6 := hb
 refine tk 0 rfl (by kernel_rfl) q5 (pv (fun _ y7 => rmv (v := .pointer (some ⟨_, _, none⟩)) rfl)) ?_
 refine tk 1 rfl (by kernel_rfl) q5 (pv (fun _ y8 => rnc (v := .pointer (some ⟨_, _, none⟩)) rfl rfl)) ?_
 refine tk 2 rfl (by kernel_rfl) q5 (pv (fun _ y9 => rfa rfl fd91_1)) ?_
 refine tk 3 rfl (by kernel_rfl) q5 (pv (fun _ y10 => rldb (v := .slice _ _ _) rfl sc22 (r6.ext y10) rfl)) ?_
 refine tk 4 rfl (by kernel_rfl) q5 (pv (fun _ y11 => rlen sl22 rfl)) ?_
 refine tk 5 rfl (by kernel_rfl) q5 (pv (fun _ y12 => rmv (v := .pointer (some ⟨_, _, none⟩)) rfl)) ?_
 refine tk 6 rfl (by kernel_rfl) q5 (pv (fun _ y13 => rnc (v := .pointer (some ⟨_, _, none⟩)) rfl rfl)) ?_
 refine tk 7 rfl (by kernel_rfl) q5 (pv (fun _ y14 => rfa rfl fd91_0)) ?_
 refine tk 8 rfl (by kernel_rfl) q5 (pv (fun _ y15 => rldb (v := .int _ _) rfl sc3 (r6.ext y15) rfl)) ?_
 refine tk 9 rfl (by kernel_rfl) q5 (pv (fun _ y16 => rbin (bAdd (wi (by omega))) rfl rfl)) ?_
 refine ef 10 (by kernel_rfl) rfl ?_
 refine xmkS (zs := [.bool false, .slice _ _ _, .bool false, .slice _ _ _]) ((ng + Nn)) sl23 in48 rfl rfl rfl rfl rfl (by omega) (by omega) (by omega) ?_
 intro W17 x18 out n19
 have s20 := x18.sz
 have z21 := z4.trans x18
 replace hb := hb.ext x18
 have q22 := q5.trans x18
 refine ⟨fun _ => q22, ?_⟩
 refine tk 11 rfl (by kernel_rfl) q22 (pv (fun _ y23 => ras (v := .slice _ _ _) rfl)) ?_
 refine dn (by kernel_rfl) ?_
 refine V.seq ?_
 refine V.seq (V.reg rfl ?_)
 refine mvp rfl ?_
 refine vv (rnc (v := .pointer (some ⟨_, _, none⟩)) rfl rfl) ?_
 refine vv (rfa rfl fd91_2) ?_
 refine vv (rldb (v := .slice _ _ _) rfl sc73 hb rfl) ?_
 refine vv (rlen sl73 rfl) ?_
 refine mvi rfl ?_
 refine vnil ?_
 refine V.block ?_
 have hV0 := VQ.made (S := S) (n0 := (ng + Nn)) out rfl; have z3 := z21; have s3 := z3.sz
 have hmD : MA L0 (fun b => b ≠ W1.heap.size) w ag ng cg goals := MG.sub (okRowA L0) hm fun b hb _ => by omega
 have hrD : MA L1 (fun b => b ≠ W1.heap.size) w a n c rows := MG.sub (okRowA L1) hr fun b hb _ => by omega
 have hpD : RN .i64 (fun b => b ≠ W1.heap.size) w ap np cp piv := hp.sub fun b hb _ => by omega
 refine V.loopK (ι := Nat) [(0, .pointer (some ⟨_, _, none⟩)), (22, .slice _ _ _), (23, .int _ _)] (fun i => [(24, .int .i64 (i : Int)), (3, .slice (some ⟨W1.heap.size, 0, none⟩) (ng + Nn) (ng + Nn))]) (fun i W => i ≤ np ∧ VQ S W (W1.heap.size) (ng + Nn) (combS goals ng Nn (fun t => mat rows t M) piv i) ∧ KD (fun b => b ≠ W1.heap.size) w W) (fun i => np - i) (0) ⟨rfl, rfl, rfl, trivial⟩ ⟨rfl, rfl, trivial⟩ ⟨Nat.zero_le _, hV0.cast (combS_zero _ _ _ _ _).symm, Ext.kd z21⟩ ?_
 intro i E25 W24 h26
 obtain ⟨hi, hV, hkd⟩ := h26
 have hbk := hbw0.kd (D := fun b => b ≠ W1.heap.size) hkd (show bw ≠ W1.heap.size by omega); have hmk : MA L0 (fun b => b ≠ W1.heap.size) W24 ag ng cg goals := MG.ck (okRowA L0) hmD hkd.ck; have hrk : MA L1 (fun b => b ≠ W1.heap.size) W24 a n c rows := MG.ck (okRowA L1) hrD hkd.ck; have hpk := hpD.ck hkd.ck; have zz := Ext.refl W24; have szk := hkd.size; have lV := hV.lt; have hrl := hrk.len; have lbk := hbk.lt; have hLi : (L1 + L0 + 1) * i ≤ (L1 + L0 + 1) * 64 := Nat.mul_le_mul_left _ (by omega)
 refine V.seq (V.reg rfl ?_)
 refine vlt rfl rfl ?_ ?_
 ·intro c27
  have hrw : (rowat rows ((i : Int)).toNat).length = M + 1 := hrr _ (row_mem (by omega))
  obtain ⟨ra0, rk0, rc0, cb0, hg0⟩ := MG.elB hrk (i := (i : Int)) (by omega) (by omega)
  have hgl0 := hg0.len
  obtain ⟨en1, ea1, el1, ec1, em1, eb1, ek1, ed1, hq1, cb1⟩ := GA.elB hg0 (i := (N + (n : Int))) (by omega) (by omega)
  refine vnil ?_
  refine V.seq ?_
  refine V.condT rfl ?_
  refine V.skip ?_
  refine V.seq ?_
  refine V.block ?_
  refine V.seq (V.reg rfl ?_)
  refine mvi rfl ?_
  refine vv (rixn hpk sl73 sz3 rfl rfl (by omega) (by omega)) ?_
  refine vldN hpk rfl sc3 (by omega) (by omega) ?_
  intro q28 hq28 hk29
  simp only [kb] at hk29
  refine asi rfl ?_
  refine asi rfl ?_
  refine vnil ?_
  refine V.regS (fun W => KD (fun b => b ≠ W1.heap.size) W) mixed rfl ?_
  intro W30 x31
  have s32 := x31.sz
  have z33 := x31
  replace hbk := hbk.ext x31
  have q35 := KD.refl (fun b => b ≠ W1.heap.size) W30
  have r36 := hbk
  refine tk 0 rfl (by kernel_rfl) q35 (pv (fun _ y37 => rmv (v := .pointer (some ⟨_, _, none⟩)) rfl)) ?_
  refine tk 1 rfl (by kernel_rfl) q35 (pv (fun _ y38 => rmv (v := .pointer (some ⟨_, _, none⟩)) rfl)) ?_
  refine tk 2 rfl (by kernel_rfl) q35 (pv (fun _ y39 => rnc (v := .pointer (some ⟨_, _, none⟩)) rfl rfl)) ?_
  refine tk 3 rfl (by kernel_rfl) q35 (pv (fun _ y40 => rfa rfl fd91_3)) ?_
  refine tk 4 rfl (by kernel_rfl) q35 (pv (fun _ y41 => rldb (v := .slice _ _ _) rfl sc22 (r36.kd y41 (show bw ≠ W1.heap.size by omega)) rfl)) ?_
  refine tk 5 rfl (by kernel_rfl) q35 (pv (fun _ y42 => rmv (v := .int _ _) rfl)) ?_
  refine tk 6 rfl (by kernel_rfl) q35 (pv (fun _ y43 => rix sl22 sz23 rfl rfl (by omega) (by omega) (((hrk.ext z33).ck (y43).ck).isS (i := 0) (by omega) (by omega)))) ?_
  refine tk 7 rfl (by kernel_rfl) q35 (pv (fun _ y44 => rld1 (v := .slice _ _ _) rfl sc23 (CB.c1 ((cb0.ext z33).ck (y44).ck)))) ?_
  refine tk 8 rfl (by kernel_rfl) q35 (pv (fun _ y45 => rmv (v := .pointer (some ⟨_, _, none⟩)) rfl)) ?_
  refine tk 12 rfl (by kernel_rfl) q35 (pv (fun _ y46 => rmv (v := .int _ _) rfl)) ?_
  refine tk 13 rfl (by kernel_rfl) q35 (pv (fun _ y47 => rmv (v := .slice _ _ _) rfl)) ?_
  refine ef 9 (by kernel_rfl) rfl ?_
  refine xcall e87 (cols_ok _ N _ _ _ _ _ _ _ n _ _ hbk (by omega) (by omega)) rfl rfl ?_
  rintro _ W48 ⟨rfl, x49⟩
  have s50 := x49.sz
  have z51 := z33.trans x49
  replace hbk := hbk.ext x49
  have q52 := q35.trans x49.kd
  refine ⟨_, rfl, ?_⟩
  refine ⟨fun _ => q52, ?_⟩
  refine tk 10 rfl (by kernel_rfl) q52 (pv (fun _ y53 => rix sl23 sz48 rfl rfl (by omega) (by omega) (((hg0.ext z33).ck (y53).ck).isS (i := 0) (by omega) (by omega)))) ?_
  refine tk 11 rfl (by kernel_rfl) q52 (pv (fun _ y54 => rldn (l := [.bool _, .slice _ _ _, .bool _, .slice _ _ _]) rfl ag48 rfl (CB.ce ((cb1.ext z33).ck (y54).ck)))) ?_
  refine ef 14 (by kernel_rfl) rfl ?_
  refine xcall e100 (tValue1_ok bw (W1.heap.size) N ag ap a ng cg np cp n c Nn _ L0 L1 (((L1 + L0 + 1) * i + 1)) goals _ (combS goals ng Nn (fun t => mat rows t M) piv i) [_, _, _, _] S _ hbk (hmk.ext z51) (QA.cast (r' := mat rows i M) (hq1.ext z51) (by rw [show (N + (n : Int)).toNat = M by omega]; rfl)) (hV.ext z51) (by omega) hN hNb hng (by rw [hq28]; exact hpn i (by omega)) hgr hgs (combS_sz hgs h0 fun t _ => hrs.at h1 t _) h0 h1 (by omega) (by omega) (hu.mono (by omega))) rfl rfl ?_
  rintro _ Va ⟨rfl, kda, hVa⟩
  refine ⟨_, rfl, ?_⟩
  refine ⟨fun _ => (q52.trans kda), ?_⟩
  refine tk 15 rfl (by kernel_rfl) (q52.trans kda) (pv (fun _ y55 => ras (v := .slice _ _ _) rfl)) ?_
  refine dn (by kernel_rfl) ?_
  refine V.reg rfl ?_
  refine vv (rbin (bAdd (wi (by omega))) rfl rfl) ?_
  refine mvi rfl ?_
  refine vnil ?_
  refine ⟨rfl, i + 1, ⟨rfl, rfl, rfl, trivial⟩, ⟨rfl, rfl, trivial⟩, ⟨by omega, hVa.cast (by rw [hq28]; exact combS_succ goals ng Nn (fun t => mat rows t M) piv i), (hkd.trans (Ext.kd z51)).trans kda⟩, ?_⟩
  show np - (i + 1) < np - i
  omega
 ·intro c27
  refine vnil ?_
  refine V.seq ?_
  refine V.condF rfl ?_
  refine V.exit ?_
  refine V.seq (V.reg rfl ?_)
  refine mvs rfl ?_
  refine ass rfl ?_
  refine vnil ?_
  refine V.ret ?_
  refine ⟨[.slice _ _ _], ⟨rfl, trivial⟩, ?_⟩
  have ei : i = piv.length := by omega
  have kx := hkd.trans (Ext.kd zz)
  have sx := kx.size
  refine ⟨_, _, _, rfl, KD.ex kx (fun q hq => by omega), (VQ.gc (hV.ext zz) (hu _ (by omega))).cast ?_⟩
  rw [ei]; rfl
set_option maxHeartbeats 1000000 in
theorem tSol_ok (bw : Nat) (N : Int) (ag ap a : Option Addr) (ng cg np cp n c Nn M : Nat) (L0 L1 : Nat) (goals rows : List (List Rat)) (piv : List Int) (S S0 S1 S2 : Nat → Prop) (w : World) (hb : BoxAt w bw [.int .i64 N, .slice ag ng cg, .slice ap np cp, .slice a n c] 91) (hm : MA L0 S0 w ag ng cg goals) (hr : MA L1 S1 w a n c rows) (hp : RN .i64 S2 w ap np cp piv) (hN : N = (Nn : Int)) (hNb : Nn ≤ 64) (hng : ng ≤ 64) (hn : n ≤ 64) (hnp : np = n) (hM : Nn + n = M) (hgr : ∀ r ∈ goals, r.length = Nn) (hrr : ∀ r ∈ rows, r.length = M + 1) (hpn : ∀ t : Nat, t < np → 0 ≤ wd piv t) (h0 : 1 ≤ L0) (h1 : 1 ≤ L1) (hL : (L1 + L0 + 1) * 200 + 100 < LY) (hu : Up S w) :
    Calls Tryz.prog 73 #[.pointer (some ⟨bw, 0, none⟩)] w (fun e w' => ∃ ra rk rc, e = .returned (.slice ra rk rc) ∧ Ext w w' ∧ GC S w' ra rk rc (solT rows piv Nn M np)) := by
 have z0 := Ext.refl w; have hLX : LX = 17592186044416 := rfl; have hLY : LY = 8796093022208 := rfl
 have hbw0 := hb; have lbw := hb.lt; have l1 := hm.len; have l2 := hr.len; have l3 := hp.len; have hgs : szR L0 goals := hm.rowsz h0; have hrs : szR L1 rows := hr.rowsz h1; have hLV : LV = 1099511627776 := rfl
 refine enter (args := [.pointer (some ⟨bw, 0, none⟩)]) Tryz.func73 rfl rfl (Nat.le_of_ble_eq_true rfl) ?_
 refine V.seq (V.reg rfl ?_)
 refine ass rfl ?_
 refine vnil ?_
 refine V.seq ?_
 refine V.seq (V.reg rfl ?_)
 refine mvp rfl ?_
 refine vv (rpnil (q := false) (by kernel_rfl) rfl rfl rfl) ?_
 refine vnil ?_
 refine V.condF rfl ?_
 refine V.skip ?_
 refine V.seq (V.reg rfl ?_)
 refine mvp rfl ?_
 refine vv (rnc (v := .pointer (some ⟨_, _, none⟩)) rfl rfl) ?_
 refine vv (rfa rfl fd91_0) ?_
 refine vv (rldb (v := .int _ _) rfl sc3 hb rfl) ?_
 refine vo ?_
 refine xmkS (zs := [.bool false, .slice _ _ _, .bool false, .slice _ _ _]) (Nn) sl23 in48 rfl rfl rfl rfl rfl (by omega) (by omega) (by omega) ?_
 intro W1 x2 out n3
 have s4 := x2.sz
 have z5 := x2
 replace hb := hb.ext x2
 refine ass rfl ?_
 refine vnil ?_
 refine V.seq ?_
 refine V.seq (V.reg rfl ?_)
 refine mvp rfl ?_
 refine vv (rnc (v := .pointer (some ⟨_, _, none⟩)) rfl rfl) ?_
 refine vv (rfa rfl fd91_2) ?_
 refine vv (rldb (v := .slice _ _ _) rfl sc73 hb rfl) ?_
 refine vv (rlen sl73 rfl) ?_
 refine mvi rfl ?_
 refine vnil ?_
 refine V.block ?_
 have hV0 := VQ.made (S := S) (n0 := Nn) out rfl; have z3 := z5; have s3 := z3.sz
 have hmD : MA L0 (fun b => b ≠ w.heap.size) w ag ng cg goals := MG.sub (okRowA L0) hm fun b hb _ => by omega
 have hrD : MA L1 (fun b => b ≠ w.heap.size) w a n c rows := MG.sub (okRowA L1) hr fun b hb _ => by omega
 have hpD : RN .i64 (fun b => b ≠ w.heap.size) w ap np cp piv := hp.sub fun b hb _ => by omega
 refine V.loopK (ι := Nat) [(0, .pointer (some ⟨_, _, none⟩)), (3, .slice _ _ _), (16, .slice _ _ _), (17, .int _ _)] (fun i => [(18, .int .i64 (i : Int))]) (fun i W => i ≤ np ∧ VQ S W (w.heap.size) Nn (solT rows piv Nn M i) ∧ KD (fun b => b ≠ w.heap.size) w W) (fun i => np - i) (0) ⟨rfl, rfl, rfl, rfl, trivial⟩ ⟨rfl, trivial⟩ ⟨Nat.zero_le _, hV0, Ext.kd z5⟩ ?_
 intro i E7 W6 h8
 obtain ⟨hi, hV, hkd⟩ := h8
 have hbk := hbw0.kd (D := fun b => b ≠ w.heap.size) hkd (show bw ≠ w.heap.size by omega); have hmk : MA L0 (fun b => b ≠ w.heap.size) W6 ag ng cg goals := MG.ck (okRowA L0) hmD hkd.ck; have hrk : MA L1 (fun b => b ≠ w.heap.size) W6 a n c rows := MG.ck (okRowA L1) hrD hkd.ck; have hpk := hpD.ck hkd.ck; have zz := Ext.refl W6; have szk := hkd.size; have lV := hV.lt; have hrl := hrk.len; have lbk := hbk.lt; have hLi : (L1 + L0 + 1) * i ≤ (L1 + L0 + 1) * 64 := Nat.mul_le_mul_left _ (by omega)
 refine V.seq (V.reg rfl ?_)
 refine vlt rfl rfl ?_ ?_
 ·intro c9
  have hrw : (rowat rows ((i : Int)).toNat).length = M + 1 := hrr _ (row_mem (by omega))
  obtain ⟨ra0, rk0, rc0, hc0, hg0⟩ := hrk.el (i := (i : Int)) (by omega) (by omega)
  have ce0 : C1 W6 _ _ := hc0; have hgl0 := hg0.len
  obtain ⟨en1, ea1, el1, ec1, em1, eb1, ek1, ed1, hq1, hc1⟩ := (hg0).el (i := (N + (n : Int))) (by omega) (by omega)
  have ce1 : CE W6 _ _ := hc1
  refine vnil ?_
  refine V.seq ?_
  refine V.condT rfl ?_
  refine V.skip ?_
  refine V.seq ?_
  refine V.block ?_
  refine V.seq (V.reg rfl ?_)
  refine mvi rfl ?_
  refine vv (rixn hpk sl73 sz3 rfl rfl (by omega) (by omega)) ?_
  refine vldN hpk rfl sc3 (by omega) (by omega) ?_
  intro q10 hq10 hk11
  simp only [kb] at hk11
  refine asi rfl ?_
  refine asi rfl ?_
  refine vnil ?_
  refine V.seq (V.reg rfl ?_)
  refine mvi rfl ?_
  refine mvp rfl ?_
  refine vv (rnc (v := .pointer (some ⟨_, _, none⟩)) rfl rfl) ?_
  refine vv (rfa rfl fd91_0) ?_
  refine vv (rldb (v := .int _ _) rfl sc3 hbk rfl) ?_
  refine vlt rfl rfl ?_ ?_
  ·intro c7
   have hwp := hpn i (by omega)
   refine vnil ?_
   refine V.condT rfl ?_
   refine V.regD mixed rfl ?_
   intro W12 x13
   have s14 := x13.sz
   have z15 := x13
   replace hbk := hbk.ext x13
   have q16 := Ext.refl W12
   have r17 := hbk
   refine tk 0 rfl (by kernel_rfl) q16 (pv (fun _ y18 => rmv (v := .slice _ _ _) rfl)) ?_
   refine tk 1 rfl (by kernel_rfl) q16 (pv (fun _ y19 => rmv (v := .int _ _) rfl)) ?_
   refine tk 2 rfl (by kernel_rfl) q16 (pv (fun _ y20 => rmv (v := .pointer (some ⟨_, _, none⟩)) rfl)) ?_
   refine tk 3 rfl (by kernel_rfl) q16 (pv (fun _ y21 => rnc (v := .pointer (some ⟨_, _, none⟩)) rfl rfl)) ?_
   refine tk 4 rfl (by kernel_rfl) q16 (pv (fun _ y22 => rfa rfl fd91_3)) ?_
   refine tk 5 rfl (by kernel_rfl) q16 (pv (fun _ y23 => rldb (v := .slice _ _ _) rfl sc22 (r17.ext y23) rfl)) ?_
   refine tk 6 rfl (by kernel_rfl) q16 (pv (fun _ y24 => rmv (v := .int _ _) rfl)) ?_
   refine tk 7 rfl (by kernel_rfl) q16 (pv (fun _ y25 => rix sl22 sz23 rfl rfl (by omega) (by omega) (((hrk.ext z15).ext y25).isS (i := 0) (by omega) (by omega)))) ?_
   refine tk 8 rfl (by kernel_rfl) q16 (pv (fun _ y26 => rld1 (v := .slice _ _ _) rfl sc23 ((ce0.ext z15).ext y26))) ?_
   refine tk 9 rfl (by kernel_rfl) q16 (pv (fun _ y27 => rmv (v := .pointer (some ⟨_, _, none⟩)) rfl)) ?_
   refine ef 10 (by kernel_rfl) rfl ?_
   refine xcall e87 (cols_ok _ N _ _ _ _ _ _ _ n _ _ hbk (by omega) (by omega)) rfl rfl ?_
   rintro _ W28 ⟨rfl, x29⟩
   have s30 := x29.sz
   have z31 := z15.trans x29
   replace hbk := hbk.ext x29
   have q32 := q16.trans x29
   refine ⟨_, rfl, ?_⟩
   refine ⟨fun _ => q32, ?_⟩
   refine tk 11 rfl (by kernel_rfl) q32 (pv (fun _ y33 => rix sl23 sz48 rfl rfl (by omega) (by omega) (((hg0.ext z15).ext y33).isS (i := 0) (by omega) (by omega)))) ?_
   refine tk 12 rfl (by kernel_rfl) q32 (pv (fun _ y34 => rldn (l := [.bool _, .slice _ _ _, .bool _, .slice _ _ _]) rfl ag48 rfl ((ce1.ext z15).ext y34))) ?_
   refine ef 13 (by kernel_rfl) rfl ?_
   refine xcall e92 (fCanon_ok [_, _, _, _] _ L1 (SX S [w.heap.size]) _ _ (hq1.ext z31) (by omega) h1 (SX.up (hu.mono (by omega)) (by simp; omega))) rfl rfl ?_
   rintro _ W36 ⟨_, rfl, x37, hq35⟩
   have s38 := x37.sz
   have z39 := z31.trans x37
   replace hbk := hbk.ext x37
   have q40 := q32.trans x37
   obtain ⟨_, _, _, _, _, _, _, _, rfl⟩ := hq35.form
   refine ⟨_, rfl, ?_⟩
   refine ⟨fun _ => q40, ?_⟩
   refine tk 14 rfl (by kernel_rfl) q40 (pv (fun _ y41 => rix sl23 sz48 rfl rfl (by omega) (by omega) rfl)) ?_
   refine ef 15 (by kernel_rfl) rfl ?_
   refine xstV (hV.ext z39) rfl rfl sz48 (by omega) (by omega) hq35 ?_
   intro Wa ya hVa
   refine lastT (by kernel_rfl) ?_
   refine dn (by kernel_rfl) ?_
   refine V.reg rfl ?_
   refine vv (rbin (bAdd (wi (by omega))) rfl rfl) ?_
   refine mvi rfl ?_
   refine vnil ?_
   refine ⟨rfl, i + 1, ⟨rfl, rfl, rfl, rfl, trivial⟩, ⟨rfl, trivial⟩, ⟨by omega, hVa.cast (by rw [solT, if_pos (by omega)]; rw [show (N + (n : Int)).toNat = M by omega]; rw [hq10]; rfl), (hkd.trans (Ext.kd z39)).trans (ya.kd fun h => h rfl)⟩, ?_⟩
   show np - (i + 1) < np - i
   omega
  ·intro c7
   refine vnil ?_
   refine V.condF rfl ?_
   refine V.skip ?_
   refine V.reg rfl ?_
   refine vv (rbin (bAdd (wi (by omega))) rfl rfl) ?_
   refine mvi rfl ?_
   refine vnil ?_
   refine ⟨rfl, i + 1, ⟨rfl, rfl, rfl, rfl, trivial⟩, ⟨rfl, trivial⟩, ⟨by omega, (hV.ext zz).cast (by rw [solT, if_neg (by omega)]), hkd.trans (Ext.kd zz)⟩, ?_⟩
   show np - (i + 1) < np - i
   omega
 ·intro c9
  refine vnil ?_
  refine V.seq ?_
  refine V.condF rfl ?_
  refine V.exit ?_
  refine V.seq (V.reg rfl ?_)
  refine mvs rfl ?_
  refine ass rfl ?_
  refine vnil ?_
  refine V.ret ?_
  refine ⟨[.slice _ _ _], ⟨rfl, trivial⟩, ?_⟩
  have ei : i = np := by omega
  have kx := hkd.trans (Ext.kd zz)
  have sx := kx.size
  refine ⟨_, _, _, rfl, KD.ex kx (fun q hq => by omega), (VQ.gc (hV.ext zz) (hu _ (by omega))).cast ?_⟩
  rw [ei]
set_option maxHeartbeats 400000 in
theorem tBasis_ok (bw : Nat) (N : Int) (ag ap a : Option Addr) (ng cg np cp n c : Nat) (piv : List Int) (S S2 : Nat → Prop) (w : World) (hb : BoxAt w bw [.int .i64 N, .slice ag ng cg, .slice ap np cp, .slice a n c] 91) (hp : RN .i64 S2 w ap np cp piv) (hnp : np ≤ 64) (hu : Up S w) :
    Calls Tryz.prog 81 #[.pointer (some ⟨bw, 0, none⟩)] w (fun e w' => ∃ k cc, e = .returned (.slice k np cc) ∧ Ext w w' ∧ RN .i64 S w' k np cc piv) := by
 have z0 := Ext.refl w; have hLX : LX = 17592186044416 := rfl; have hLY : LY = 8796093022208 := rfl
 have l3 := hp.len
 refine enter (args := [.pointer (some ⟨bw, 0, none⟩)]) Tryz.func81 rfl rfl (Nat.le_of_ble_eq_true rfl) ?_
 refine V.seq (V.reg rfl ?_)
 refine ass rfl ?_
 refine vnil ?_
 refine V.seq ?_
 refine V.seq (V.reg rfl ?_)
 refine mvp rfl ?_
 refine vv (rpnil (q := false) (by kernel_rfl) rfl rfl rfl) ?_
 refine vnil ?_
 refine V.condF rfl ?_
 refine V.skip ?_
 refine V.seq (V.reg rfl ?_)
 refine mvp rfl ?_
 refine vv (rnc (v := .pointer (some ⟨_, _, none⟩)) rfl rfl) ?_
 refine vv (rfa rfl fd91_2) ?_
 refine vv (rldb (v := .slice _ _ _) rfl sc73 hb rfl) ?_
 refine vv (rlen sl73 rfl) ?_
 refine vo ?_
 refine xmk (np) sl73 in3 (by simp [kb]) rfl rfl (by omega) (by omega) (by omega) ?_
 intro W1 x2 out n3
 have s4 := x2.sz
 have z5 := x2
 replace hb := hb.ext x2
 refine ass rfl ?_
 refine vnil ?_
 refine V.seq (V.reg rfl ?_)
 refine mvs rfl ?_
 refine mvp rfl ?_
 refine vv (rnc (v := .pointer (some ⟨_, _, none⟩)) rfl rfl) ?_
 refine vv (rfa rfl fd91_2) ?_
 refine vv (rldb (v := .slice _ _ _) rfl sc73 hb rfl) ?_
 refine vo ?_
 refine xcpy out (hp.ext z5) rfl rfl rfl sl73 (by exact sz3) ?_
 intro vc Wc yc hAc
 refine vnil ?_
 refine V.seq (V.reg rfl ?_)
 refine mvs rfl ?_
 refine ass rfl ?_
 refine vnil ?_
 refine V.ret ?_
 refine ⟨[.slice _ _ _], ⟨rfl, trivial⟩, ?_⟩
 have sz1 := (z5).sz
 exact ⟨_, _, rfl, (z5).below (yc.below (by omega)), hAc.rn (hu _ (by omega))⟩
end Go.Proofs.YtknbjfefeeojlaaGreat
/- A range over a function whose values are made anew in each round. -/
namespace Go.Proofs.YtknbjfefeeojlaaGreat
open Go.RowKit
/-- The iterator calls yield M times, with values of which Yv speaks, as long as each round goes on. -/
def IterG (P : Program) (gf : Nat) (lb : Array Value) (Yv : Nat → Value → Value → Nat → World → Prop) (D : Nat → Prop) (M : Nat) (w : World) : Prop :=
  ∀ (l : Nat) (J Jx : Nat → World → Prop) (X : World), Ext w X → (∀ i A B, J i A → Ext A B → J i B) → (∀ i A B, Jx i A → Ext A B → Jx i B) →
    (∀ i A0 A u1 u2, J i A0 → i < M → KD D w A0 → Ext A0 A → Yv i u1 u2 A0.heap.size A → YieldAt Fence.wide 0 P l #[u1, u2] A fun e B =>
      (e = .returned (.bool true) ∧ J (i + 1) B ∧ KD D A B) ∨ (e = .returned (.bool false) ∧ Jx i B ∧ KD D A B)) → J 0 X →
    Calls P gf (#[.func (.yield l) #[] #[]] ++ lb) X fun e B => (∃ v, e = .returned v) ∧ (J M B ∨ ∃ i, i < M ∧ Jx i B)
section
variable {P : Program} {N : Nat} {E : Env} {W W' : World} {Rr : Ending → World → Prop} {fn : Func}
theorem V.rfG {g : Operand} {p1 p2 : Tmp} {assign body : Code} {ds : List Deferred} {Q : EQ} {gf : Nat} {lb : Array Value} (hg : ev E g = .func (.func gf) #[] lb) (eg : Ent P gf) {Yv : Nat → Value → Value → Nat → World → Prop} {D : Nat → Prop} {M : Nat} {w0 : World}
    (hseq : IterG P gf lb Yv D M w0) (hb0 : Ext w0 W) (hD : ∀ k, D k → k < W.heap.size) (hp : (Nat.blt p1 N && Nat.blt p2 N) = true)
    (I : Nat → World → Prop) (Ix : Code → Nat → World → Prop)
    (hI : ∀ i X Y, I i X → Tn W.heap.size X Y → I i Y) (hIx : ∀ c i X Y, Ix c i X → Tn W.heap.size X Y → Ix c i Y) (h0 : I 0 W)
    (hround : ∀ l i X0 X u1 u2, I i X0 → i < M → KD D w0 X0 → W.heap.size ≤ X0.heap.size → Ext X0 X → Yv i u1 u2 X0.heap.size X → V (some l) P N [] assign (thenV (fun E' ds' Y => ds' = [] ∧ Kf W.heap.size D X Y ∧ ∀ Z, Tn W.heap.size Y Z → V (some l) P N [] body (rndQ W.heap.size D I Ix i Z) E' Z) badQ) (up (up E p1 u1) p2 u2) X)
    (hdone : ∀ D X, W.heap.size ≤ D → I M X → X.heap[D]? = some (.deferred (some [])) → W.heap.size ≤ X.heap.size → Q .normal E (mark D :: ds) X)
    (hstop : ∀ D c i X, W.heap.size ≤ D → i < M → Ix c i X → X.heap[D]? = some (.deferred (some [])) → W.heap.size ≤ X.heap.size → V none P N (mark D :: ds) c Q E X) :
    V none P N ds (.rangeFunc g #[p1, p2] assign body) Q E W := by
  intro a hrep hd
  simp only [Bool.and_eq_true] at hp
  refine wpIn_rangeFunc fun fn hfn => ?_
  obtain ⟨rec, hrec⟩ : ∃ rec : LoopState → Option Code → Loop, rec = fun st pe => { state := st, pending := pe, fn, tmps := a.tmps, params := #[p1, p2], assign, body, defers := W.heap.size } := ⟨_, rfl⟩
  obtain ⟨W1, hW1⟩ : ∃ W1, (W.alloc (.deferred (some []))).alloc (.loop (rec .ready none)) = W1 := ⟨_, rfl⟩
  have x1 : Ext W W1 := by rw [← hW1]; exact ((Ext.refl _).alloc _).alloc _
  have hL1 : W1.heap[W.heap.size + 1]? = some (.loop (rec .ready none)) := by
    rw [← hW1]; have := World.alloc_heap_new (W.alloc (.deferred (some []))) (.loop (rec .ready none)); rwa [World.size_alloc] at this
  have hK1 : W1.heap[W.heap.size]? = some (.deferred (some [])) := by
    rw [← hW1]; exact (Below.heap_alloc _ _ _ (by simp)).trans (World.alloc_heap_new W _)
  have keepL : ∀ {A B : World} {k : Nat} {o : Obj}, Ext A B → A.heap[k]? = some o → B.heap[k]? = some o := fun h hk => (h.block _ (Array.getElem?_eq_some_iff.1 hk).1).trans hk
  refine ⟨W.heap.size + 1, [mark W.heap.size], W1, { target := .fn (.func gf) lb, args := #[.func (.yield (W.heap.size + 1)) #[] #[]] }, W1, gf, #[.func (.yield (W.heap.size + 1)) #[] #[]] ++ lb, W1, ?_, ?_, fun _ _ => trivial, ?_, fun hx => by simp [fen, Fence.wide] at hx, ?_⟩
  · rw [← hW1, hrec]; exact run_enterLoop_outer _ _ _ _ _
  · rw [hrep.eval]
    simp only [resolve, hg]
    simp [go_sem]
    simp [ev]
  · simp [invoke, go_sem, eg _ _]
  refine callsIn_fen ((hseq (W.heap.size + 1)
    (fun i X => I i X ∧ W1.heap.size ≤ X.heap.size ∧ X.heap[W.heap.size + 1]? = some (.loop (rec .ready none)) ∧ X.heap[W.heap.size]? = some (.deferred (some [])))
    (fun i X => ∃ c, Ix c i X ∧ W1.heap.size ≤ X.heap.size ∧ X.heap[W.heap.size + 1]? = some (.loop (rec .done (some c))) ∧ X.heap[W.heap.size]? = some (.deferred (some [])))
    W1 (hb0.trans x1)
    (fun i A B h hx => ⟨hI i A B h.1 (Tn.of_ext hx _), Nat.le_trans h.2.1 hx.size, keepL hx h.2.2.1, keepL hx h.2.2.2⟩)
    (fun i A B h hx => by obtain ⟨c, h1, h2, h3, h4⟩ := h; exact ⟨c, hIx c i A B h1 (Tn.of_ext hx _), Nat.le_trans h2 hx.size, keepL hx h3, keepL hx h4⟩)
    ?_ ⟨hI _ _ _ h0 (Tn.of_ext x1 _), Nat.le_refl _, hL1, hK1⟩).mono ?_)
  · rintro i X0 X u1 u2 ⟨hi, hsz0, hl0, hk0⟩ hiM hkd hx0 hyv
    have hsz := Nat.le_trans hsz0 hx0.size; have hl := keepL hx0 hl0; have hk := keepL hx0 hk0; have hWX0 := Nat.le_trans x1.size hsz0
    have hWX : W.heap.size ≤ X.heap.size := Nat.le_trans x1.size hsz
    have hy := run_yield (P := P) (args := #[u1, u2]) hl (by rw [hrec]; rfl)
    rw [hrec] at hy
    refine ⟨fn, _, assign, body, hy, roundIn_of_wpIn hfn ?_⟩
    have hrep2 : Rep N { tmps := ((#[p1, p2] : Array Tmp).zip #[u1, u2]).foldl (fun tmps (t, a) => tmps.setIfInBounds t a) a.tmps, defers := [] } (up (up E p1 u1) p2 u2) := by
      have h1 := (hrep.put hp.1 u1).put hp.2 u2
      exact ⟨by have := h1.size; simpa [Act.put] using this, fun t => by have := h1.get t; simpa [Act.put] using this⟩
    refine wpIn_mono (hround (W.heap.size + 1) i X0 X u1 u2 hi hiM hkd hWX0 hx0 hyv _ hrep2 rfl) ?_
    rintro e a1 Y ⟨E', hr1, hq⟩
    cases e with
    | normal =>
      obtain ⟨hd1, hkf, hcont⟩ := hq
      have hlY := hkf.1.same _ _ (by omega) hl rfl
      have hkY := hkf.1.same _ _ (Nat.le_refl _) hk rfl
      have hltY : W.heap.size + 1 < Y.heap.size := (Array.getElem?_eq_some_iff.1 hlY).1
      refine ⟨_, run_beginRound hlY (by rw [hrec]), ?_⟩
      have tY := Tn.putObj (B := W.heap.size) (.loop { rec .ready none with state := .busy }) hlY (by omega) rfl
      have hl2 : (Y.putObj (W.heap.size + 1) (.loop { rec .ready none with state := .busy })).heap[W.heap.size + 1]? = some (.loop { rec .ready none with state := .busy }) := World.putObj_heap_same hltY
      have hk2 : (Y.putObj (W.heap.size + 1) (.loop { rec .ready none with state := .busy })).heap[W.heap.size]? = some (.deferred (some [])) := (World.putObj_heap_other (by omega)).trans hkY
      refine wpIn_mono (hcont _ tY a1 hr1 hd1) ?_
      have hbXY : KD D X (Y.putObj (W.heap.size + 1) (.loop { rec .ready none with state := .busy })) := hkf.2.trans (tY.kd hD)
      have fin : ∀ (jump : Option Code) (Z : World), Kf W.heap.size D (Y.putObj (W.heap.size + 1) (.loop { rec .ready none with state := .busy })) Z →
          (Instr.endRound (W.heap.size + 1) jump).run P Z = .ok (.bool jump.isNone) (Z.putObj (W.heap.size + 1) (.loop (rec (if jump.isNone then .ready else .done) jump))) ∧
          Tn W.heap.size Z (Z.putObj (W.heap.size + 1) (.loop (rec (if jump.isNone then .ready else .done) jump))) ∧ W1.heap.size ≤ (Z.putObj (W.heap.size + 1) (.loop (rec (if jump.isNone then .ready else .done) jump))).heap.size ∧
          (Z.putObj (W.heap.size + 1) (.loop (rec (if jump.isNone then .ready else .done) jump))).heap[W.heap.size + 1]? = some (.loop (rec (if jump.isNone then .ready else .done) jump)) ∧
          (Z.putObj (W.heap.size + 1) (.loop (rec (if jump.isNone then .ready else .done) jump))).heap[W.heap.size]? = some (.deferred (some [])) := fun jump Z hkZ => by
        have hl3 := hkZ.1.same _ _ (by omega) hl2 rfl
        have := run_endRound (P := P) jump hl3
        have hs1 := hkf.1.size
        have hs2 := hkZ.1.size
        simp only [World.putObj_size] at hs2
        rw [hrec] at this ⊢
        refine ⟨this, Tn.putObj _ hl3 (by omega) rfl, by simp; omega, World.putObj_heap_same (Array.getElem?_eq_some_iff.1 hl3).1, (World.putObj_heap_other (by omega)).trans (hkZ.1.same _ _ (Nat.le_refl _) hk2 rfl)⟩
      rintro e a3 Z ⟨E3, _, hp3⟩
      cases e with
      | normal =>
        obtain ⟨hkZ, hiZ⟩ := hp3
        obtain ⟨hr, t3, hs3, hl4, hk4⟩ := fin none Z hkZ
        exact ⟨_, _, hr, .inl ⟨rfl, ⟨hI _ _ _ hiZ t3, hs3, hl4, hk4⟩, hbXY.trans (hkZ.2.trans (t3.kd hD))⟩⟩
      | ret =>
        obtain ⟨hkZ, hiZ⟩ := hp3
        obtain ⟨hr, t3, hs3, hl4, hk4⟩ := fin (some .ret) Z hkZ
        exact ⟨_, _, hr, .inr ⟨rfl, ⟨.ret, hIx _ _ _ _ hiZ t3, hs3, hl4, hk4⟩, hbXY.trans (hkZ.2.trans (t3.kd hD))⟩⟩
      | exit id =>
        obtain ⟨hkZ, hiZ⟩ := hp3
        obtain ⟨hr, t3, hs3, hl4, hk4⟩ := fin (some (.exit id)) Z hkZ
        exact ⟨_, _, hr, .inr ⟨rfl, ⟨.exit id, hIx _ _ _ _ hiZ t3, hs3, hl4, hk4⟩, hbXY.trans (hkZ.2.trans (t3.kd hD))⟩⟩
      | goto t => exact hp3.elim
      | panic ch => exact hp3.elim
      | outgrown => exact hp3.elim
    | _ => exact hq.elim
  · rintro e X ⟨⟨v, rfl⟩, (⟨hi, hsz, hl, hk⟩ | ⟨i, hiM, c, hi, hsz, hl, hk⟩)⟩
    · have he := run_endLoop (P := P) hl (by rw [hrec]; simp)
      rw [hrec] at he
      have t := Tn.putObj (B := W.heap.size) (.loop { rec .ready none with state := .exhausted }) hl (by omega) rfl
      rw [hrec] at t
      refine ⟨none, _, he, E, ⟨hrep.size, hrep.get⟩, ?_⟩
      show Q .normal E (mark W.heap.size :: a.defers) _
      rw [hd]
      exact hdone _ _ (Nat.le_refl _) (hI _ _ _ hi t) ((World.putObj_heap_other (by omega)).trans hk) (by have := x1.size; simp; omega)
    · have he := run_endLoop (P := P) hl (by rw [hrec]; simp)
      rw [hrec] at he
      have t := Tn.putObj (B := W.heap.size) (.loop { rec .done (some c) with state := .exhausted }) hl (by omega) rfl
      rw [hrec] at t
      refine ⟨some c, _, he, ?_⟩
      refine wpIn_depth rfl (hstop _ c i _ (Nat.le_refl _) hiM (hIx _ _ _ _ hi t) ((World.putObj_heap_other (by omega)).trans hk) (by have := x1.size; simp; omega) { a with defers := [mark W.heap.size] ++ a.defers } ⟨hrep.size, hrep.get⟩ (by rw [← hd]; rfl))
end
end Go.Proofs.YtknbjfefeeojlaaGreat
/- Package tableau: columns, ReducedCosts, Optimal. -/
namespace Go.Proofs.YtknbjfefeeojlaaGreat
open Go.RowKit
attribute [local irreducible] RV VH V OpF Calls
theorem GO.low {ρt : Type} {El : (Nat → Prop) → World → List Value → ρt → Prop} {S : Nat → Prop} {s B : Nat} {W : World} {e : TypeId} {v : Value} {rs : List ρt} (h : GO s El S B W e v rs) : ∀ b, v.ownBlock = some b → B ≤ b ∧ b < W.heap.size := by
  obtain ⟨qs, h1, h2⟩ := h; exact h1.low
set_option maxHeartbeats 400000 in
theorem columns_iter {D : Nat → Prop} {w : World} {bw b1 : Nat} {N : Int} {ag ap a : Option Addr} {ng cg np cp n c Nn M : Nat} {L0 L1 : Nat} {goals rows : List (List Rat)} {piv : List Int} (hb1 : BoxAt w b1 [.pointer (some ⟨bw, 0, none⟩)] 30) (hb : BoxAt w bw [.int .i64 N, .slice ag ng cg, .slice ap np cp, .slice a n c] 91) (hm : MA L0 D w ag ng cg goals) (hr : MA L1 D w a n c rows) (hp : RN .i64 D w ap np cp piv) (hN : N = (Nn : Int)) (hNb : Nn ≤ 64) (hng : ng ≤ 64) (hn : n ≤ 64) (hnp : np = n) (hM : Nn + n = M) (hgr : ∀ r ∈ goals, r.length = Nn) (hrr : ∀ r ∈ rows, r.length = M + 1) (hpn : ∀ t : Nat, t < np → 0 ≤ wd piv t) (h0 : 1 ≤ L0) (h1 : 1 ≤ L1) (hL : (L1 + L0 + 1) * 200 + 100 < LY) (h9 : D b1) (h8 : D bw) :
    IterG Tryz.prog 158 #[.pointer (some ⟨b1, 0, none⟩)] (fun i u v lo X => u = .int .i64 (i : Int) ∧ ∃ ra rk rc, v = .slice ra rk rc ∧ GC (fun b => lo ≤ b) X ra rk rc (rcost goals ng Nn rows piv i)) D M w := by
 have z0 := Ext.refl w; have hLX : LX = 17592186044416 := rfl; have hLY : LY = 8796093022208 := rfl
 intro l J Jx X hX hJs hJxs hY hJ0
 have hm0 : MA L0 D X ag ng cg goals := MG.ck (okRowA L0) hm (hX.ck _); have hr0 : MA L1 D X a n c rows := MG.ck (okRowA L1) hr (hX.ck _); have hp0 := hp.ext hX; have b10 := hb1.ext hX; have bw0 := hb.ext hX; have zX0 := Ext.refl X
 have l1 := hm.len; have l2 := hr.len; have l3 := hp.len
 refine enter (args := [.func (.yield l) #[] #[], .pointer (some ⟨b1, 0, none⟩)]) Tryz.func158 rfl rfl (Nat.le_of_ble_eq_true rfl) ?_
 refine V.seq (V.reg rfl ?_)
 refine vv (rldb (v := .pointer (some ⟨_, _, none⟩)) rfl sc30 b10 rfl) ?_
 refine vo ?_
 refine xcall e87 (cols_ok _ N _ _ _ _ _ _ _ n _ _ bw0 (by omega) (by omega)) rfl rfl ?_
 rintro _ W1 ⟨rfl, x2⟩
 have s3 := x2.sz
 have z4 := x2
 refine ⟨_, rfl, ?_⟩
 refine mvi rfl ?_
 refine vnil ?_
 refine V.block ?_
 refine V.loopK (ι := Nat) [(0, .func _ _ _), (1, .pointer (some ⟨_, _, none⟩)), (5, .int _ _)] (fun i => [(6, .int .i64 (i : Int))]) (fun i W => J i W ∧ KD D w W ∧ i ≤ M) (fun i => M - i) (0) ⟨rfl, rfl, rfl, trivial⟩ ⟨rfl, trivial⟩ ⟨(hJs _ _ _ hJ0 z4), (hX.trans z4).kd, Nat.zero_le _⟩ ?_
 intro i E6 W5 h7
 obtain ⟨hJ, hkd, hk⟩ := h7
 have b1k := hb1.kd hkd h9; have bwk := hb.kd hkd h8; have hmk : MA L0 D W5 ag ng cg goals := MG.ck (okRowA L0) hm hkd.ck; have hrk : MA L1 D W5 a n c rows := MG.ck (okRowA L1) hr hkd.ck; have hpk := hp.ck hkd.ck; have zz := Ext.refl W5; have szk := hkd.size; have lb1k := b1k.lt
 refine V.seq (V.reg rfl ?_)
 refine vlt rfl rfl ?_ ?_
 ·intro c8
  refine vnil ?_
  refine V.seq ?_
  refine V.condT rfl ?_
  refine V.skip ?_
  refine V.seq ?_
  refine V.block ?_
  refine V.seq (V.reg rfl ?_)
  refine mvi rfl ?_
  refine asi rfl ?_
  refine vnil ?_
  refine V.seq (V.reg rfl ?_)
  refine mvf rfl ?_
  refine mvi rfl ?_
  refine vv (rldb (v := .pointer (some ⟨_, _, none⟩)) rfl sc30 b1k rfl) ?_
  refine mvi rfl ?_
  refine vo ?_
  refine xcall e83 (tCost_ok bw N ag ap a ng cg np cp n c Nn M L0 L1 goals rows piv (fun b => W5.heap.size ≤ b) D D D _ bwk hmk hrk hpk hN hNb hng hn hnp hM hgr hrr hpn h0 h1 hL (fun b hb => by omega) (i : Int) (by omega) (by omega)) rfl rfl ?_
  rintro _ W9 ⟨_, _, _, rfl, x10, hrc⟩
  have s11 := x10.sz
  have z12 := x10
  refine ⟨_, rfl, ?_⟩
  refine vo ?_
  refine xyield (vs := [.int _ _, .slice _ _ _]) rfl rfl (hY i _ _ _ _ hJ (by omega) hkd z12 ⟨rfl, _, _, _, rfl, hrc⟩) ?_
  rintro _ W' (⟨rfl, hJ', hkd'⟩ | ⟨rfl, hJx, hkd'⟩) <;> refine ⟨_, rfl, ?_⟩
  ·skip
   refine vv (rnot (q := false) rfl rfl) ?_
   refine vnil ?_
   refine V.condF rfl ?_
   refine V.skip ?_
   refine V.reg rfl ?_
   refine vv (rbin (bAdd (wi (by omega))) rfl rfl) ?_
   refine mvi rfl ?_
   refine vnil ?_
   refine ⟨rfl, i + 1, ⟨rfl, rfl, rfl, trivial⟩, ⟨rfl, trivial⟩, ⟨hJ', (hkd.trans (Ext.kd z12)).trans hkd', by omega⟩, ?_⟩
   show M - (i + 1) < M - i
   omega
  ·skip
   refine vv (rnot (q := true) rfl rfl) ?_
   refine vnil ?_
   refine V.condT rfl ?_
   refine V.ret ?_
   refine ⟨[], trivial, ?_⟩
   exact ⟨⟨_, rfl⟩, .inr ⟨i, by omega, hJx⟩⟩
 ·intro c8
  refine vnil ?_
  refine V.seq ?_
  refine V.condF rfl ?_
  refine V.exit ?_
  refine ⟨[], trivial, ?_⟩
  exact ⟨⟨_, rfl⟩, .inl (by rw [show M = i by omega]; exact hJ)⟩
set_option maxHeartbeats 400000 in
theorem columns_ok (bw : Nat) (w : World) :
    Calls Tryz.prog 101 #[.pointer (some ⟨bw, 0, none⟩)] w (fun e w' => ∃ b1, b1 = w.heap.size ∧ e = .returned (.func (.func 158) #[] #[.pointer (some ⟨b1, 0, none⟩)]) ∧ Ext w w' ∧ BoxAt w' b1 [.pointer (some ⟨bw, 0, none⟩)] 30) := by
 have z0 := Ext.refl w; have hLX : LX = 17592186044416 := rfl; have hLY : LY = 8796093022208 := rfl
 refine enter (args := [.pointer (some ⟨bw, 0, none⟩)]) Tryz.func101 rfl rfl (Nat.le_of_ble_eq_true rfl) ?_
 refine V.seq (V.reg rfl ?_)
 refine vo ?_
 refine bxp rfl ?_
 intro W1 x2 b3 nn4
 have s5 := x2.sz
 have z6 := x2
 refine asn rfl ?_
 refine vnil ?_
 refine V.seq (V.reg rfl ?_)
 refine vv (rmk1 (v := .pointer (some ⟨_, _, none⟩)) rfl) ?_
 refine asf rfl ?_
 refine vnil ?_
 refine V.ret ?_
 refine ⟨[.func _ _ _], ⟨rfl, trivial⟩, ?_⟩
 exact ⟨_, rfl, rfl, z6, b3⟩
set_option maxHeartbeats 1000000 in
theorem tOpt_ok (bw : Nat) (N : Int) (ag ap a : Option Addr) (ng cg np cp n c Nn M : Nat) (L0 L1 : Nat) (goals rows : List (List Rat)) (piv : List Int) (S0 S1 S2 : Nat → Prop) (w : World) (hb : BoxAt w bw [.int .i64 N, .slice ag ng cg, .slice ap np cp, .slice a n c] 91) (hm : MA L0 S0 w ag ng cg goals) (hr : MA L1 S1 w a n c rows) (hp : RN .i64 S2 w ap np cp piv) (hN : N = (Nn : Int)) (hNb : Nn ≤ 64) (hng : ng ≤ 64) (hn : n ≤ 64) (hnp : np = n) (hM : Nn + n = M) (hgr : ∀ r ∈ goals, r.length = Nn) (hrr : ∀ r ∈ rows, r.length = M + 1) (hpn : ∀ t : Nat, t < np → 0 ≤ wd piv t) (h0 : 1 ≤ L0) (h1 : 1 ≤ L1) (hL : (L1 + L0 + 1) * 200 + 100 < LY) :
    Calls Tryz.prog 76 #[.pointer (some ⟨bw, 0, none⟩)] w (fun e w' => ∃ q, e = .returned (.bool q) ∧ Ext w w' ∧ (q = true ↔ ∀ k, k < M → lexnn (rcost goals ng Nn rows piv k))) := by
 have z0 := Ext.refl w; have hLX : LX = 17592186044416 := rfl; have hLY : LY = 8796093022208 := rfl
 have hbw0 := hb; have lbw := hb.lt; have l1 := hm.len; have l2 := hr.len; have l3 := hp.len; have hgs : szR L0 goals := hm.rowsz h0; have hrs : szR L1 rows := hr.rowsz h1; have hLV : LV = 1099511627776 := rfl
 obtain ⟨LC, hLC⟩ : ∃ L, L = (L1 + L0 + 1) * 65 + 2 := ⟨_, rfl⟩
 have hcs : ∀ k, szV LC (rcost goals ng Nn rows piv k) := fun k r hr => (rcost_sz hgs h0 hrs h1 r hr).mono (by rw [hLC]; have := Nat.mul_le_mul_left (L1 + L0 + 1) (show piv.length + 1 ≤ 65 by omega); omega)
 refine enter (args := [.pointer (some ⟨bw, 0, none⟩)]) Tryz.func76 rfl rfl (Nat.le_of_ble_eq_true rfl) ?_
 refine V.seq (V.reg rfl ?_)
 refine vo ?_
 refine xal zc4 ?_
 intro W1 x2 b3 nn4
 have s5 := x2.sz
 have z6 := x2
 replace hb := hb.ext x2
 refine vnil ?_
 refine V.seq ?_
 refine V.seq (V.reg rfl ?_)
 refine mvp rfl ?_
 refine vv (rpnil (q := false) (by kernel_rfl) rfl rfl rfl) ?_
 refine vnil ?_
 refine V.condF rfl ?_
 refine V.skip ?_
 refine V.seq ?_
 refine V.seq (V.reg rfl ?_)
 refine mvp rfl ?_
 refine vo ?_
 refine xcall e101 (columns_ok bw _) rfl rfl ?_
 rintro _ W7 ⟨b1, eb1, rfl, x8, hb1⟩
 have s9 := x8.sz
 have z10 := z6.trans x8
 replace hb := hb.ext x8
 replace b3 := b3.ext x8
 have lb1 := hb1.lt
 refine ⟨_, rfl, ?_⟩
 refine vnil ?_
 refine V.block ?_
 have l2b := b3.lt; have zR := z10; have sR := zR.sz; have hbR := hb
 have hmR : MA L0 (fun q => q < W7.heap.size ∧ q ≠ w.heap.size) W7 ag ng cg goals := MG.sub (okRowA L0) (S' := (fun q => q < W7.heap.size ∧ q ≠ w.heap.size)) (MG.ck (okRowA L0) (MG.sub (okRowA L0) (S' := (fun q => q < W7.heap.size ∧ q ≠ w.heap.size)) hm fun b hb _ => ⟨by omega, by omega⟩) (zR.ck _)) (fun _ _ h => h); have hrR : MA L1 (fun q => q < W7.heap.size ∧ q ≠ w.heap.size) W7 a n c rows := MG.ck (okRowA L1) (MG.sub (okRowA L1) hr fun b hb _ => ⟨by omega, by omega⟩) (zR.ck _); have hpR : RN .i64 (fun q => q < W7.heap.size ∧ q ≠ w.heap.size) W7 ap np cp piv := (hp.sub fun b hb _ => ⟨by omega, by omega⟩).ext zR
 refine V.rfG (gf := 158) rfl e158 (columns_iter (D := (fun q => q < W7.heap.size ∧ q ≠ w.heap.size)) (hb1) hb hmR hrR hpR hN hNb hng hn hnp hM hgr hrr hpn h0 h1 hL ⟨by omega, by omega⟩ ⟨by omega, by omega⟩) (Ext.refl _) (by rintro k ⟨h, _⟩; exact h) rfl (fun i X => Ext w X ∧ BoxAt X (w.heap.size) [.bool false] 4 ∧ ∀ k, k < i → lexnn (rcost goals ng Nn rows piv k)) (fun cd i X => cd = .ret ∧ Ext w X ∧ BoxAt X (w.heap.size) [.bool false] 4 ∧ ¬ lexnn (rcost goals ng Nn rows piv i)) (fun i X Y ⟨h1, h2, h3⟩ t => ⟨t.ext h1 (by omega), h2.tn t, h3⟩) (fun cd i X Y ⟨h0, h1, h2, h3⟩ t => ⟨h0, t.ext h1 (by omega), h2.tn t, h3⟩) (⟨zR, b3, fun k hk => absurd hk (Nat.not_lt_zero _)⟩) ?_ ?_ ?_
 ·intro l11 i12 X0 X13 u1 u2 hi14 hM15 hk16 hs17 hx0 hyv
  obtain ⟨rfl, ra9, rk9, rc9, rfl, hg9⟩ := hyv
  have s09 := hx0.sz
  refine V.reg rfl ?_
  refine ass rfl ?_
  refine vnil ?_
  refine ⟨rfl, Kf.refl _ _ _, ?_⟩
  intro Z18 t19
  obtain ⟨hX0, h2, hall⟩ := hi14
  have zX := t19.ext (hX0.trans hx0) (by omega); have h2z := (h2.ext hx0).tn t19; have hg9z := (hg9.ck (t19.ck _)).va (L := LC) (hcs i12); have zz := Ext.refl Z18; have sZ := zX.sz; have lg9 := hg9z.len; rw [rcost_len] at lg9; have l2z := h2z.lt
  refine V.block ?_
  refine V.seq (V.reg rfl ?_)
  refine mvs rfl ?_
  refine vo ?_
  refine xcall e146 (vSign_ok _ _ _ LC _ _ _ hg9z (by omega) (by omega) (by omega)) rfl rfl ?_
  rintro _ Ws ⟨sg, rfl, xs, hls⟩
  refine ⟨_, rfl, ?_⟩
  have hsg := sign_nn hls (by rw [rcost_len]; omega)
  have s20 := xs.sz
  have z21 := xs
  replace h2z := h2z.ext xs
  refine vlt rfl rfl ?_ ?_
  ·intro c52
   refine vnil ?_
   refine V.condT rfl ?_
   refine V.seq (V.reg rfl ?_)
   have b29 := h2z
   refine vo ?_
   refine st1 (v := .bool false) (cs' := [_]) h2z rfl rfl sz4 rfl rfl rfl rfl ?_
   intro W22 y23 h2z
   have s24 := y23.size
   refine vnil ?_
   refine V.ret ?_
   exact ⟨(Kf.ext z21).trans (Kf.wr y23 b29 fun h => h.2 rfl), rfl, (zX.trans z21).below (y23.below (by omega)), h2z, hsg.1 c52⟩
  ·intro c52
   refine vnil ?_
   refine V.condF rfl ?_
   refine V.skip ?_
   exact ⟨Kf.ext z21, zX.trans z21, h2z, fun k hk => by
    rcases Nat.lt_succ_iff_lt_or_eq.1 hk with h | rfl
    ·exact hall k h
    ·exact Classical.byContradiction fun h => by have h7 := hsg.2 h; omega⟩
 ·intro D25 X26 hD27 hI28 hdf29 hs30
  obtain ⟨hX0, h2, hall⟩ := hI28
  have l2x := h2.lt
  refine V.seq (V.reg rfl ?_)
  refine vo ?_
  refine st1 (v := .bool true) (cs' := [_]) h2 rfl rfl sz4 rfl rfl rfl rfl ?_
  intro W31 y32 h2
  have z33 := hX0.below (y32.below (by omega))
  have hd34 := y32.obj hdf29 (by omega)
  have s35 := y32.size
  refine vnil ?_
  refine V.ret ?_
  refine ⟨D25, rfl, hd34, ?_⟩
  have tp := Tn.putObj (B := w.heap.size) (.deferred none) hd34 (by omega) rfl
  have h2 := h2.tn tp
  have z36 := tp.ext z33 (Nat.le_refl _)
  refine ⟨[.bool true], ⟨⟨_, rfl, lv1 sc4 h2 rfl⟩, trivial⟩, ?_⟩
  exact ⟨_, rfl, z36, fun _ => hall, fun _ => rfl⟩
 ·rintro D' cd i X hD' hi ⟨rfl, hX0, h2, hne⟩ hdf hs
  have l2x := h2.lt
  refine V.ret ?_
  refine ⟨D', rfl, hdf, ?_⟩
  have tp := Tn.putObj (B := w.heap.size) (.deferred none) hdf (by omega) rfl
  have h2 := h2.tn tp
  have z37 := tp.ext hX0 (Nat.le_refl _)
  refine ⟨[.bool false], ⟨⟨_, rfl, lv1 sc4 h2 rfl⟩, trivial⟩, ?_⟩
  exact ⟨_, rfl, z37, fun h => (by cases h), fun h => absurd (h i (by omega)) hne⟩
end Go.Proofs.YtknbjfefeeojlaaGreat
/- Package tableau: all, and what a pivot does to one row. -/
namespace Go.Proofs.YtknbjfefeeojlaaGreat
open Go.RowKit
attribute [local irreducible] RV VH V OpF Calls
section
variable {B bw n c ng cg : Nat} {N : Int} {v pv : Value} {goals rows : List (List Rat)} {piv : List Int} {W W' : World} {a ag : Option Addr}
theorem TS.row (h : TS B bw N ag ng cg goals v pv rows piv W) (hv : v = .slice a n c) {i : Int} (h0 : 0 ≤ i) (h1 : i < n) : ∃ a' n' c', W.cell? (adr a i 1) = some (.slice a' n' c') ∧ GC (SO (XS B bw pv) v) W a' n' c' (rowat rows i.toNat) := by
  obtain ⟨qs, h2, h3⟩ := h.g
  have h2' := h2
  rw [hv] at h2'
  have hr : RS 1 TT W a n c qs := h2'.rs fun _ _ _ => trivial
  obtain ⟨q, h4, h5, h6⟩ := hr.el h0 h1
  obtain ⟨r, h7, a', n', c', rfl, h8⟩ := h3.get h4
  have e : rowat rows i.toNat = r := by unfold rowat; rw [List.getD_eq_getElem?_getD, h7]; rfl
  refine ⟨a', n', c', ?_, e ▸ h8⟩
  have := h6 0 _ rfl
  rwa [add0] at this
theorem OI.os {k : IntKind} {e : TypeId} {xs : List Int} (h : OI k B W e v xs) : OS 1 B W e v (xs.map fun x => [Value.int k x]) := by
  have e1 : ∀ xs : List Int, (xs.map fun x => [Value.int k x]).flatten = xs.map (Value.int k) := fun xs => by induction xs <;> simp_all
  exact ⟨by rw [e1, List.length_map]; exact h.row, fun q hq => by obtain ⟨x, _, rfl⟩ := List.mem_map.1 hq; rfl⟩
theorem OS.oi {k : IntKind} {e : TypeId} {xs : List Int} (h : OS 1 B W e v (xs.map fun x => [Value.int k x])) (hw : ∀ x ∈ xs, kb k x) : OI k B W e v xs := by
  have e1 : ∀ xs : List Int, (xs.map fun x => [Value.int k x]).flatten = xs.map (Value.int k) := fun xs => by induction xs <;> simp_all
  have h1 := h.row
  rw [e1, List.length_map] at h1
  exact ⟨h1, hw⟩
end
section
variable {B bw n c n' c' ng cg : Nat} {N : Int} {v pv : Value} {goals rows : List (List Rat)} {piv : List Int} {W W' : World} {a a' ag : Option Addr} {ρ : Operand → Value} {d : Option Tmp} {ty T : TypeId} {pos : String} {af : Array Edge} {gd : Option (Nat × Bool)} {x y : Operand} {K : Value → World → Prop}
/-- t.basis[i] = z -/
theorem xstP {r : Option Nat} {i z : Int} (h : TS B bw N ag ng cg goals v pv rows piv W) (hv : pv = .slice a n c) (hx : ρ x = .pointer (some (adr a i 1))) (hy : ρ y = .int .i64 z) (hz : kb .i64 z) (hT : Sz Tryz.prog T 1) (h0 : 0 ≤ i) (h1 : i < n)
    (hk2 : ∀ W', TS B bw N ag ng cg goals v pv rows (piv.set i.toNat z) W' → KD (KQ bw v pv) W W' → K undef W') : OpF r Tryz.prog ρ ⟨d, .store T x y, ty, pos, af, gd⟩ W K := by
  refine xstS (q := [.int .i64 z]) h.p.os hv hx hy rfl hT rfl rfl h0 h1 ?_
  intro b W' hb y' hO
  have kd : KD (KQ bw v pv) W W' := y'.kd fun hd => hd.2.2 hb
  have hvb : ∀ q, v.ownBlock = some q → q ≠ b := fun q e hh => h.vp e (hh ▸ hb)
  refine hk2 W' ⟨h.x.wr y' (fun e => h.pb (e ▸ hb)), ?_, OS.oi (by rw [List.map_set]; exact hO) fun x hx => ?_, MG.ck okRowC h.m kd.ck, h.hB⟩ kd
  · obtain ⟨qs, h2, h3⟩ := h.g
    exact ⟨qs, h2.ck (y'.ck (S := fun q => q ≠ b) fun hh => hh rfl) hvb, h3.imp fun _ _ hq => okRowC.ck hq (y'.ck fun hh => hh.1.2.2 hb)⟩
  · rcases List.mem_or_eq_of_mem_set hx with h' | h'
    · exact h.p.wf x h'
    · exact h' ▸ hz
end
/-- What a pivot makes of a row. -/
def pivRow (rows : List (List Rat)) (r c : Nat) (i : Nat) : List Rat := if i = r then sclR (1 / mat rows r c) (rowat rows r) else if vat (rowat rows i) c = 0 then rowat rows i else axR (-(vat (rowat rows i) c)) (sclR (1 / mat rows r c) (rowat rows r)) (rowat rows i)
theorem pivRow_eq {rows : List (List Rat)} {r c i : Nat} (hr : r < rows.length) : pivRow rows r c i = elimT (divR rows r c) r c i := by
  unfold pivRow
  by_cases h : i = r
  · subst h; rw [if_pos rfl, elimT_at hr]
  · rw [if_neg h]
    by_cases h0 : vat (rowat rows i) c = 0
    · rw [if_pos h0, elimT_zero hr h h0]
    · rw [if_neg h0, elimT_ne hr h h0]; rfl

set_option maxHeartbeats 1000000 in
theorem tPiv1_ok (i r kc : Int) (br bp bc : Nat) (ax ap : Option Addr) (nx cx np cp L : Nat) (xs ps : List Rat) (S : Nat → Prop) (w : World) (hbr : BoxAt w br [.int .i64 r] 3) (hbp : BoxAt w bp [.slice ap np cp] 23) (hbc : BoxAt w bc [.int .i64 kc] 3) (hx : GC S w ax nx cx xs) (hp : GC S w ap np cp ps) (hxs : szV L xs) (hps : szV (2 * L) ps) (h0 : 0 ≤ kc) (h1 : kc < nx) (hn : nx ≤ LV) (hnp : np ≤ LV) (hl1 : 1 ≤ L) (hL : 15 * L + 10 < LY) (hu : Up S w) :
    Calls Tryz.prog 91 #[.int .i64 i, .slice ax nx cx, .pointer (some ⟨br, 0, none⟩), .pointer (some ⟨bp, 0, none⟩), .pointer (some ⟨bc, 0, none⟩)] w (fun e w' => ∃ ra rk rc, e = .returned (.slice ra rk rc) ∧ Ext w w' ∧ GC S w' ra rk rc (if i = r then ps else if vat xs kc.toNat = 0 then xs else axR (-(vat xs kc.toNat)) ps xs)) := by
 have z0 := Ext.refl w; have hLX : LX = 17592186044416 := rfl; have hLY : LY = 8796093022208 := rfl
 have hxa := hx.va hxs; have hpa := hp.va hps; have lx := hx.len; have lp := hp.len
 refine enter (args := [.int .i64 i, .slice ax nx cx, .pointer (some ⟨br, 0, none⟩), .pointer (some ⟨bp, 0, none⟩), .pointer (some ⟨bc, 0, none⟩)]) Tryz.func91 rfl rfl (Nat.le_of_ble_eq_true rfl) ?_
 refine V.seq (V.reg rfl ?_)
 refine ass rfl ?_
 refine vnil ?_
 refine V.seq ?_
 refine V.seq (V.reg rfl ?_)
 refine mvi rfl ?_
 refine vv (rldb (v := .int _ _) rfl sc3 hbr rfl) ?_
 refine veq rfl rfl ?_ ?_
 ·intro c1
  refine vnil ?_
  refine V.condT rfl ?_
  refine V.seq (V.reg rfl ?_)
  refine vv (rldb (v := .slice _ _ _) rfl sc23 hbp rfl) ?_
  refine ass rfl ?_
  refine vnil ?_
  refine V.ret ?_
  refine ⟨[.slice _ _ _], ⟨rfl, trivial⟩, ?_⟩
  exact ⟨_, _, _, rfl, (Ext.refl w), (hp).cast (by rw [if_pos c1])⟩
 ·intro c1
  refine vnil ?_
  refine V.condF rfl ?_
  refine V.skip ?_
  refine V.seq ?_
  refine V.seq (V.reg rfl ?_)
  refine mvs rfl ?_
  refine vv (rldb (v := .int _ _) rfl sc3 hbc rfl) ?_
  refine vv (rix sl23 sz48 rfl rfl (by omega) (by omega) (hxa.isS (i := 0) (by omega) (by omega))) ?_
  refine vldQ hxa rfl ag48 (by omega) (by omega) ?_
  intro n1 a2 l3 c4 n5 a6 l7 c8 hq9
  refine vo ?_
  refine xcall e66 (fSign_ok _ _ _ _ _ hq9 (by omega) (by omega)) rfl rfl ?_
  rintro _ W10 ⟨rfl, x11⟩
  have s12 := x11.sz
  have z13 := x11
  replace hbr := hbr.ext x11
  replace hbp := hbp.ext x11
  replace hbc := hbc.ext x11
  refine ⟨_, rfl, ?_⟩
  refine veq rfl rfl ?_ ?_
  ·intro c3
   refine vnil ?_
   refine V.condT rfl ?_
   refine V.seq (V.reg rfl ?_)
   refine mvs rfl ?_
   refine ass rfl ?_
   refine vnil ?_
   refine V.ret ?_
   refine ⟨[.slice _ _ _], ⟨rfl, trivial⟩, ?_⟩
   exact ⟨_, _, _, rfl, z13, ((hx.ext z13)).cast (by rw [if_neg c1, if_pos (cq_eq.1 c3)])⟩
  ·intro c3
   obtain ⟨en1, ea1, el1, ec1, em1, eb1, ek1, ed1, hq1, hc1⟩ := ((hxa.ext z13)).el (i := kc) (by omega) (by omega)
   have ce1 : CE W10 _ _ := hc1
   refine vnil ?_
   refine V.condF rfl ?_
   refine V.skip ?_
   refine V.seq (V.regD mixed rfl ?_)
   intro W14 x15
   have s16 := x15.sz
   have z17 := z13.trans x15
   replace hbr := hbr.ext x15
   replace hbp := hbp.ext x15
   replace hbc := hbc.ext x15
   have q18 := Ext.refl W14
   have r19 := hbr
   have r20 := hbp
   have r21 := hbc
   refine tk 0 rfl (by kernel_rfl) q18 (pv (fun _ y22 => rmv (v := .slice _ _ _) rfl)) ?_
   refine tk 1 rfl (by kernel_rfl) q18 (pv (fun _ y23 => rldb (v := .int _ _) rfl sc3 (r21.ext y23) rfl)) ?_
   refine tk 2 rfl (by kernel_rfl) q18 (pv (fun _ y24 => rix sl23 sz48 rfl rfl (by omega) (by omega) (((hxa.ext z17).ext y24).isS (i := 0) (by omega) (by omega)))) ?_
   refine tk 3 rfl (by kernel_rfl) q18 (pv (fun _ y25 => rldn (l := [.bool _, .slice _ _ _, .bool _, .slice _ _ _]) rfl ag48 rfl ((ce1.ext x15).ext y25))) ?_
   refine tk 5 rfl (by kernel_rfl) q18 (pv (fun _ y26 => rldb (v := .slice _ _ _) rfl sc23 (r20.ext y26) rfl)) ?_
   refine tk 6 rfl (by kernel_rfl) q18 (pv (fun _ y27 => rmv (v := .slice _ _ _) rfl)) ?_
   refine ef 4 (by kernel_rfl) rfl ?_
   refine xcall e72 (fNeg_ok [_, _, _, _] _ L TT _ _ (hq1.ext x15) (by omega) (by omega) (TT.up _)) rfl rfl ?_
   rintro _ W29 ⟨_, rfl, x30, hq28⟩
   have s31 := x30.sz
   have z32 := z17.trans x30
   replace hbr := hbr.ext x30
   replace hbp := hbp.ext x30
   replace hbc := hbc.ext x30
   have q33 := q18.trans x30
   obtain ⟨_, _, _, _, _, _, _, _, rfl⟩ := hq28.form
   refine ⟨_, rfl, ?_⟩
   refine ⟨fun _ => q33, ?_⟩
   refine ef 7 (by kernel_rfl) rfl ?_
   refine xcall e68 (vScl_ok [_, _, _, _] _ L TT _ _ _ _ _ _ (2 * L) L _ _ S _ _ _ (hpa.ext z32) (hxa.ext z32) ((hq28).qa (sz_neg (hq1.sz' hl1))) (by omega) (by omega) (by omega) (by omega) (by omega) (by omega) (hu.mono (by omega))) rfl rfl ?_
   rintro _ W34 ⟨_, _, _, rfl, x35, hsc⟩
   have s36 := x35.sz
   have z37 := z32.trans x35
   replace hbr := hbr.ext x35
   replace hbp := hbp.ext x35
   replace hbc := hbc.ext x35
   have q38 := q33.trans x35
   refine ⟨_, rfl, ?_⟩
   refine ⟨fun _ => q38, ?_⟩
   refine tk 8 rfl (by kernel_rfl) q38 (pv (fun _ y39 => ras (v := .slice _ _ _) rfl)) ?_
   refine dn (by kernel_rfl) ?_
   refine V.ret ?_
   refine ⟨[.slice _ _ _], ⟨rfl, trivial⟩, ?_⟩
   exact ⟨_, _, _, rfl, z37, (hsc).cast (by rw [if_neg c1, if_neg (fun h => c3 (cq_eq.2 h)), axR, lp, lx])⟩
set_option maxHeartbeats 1000000 in
theorem tAll_ok (B bw : Nat) (N : Int) (ag av : Option Addr) (ng cg cv : Nat) (goals : List (List Rat)) (pw : Value) (rows : List (List Rat)) (piv : List Int) (w : World) (hS : TS B bw N ag ng cg goals (Value.slice av rows.length cv) pw rows piv w) (row kc : Int) (br bp bc : Nat) (ap : Option Addr) (np cp L M : Nat) (hbr : BoxAt w br [.int .i64 row] 3) (hbp : BoxAt w bp [.slice ap np cp] 23) (hbc : BoxAt w bc [.int .i64 kc] 3) (hkr : KQ bw (Value.slice av rows.length cv) pw br) (hkp : KQ bw (Value.slice av rows.length cv) pw bp) (hkc : KQ bw (Value.slice av rows.length cv) pw bc) (hp : GC (SO (XS B bw pw) (Value.slice av rows.length cv)) w ap np cp (sclR (1 / mat rows row.toNat kc.toNat) (rowat rows row.toNat))) (hr : rect (M + 1) rows) (hr0 : 0 ≤ row) (hr1 : row < rows.length) (hc0' : 0 ≤ kc) (hc1 : kc < M) (hMb : M ≤ 1000) (hsz : szR L rows) (hl1 : 1 ≤ L) (hL : 15 * L + 10 < LY) :
    Calls Tryz.prog 90 #[.pointer (some ⟨bw, 0, none⟩), .agg #[.func (.func 91) #[] #[.pointer (some ⟨br, 0, none⟩), .pointer (some ⟨bp, 0, none⟩), .pointer (some ⟨bc, 0, none⟩)]]] w (fun e w' => e = .returned (.tuple #[]) ∧ KD (KQ bw (Value.slice av rows.length cv) pw) w w' ∧ TS B bw N ag ng cg goals (Value.slice av rows.length cv) pw (pivS rows row.toNat kc.toNat rows.length) piv w') := by
 have z0 := Ext.refl w; have hLX : LX = 17592186044416 := rfl; have hLY : LY = 8796093022208 := rfl
 have hLV : LV = 1099511627776 := rfl
 have hxt := hS.x; have lxt := hxt.lt; have hM0 : MC TT w av rows.length cv rows := hS.mc rfl; have lM := hM0.max; have hps : szV (2 * L) (sclR (1 / mat rows row.toNat kc.toNat) (rowat rows row.toNat)) := sclR_sz (sz_inv (hsz.at hl1 _ _) hl1) (hsz.row _) hl1 (by omega); have lp := hp.len; rw [sclR_len, hr.row (by omega)] at lp; have hkw : KQ bw (Value.slice av rows.length cv) pw w.heap.size := hS.upq _ (Nat.le_refl _)
 refine enter (args := [.pointer (some ⟨bw, 0, none⟩), .agg #[.func (.func 91) #[] #[.pointer (some ⟨br, 0, none⟩), .pointer (some ⟨bp, 0, none⟩), .pointer (some ⟨bc, 0, none⟩)]]]) Tryz.func90 rfl rfl (Nat.le_of_ble_eq_true rfl) ?_
 refine V.seq (V.reg rfl ?_)
 refine vo ?_
 refine bxa rfl ?_
 intro W1 x2 b3 nn4
 have s5 := x2.sz
 have z6 := x2
 replace hxt := hxt.ext x2
 refine vnil ?_
 refine V.seq (V.reg rfl ?_)
 refine mvp rfl ?_
 refine vv (rnc (v := .pointer (some ⟨_, _, none⟩)) rfl rfl) ?_
 refine vv (rfa rfl fd91_3) ?_
 refine vv (rldb (v := .slice _ _ _) rfl sc22 hxt rfl) ?_
 refine vv (rlen sl22 rfl) ?_
 refine mvi rfl ?_
 refine vnil ?_
 refine V.block ?_
 refine V.loopK (ι := Nat) [(0, .pointer (some ⟨_, _, none⟩)), (3, .pointer (some ⟨_, _, none⟩)), (9, .slice _ _ _), (10, .int _ _)] (fun i => [(11, .int .i64 (i : Int))]) (fun i W => i ≤ rows.length ∧ TS B bw N ag ng cg goals (Value.slice av rows.length cv) pw (pivS rows row.toNat kc.toNat i) piv W ∧ KD (KQ bw (Value.slice av rows.length cv) pw) w W ∧ BoxAt W w.heap.size [.func (.func 91) #[] #[.pointer (some ⟨br, 0, none⟩), .pointer (some ⟨bp, 0, none⟩), .pointer (some ⟨bc, 0, none⟩)]] 102) (fun i => rows.length - i) (0) ⟨rfl, rfl, rfl, rfl, trivial⟩ ⟨rfl, trivial⟩ ⟨Nat.zero_le _, (by rw [pivS_zero]; exact hS.ext z6), Ext.kd z6, b3⟩ ?_
 intro i E8 W7 h9
 obtain ⟨hi, hK, hkd, h3⟩ := h9
 have hM : MC TT W7 av rows.length cv (pivS rows row.toNat kc.toNat i) := hK.mc rfl; have hbrk := hbr.kd hkd hkr; have hbpk := hbp.kd hkd hkp; have hbck := hbc.kd hkd hkc; have hpk := hp.ck (hkd.ck.sub fun b h => so_kq h); have hxK := hK.x; have zz := Ext.refl W7; have szk := hkd.size; have l3 := h3.lt
 refine V.seq (V.reg rfl ?_)
 refine vlt rfl rfl ?_ ?_
 ·intro c10
  have hrw : rowat (pivS rows row.toNat kc.toNat i) i = rowat rows i := by rw [pivS_row (by omega), if_neg (by omega)]
  obtain ⟨ra0, rk0, rc0, hc0, hg0⟩ := hK.row rfl (i := (i : Int)) (by omega) (by omega)
  have ce0 : C1 W7 _ _ := hc0; replace hg0 := hg0.cast hrw; have hgl0 := hg0.len; have hrl0 := hr.row (i := i) (by omega)
  refine vnil ?_
  refine V.seq ?_
  refine V.condT rfl ?_
  refine V.skip ?_
  refine V.seq ?_
  refine V.block ?_
  refine V.seq (V.reg rfl ?_)
  refine mvi rfl ?_
  refine vv (rix sl22 sz23 rfl rfl (by omega) (by omega) (hM.isS (i := 0) (by omega) (by omega))) ?_
  refine vv (rld1 (v := .slice _ _ _) rfl sc23 ce0) ?_
  refine asi rfl ?_
  refine ass rfl ?_
  refine vnil ?_
  refine V.regD mixed rfl ?_
  intro W11 x12
  have s13 := x12.sz
  have z14 := x12
  replace hxK := hxK.ext x12
  replace h3 := h3.ext x12
  have q15 := Ext.refl W11
  have r16 := hxK
  have r17 := h3
  refine tk 0 rfl (by kernel_rfl) q15 (pv (fun _ y18 => rmv (v := .pointer (some ⟨_, _, none⟩)) rfl)) ?_
  refine tk 1 rfl (by kernel_rfl) q15 (pv (fun _ y19 => rnc (v := .pointer (some ⟨_, _, none⟩)) rfl rfl)) ?_
  refine tk 2 rfl (by kernel_rfl) q15 (pv (fun _ y20 => rfa rfl fd91_3)) ?_
  refine tk 3 rfl (by kernel_rfl) q15 (pv (fun _ y21 => rldb (v := .slice _ _ _) rfl sc22 (r16.ext y21) rfl)) ?_
  refine tk 4 rfl (by kernel_rfl) q15 (pv (fun _ y22 => rmv (v := .int _ _) rfl)) ?_
  refine tk 5 rfl (by kernel_rfl) q15 (pv (fun _ y23 => rfa rfl fd102_0)) ?_
  refine tk 6 rfl (by kernel_rfl) q15 (pv (fun _ y24 => rldb (v := .func _ _ _) rfl sc100 (r17.ext y24) rfl)) ?_
  refine tk 7 rfl (by kernel_rfl) q15 (pv (fun _ y25 => rmv (v := .int _ _) rfl)) ?_
  refine tk 8 rfl (by kernel_rfl) q15 (pv (fun _ y26 => rmv (v := .slice _ _ _) rfl)) ?_
  refine ef 9 (by kernel_rfl) rfl ?_
  refine xcall e91 (tPiv1_ok (i : Int) row kc br bp bc ra0 ap rk0 rc0 np cp L _ _ (SO (XS B bw pw) (Value.slice av rows.length cv)) _ (hbrk.ext z14) (hbpk.ext z14) (hbck.ext z14) (hg0.ext z14) (hpk.ext z14) (hsz.row i) hps hc0' (by omega) (by omega) (by omega) hl1 hL (hK.ext z14).up) rfl rfl ?_
  rintro _ Wp ⟨ra1, rk1, rc1, rfl, xp, hrr⟩
  refine ⟨_, rfl, ?_⟩
  replace hrr := hrr.cast (rs' := pivRow rows row.toNat kc.toNat i) (by
    unfold pivRow
    by_cases h : (i : Int) = row
    ·rw [if_pos h, if_pos (show i = row.toNat by omega)]
    ·rw [if_neg h, if_neg (show ¬ i = row.toNat by omega)])
  have s27 := xp.sz
  have z28 := z14.trans xp
  replace hxK := hxK.ext xp
  replace h3 := h3.ext xp
  have q29 := q15.trans xp
  refine ⟨fun _ => q29, ?_⟩
  refine tk 10 rfl (by kernel_rfl) q29 (pv (fun _ y30 => rix sl22 sz23 rfl rfl (by omega) (by omega) (((hM.ext z14).ext y30).isS (i := 0) (by omega) (by omega)))) ?_
  refine ef 11 (by kernel_rfl) rfl ?_
  refine xstT (hK.ext z28) rfl rfl rfl sz23 (by omega) (by omega) hrr ?_
  intro Wq hS9 kd9
  refine lastT (by kernel_rfl) ?_
  refine dn (by kernel_rfl) ?_
  refine V.reg rfl ?_
  refine vv (rbin (bAdd (wi (by omega))) rfl rfl) ?_
  refine mvi rfl ?_
  refine vnil ?_
  refine ⟨rfl, i + 1, ⟨rfl, rfl, rfl, rfl, trivial⟩, ⟨rfl, trivial⟩, ⟨by omega, (by rw [pivS_succ (by omega), ← pivRow_eq (by omega)]; exact hS9), (hkd.trans (Ext.kd z28)).trans kd9, h3.kd kd9 hkw⟩, ?_⟩
  show rows.length - (i + 1) < rows.length - i
  omega
 ·intro c10
  refine vnil ?_
  refine V.seq ?_
  refine V.condF rfl ?_
  refine V.exit ?_
  refine ⟨[], trivial, ?_⟩
  have ei : i = rows.length := by omega
  subst ei
  exact ⟨rfl, hkd.trans (Ext.kd zz), hK.ext zz⟩
end Go.Proofs.YtknbjfefeeojlaaGreat
/- A region that draws its order, where the operations that break a load rest on it through others. -/
namespace Go.Proofs.YtknbjfefeeojlaaGreat
open Go.RowKit
section
variable {r : Option Nat} {P : Program} {N : Nat} {ops : Array Oper} {S S' : World → Prop} {R : Env → World → Prop} {fuel i : Nat} {listed : Array Bool} {E : Env} {W : World} {d : Option Tmp} {op : Op} {t : Tmp} {ty : TypeId} {pos : String} {af : Array Edge} {ds : List Deferred} {Q : EQ} {v : Value} {bs : List Nat} {oi : Oper}
def depZ (ops : Array Oper) (bs Z : List Nat) (i : Nat) : Bool := bs.all (fun b => Z.contains b) && Z.all fun z => match ops[z]? with
  | none => false
  | some o => o.after.any fun e => Region.binds .any e && (e.on == i || Z.contains e.on)
/-- None of them was done. -/
def unl (Z : List Nat) (listed : Array Bool) : Bool := Z.all fun z => !(listed.getD z true)
theorem unl_at {Z : List Nat} {z : Nat} (h : unl Z listed = true) (hz : z ∈ Z) : listed.getD z true = false := by
  have := List.all_eq_true.1 h z hz
  simpa using this
theorem unl_set {Z : List Nat} {j : Nat} (h : unl Z listed = true) (hj : j ∉ Z) : unl Z (listed.setIfInBounds j true) = true := by
  unfold unl
  rw [List.all_eq_true]
  intro z hz
  have hne : j ≠ z := fun e => hj (e ▸ hz)
  rw [getD_set_ne true hne, unl_at h hz]; rfl
theorem VB.firstZ (Z : List Nat) (hi : ops[i]? = some oi) (hbi : bs.contains i = false) (hsel : ∀ (j : Nat) (o : Oper) cs b, ops[j]? = some o → o.op ≠ .select cs b) (hk : depZ ops bs Z i = true) :
    ∀ (fuel : Nat) (listed : Array Bool) (E : Env) (W : World),
      (∀ j oj, ops[j]? = some oj → j ≠ i → listed.getD j true = false → (∀ e ∈ oj.after, Region.binds .any e = true → e.on ≠ i) → oi.apart ops oj = true) →
      i ∈ Region.ready .any ops listed → PureIf P ops S oi v E → whole bs listed = true → unl Z listed = true → S W →
      VB bs r P ops S R fuel (listed.setIfInBounds i true) (puto E oi.dst v) W → VB bs r P ops S R (fuel + 1) listed E W := by
  unfold depZ at hk
  rw [Bool.and_eq_true, List.all_eq_true, List.all_eq_true] at hk
  intro fuel
  induction fuel with
  | zero =>
    intro listed E W _ hr hy hw hu hS H
    refine ⟨fun h => (by rw [h] at hr; cases hr), fun j hj => ?_⟩
    by_cases hji : j = i
    · subst hji
      exact hy.opI hi hS ⟨fun _ => hS, H⟩
    · have := ready_mono hj hji
      rw [H.1] at this
      cases this
  | succ fuel ih =>
    intro listed E W hfree hr hy hw hu hS H
    refine ⟨fun h => (by rw [h] at hr; cases hr), fun j hj => ?_⟩
    by_cases hji : j = i
    · subst hji
      exact hy.opI hi hS ⟨fun _ => hS, H⟩
    · have h1 := H.2 j (ready_mono hj hji)
      obtain ⟨hjun, oj, hoj, hall⟩ := mem_ready.1 hj
      have hun : ∀ k, listed.getD k true = false → ∀ e ∈ oj.after, Region.binds .any e = true → e.on ≠ k := fun k h0 e he hb heq => by
        have h1 := hall e he hb
        rw [heq] at h1
        rcases Nat.lt_or_ge k listed.size with h' | h'
        · simp [h'] at h0 h1; rw [h0] at h1; cases h1
        · simp [Array.getElem?_eq_none h'] at h1
      have hnot := hun i (mem_ready.1 hr).1
      have hjZ : j ∉ Z := fun hz => by
        have h5 := hk.2 j hz
        simp only [hoj] at h5
        obtain ⟨e, he, hb⟩ := Array.any_eq_true'.1 h5
        simp only [Bool.and_eq_true, Bool.or_eq_true, beq_iff_eq] at hb
        rcases hb.2 with h6 | h6
        · exact hnot e he hb.1 h6
        · exact hun e.on (unl_at hu (by simpa using h6)) e he hb.1 rfl
      have h2 := opI_put (r := r) hoj (hfree j oj hoj hji hjun hnot) (fun cs b => hsel i oi cs b hi) (fun cs b => hsel j oj cs b hoj) hy h1
      have hfree' : ∀ k ok, ops[k]? = some ok → k ≠ i → (listed.setIfInBounds j true).getD k true = false →
          (∀ e ∈ ok.after, Region.binds .any e = true → e.on ≠ i) → oi.apart ops ok = true := fun k ok hk hki hun hno => by
        refine hfree k ok hk hki ?_ hno
        by_cases hjk : j = k
        · subst hjk; exact hjun
        · rw [getD_set_ne true hjk] at hun; exact hun
      have hnb : bs.contains j = false := by
        cases hc : bs.contains j with
        | false => rfl
        | true => exact absurd (by simpa using hk.1 j (by simpa using hc)) hjZ
      refine h2.mono fun E' W' h3 => ⟨fun hb => ?_, ih (listed.setIfInBounds j true) E' W' hfree' (ready_mono hr (Ne.symm hji)) h3.1 (whole_set hw hnb) (unl_set hu hjZ) (h3.2.1 ?_) ?_⟩
      · refine h3.2.1 ?_
        rw [Array.setIfInBounds_comm _ _ (Ne.symm hji)]; exact whole_set hb hbi
      · rw [Array.setIfInBounds_comm _ _ (Ne.symm hji)]; exact whole_set (whole_set hw hnb) hbi
      · rw [Array.setIfInBounds_comm _ _ hji]
        exact h3.2.2
/-- A load that stands ahead of all that break, through others. -/
theorem tkZ {g : Option (Nat × Bool)} (Z : List Nat) (i : Nat) (hi : ops[i]? = some ⟨some t, op, ty, pos, af, g⟩) (hf : (Region.noSelect ops && Region.free .any ops listed i && (Region.ready .any ops listed).contains i && !(bs.contains i) && depZ ops bs Z i && unl Z listed && whole bs listed) = true) (hS : S W) (hy : PureIf P ops S ⟨some t, op, ty, pos, af, g⟩ v E)
    (k : VB bs r P ops S R fuel (listed.setIfInBounds i true) (up E t v) W) : VB bs r P ops S R (fuel + 1) listed E W := by
  simp only [Bool.and_eq_true, Bool.not_eq_true'] at hf
  obtain ⟨⟨⟨⟨⟨⟨h1, h2⟩, h3⟩, h4⟩, h5⟩, h6⟩, h7⟩ := hf
  exact VB.firstZ Z hi h4 (Region.noSelect_spec h1) h5 fuel listed E W (Region.free_spec hi h2) (by simpa using h3) hy h7 h6 hS k
end
end Go.Proofs.YtknbjfefeeojlaaGreat
/- Package tableau: Pivot. -/
namespace Go.Proofs.YtknbjfefeeojlaaGreat
open Go.RowKit
attribute [local irreducible] RV VH V OpF Calls
theorem pivR_no {rows : List (List Rat)} {piv : List Int} {M : Nat} {r c : Int} (h : ¬ pivOK rows piv M r c) : pivR rows piv M r c = rows := if_neg h
theorem pivP_no {rows : List (List Rat)} {piv : List Int} {M : Nat} {r c : Int} (h : ¬ pivOK rows piv M r c) : pivP rows piv M r c = piv := if_neg h
theorem pivR_yes {rows : List (List Rat)} {piv : List Int} {M : Nat} {r c : Int} (h : pivOK rows piv M r c) : pivR rows piv M r c = pivS rows r.toNat c.toNat rows.length := by rw [pivS_done]; exact if_pos h
theorem pivP_yes {rows : List (List Rat)} {piv : List Int} {M : Nat} {r c : Int} (h : pivOK rows piv M r c) : pivP rows piv M r c = piv.set r.toNat c := if_pos h

set_option maxHeartbeats 400000 in
theorem fDivZ_ok (q1 q2 : List Value) (r1 r2 : Rat) (L1 L2 : Nat) (S1 S2 : Nat → Prop) (w : World) (h1 : QA L1 S1 w q1 r1) (h2 : QA L2 S2 w q2 r2) (hL : L1 + L2 < LY) (hl1 : 1 ≤ L1) (hl2 : 1 ≤ L2) (hz : r2 = 0) :
    Calls Tryz.prog 89 #[.agg q1.toArray, .agg q2.toArray] w (fun e w' => ∃ m1 d1 k1 e1 m2 d2 k2 e2, e = .returned (.tuple #[.agg #[.bool m1, .slice d1 k1 e1, .bool m2, .slice d2 k2 e2], .int .i64 7]) ∧ Ext w w') := by
 have z0 := Ext.refl w; have hLX : LX = 17592186044416 := rfl; have hLY : LY = 8796093022208 := rfl
 obtain ⟨n1, a1, l1, c1, n2, a2, l2, c2, rfl⟩ := h1.form; obtain ⟨n3, a3, l3, c3, n4, a4, l4, c4, rfl⟩ := h2.form
 refine enter (args := [.agg #[.bool n1, .slice a1 l1 c1, .bool n2, .slice a2 l2 c2], .agg #[.bool n3, .slice a3 l3 c3, .bool n4, .slice a4 l4 c4]]) Tryz.func89 rfl rfl (Nat.le_of_ble_eq_true rfl) ?_
 refine V.seq (V.reg rfl ?_)
 refine vo ?_
 refine bxa rfl ?_
 intro W1 x2 b3 nn4
 have s5 := x2.sz
 have z6 := x2
 refine vo ?_
 refine bxa rfl ?_
 intro W7 x8 b9 nn10
 have s11 := x8.sz
 have z12 := z6.trans x8
 refine vo ?_
 refine xal zc48 ?_
 intro W13 x14 b15 nn16
 have s17 := x14.sz
 have z18 := z12.trans x14
 replace b9 := b9.ext x14
 refine asi rfl ?_
 refine vnil ?_
 refine V.seq ?_
 refine V.seq (V.reg rfl ?_)
 refine vv (rldb4 rfl ag48 b9 rfl rfl rfl rfl ) ?_
 refine vo ?_
 refine xcall e66 (fSign_ok _ _ _ _ _ (h2.ext z18) (by omega) (by omega)) rfl rfl ?_
 rintro _ W19 ⟨rfl, x20⟩
 have s21 := x20.sz
 have z22 := z18.trans x20
 replace b15 := b15.ext x20
 refine ⟨_, rfl, ?_⟩
 refine veq rfl rfl ?_ ?_
 ·intro c1
  refine vnil ?_
  refine V.condT rfl ?_
  refine V.seq (V.reg rfl ?_)
  refine vv (rbd (ps := []) (cs := [.bool false, .slice _ _ _, .bool false, .slice _ _ _]) pl48 rfl rfl) ?_
  refine vo ?_
  refine sta (cs' := [_, _, _, _]) b15 rfl rfl sz48 rfl rfl rfl ?_
  intro W23 y24 b15
  have z25 := z22.below (y24.below (by omega))
  have s26 := y24.size
  refine asi rfl ?_
  refine vnil ?_
  refine V.ret ?_
  refine ⟨[_, .int _ _], ⟨⟨_, rfl, lvb ag48 b15 rfl⟩, rfl, trivial⟩, ?_⟩
  exact ⟨_, _, _, _, _, _, _, _, rfl, z25⟩
 ·intro c1
  exact absurd (cq_eq.2 hz) c1
set_option maxHeartbeats 4000000 in
theorem tPivot_ok (B bw : Nat) (N : Int) (ag : Option Addr) (ng cg : Nat) (goals : List (List Rat)) (v pw : Value) (rows : List (List Rat)) (piv : List Int) (M L : Nat) (w : World) (hS : TS B bw N ag ng cg goals v pw rows piv w) (hN : 0 ≤ N ∧ N ≤ 64) (hn : rows.length ≤ 64) (hM : N + (rows.length : Int) = (M : Int)) (hr : rect (M + 1) rows) (hpl : piv.length = rows.length) (hsz : szR L rows) (hl1 : 1 ≤ L) (hL : 40 * L + 40 < LY) (row col : Int) (hrk : kb .i64 row) (hck : kb .i64 col) :
    Calls Tryz.prog 18 #[.pointer (some ⟨bw, 0, none⟩), .int .i64 row, .int .i64 col] w (fun e w' => ∃ er : Int, e = .returned (.int .i64 er) ∧ (er = 0 ↔ pivOK rows piv M row col) ∧ TS B bw N ag ng cg goals v pw (pivR rows piv M row col) (pivP rows piv M row col) w' ∧ KD (KQ bw v pw) w w') := by
 have z0 := Ext.refl w; have hLX : LX = 17592186044416 := rfl; have hLY : LY = 8796093022208 := rfl
 have hLV : LV = 1099511627776 := rfl
 obtain ⟨av, cv, rfl⟩ := hS.g.form; obtain ⟨ap, cp, rfl⟩ := hS.p.form
 have hxt := hS.x; have lxt := hxt.lt; have hM0 : MC TT w av rows.length cv rows := hS.mc rfl; have hP := hS.pn rfl; have lM := hM0.max; have lP := hP.max
 refine enter (args := [.pointer (some ⟨bw, 0, none⟩), .int .i64 row, .int .i64 col]) Tryz.func18 rfl rfl (Nat.le_of_ble_eq_true rfl) ?_
 refine V.seq (V.reg rfl ?_)
 refine vo ?_
 refine bxi rfl ?_
 intro W1 x2 b3 nn4
 have s5 := x2.sz
 have z6 := x2
 replace hxt := hxt.ext x2
 refine vo ?_
 refine bxi rfl ?_
 intro W7 x8 b9 nn10
 have s11 := x8.sz
 have z12 := z6.trans x8
 replace hxt := hxt.ext x8
 replace b3 := b3.ext x8
 refine asi rfl ?_
 refine vnil ?_
 refine V.seq ?_
 refine V.block ?_
 refine V.seq (V.reg rfl ?_)
 refine mvp rfl ?_
 refine vv (rpnil (q := false) (by kernel_rfl) rfl rfl rfl) ?_
 refine asb rfl ?_
 refine vnil ?_
 refine V.condF rfl ?_
 refine V.seq (V.regD mixed rfl ?_)
 intro W13 x14
 have s15 := x14.sz
 have z16 := z12.trans x14
 replace hxt := hxt.ext x14
 replace b3 := b3.ext x14
 replace b9 := b9.ext x14
 have q17 := Ext.refl W13
 have r18 := hxt
 have r19 := b3
 have r20 := b9
 refine tk 0 rfl (by kernel_rfl) q17 (pv (fun _ y21 => rldb (v := .int _ _) rfl sc3 (r19.ext y21) rfl)) ?_
 refine tkLt 1 rfl (by kernel_rfl) q17 rfl rfl (fun _ h => pv h) ?_ ?_
 ·intro d1
  refine tk 2 rfl (by kernel_rfl) q17 (pv (fun _ y23 => rmv (v := .bool true) rfl)) ?_
  refine tk 3 rfl (by kernel_rfl) q17 (pgn (b := true) rfl rfl) ?_
  refine tk 4 rfl (by kernel_rfl) q17 (pgn (b := true) rfl rfl) ?_
  refine tk 5 rfl (by kernel_rfl) q17 (pgn (b := true) rfl rfl) ?_
  refine tk 6 rfl (by kernel_rfl) q17 (pgn (b := true) rfl rfl) ?_
  refine tk 7 rfl (by kernel_rfl) q17 (pgn (b := true) rfl rfl) ?_
  refine tk 8 rfl (by kernel_rfl) q17 (pgn (b := true) rfl rfl) ?_
  refine tk 9 rfl (by kernel_rfl) q17 (pgn (b := true) rfl rfl) ?_
  refine tk 10 rfl (by kernel_rfl) q17 (pv (fun _ y24 => rpk (v := .bool true) rfl rfl)) ?_
  refine tk 11 rfl (by kernel_rfl) q17 (pv (fun _ y25 => rmv (v := .bool true) rfl)) ?_
  refine tk 12 rfl (by kernel_rfl) q17 (pgn (b := true) rfl rfl) ?_
  refine tk 13 rfl (by kernel_rfl) q17 (pgn (b := true) rfl rfl) ?_
  refine tk 14 rfl (by kernel_rfl) q17 (pv (fun _ y26 => rpk (v := .bool true) rfl rfl)) ?_
  refine tk 15 rfl (by kernel_rfl) q17 (pv (fun _ y27 => rmv (v := .bool true) rfl)) ?_
  refine tk 16 rfl (by kernel_rfl) q17 (pgn (b := true) rfl rfl) ?_
  refine tk 17 rfl (by kernel_rfl) q17 (pgn (b := true) rfl rfl) ?_
  refine tk 18 rfl (by kernel_rfl) q17 (pgn (b := true) rfl rfl) ?_
  refine tk 19 rfl (by kernel_rfl) q17 (pgn (b := true) rfl rfl) ?_
  refine tk 20 rfl (by kernel_rfl) q17 (pv (fun _ y28 => rpk (v := .bool true) rfl rfl)) ?_
  refine tk 21 rfl (by kernel_rfl) q17 (pv (fun _ y29 => rmv (v := .bool true) rfl)) ?_
  refine tk 22 rfl (by kernel_rfl) q17 (pgn (b := true) rfl rfl) ?_
  refine tk 23 rfl (by kernel_rfl) q17 (pgn (b := true) rfl rfl) ?_
  refine tk 24 rfl (by kernel_rfl) q17 (pgn (b := true) rfl rfl) ?_
  refine tk 25 rfl (by kernel_rfl) q17 (pgn (b := true) rfl rfl) ?_
  refine tk 26 rfl (by kernel_rfl) q17 (pgn (b := true) rfl rfl) ?_
  refine tk 27 rfl (by kernel_rfl) q17 (pgn (b := true) rfl rfl) ?_
  refine tk 28 rfl (by kernel_rfl) q17 (pv (fun _ y30 => rpk (v := .bool true) rfl rfl)) ?_
  refine tk 29 rfl (by kernel_rfl) q17 (pv (fun _ y31 => ras (v := .bool true) rfl)) ?_
  refine dn (by kernel_rfl) ?_
  refine V.condT rfl ?_
  refine V.seq (V.reg rfl ?_)
  refine asi rfl ?_
  refine vnil ?_
  refine V.ret ?_
  refine ⟨[.int _ _], ⟨rfl, trivial⟩, ?_⟩
  have hbad : ¬ pivOK rows piv M row col := fun h => by have := h.1; omega
  exact ⟨_, rfl, ⟨fun h => absurd h (by decide), fun h => absurd h hbad⟩, (by rw [pivR_no hbad, pivP_no hbad]; exact hS.ext z16), Ext.kd z16⟩
 ·intro d1
  refine tk 2 rfl (by kernel_rfl) q17 (pv (fun _ y32 => rmv (v := .bool false) rfl)) ?_
  refine tk 3 rfl (by kernel_rfl) q17 (pg rfl (fun _ y33 => rldb (v := .int _ _) rfl sc3 (r19.ext y33) rfl)) ?_
  refine tk 4 rfl (by kernel_rfl) q17 (pg rfl (fun _ y34 => rmv (v := .pointer (some ⟨_, _, none⟩)) rfl)) ?_
  refine tk 5 rfl (by kernel_rfl) q17 (pg rfl (fun _ y35 => rnc (v := .pointer (some ⟨_, _, none⟩)) rfl rfl)) ?_
  refine tk 6 rfl (by kernel_rfl) q17 (pg rfl (fun _ y36 => rfa rfl fd91_3)) ?_
  refine tk 7 rfl (by kernel_rfl) q17 (pg rfl (fun _ y37 => rldb (v := .slice _ _ _) rfl sc22 (r18.ext y37) rfl)) ?_
  refine tk 8 rfl (by kernel_rfl) q17 (pg rfl (fun _ y38 => rlen sl22 rfl)) ?_
  refine tkGe 9 rfl (by kernel_rfl) q17 rfl rfl (fun _ h => pg rfl h) ?_ ?_
  ·intro d2
   refine tk 10 rfl (by kernel_rfl) q17 (pv (fun _ y40 => rpk (v := .bool true) rfl rfl)) ?_
   refine tk 11 rfl (by kernel_rfl) q17 (pv (fun _ y41 => rmv (v := .bool true) rfl)) ?_
   refine tk 12 rfl (by kernel_rfl) q17 (pgn (b := true) rfl rfl) ?_
   refine tk 13 rfl (by kernel_rfl) q17 (pgn (b := true) rfl rfl) ?_
   refine tk 14 rfl (by kernel_rfl) q17 (pv (fun _ y42 => rpk (v := .bool true) rfl rfl)) ?_
   refine tk 15 rfl (by kernel_rfl) q17 (pv (fun _ y43 => rmv (v := .bool true) rfl)) ?_
   refine tk 16 rfl (by kernel_rfl) q17 (pgn (b := true) rfl rfl) ?_
   refine tk 17 rfl (by kernel_rfl) q17 (pgn (b := true) rfl rfl) ?_
   refine tk 18 rfl (by kernel_rfl) q17 (pgn (b := true) rfl rfl) ?_
   refine tk 19 rfl (by kernel_rfl) q17 (pgn (b := true) rfl rfl) ?_
   refine tk 20 rfl (by kernel_rfl) q17 (pv (fun _ y44 => rpk (v := .bool true) rfl rfl)) ?_
   refine tk 21 rfl (by kernel_rfl) q17 (pv (fun _ y45 => rmv (v := .bool true) rfl)) ?_
   refine tk 22 rfl (by kernel_rfl) q17 (pgn (b := true) rfl rfl) ?_
   refine tk 23 rfl (by kernel_rfl) q17 (pgn (b := true) rfl rfl) ?_
   refine tk 24 rfl (by kernel_rfl) q17 (pgn (b := true) rfl rfl) ?_
   refine tk 25 rfl (by kernel_rfl) q17 (pgn (b := true) rfl rfl) ?_
   refine tk 26 rfl (by kernel_rfl) q17 (pgn (b := true) rfl rfl) ?_
   refine tk 27 rfl (by kernel_rfl) q17 (pgn (b := true) rfl rfl) ?_
   refine tk 28 rfl (by kernel_rfl) q17 (pv (fun _ y46 => rpk (v := .bool true) rfl rfl)) ?_
   refine tk 29 rfl (by kernel_rfl) q17 (pv (fun _ y47 => ras (v := .bool true) rfl)) ?_
   refine dn (by kernel_rfl) ?_
   refine V.condT rfl ?_
   refine V.seq (V.reg rfl ?_)
   refine asi rfl ?_
   refine vnil ?_
   refine V.ret ?_
   refine ⟨[.int _ _], ⟨rfl, trivial⟩, ?_⟩
   have hbad : ¬ pivOK rows piv M row col := fun h => by have := h.2.1; omega
   exact ⟨_, rfl, ⟨fun h => absurd h (by decide), fun h => absurd h hbad⟩, (by rw [pivR_no hbad, pivP_no hbad]; exact hS.ext z16), Ext.kd z16⟩
  ·intro d2
   refine tk 10 rfl (by kernel_rfl) q17 (pv (fun _ y48 => rpk (v := .bool false) rfl rfl)) ?_
   refine tk 11 rfl (by kernel_rfl) q17 (pv (fun _ y49 => rmv (v := .bool false) rfl)) ?_
   refine tk 12 rfl (by kernel_rfl) q17 (pg rfl (fun _ y50 => rldb (v := .int _ _) rfl sc3 (r20.ext y50) rfl)) ?_
   refine tkLt 13 rfl (by kernel_rfl) q17 rfl rfl (fun _ h => pg rfl h) ?_ ?_
   ·intro d3
    refine tk 14 rfl (by kernel_rfl) q17 (pv (fun _ y52 => rpk (v := .bool true) rfl rfl)) ?_
    refine tk 15 rfl (by kernel_rfl) q17 (pv (fun _ y53 => rmv (v := .bool true) rfl)) ?_
    refine tk 16 rfl (by kernel_rfl) q17 (pgn (b := true) rfl rfl) ?_
    refine tk 17 rfl (by kernel_rfl) q17 (pgn (b := true) rfl rfl) ?_
    refine tk 18 rfl (by kernel_rfl) q17 (pgn (b := true) rfl rfl) ?_
    refine tk 19 rfl (by kernel_rfl) q17 (pgn (b := true) rfl rfl) ?_
    refine tk 20 rfl (by kernel_rfl) q17 (pv (fun _ y54 => rpk (v := .bool true) rfl rfl)) ?_
    refine tk 21 rfl (by kernel_rfl) q17 (pv (fun _ y55 => rmv (v := .bool true) rfl)) ?_
    refine tk 22 rfl (by kernel_rfl) q17 (pgn (b := true) rfl rfl) ?_
    refine tk 23 rfl (by kernel_rfl) q17 (pgn (b := true) rfl rfl) ?_
    refine tk 24 rfl (by kernel_rfl) q17 (pgn (b := true) rfl rfl) ?_
    refine tk 25 rfl (by kernel_rfl) q17 (pgn (b := true) rfl rfl) ?_
    refine tk 26 rfl (by kernel_rfl) q17 (pgn (b := true) rfl rfl) ?_
    refine tk 27 rfl (by kernel_rfl) q17 (pgn (b := true) rfl rfl) ?_
    refine tk 28 rfl (by kernel_rfl) q17 (pv (fun _ y56 => rpk (v := .bool true) rfl rfl)) ?_
    refine tk 29 rfl (by kernel_rfl) q17 (pv (fun _ y57 => ras (v := .bool true) rfl)) ?_
    refine dn (by kernel_rfl) ?_
    refine V.condT rfl ?_
    refine V.seq (V.reg rfl ?_)
    refine asi rfl ?_
    refine vnil ?_
    refine V.ret ?_
    refine ⟨[.int _ _], ⟨rfl, trivial⟩, ?_⟩
    have hbad : ¬ pivOK rows piv M row col := fun h => by have := h.2.2.1; omega
    exact ⟨_, rfl, ⟨fun h => absurd h (by decide), fun h => absurd h hbad⟩, (by rw [pivR_no hbad, pivP_no hbad]; exact hS.ext z16), Ext.kd z16⟩
   ·intro d3
    refine tk 14 rfl (by kernel_rfl) q17 (pv (fun _ y58 => rpk (v := .bool false) rfl rfl)) ?_
    refine tk 15 rfl (by kernel_rfl) q17 (pv (fun _ y59 => rmv (v := .bool false) rfl)) ?_
    refine tk 16 rfl (by kernel_rfl) q17 (pg rfl (fun _ y60 => rldb (v := .int _ _) rfl sc3 (r20.ext y60) rfl)) ?_
    refine tk 17 rfl (by kernel_rfl) q17 (pg rfl (fun _ y61 => rmv (v := .pointer (some ⟨_, _, none⟩)) rfl)) ?_
    refine efg 18 (by kernel_rfl) rfl rfl ?_
    refine xcall e87 (cols_ok _ N _ _ _ _ _ _ _ rows.length _ _ hxt (by omega) (by omega)) rfl rfl ?_
    rintro _ W62 ⟨rfl, x63⟩
    have s64 := x63.sz
    have z65 := z16.trans x63
    replace hxt := hxt.ext x63
    replace b3 := b3.ext x63
    replace b9 := b9.ext x63
    have q66 := q17.trans x63
    refine ⟨_, rfl, ?_⟩
    refine ⟨fun _ => q66, ?_⟩
    refine tkGe 19 rfl (by kernel_rfl) q66 rfl rfl (fun _ h => pg rfl h) ?_ ?_
    ·intro d4
     refine tk 20 rfl (by kernel_rfl) q66 (pv (fun _ y68 => rpk (v := .bool true) rfl rfl)) ?_
     refine tk 21 rfl (by kernel_rfl) q66 (pv (fun _ y69 => rmv (v := .bool true) rfl)) ?_
     refine tk 22 rfl (by kernel_rfl) q66 (pgn (b := true) rfl rfl) ?_
     refine tk 23 rfl (by kernel_rfl) q66 (pgn (b := true) rfl rfl) ?_
     refine tk 24 rfl (by kernel_rfl) q66 (pgn (b := true) rfl rfl) ?_
     refine tk 25 rfl (by kernel_rfl) q66 (pgn (b := true) rfl rfl) ?_
     refine tk 26 rfl (by kernel_rfl) q66 (pgn (b := true) rfl rfl) ?_
     refine tk 27 rfl (by kernel_rfl) q66 (pgn (b := true) rfl rfl) ?_
     refine tk 28 rfl (by kernel_rfl) q66 (pv (fun _ y70 => rpk (v := .bool true) rfl rfl)) ?_
     refine tk 29 rfl (by kernel_rfl) q66 (pv (fun _ y71 => ras (v := .bool true) rfl)) ?_
     refine dn (by kernel_rfl) ?_
     refine V.condT rfl ?_
     refine V.seq (V.reg rfl ?_)
     refine asi rfl ?_
     refine vnil ?_
     refine V.ret ?_
     refine ⟨[.int _ _], ⟨rfl, trivial⟩, ?_⟩
     have hbad : ¬ pivOK rows piv M row col := fun h => by have := h.2.2.2.1; omega
     exact ⟨_, rfl, ⟨fun h => absurd h (by decide), fun h => absurd h hbad⟩, (by rw [pivR_no hbad, pivP_no hbad]; exact hS.ext z65), Ext.kd z65⟩
    ·intro d4
     refine tk 20 rfl (by kernel_rfl) q66 (pv (fun _ y72 => rpk (v := .bool false) rfl rfl)) ?_
     refine tk 21 rfl (by kernel_rfl) q66 (pv (fun _ y73 => rmv (v := .bool false) rfl)) ?_
     refine tk 22 rfl (by kernel_rfl) q66 (pg rfl (fun _ y74 => rmv (v := .pointer (some ⟨_, _, none⟩)) rfl)) ?_
     refine tk 23 rfl (by kernel_rfl) q66 (pg rfl (fun _ y75 => rnc (v := .pointer (some ⟨_, _, none⟩)) rfl rfl)) ?_
     refine tk 24 rfl (by kernel_rfl) q66 (pg rfl (fun _ y76 => rfa rfl fd91_2)) ?_
     refine tk 25 rfl (by kernel_rfl) q66 (pg rfl (fun _ y77 => rldb (v := .slice _ _ _) rfl sc73 (r18.ext y77) rfl)) ?_
     refine tk 26 rfl (by kernel_rfl) q66 (pg rfl (fun _ y78 => rldb (v := .int _ _) rfl sc3 (r20.ext y78) rfl)) ?_
     refine efg 27 (by kernel_rfl) rfl rfl ?_
     refine xcall e88 (contains_ok _ _ _ piv col _ _ (hP.ext z65)) rfl rfl ?_
     rintro _ _ ⟨qc, rfl, rfl, hqc⟩
     refine ⟨_, rfl, ?_⟩
     cases qc
     ·skip
      refine ⟨fun _ => q66, ?_⟩
      refine tk 28 rfl (by kernel_rfl) q66 (pv (fun _ y79 => rpk (v := .bool false) rfl rfl)) ?_
      refine tk 29 rfl (by kernel_rfl) q66 (pv (fun _ y80 => ras (v := .bool false) rfl)) ?_
      refine dn (by kernel_rfl) ?_
      refine V.condF rfl ?_
      refine V.skip ?_
      obtain ⟨ra8, rk8, rc8, hc8, hg8⟩ := (hS.ext z65).row rfl (i := row) (by omega) (by omega)
      have ce8 : C1 W62 _ _ := hc8; have hga8 := hg8.va (hsz.row _); have hgl8 := hg8.len; have hrl8 := hr.row (i := row.toNat) (by omega)
      obtain ⟨en1, ea1, el1, ec1, em1, eb1, ek1, ed1, hq1, hc1⟩ := (hga8).el (i := col) (by omega) (by omega)
      have ce1 : CE W62 _ _ := hc1
      refine V.seq (V.regJ (ι := Nat × Int × Bool × Option Addr × Nat × Nat × Bool × Option Addr × Nat × Nat) [(0, .pointer (some ⟨_, _, none⟩)), (4, .pointer (some ⟨_, _, none⟩)), (5, .pointer (some ⟨_, _, none⟩)), (6, .int _ _)] (fun ⟨u7, er, m1, d1, k1, e1, m2, d2, k2, e2⟩ => [(7, .pointer (some ⟨u7, 0, none⟩)), (8, .int .i64 er)]) (fun ⟨u7, er, m1, d1, k1, e1, m2, d2, k2, e2⟩ W => Ext W62 W ∧ W62.heap.size ≤ u7 ∧ BoxAt W u7 [.bool m1, .slice d1 k1 e1, .bool m2, .slice d2 k2 e2] 48 ∧ ((er = 0 ∧ mat rows row.toNat col.toNat ≠ 0 ∧ QC TT W [.bool m1, .slice d1 k1 e1, .bool m2, .slice d2 k2 e2] (1 / mat rows row.toNat col.toNat)) ∨ (er ≠ 0 ∧ mat rows row.toNat col.toNat = 0))) mixed rfl ⟨rfl, rfl, rfl, rfl, trivial⟩ ?_ ?_)
      ·skip
       intro W82 x83
       have s84 := x83.sz
       have z85 := z65.trans x83
       have z86 := x83
       replace hxt := hxt.ext x83
       replace b3 := b3.ext x83
       replace b9 := b9.ext x83
       have q87 := Ext.refl W82
       have r88 := hxt
       have r89 := b3
       have r90 := b9
       refine tk 1 rfl (by kernel_rfl) q87 (pv (fun _ y91 => rmv (v := .pointer (some ⟨_, _, none⟩)) rfl)) ?_
       refine tk 2 rfl (by kernel_rfl) q87 (pv (fun _ y92 => rnc (v := .pointer (some ⟨_, _, none⟩)) rfl rfl)) ?_
       refine tk 3 rfl (by kernel_rfl) q87 (pv (fun _ y93 => rfa rfl fd91_3)) ?_
       refine tk 4 rfl (by kernel_rfl) q87 (pv (fun _ y94 => rldb (v := .slice _ _ _) rfl sc22 (r88.ext y94) rfl)) ?_
       refine tk 5 rfl (by kernel_rfl) q87 (pv (fun _ y95 => rldb (v := .int _ _) rfl sc3 (r89.ext y95) rfl)) ?_
       refine tk 6 rfl (by kernel_rfl) q87 (pv (fun _ y96 => rix sl22 sz23 rfl rfl (by omega) (by omega) (((hM0.ext z85).ext y96).isS (i := 0) (by omega) (by omega)))) ?_
       refine tk 7 rfl (by kernel_rfl) q87 (pv (fun _ y97 => rld1 (v := .slice _ _ _) rfl sc23 ((ce8.ext z86).ext y97))) ?_
       refine tk 8 rfl (by kernel_rfl) q87 (pv (fun _ y98 => rldb (v := .int _ _) rfl sc3 (r90.ext y98) rfl)) ?_
       refine tk 9 rfl (by kernel_rfl) q87 (pv (fun _ y99 => rix sl23 sz48 rfl rfl (by omega) (by omega) (((hga8.ext z86).ext y99).isS (i := 0) (by omega) (by omega)))) ?_
       refine tk 10 rfl (by kernel_rfl) q87 (pv (fun _ y100 => rldn (l := [.bool _, .slice _ _ _, .bool _, .slice _ _ _]) rfl ag48 rfl ((ce1.ext z86).ext y100))) ?_
       refine efs 0 [15] (by kernel_rfl) ⟨?_, ?_, trivial⟩
       ·skip
        refine efI rfl ?_
        refine xcall e27 (fFrom_ok 1 TT _ (by omega) (TT.up _)) rfl rfl ?_
        rintro _ W102 ⟨_, rfl, x103, hq101⟩
        have s104 := x103.sz
        have z106 := z86.trans x103
        replace hxt := hxt.ext x103
        have q107 := q87.trans x103
        obtain ⟨_, _, _, _, _, _, _, _, rfl⟩ := hq101.form
        refine ⟨_, rfl, ?_⟩
        refine ⟨fun _ => q107, ?_⟩
        refine efs 11 [15] (by kernel_rfl) ⟨?_, ?_, trivial⟩
        ·skip
         refine efI rfl ?_
         rcases Classical.em (mat rows row.toNat col.toNat = 0) with hz | hz
         ·skip
          refine xcall e89 (fDivZ_ok [_, _, _, _] [_, _, _, _] _ _ 1 L _ _ _ ((hq101).qa szOne') (hq1.ext z106) (by omega) (by omega) hl1 hz) rfl rfl ?_
          rintro _ Wd ⟨m1, d1, k1, e1, m2, d2, k2, e2, rfl, xd⟩
          refine ⟨_, rfl, ?_⟩
          have s108 := xd.sz
          have z110 := z106.trans xd
          replace hxt := hxt.ext xd
          have q111 := q107.trans xd
          refine ⟨fun _ => q111, ?_⟩
          refine tk 12 rfl (by kernel_rfl) q111 (pv (fun _ y112 => rmv (v := .tuple #[_, _]) rfl)) ?_
          refine tk 13 rfl (by kernel_rfl) q111 (pv (fun _ y113 => rext (v := .agg #[_, _, _, _]) rfl rfl)) ?_
          refine tk 14 rfl (by kernel_rfl) q111 (pv (fun _ y114 => rext (v := .int _ _) rfl rfl)) ?_
          refine ef 15 (by kernel_rfl) rfl ?_
          refine xal zc48 ?_
          intro W115 x116 b117 nn118
          have s119 := x116.sz
          have z121 := z110.trans x116
          replace hxt := hxt.ext x116
          have q122 := q111.trans x116
          refine ⟨fun _ => q122, ?_⟩
          refine ef 16 (by kernel_rfl) rfl ?_
          refine sta (cs' := [_, _, _, _]) b117 rfl rfl sz48 rfl rfl rfl ?_
          intro W123 y124 b117
          have z126 := z121.below (y124.below (by omega))
          replace hxt := hxt.wr y124 (by omega)
          have q127 := q122.below (y124.below (by omega))
          have s128 := y124.size
          refine ⟨fun _ => q127, ?_⟩
          refine tk 17 rfl (by kernel_rfl) q127 (pv (fun _ y129 => ras (v := .int _ _) rfl)) ?_
          refine dn (by kernel_rfl) ?_
          exact ⟨(Wd.heap.size, 7, _, _, _, _, _, _, _, _), ⟨rfl, rfl, rfl, rfl, trivial⟩, ⟨rfl, rfl, trivial⟩, z126, by omega, b117, .inr ⟨by decide, hz⟩⟩
         ·skip
          refine xcall e89 (fDiv_ok [_, _, _, _] [_, _, _, _] _ _ 1 L TT _ _ _ ((hq101).qa szOne') (hq1.ext z106) (by omega) (by omega) hl1 (TT.up _) hz) rfl rfl ?_
          rintro _ Wd ⟨_, rfl, xd, hqd⟩
          refine ⟨_, rfl, ?_⟩
          obtain ⟨m1, d1, k1, e1, m2, d2, k2, e2, rfl⟩ := hqd.form
          have s130 := xd.sz
          have z132 := z106.trans xd
          replace hxt := hxt.ext xd
          have q133 := q107.trans xd
          refine ⟨fun _ => q133, ?_⟩
          refine tk 12 rfl (by kernel_rfl) q133 (pv (fun _ y134 => rmv (v := .tuple #[_, _]) rfl)) ?_
          refine tk 13 rfl (by kernel_rfl) q133 (pv (fun _ y135 => rext (v := .agg #[_, _, _, _]) rfl rfl)) ?_
          refine tk 14 rfl (by kernel_rfl) q133 (pv (fun _ y136 => rext (v := .int _ _) rfl rfl)) ?_
          refine ef 15 (by kernel_rfl) rfl ?_
          refine xal zc48 ?_
          intro W137 x138 b139 nn140
          have s141 := x138.sz
          have z143 := z132.trans x138
          replace hxt := hxt.ext x138
          have q144 := q133.trans x138
          refine ⟨fun _ => q144, ?_⟩
          refine ef 16 (by kernel_rfl) rfl ?_
          refine sta (cs' := [_, _, _, _]) b139 rfl rfl sz48 rfl rfl rfl ?_
          intro W145 y146 b139
          have z148 := z143.below (y146.below (by omega))
          replace hxt := hxt.wr y146 (by omega)
          have q149 := q144.below (y146.below (by omega))
          have s150 := y146.size
          refine ⟨fun _ => q149, ?_⟩
          refine tk 17 rfl (by kernel_rfl) q149 (pv (fun _ y151 => ras (v := .int _ _) rfl)) ?_
          refine dn (by kernel_rfl) ?_
          exact ⟨(Wd.heap.size, 0, _, _, _, _, _, _, _, _), ⟨rfl, rfl, rfl, rfl, trivial⟩, ⟨rfl, rfl, trivial⟩, z148, by omega, b139, .inl ⟨rfl, hz, ((((hqd.sub (S' := SX _ [Wd.heap.size]) (SX.old (by simp <;> omega))).ck ((x138.ck _).trans (y146.ck (by intro hh; first | (simp [SX] at hh <;> omega) | omega))))).sub fun _ _ _ => trivial).cast (by rw [show ((1 : Int) : Rat) = 1 from rfl]; rfl)⟩⟩
        ·skip
         refine efI rfl ?_
         refine xal zc48 ?_
         intro W152 x153 b154 nn155
         have s156 := x153.sz
         have z158 := z106.trans x153
         replace hxt := hxt.ext x153
         have q159 := q107.trans x153
         refine ⟨fun _ => q159, ?_⟩
         refine ef 11 (by kernel_rfl) rfl ?_
         rcases Classical.em (mat rows row.toNat col.toNat = 0) with hz | hz
         ·skip
          refine xcall e89 (fDivZ_ok [_, _, _, _] [_, _, _, _] _ _ 1 L _ _ _ (((hq101.ext x153)).qa szOne') (hq1.ext z158) (by omega) (by omega) hl1 hz) rfl rfl ?_
          rintro _ Wd ⟨m1, d1, k1, e1, m2, d2, k2, e2, rfl, xd⟩
          refine ⟨_, rfl, ?_⟩
          have s160 := xd.sz
          have z162 := z158.trans xd
          replace hxt := hxt.ext xd
          replace b154 := b154.ext xd
          have q163 := q159.trans xd
          refine ⟨fun _ => q163, ?_⟩
          refine tk 12 rfl (by kernel_rfl) q163 (pv (fun _ y164 => rmv (v := .tuple #[_, _]) rfl)) ?_
          refine tk 13 rfl (by kernel_rfl) q163 (pv (fun _ y165 => rext (v := .agg #[_, _, _, _]) rfl rfl)) ?_
          refine tk 14 rfl (by kernel_rfl) q163 (pv (fun _ y166 => rext (v := .int _ _) rfl rfl)) ?_
          refine ef 16 (by kernel_rfl) rfl ?_
          refine sta (cs' := [_, _, _, _]) b154 rfl rfl sz48 rfl rfl rfl ?_
          intro W167 y168 b154
          have z170 := z162.below (y168.below (by omega))
          replace hxt := hxt.wr y168 (by omega)
          have q171 := q163.below (y168.below (by omega))
          have s172 := y168.size
          refine ⟨fun _ => q171, ?_⟩
          refine tk 17 rfl (by kernel_rfl) q171 (pv (fun _ y173 => ras (v := .int _ _) rfl)) ?_
          refine dn (by kernel_rfl) ?_
          exact ⟨(W102.heap.size, 7, _, _, _, _, _, _, _, _), ⟨rfl, rfl, rfl, rfl, trivial⟩, ⟨rfl, rfl, trivial⟩, z170, by omega, b154, .inr ⟨by decide, hz⟩⟩
         ·skip
          refine xcall e89 (fDiv_ok [_, _, _, _] [_, _, _, _] _ _ 1 L (SX TT [W102.heap.size]) _ _ _ (((hq101.ext x153)).qa szOne') (hq1.ext z158) (by omega) (by omega) hl1 (SX.up (TT.up _) (by simp; omega)) hz) rfl rfl ?_
          rintro _ Wd ⟨_, rfl, xd, hqd⟩
          refine ⟨_, rfl, ?_⟩
          obtain ⟨m1, d1, k1, e1, m2, d2, k2, e2, rfl⟩ := hqd.form
          have s174 := xd.sz
          have z176 := z158.trans xd
          replace hxt := hxt.ext xd
          replace b154 := b154.ext xd
          have q177 := q159.trans xd
          refine ⟨fun _ => q177, ?_⟩
          refine tk 12 rfl (by kernel_rfl) q177 (pv (fun _ y178 => rmv (v := .tuple #[_, _]) rfl)) ?_
          refine tk 13 rfl (by kernel_rfl) q177 (pv (fun _ y179 => rext (v := .agg #[_, _, _, _]) rfl rfl)) ?_
          refine tk 14 rfl (by kernel_rfl) q177 (pv (fun _ y180 => rext (v := .int _ _) rfl rfl)) ?_
          refine ef 16 (by kernel_rfl) rfl ?_
          refine sta (cs' := [_, _, _, _]) b154 rfl rfl sz48 rfl rfl rfl ?_
          intro W181 y182 b154
          have z184 := z176.below (y182.below (by omega))
          replace hxt := hxt.wr y182 (by omega)
          have q185 := q177.below (y182.below (by omega))
          have s186 := y182.size
          refine ⟨fun _ => q185, ?_⟩
          refine tk 17 rfl (by kernel_rfl) q185 (pv (fun _ y187 => ras (v := .int _ _) rfl)) ?_
          refine dn (by kernel_rfl) ?_
          exact ⟨(W102.heap.size, 0, _, _, _, _, _, _, _, _), ⟨rfl, rfl, rfl, rfl, trivial⟩, ⟨rfl, rfl, trivial⟩, z184, by omega, b154, .inl ⟨rfl, hz, (((hqd.ck (y182.ck (by intro hh; first | (simp [SX] at hh <;> omega) | omega)))).sub fun _ _ _ => trivial).cast (by rw [show ((1 : Int) : Rat) = 1 from rfl]; rfl)⟩⟩
       ·skip
        refine efI rfl ?_
        refine xal zc48 ?_
        intro W188 x189 b190 nn191
        have s192 := x189.sz
        have z194 := z86.trans x189
        replace hxt := hxt.ext x189
        have q195 := q87.trans x189
        refine ⟨fun _ => q195, ?_⟩
        refine ef 0 (by kernel_rfl) rfl ?_
        refine xcall e27 (fFrom_ok 1 TT _ (by omega) (TT.up _)) rfl rfl ?_
        rintro _ W197 ⟨_, rfl, x198, hq196⟩
        have s199 := x198.sz
        have z201 := z194.trans x198
        replace hxt := hxt.ext x198
        replace b190 := b190.ext x198
        have q202 := q195.trans x198
        obtain ⟨_, _, _, _, _, _, _, _, rfl⟩ := hq196.form
        refine ⟨_, rfl, ?_⟩
        refine ⟨fun _ => q202, ?_⟩
        refine ef 11 (by kernel_rfl) rfl ?_
        rcases Classical.em (mat rows row.toNat col.toNat = 0) with hz | hz
        ·skip
         refine xcall e89 (fDivZ_ok [_, _, _, _] [_, _, _, _] _ _ 1 L _ _ _ ((hq196).qa szOne') (hq1.ext z201) (by omega) (by omega) hl1 hz) rfl rfl ?_
         rintro _ Wd ⟨m1, d1, k1, e1, m2, d2, k2, e2, rfl, xd⟩
         refine ⟨_, rfl, ?_⟩
         have s203 := xd.sz
         have z205 := z201.trans xd
         replace hxt := hxt.ext xd
         replace b190 := b190.ext xd
         have q206 := q202.trans xd
         refine ⟨fun _ => q206, ?_⟩
         refine tk 12 rfl (by kernel_rfl) q206 (pv (fun _ y207 => rmv (v := .tuple #[_, _]) rfl)) ?_
         refine tk 13 rfl (by kernel_rfl) q206 (pv (fun _ y208 => rext (v := .agg #[_, _, _, _]) rfl rfl)) ?_
         refine tk 14 rfl (by kernel_rfl) q206 (pv (fun _ y209 => rext (v := .int _ _) rfl rfl)) ?_
         refine ef 16 (by kernel_rfl) rfl ?_
         refine sta (cs' := [_, _, _, _]) b190 rfl rfl sz48 rfl rfl rfl ?_
         intro W210 y211 b190
         have z213 := z205.below (y211.below (by omega))
         replace hxt := hxt.wr y211 (by omega)
         have q214 := q206.below (y211.below (by omega))
         have s215 := y211.size
         refine ⟨fun _ => q214, ?_⟩
         refine tk 17 rfl (by kernel_rfl) q214 (pv (fun _ y216 => ras (v := .int _ _) rfl)) ?_
         refine dn (by kernel_rfl) ?_
         exact ⟨(W82.heap.size, 7, _, _, _, _, _, _, _, _), ⟨rfl, rfl, rfl, rfl, trivial⟩, ⟨rfl, rfl, trivial⟩, z213, by omega, b190, .inr ⟨by decide, hz⟩⟩
        ·skip
         refine xcall e89 (fDiv_ok [_, _, _, _] [_, _, _, _] _ _ 1 L (SX TT [W82.heap.size]) _ _ _ ((hq196).qa szOne') (hq1.ext z201) (by omega) (by omega) hl1 (SX.up (TT.up _) (by simp; omega)) hz) rfl rfl ?_
         rintro _ Wd ⟨_, rfl, xd, hqd⟩
         refine ⟨_, rfl, ?_⟩
         obtain ⟨m1, d1, k1, e1, m2, d2, k2, e2, rfl⟩ := hqd.form
         have s217 := xd.sz
         have z219 := z201.trans xd
         replace hxt := hxt.ext xd
         replace b190 := b190.ext xd
         have q220 := q202.trans xd
         refine ⟨fun _ => q220, ?_⟩
         refine tk 12 rfl (by kernel_rfl) q220 (pv (fun _ y221 => rmv (v := .tuple #[_, _]) rfl)) ?_
         refine tk 13 rfl (by kernel_rfl) q220 (pv (fun _ y222 => rext (v := .agg #[_, _, _, _]) rfl rfl)) ?_
         refine tk 14 rfl (by kernel_rfl) q220 (pv (fun _ y223 => rext (v := .int _ _) rfl rfl)) ?_
         refine ef 16 (by kernel_rfl) rfl ?_
         refine sta (cs' := [_, _, _, _]) b190 rfl rfl sz48 rfl rfl rfl ?_
         intro W224 y225 b190
         have z227 := z219.below (y225.below (by omega))
         replace hxt := hxt.wr y225 (by omega)
         have q228 := q220.below (y225.below (by omega))
         have s229 := y225.size
         refine ⟨fun _ => q228, ?_⟩
         refine tk 17 rfl (by kernel_rfl) q228 (pv (fun _ y230 => ras (v := .int _ _) rfl)) ?_
         refine dn (by kernel_rfl) ?_
         exact ⟨(W82.heap.size, 0, _, _, _, _, _, _, _, _), ⟨rfl, rfl, rfl, rfl, trivial⟩, ⟨rfl, rfl, trivial⟩, z227, by omega, b190, .inl ⟨rfl, hz, (((hqd.ck (y225.ck (by intro hh; first | (simp [SX] at hh <;> omega) | omega)))).sub fun _ _ _ => trivial).cast (by rw [show ((1 : Int) : Rat) = 1 from rfl]; rfl)⟩⟩
      ·skip
       intro i233 E234 W232 h235
       obtain ⟨u7, er, m1, d1, k1, e1, m2, d2, k2, e2⟩ := i233
       simp only at h235
       show thenV _ _ .normal (ups (ups _ _) [(7, .pointer (some ⟨u7, 0, none⟩)), (8, .int .i64 er)]) _ _
       obtain ⟨x236, hb7, h7, hj5⟩ := h235
       have s237 := x236.sz
       have z238 := z65.trans x236
       replace hxt := hxt.ext x236
       replace b3 := b3.ext x236
       replace b9 := b9.ext x236
       have l7 := h7.lt
       refine V.seq ?_
       refine V.seq (V.reg rfl ?_)
       refine mvi rfl ?_
       refine vne rfl rfl ?_ ?_
       ·intro c6
        have hz : mat rows row.toNat col.toNat = 0 := by rcases hj5 with ⟨h, _⟩ | ⟨_, h⟩; exact absurd h c6; exact h
        refine vnil ?_
        refine V.condT rfl ?_
        refine V.seq (V.reg rfl ?_)
        refine asi rfl ?_
        refine vnil ?_
        refine V.ret ?_
        refine ⟨[.int _ _], ⟨rfl, trivial⟩, ?_⟩
        have hbad : ¬ pivOK rows piv M row col := fun h => h.2.2.2.2.2 hz
        exact ⟨_, rfl, ⟨fun h => absurd h (by decide), fun h => absurd h hbad⟩, (by rw [pivR_no hbad, pivP_no hbad]; exact hS.ext z238), Ext.kd z238⟩
       ·intro c6
        have er0 : er = 0 := (by omega)
        obtain ⟨hnz, hqz⟩ : mat rows row.toNat col.toNat ≠ 0 ∧ QC TT W232 [.bool m1, .slice d1 k1 e1, .bool m2, .slice d2 k2 e2] (1 / mat rows row.toNat col.toNat) := by rcases hj5 with ⟨_, h⟩ | ⟨h, _⟩; exact h; exact absurd er0 h
        have hqza := hqz.qa (sz_inv (hsz.at hl1 row.toNat col.toNat) hl1)
        refine vnil ?_
        refine V.condF rfl ?_
        refine V.skip ?_
        obtain ⟨ra9, rk9, rc9, hc9, hg9⟩ := (hS.ext z238).row rfl (i := row) (by omega) (by omega)
        have ce9 : C1 W232 _ _ := hc9; have hga9 := hg9.va (hsz.row _); have hgl9 := hg9.len; have hrl9 := hr.row (i := row.toNat) (by omega)
        refine V.seq (V.regJ (ι := Nat × Option Addr × Nat × Nat) [(0, .pointer (some ⟨_, _, none⟩)), (4, .pointer (some ⟨_, _, none⟩)), (5, .pointer (some ⟨_, _, none⟩)), (6, .int _ _), (7, .pointer (some ⟨_, _, none⟩))] (fun ⟨u9, a9, k9, c9⟩ => [(9, .pointer (some ⟨u9, 0, none⟩))]) (fun ⟨u9, a9, k9, c9⟩ W => Ext W232 W ∧ W232.heap.size ≤ u9 ∧ BoxAt W u9 [.slice a9 k9 c9] 23 ∧ GC (SO (XS B bw (Value.slice ap piv.length cp)) (Value.slice av rows.length cv)) W a9 k9 c9 (sclR (1 / mat rows row.toNat col.toNat) (rowat rows row.toNat))) mixed rfl ⟨rfl, rfl, rfl, rfl, rfl, trivial⟩ ?_ ?_)
        ·skip
         intro W241 x242
         have s243 := x242.sz
         have z244 := z238.trans x242
         have z246 := x242
         replace hxt := hxt.ext x242
         replace b3 := b3.ext x242
         replace b9 := b9.ext x242
         replace h7 := h7.ext x242
         have q247 := Ext.refl W241
         have r248 := hxt
         have r249 := b3
         have r250 := b9
         have r251 := h7
         refine tk 0 rfl (by kernel_rfl) q247 (pv (fun _ y252 => rldb4 rfl ag48 (r251.ext y252) rfl rfl rfl rfl )) ?_
         refine tk 1 rfl (by kernel_rfl) q247 (pv (fun _ y253 => rmv (v := .pointer (some ⟨_, _, none⟩)) rfl)) ?_
         refine tk 2 rfl (by kernel_rfl) q247 (pv (fun _ y254 => rnc (v := .pointer (some ⟨_, _, none⟩)) rfl rfl)) ?_
         refine tk 3 rfl (by kernel_rfl) q247 (pv (fun _ y255 => rfa rfl fd91_3)) ?_
         refine tk 4 rfl (by kernel_rfl) q247 (pv (fun _ y256 => rldb (v := .slice _ _ _) rfl sc22 (r248.ext y256) rfl)) ?_
         refine tk 5 rfl (by kernel_rfl) q247 (pv (fun _ y257 => rldb (v := .int _ _) rfl sc3 (r249.ext y257) rfl)) ?_
         refine tk 6 rfl (by kernel_rfl) q247 (pv (fun _ y258 => rix sl22 sz23 rfl rfl (by omega) (by omega) (((hM0.ext z244).ext y258).isS (i := 0) (by omega) (by omega)))) ?_
         refine tk 7 rfl (by kernel_rfl) q247 (pv (fun _ y259 => rld1 (v := .slice _ _ _) rfl sc23 ((ce9.ext z246).ext y259))) ?_
         refine efs 8 [9] (by kernel_rfl) ⟨?_, ?_, trivial⟩
         ·skip
          refine efI rfl ?_
          refine xcall e26 (vScale_ok [_, _, _, _] _ _ _ _ L L _ (SO (XS B bw (Value.slice ap piv.length cp)) (Value.slice av rows.length cv)) _ _ _ (hga9.ext z246) (hqza.ext z246) (by omega) (by omega) (by omega) (by omega) (hS.ext z244).up) rfl rfl ?_
          rintro _ W260 ⟨_, _, _, rfl, x261, hsc⟩
          have s262 := x261.sz
          have z265 := z246.trans x261
          replace hxt := hxt.ext x261
          replace h7 := h7.ext x261
          have q266 := q247.trans x261
          refine ⟨_, rfl, ?_⟩
          refine ⟨fun _ => q266, ?_⟩
          refine ef 9 (by kernel_rfl) rfl ?_
          refine xal zc23 ?_
          intro W267 x268 b269 nn270
          have s271 := x268.sz
          have z274 := z265.trans x268
          replace hxt := hxt.ext x268
          replace h7 := h7.ext x268
          have q275 := q266.trans x268
          refine ⟨fun _ => q275, ?_⟩
          refine ef 10 (by kernel_rfl) rfl ?_
          refine st1 (v := .slice _ _ _) (cs' := [_]) b269 rfl rfl sz23 rfl rfl rfl rfl ?_
          intro W276 y277 b269
          have z280 := z274.below (y277.below (by omega))
          replace hxt := hxt.wr y277 (by omega)
          replace h7 := h7.wr y277 (by omega)
          have s281 := y277.size
          refine lastT (by kernel_rfl) ?_
          refine dn (by kernel_rfl) ?_
          exact ⟨(W260.heap.size, _, _, _), ⟨rfl, rfl, rfl, rfl, rfl, trivial⟩, ⟨rfl, trivial⟩, z280, by omega, b269, ((((hsc.sub (S' := SX _ [W260.heap.size]) (SX.old (by simp <;> omega))).ck ((x268.ck _).trans (y277.ck (by intro hh; first | (simp [SX] at hh <;> omega) | omega))))).sub (S' := SO (XS B bw (Value.slice ap piv.length cp)) (Value.slice av rows.length cv)) fun b _ h => by first | exact h | exact h.1).cast (by unfold sclR; rw [show (rowat rows row.toNat).length = rk9 from hgl9])⟩
         ·skip
          refine efI rfl ?_
          refine xal zc23 ?_
          intro W282 x283 b284 nn285
          have s286 := x283.sz
          have z287 := z244.trans x283
          have z289 := z246.trans x283
          replace hxt := hxt.ext x283
          replace h7 := h7.ext x283
          have q290 := q247.trans x283
          refine ⟨fun _ => q290, ?_⟩
          refine ef 8 (by kernel_rfl) rfl ?_
          refine xcall e26 (vScale_ok [_, _, _, _] _ _ _ _ L L _ (SX (SO (XS B bw (Value.slice ap piv.length cp)) (Value.slice av rows.length cv)) [W241.heap.size]) _ _ _ (hga9.ext z289) (hqza.ext z289) (by omega) (by omega) (by omega) (by omega) (SX.up (hS.ext z287).up (by simp; omega))) rfl rfl ?_
          rintro _ W291 ⟨_, _, _, rfl, x292, hsc⟩
          have s293 := x292.sz
          have z296 := z289.trans x292
          replace hxt := hxt.ext x292
          replace h7 := h7.ext x292
          replace b284 := b284.ext x292
          have q297 := q290.trans x292
          refine ⟨_, rfl, ?_⟩
          refine ⟨fun _ => q297, ?_⟩
          refine ef 10 (by kernel_rfl) rfl ?_
          refine st1 (v := .slice _ _ _) (cs' := [_]) b284 rfl rfl sz23 rfl rfl rfl rfl ?_
          intro W298 y299 b284
          have z302 := z296.below (y299.below (by omega))
          replace hxt := hxt.wr y299 (by omega)
          replace h7 := h7.wr y299 (by omega)
          have s303 := y299.size
          refine lastT (by kernel_rfl) ?_
          refine dn (by kernel_rfl) ?_
          exact ⟨(W241.heap.size, _, _, _), ⟨rfl, rfl, rfl, rfl, rfl, trivial⟩, ⟨rfl, trivial⟩, z302, by omega, b284, (((hsc.ck (y299.ck (by intro hh; first | (simp [SX] at hh <;> omega) | omega)))).sub (S' := SO (XS B bw (Value.slice ap piv.length cp)) (Value.slice av rows.length cv)) fun b _ h => by first | exact h | exact h.1).cast (by unfold sclR; rw [show (rowat rows row.toNat).length = rk9 from hgl9])⟩
        ·skip
         intro i305 E306 W304 h307
         obtain ⟨u9, a9, k9, c9⟩ := i305
         simp only at h307
         show thenV _ _ .normal (ups (ups _ _) [(9, .pointer (some ⟨u9, 0, none⟩))]) _ _
         obtain ⟨x308, hb9, h9, hps⟩ := h307
         have s309 := x308.sz
         have z310 := z238.trans x308
         replace hxt := hxt.ext x308
         replace b3 := b3.ext x308
         replace b9 := b9.ext x308
         replace h7 := h7.ext x308
         have l9 := h9.lt
         refine V.seq (V.reg rfl ?_)
         refine mvp rfl ?_
         refine vv (rmk3 (v := .pointer (some ⟨_, _, none⟩)) (u := .pointer (some ⟨_, _, none⟩)) (u3 := .pointer (some ⟨_, _, none⟩)) rfl rfl rfl) ?_
         refine vv (rbd (ps := [(0, .func _ _ _)]) (cs := [.func _ _ _]) pl102 rfl rfl) ?_
         refine vo ?_
         refine xcall e90 (tAll_ok B bw N ag av ng cg cv goals (Value.slice ap piv.length cp) rows piv _ (hS.ext z310) row col w.heap.size u9 W1.heap.size a9 k9 c9 L M b3 h9 b9 (hS.upq _ (by omega)) (hS.upq _ (by omega)) (hS.upq _ (by omega)) hps hr (by omega) (by omega) (by omega) (by omega) (by omega) hsz hl1 (by omega)) rfl rfl ?_
         rintro _ Wl ⟨rfl, kdl, hSl⟩
         refine ⟨_, rfl, ?_⟩
         have kd0 := (Ext.kd (D := (KQ bw (Value.slice av rows.length cv) (Value.slice ap piv.length cp))) z310).trans kdl; have b4l := b3.kd kdl (hS.upq _ (by omega)); have b5l := b9.kd kdl (hS.upq _ (by omega)); have hxl := hSl.x; have hPl := hSl.pn rfl; have zl := Ext.refl Wl; have skl := kd0.size
         refine vnil ?_
         refine V.seq (V.regD mixed rfl ?_)
         intro W314 x315
         have s316 := x315.sz
         have z317 := x315
         replace hxl := hxl.ext x315
         replace b4l := b4l.ext x315
         replace b5l := b5l.ext x315
         have q318 := Ext.refl W314
         have r319 := hxl
         have r320 := b4l
         have r321 := b5l
         refine tk 0 rfl (by kernel_rfl) q318 (pv (fun _ y322 => rmv (v := .pointer (some ⟨_, _, none⟩)) rfl)) ?_
         refine tk 1 rfl (by kernel_rfl) q318 (pv (fun _ y323 => rnc (v := .pointer (some ⟨_, _, none⟩)) rfl rfl)) ?_
         refine tk 2 rfl (by kernel_rfl) q318 (pv (fun _ y324 => rfa rfl fd91_2)) ?_
         refine tk 3 rfl (by kernel_rfl) q318 (pv (fun _ y325 => rldb (v := .slice _ _ _) rfl sc73 (r319.ext y325) rfl)) ?_
         refine tk 4 rfl (by kernel_rfl) q318 (pv (fun _ y326 => rldb (v := .int _ _) rfl sc3 (r320.ext y326) rfl)) ?_
         refine tk 5 rfl (by kernel_rfl) q318 (pv (fun _ y327 => rldb (v := .int _ _) rfl sc3 (r321.ext y327) rfl)) ?_
         refine tk 6 rfl (by kernel_rfl) q318 (pv (fun _ y328 => rixn ((hPl.ext z317).ext y328) sl73 sz3 rfl rfl (by omega) (by omega))) ?_
         refine ef 7 (by kernel_rfl) rfl ?_
         refine xstP (hSl.ext z317) rfl rfl rfl hck sz3 (by omega) (by omega) ?_
         intro Wt hSt kdt
         refine lastT (by kernel_rfl) ?_
         refine dn (by kernel_rfl) ?_
         refine V.seq (V.reg rfl ?_)
         refine asi rfl ?_
         refine vnil ?_
         refine V.ret ?_
         refine ⟨[.int _ _], ⟨rfl, trivial⟩, ?_⟩
         have hok : pivOK rows piv M row col := ⟨by omega, by omega, by omega, by omega, fun h => (by have := hqc.2 h; cases this), hnz⟩
         exact ⟨_, rfl, ⟨fun _ => hok, fun _ => rfl⟩, (by rw [pivR_yes hok, pivP_yes hok]; exact hSt), (kd0.trans (Ext.kd z317)).trans kdt⟩
     ·skip
      refine ⟨fun _ => q66, ?_⟩
      refine tk 28 rfl (by kernel_rfl) q66 (pv (fun _ y329 => rpk (v := .bool true) rfl rfl)) ?_
      refine tk 29 rfl (by kernel_rfl) q66 (pv (fun _ y330 => ras (v := .bool true) rfl)) ?_
      refine dn (by kernel_rfl) ?_
      refine V.condT rfl ?_
      refine V.seq (V.reg rfl ?_)
      refine asi rfl ?_
      refine vnil ?_
      refine V.ret ?_
      refine ⟨[.int _ _], ⟨rfl, trivial⟩, ?_⟩
      have hbad : ¬ pivOK rows piv M row col := fun h => h.2.2.2.2.1 (hqc.1 rfl)
      exact ⟨_, rfl, ⟨fun h => absurd h (by decide), fun h => absurd h hbad⟩, (by rw [pivR_no hbad, pivP_no hbad]; exact hS.ext z65), Ext.kd z65⟩
end Go.Proofs.YtknbjfefeeojlaaGreat
/- Package tableau: New. -/
namespace Go.Proofs.YtknbjfefeeojlaaGreat
open Go.RowKit
attribute [local irreducible] RV VH V OpF Calls
section
variable {r : Option Nat} {P : Program} {ρ : Operand → Value} {W W' : World} {d : Option Tmp} {ty T e : TypeId} {pos : String} {af : Array Edge} {g : Option (Nat × Bool)} {x y : Operand} {v : Value} {K : Value → World → Prop} {s B : Nat} {ρt : Type} {El : (Nat → Prop) → World → List Value → ρt → Prop} {S : Nat → Prop} {rs : List ρt} {rr : ρt}
theorem xappGo {t1 : TypeId} {b c1 bytes : Nat} {z : Value} {q : List Value} (ok : ElOK El) (hS : Sl P t1 e) (hi : ∃ i, P.info? e = some i ∧ i.size = s ∧ i.bytes = bytes ∧ i.zero = some z) (hzs : Nat.beq z.cells.size s = true) (hs0 : Nat.blt 0 s = true) (hO : GO s El S B W e v rs) (hx : ρ x = v) (hy : ρ y = .slice (some ⟨b, 0, none⟩) 1 c1) (hb : BoxAt W b q e) (hq : Nat.beq q.length s = true) (ho : (q.all Value.oneCell') = true) (hel : El (SO S v) W q rr)
    (hlen : (rs.length + 1) * bytes ≤ 140737488355328) (hbp : 0 < bytes) (hB : B ≤ W.heap.size)
    (hk2 : ∀ v' W', GO s El S B W' e v' (rs ++ [rr]) → W.grownBy W' v.ownBlock → (v'.ownBlock = v.ownBlock ∨ v'.ownBlock = some W.heap.size) → KB B W W' → K v' W') :
    OpF r P ρ ⟨d, .call ⟨.builtin .append, #[x, y], #[t1, t1]⟩, ty, pos, af, g⟩ W K := by
  obtain ⟨qs, h1, h2⟩ := hO
  have hl := h2.len
  refine xappS hS hi hzs hs0 h1 hx hy hb hq ho (by rw [hl]; exact hlen) hbp hB ?_
  intro v' W' hO' hg hown
  refine hk2 v' W' ⟨_, hO', ?_⟩ hg hown (KB.grownS h1 hg (Nat.le_refl _) hB)
  have := h2.snoc hel
  refine this.imp fun q r hq => ?_
  have g1 := ok.sub (S' := fun b => SO S v b ∧ v'.ownBlock ≠ some b) hq (fun b hb hs => ⟨hs, fun e => by
      rcases hown with h | h
      · rw [h] at e; exact hs.2 e
      · rw [h] at e; injection e with e; omega⟩)
  exact ok.sub (ok.ck g1 (grown_ck hg fun b e hs => hs.1.2 e)) fun b _ hs => ⟨hs.1.1, hs.2⟩
end


theorem cutM {z : Int} {N : Nat} (h : z = (N : Int)) (hN : N ≤ 65536) : min (max z 0) 65536 = (N : Int) := by omega

set_option maxHeartbeats 2000000 in
theorem tNew_ok (L : Nat) (obj rss : List (List Rat)) (bs : List Rat) (S0 S1 S2 : Nat → Prop) (nv : Int) (a0 a1 a2 : Option Addr) (n0 c0 n c m d : Nat) (w : World) (ho : MA L S0 w a0 n0 c0 obj) (hx : MA L S1 w a1 n c rss) (hy0 : ValidP nv n0 n m obj rss → GA L S2 w a2 m d bs) (hbd : ValidP nv n0 n m obj rss → n ≤ 64) (hl1 : 1 ≤ L) (hL : 4 * L + 4 < LY) :
    Calls Tryz.prog 16 #[.agg #[.int .i64 nv, .slice a0 n0 c0, .slice a1 n c, .slice a2 m d]] w (fun e w' => Ext w w' ∧ ((¬ ValidP nv n0 n m obj rss ∧ e = .returned (.tuple #[.pointer none, .int .i64 1])) ∨ (ValidP nv n0 n m obj rss ∧ ∃ bw ag cg v pw, e = .returned (.tuple #[.pointer (some ⟨bw, 0, none⟩), .int .i64 0]) ∧ TS w.heap.size bw nv ag n0 cg (gridm (matI obj) n0 nv.toNat) v pw (newR rss bs nv.toNat n n) (newP nv.toNat n) w'))) := by
 have z0 := Ext.refl w; have hLX : LX = 17592186044416 := rfl; have hLY : LY = 8796093022208 := rfl
 have hLV : LV = 1099511627776 := rfl
 have l0 := ho.len; have l1 := hx.len; have hos : szR L obj := ho.rowsz hl1; have hrs : szR L rss := hx.rowsz hl1
 refine enter (args := [.agg #[.int .i64 nv, .slice a0 n0 c0, .slice a1 n c, .slice a2 m d]]) Tryz.func16 rfl rfl (Nat.le_of_ble_eq_true rfl) ?_
 refine V.seq (V.reg rfl ?_)
 refine vo ?_
 refine bxa rfl ?_
 intro W1 x2 b3 nn4
 have s5 := x2.sz
 have z6 := x2
 refine asp rfl ?_
 refine asi rfl ?_
 refine vnil ?_
 refine V.seq ?_
 refine V.seq (V.reg rfl ?_)
 refine vv (rldb4 rfl ag25 b3 rfl rfl rfl rfl ) ?_
 refine vo ?_
 refine xcall e17 (valid_ok L obj rss S0 S1 _ _ _ _ _ _ _ _ _ _ _ (ho.ext z6) (hx.ext z6)) rfl rfl ?_
 rintro _ Wv ⟨qv, rfl, xv, hqv⟩
 refine ⟨_, rfl, ?_⟩
 cases qv
 ·skip
  have s7 := xv.sz
  have z8 := z6.trans xv
  refine vv (rnot (q := true) rfl rfl) ?_
  refine vnil ?_
  refine V.condT rfl ?_
  refine V.seq (V.reg rfl ?_)
  refine asp rfl ?_
  refine asi rfl ?_
  refine vnil ?_
  refine V.ret ?_
  refine ⟨[.pointer _, .int _ _], ⟨rfl, rfl, trivial⟩, ?_⟩
  exact ⟨z8, .inl ⟨fun h => (by have := hqv.2 h; cases this), rfl⟩⟩
 ·skip
  have s9 := xv.sz
  have z10 := z6.trans xv
  replace b3 := b3.ext xv
  have hv := hqv.1 rfl
  have hy := hy0 hv
  have l2 := hy.len; have hbs := hy.szv hl1
  have hn64 := hbd hv
  obtain ⟨⟨hv1, hv2, hv3, hv4, hv5, hv6⟩, hv7, hv8⟩ := id hv
  obtain ⟨Nn, rfl⟩ : ∃ Nn : Nat, nv = (Nn : Int) := ⟨nv.toNat, by omega⟩
  refine vv (rnot (q := false) rfl rfl) ?_
  refine vnil ?_
  refine V.condF rfl ?_
  refine V.skip ?_
  refine V.seq (V.reg rfl ?_)
  refine vv (rfa rfl fd25_2) ?_
  refine vv (rldb (v := .slice _ _ _) rfl sc22 b3 rfl) ?_
  refine vv (rlen sl22 rfl) ?_
  refine asi rfl ?_
  refine vnil ?_
  refine V.seq (V.regD mixed rfl ?_)
  intro W11 x12
  have s13 := x12.sz
  have z14 := z10.trans x12
  replace b3 := b3.ext x12
  have q15 := Ext.refl W11
  have r16 := b3
  refine tk 0 rfl (by kernel_rfl) q15 (pv (fun _ y17 => rfa rfl fd25_0)) ?_
  refine tk 1 rfl (by kernel_rfl) q15 (pv (fun _ y18 => rldb (v := .int _ _) rfl sc3 (r16.ext y18) rfl)) ?_
  refine tk 2 rfl (by kernel_rfl) q15 (pv (fun _ y19 => rfa rfl fd25_1)) ?_
  refine tk 3 rfl (by kernel_rfl) q15 (pv (fun _ y20 => rldb (v := .slice _ _ _) rfl sc22 (r16.ext y20) rfl)) ?_
  refine tk 4 rfl (by kernel_rfl) q15 (pv (fun _ y21 => rfa rfl fd25_1)) ?_
  refine tk 5 rfl (by kernel_rfl) q15 (pv (fun _ y22 => rldb (v := .slice _ _ _) rfl sc22 (r16.ext y22) rfl)) ?_
  refine tk 6 rfl (by kernel_rfl) q15 (pv (fun _ y23 => rlen sl22 rfl)) ?_
  refine tk 7 rfl (by kernel_rfl) q15 (pv (fun _ y24 => rfa rfl fd25_0)) ?_
  refine tk 8 rfl (by kernel_rfl) q15 (pv (fun _ y25 => rldb (v := .int _ _) rfl sc3 (r16.ext y25) rfl)) ?_
  refine ef 9 (by kernel_rfl) rfl ?_
  refine xcall e43 (mResize_ok _ _ _ _ _ n0 Nn L obj (fun b => W11.heap.size ≤ b) S0 _ (ho.ext z14) (by omega) (by omega) (by omega) hl1 (fun i k => hos.matI hl1 _ _) (fun b hb => by omega)) rfl rfl ?_
  rintro _ W26 ⟨ag, ng, cg, rfl, x27, hgl⟩
  have s28 := x27.sz
  have z29 := z14.trans x27
  replace b3 := b3.ext x27
  have q30 := q15.trans x27
  have hgll := hgl.len; rw [len_gridm] at hgll; obtain rfl : n0 = ng := by omega
  have hgl2 : MC (fun b => b < W26.heap.size) W26 ag n0 cg (gridm (matI obj) n0 Nn) := MG.sub okRowC hgl fun b hb _ => hb
  refine ⟨_, rfl, ?_⟩
  refine ⟨fun _ => q30, ?_⟩
  refine tk 10 rfl (by kernel_rfl) q30 (pv (fun _ y31 => rbd (ps := [(0, .int _ _), (1, .slice _ _ _)]) (cs := [.int _ _, .slice _ _ _, .slice _ _ _, .slice _ _ _]) pl91 rfl rfl)) ?_
  refine ef 11 (by kernel_rfl) rfl ?_
  refine bxa rfl ?_
  intro W32 x33 b34 nn35
  have s36 := x33.sz
  have z37 := z29.trans x33
  replace b3 := b3.ext x33
  have q38 := q30.trans x33
  refine ⟨fun _ => q38, ?_⟩
  refine tk 12 rfl (by kernel_rfl) q38 (pv (fun _ y39 => ras (v := .pointer (some ⟨_, _, none⟩)) rfl)) ?_
  refine dn (by kernel_rfl) ?_
  refine V.seq (V.regD mixed rfl ?_)
  intro W40 x41
  have s42 := x41.sz
  have z43 := z37.trans x41
  replace b3 := b3.ext x41
  replace b34 := b34.ext x41
  have q44 := Ext.refl W40
  have r45 := b3
  have r46 := b34
  refine tk 0 rfl (by kernel_rfl) q44 (pv (fun _ y47 => rfa rfl fd25_2)) ?_
  refine tk 1 rfl (by kernel_rfl) q44 (pv (fun _ y48 => rldb (v := .slice _ _ _) rfl sc22 (r45.ext y48) rfl)) ?_
  refine tk 2 rfl (by kernel_rfl) q44 (pv (fun _ y49 => rmv (v := .int _ _) rfl)) ?_
  refine tk 3 rfl (by kernel_rfl) q44 (pv (fun _ y50 => rfa rfl fd25_0)) ?_
  refine tk 4 rfl (by kernel_rfl) q44 (pv (fun _ y51 => rldb (v := .int _ _) rfl sc3 (r45.ext y51) rfl)) ?_
  refine tk 6 rfl (by kernel_rfl) q44 (pv (fun _ y52 => rmv (v := .int _ _) rfl)) ?_
  refine tk 9 rfl (by kernel_rfl) q44 (pv (fun _ y53 => rfa rfl fd25_3)) ?_
  refine tk 10 rfl (by kernel_rfl) q44 (pv (fun _ y54 => rldb (v := .slice _ _ _) rfl sc23 (r45.ext y54) rfl)) ?_
  refine tk 11 rfl (by kernel_rfl) q44 (pv (fun _ y55 => rmv (v := .int _ _) rfl)) ?_
  refine ef 5 (by kernel_rfl) rfl ?_
  refine xcall e43 (mResize_ok _ _ _ _ _ n Nn L rss (fun b => W40.heap.size ≤ b) S1 _ (hx.ext z43) (by omega) (by omega) (by omega) hl1 (fun i k => hrs.matI hl1 _ _) (fun b hb => by omega)) rfl rfl ?_
  rintro _ W56 ⟨_, nr, _, rfl, x57, hR1⟩
  have s58 := x57.sz
  have z59 := z43.trans x57
  replace b3 := b3.ext x57
  replace b34 := b34.ext x57
  have q60 := q44.trans x57
  have hR1l := hR1.len; rw [len_gridm] at hR1l; obtain rfl : n = nr := hR1l
  have hR1a := hR1.ma (L := L) (gridm_sz fun i k => hrs.matI hl1 _ _)
  have hR1c := colsN_rect_le (gridm_rect (matI rss) n Nn)
  refine ⟨_, rfl, ?_⟩
  refine ⟨fun _ => q60, ?_⟩
  refine ef 7 (by kernel_rfl) rfl ?_
  refine xcall e47 (mIdent_ok _ n (fun b => W40.heap.size ≤ b) _ (by omega) (fun b hb => by omega)) rfl rfl ?_
  rintro _ W61 ⟨_, ni, _, rfl, x62, hID⟩
  have s63 := x62.sz
  have z64 := z59.trans x62
  replace b3 := b3.ext x62
  replace b34 := b34.ext x62
  have q65 := q60.trans x62
  have hIDl := hID.len; rw [identm_len] at hIDl; obtain rfl : n = ni := hIDl
  have hIDa := hID.ma (identm_sz n)
  have hIDc := colsN_rect_le (identm_rect n)
  refine ⟨_, rfl, ?_⟩
  refine ⟨fun _ => q65, ?_⟩
  refine ef 8 (by kernel_rfl) rfl ?_
  refine xcall e84 (mConcat_ok _ _ _ _ _ _ L 1 (gridm (matI rss) n Nn) (identm n) (fun b => W40.heap.size ≤ b) _ _ _ (hR1a.ext x62) hIDa (by omega) hl1 (by omega) (by omega) (by omega) (by omega) (by omega) (fun b hb => by omega)) rfl rfl ?_
  rintro _ W66 ⟨_, nw, _, rfl, x67, hWB⟩
  have s68 := x67.sz
  have z69 := z64.trans x67
  replace b3 := b3.ext x67
  replace b34 := b34.ext x67
  have q70 := q65.trans x67
  replace hWB := hWB.cast (rss' := wideB rss Nn n) rfl
  have hWBl := hWB.len; rw [show (wideB rss Nn n).length = max n n from len_gridm _ _ _] at hWBl; obtain rfl : nw = max n n := hWBl.symm
  have hWBa := hWB.ma (L := L) (wideB_sz hrs hl1 Nn n)
  have hWBc : colsN (wideB rss Nn n) ≤ 1024 := Nat.le_trans (colsN_rect_le (gridm_rect _ _ _)) (by omega)
  refine ⟨_, rfl, ?_⟩
  refine ⟨fun _ => q70, ?_⟩
  refine ef 12 (by kernel_rfl) rfl ?_
  refine xcall e19 (vResize_ok _ _ _ _ n L bs (fun b => W40.heap.size ≤ b) S2 _ (hy.ext z69) (by omega) (by omega) hl1 (fun b hb => by omega)) rfl rfl ?_
  rintro _ W71 ⟨_, nb, _, rfl, x72, hVb⟩
  have s73 := x72.sz
  have z74 := z69.trans x72
  replace b3 := b3.ext x72
  replace b34 := b34.ext x72
  have q75 := q70.trans x72
  have hVbl := hVb.len; rw [resz_len] at hVbl; obtain rfl : n = nb := hVbl
  refine ⟨_, rfl, ?_⟩
  refine ⟨fun _ => q75, ?_⟩
  refine ef 13 (by kernel_rfl) rfl ?_
  refine xbs (ps := [(0, .slice _ _ _)]) (cs := [.slice _ _ _]) sl22 zr23 sz23 rfl rfl rfl rfl rfl rfl ?_
  intro W76 x77 b78 nn79
  have s80 := x77.sz
  have z81 := z74.trans x77
  replace b3 := b3.ext x77
  replace b34 := b34.ext x77
  have q82 := q75.trans x77
  refine ⟨fun _ => q82, ?_⟩
  refine ef 14 (by kernel_rfl) rfl ?_
  have hLt : MA L TT W76 (some ⟨W71.heap.size, 0, none⟩) 1 1 [resz bs n] := ⟨[[.slice _ _ _]], RS.lit (s := 1) (S := TT) (n := 1) _ b78 rfl (by simp) trivial rfl (by omega), ⟨_, _, _, rfl, (GC.va (hVb.ext x77) (resz_sz hbs hl1 n)).sub (fun _ _ _ => trivial)⟩, trivial⟩
  have hLtc : colsN [resz bs n] = n := by simp [colsN, resz_len]
  refine xcall e45 (mTr_ok _ _ _ L [resz bs n] (fun b => W40.heap.size ≤ b) TT _ hLt (by omega) hl1 (by omega) (by omega) (fun b hb => by omega)) rfl rfl ?_
  rintro _ W83 ⟨_, nt, _, rfl, x84, hSB⟩
  have s85 := x84.sz
  have z86 := z81.trans x84
  replace b3 := b3.ext x84
  replace b34 := b34.ext x84
  have q87 := q82.trans x84
  replace hSB := hSB.cast (rss' := sideB bs n) rfl
  have hSBl := hSB.len; rw [show (sideB bs n).length = colsN [resz bs n] from len_gridm _ _ _] at hSBl; obtain rfl : nt = colsN [resz bs n] := hSBl.symm
  have hSBa := hSB.ma (L := L) (sideB_sz hbs hl1 n)
  have hSBc : colsN (sideB bs n) ≤ 1024 := Nat.le_trans (colsN_rect_le (gridm_rect _ _ _)) (by omega)
  refine ⟨_, rfl, ?_⟩
  refine ⟨fun _ => q87, ?_⟩
  refine ef 15 (by kernel_rfl) rfl ?_
  refine xcall e84 (mConcat_ok _ _ _ _ _ _ L L (wideB rss Nn n) (sideB bs n) (fun b => W40.heap.size ≤ b) _ _ _ (hWBa.ext ((x72.trans x77).trans x84)) hSBa (by omega) hl1 (by omega) hl1 (by omega) (by omega) (by omega) (fun b hb => by omega)) rfl rfl ?_
  rintro _ W88 ⟨aa, na, ca, rfl, x89, hAL⟩
  have s90 := x89.sz
  have z91 := z86.trans x89
  replace b3 := b3.ext x89
  replace b34 := b34.ext x89
  have q92 := q87.trans x89
  replace hAL := hAL.cast (rss' := allB rss bs Nn n) rfl
  have hALl := hAL.len; rw [show (allB rss bs Nn n).length = max (max n n) (colsN [resz bs n]) from len_gridm _ _ _] at hALl
  refine ⟨_, rfl, ?_⟩
  refine ⟨fun _ => q92, ?_⟩
  refine tk 16 rfl (by kernel_rfl) q92 (pv (fun _ y93 => ras (v := .slice _ _ _) rfl)) ?_
  refine dn (by kernel_rfl) ?_
  refine V.seq ?_
  refine V.seq (V.reg rfl ?_)
  refine mvi rfl ?_
  refine mvi rfl ?_
  refine vnil ?_
  refine V.block ?_
  have zL := z91; have szL := zL.sz; have b1L := b3; have bwL := b34; have lb1L := b1L.lt; have lbwL := bwL.lt
  have hALs : MC (fun b => b < W88.heap.size ∧ b ≠ W26.heap.size) W88 aa na ca (allB rss bs Nn n) := MG.sub okRowC hAL fun b hb hs => ⟨hb, by omega⟩
  have hTS0 : TS w.heap.size (W26.heap.size) (Nn : Int) ag n0 cg (gridm (matI obj) n0 Nn) (.slice none 0 0) (.slice none 0 0) [] [] W88 := ⟨bwL, GO.nil _ _, OI.nil .i64 _ _ _, MG.sub okRowC (hgl2.ext ((((((((x33.trans x41).trans x57).trans x62).trans x67).trans x72).trans x77).trans x84).trans x89)) fun b hb hs => ⟨by omega, by simp [Value.ownBlock], by simp [Value.ownBlock]⟩, by omega⟩
  refine V.loopK (ι := Nat × Value × Value) [(1, .pointer (some ⟨_, _, none⟩)), (4, .int _ _), (5, .pointer (some ⟨_, _, none⟩)), (6, .slice _ _ _), (42, .int _ _)] (fun ⟨i, v, pw⟩ => [(43, .int .i64 (i : Int))]) (fun ⟨i, v, pw⟩ W => i ≤ n ∧ TS w.heap.size (W26.heap.size) (Nn : Int) ag n0 cg (gridm (matI obj) n0 Nn) v pw (newR rss bs Nn n i) (newP Nn i) W ∧ KD (fun b => b < W88.heap.size ∧ b ≠ W26.heap.size) W88 W ∧ (∀ b, v.ownBlock = some b → W88.heap.size ≤ b) ∧ (∀ b, pw.ownBlock = some b → W88.heap.size ≤ b)) (fun ⟨i, v, pw⟩ => n - i) ((0, _, _)) ⟨rfl, rfl, rfl, rfl, rfl, trivial⟩ ⟨rfl, trivial⟩ ⟨Nat.zero_le _, hTS0, KD.refl _ _, (fun b e => by simp [Value.ownBlock] at e), (fun b e => by simp [Value.ownBlock] at e)⟩ ?_
  intro i95 E96 W94 h97
  obtain ⟨i, v, pw⟩ := i95
  simp only at h97
  show V _ _ _ _ _ _ (ups (ups _ _) [(43, .int .i64 (i : Int))]) _
  obtain ⟨hi, hK, hkd, hov, hop⟩ := h97
  have hxK := hK.x; have szk := hkd.size; have b1k := b1L.kd hkd ⟨by omega, by omega⟩; have zz := Ext.refl W94; have hpl := newP_len Nn i; have hrl := newR_len rss bs Nn n i; have lxK := hxK.lt
  refine V.seq (V.reg rfl ?_)
  refine vlt rfl rfl ?_ ?_
  ·intro c98
   refine vnil ?_
   refine V.seq ?_
   refine V.condT rfl ?_
   refine V.skip ?_
   refine V.seq ?_
   refine V.block ?_
   refine V.seq (V.reg rfl ?_)
   refine mvi rfl ?_
   refine asi rfl ?_
   refine vnil ?_
   refine V.seq (V.regB [10, 13] mixed rfl ?_)
   intro W99 x100
   have s101 := x100.sz
   have z102 := x100
   replace hxK := hxK.ext x100
   replace b1k := b1k.ext x100
   have q103 := Ext.refl W99
   have r104 := hxK
   have r105 := b1k
   refine tkP 0 rfl (by kernel_rfl) (by kernel_rfl) (fun _ => q103) (pv (fun _ _ => rmv (v := .pointer (some ⟨_, _, none⟩)) rfl)) ?_
   refine tkP 1 rfl (by kernel_rfl) (by kernel_rfl) (fun _ => q103) (pv (fun _ _ => rmv (v := .pointer (some ⟨_, _, none⟩)) rfl)) ?_
   refine tkP 2 rfl (by kernel_rfl) (by kernel_rfl) (fun _ => q103) (pv (fun _ _ => rnc (v := .pointer (some ⟨_, _, none⟩)) rfl rfl)) ?_
   refine tkP 3 rfl (by kernel_rfl) (by kernel_rfl) (fun _ => q103) (pv (fun _ _ => rfa rfl fd91_2)) ?_
   refine tkB 4 rfl (by kernel_rfl) q103 (pv (fun _ y110 => rldb (v := pw) rfl sc73 (r104.ext y110) rfl)) ?_
   refine tkP 5 rfl (by kernel_rfl) (by kernel_rfl) (fun _ => q103) (pv (fun _ _ => rfa rfl fd25_0)) ?_
   refine tkZ [8, 9, 10, 11, 12, 13] 6 rfl (by kernel_rfl) q103 (pv (fun _ y112 => rldb (v := .int _ _) rfl sc3 (r105.ext y112) rfl)) ?_
   refine tkP 7 rfl (by kernel_rfl) (by kernel_rfl) (fun _ => q103) (pv (fun _ _ => rmv (v := .int _ _) rfl)) ?_
   refine tkP 8 rfl (by kernel_rfl) (by kernel_rfl) (fun _ => q103) (pv (fun _ _ => rbin (bAdd (wi (by omega))) rfl rfl)) ?_
   refine efB 9 (by kernel_rfl) rfl ?_
   refine xbs (ps := [(0, .int _ _)]) (cs := [.int _ _]) sl73 zr3 sz3 rfl rfl rfl rfl rfl rfl ?_
   intro W115 x116 b117 nn118
   have s119 := x116.sz
   have z120 := z102.trans x116
   replace hxK := hxK.ext x116
   have q121 := q103.trans x116
   refine ⟨fun _ => q121, ?_⟩
   refine efB 10 (by kernel_rfl) rfl ?_
   have hSa := hK.ext z120
   refine xapp sl73 in3 hSa.p rfl rfl b117 (by simp only [kb]; omega) (by omega) (by decide) (by omega) ?_
   intro va Wa hO hg ho
   obtain ⟨ap2, cp2, rfl⟩ := hO.form
   have hxa := hSa.x.ck (S := fun q => pw.ownBlock ≠ some q) (grown_ck hg fun b e h => h e) hSa.pb
   have hos := (KB.grown hSa.p hg (Nat.zero_le _) (Nat.zero_le _)).below
   refine notW (by kernel_rfl) ?_
   refine tkP 11 rfl (by kernel_rfl) (by kernel_rfl) (notWf (by kernel_rfl)) (pv (fun _ _ => rnc (v := .pointer (some ⟨_, _, none⟩)) rfl rfl)) ?_
   refine tkP 12 rfl (by kernel_rfl) (by kernel_rfl) (notWf (by kernel_rfl)) (pv (fun _ _ => rfa rfl fd91_2)) ?_
   refine efB 13 (by kernel_rfl) rfl ?_
   refine st1 (v := .slice _ _ _) (cs' := [_, _, _, _]) hxa rfl rfl sz73 rfl rfl rfl rfl ?_
   intro Wb yb hxb
   obtain ⟨hSb, kdb⟩ := hSa.push hO hg ho hos yb hxb
   have hkb : KD (fun b => b < W88.heap.size ∧ b ≠ W26.heap.size) W88 Wb := (hkd.trans (Ext.kd z120)).trans (kdb.mono fun q hq => ⟨hq.2, fun e => by have := hov q e; omega, fun e => by have := hop q e; omega⟩)
   have hop2 : ∀ b, (Value.slice ap2 (newP Nn i ++ [(Nn : Int) + (i : Int)]).length cp2).ownBlock = some b → W88.heap.size ≤ b := fun b e => by
    rcases ho with h | h
    ·exact hop b (h ▸ e)
    ·rw [h] at e; injection e with e; omega
   have skb := hkb.size; have hxB := hSb.x; have b1b := b1L.kd hkb ⟨by omega, by omega⟩; have zb := Ext.refl Wb; have hAb : MC (fun q => q < W88.heap.size) Wb aa na ca (allB rss bs Nn n) := MG.sub okRowC (MG.ck okRowC hALs hkb.ck) fun _ _ h => h.1
   obtain ⟨ra0, rk0, rc0, cb0, hg0⟩ := MG.elB hAb (i := (i : Int)) (by omega) (by omega)
   have hga0 := hg0.va ((allB_sz hrs hbs hl1 Nn n).row _)
   refine notW (by kernel_rfl) ?_
   refine dnB (by kernel_rfl) ?_
   refine V.regB [16, 19] mixed rfl ?_
   intro W124 x125
   have s126 := x125.sz
   have z127 := x125
   replace hxB := hxB.ext x125
   replace b1b := b1b.ext x125
   have q128 := Ext.refl W124
   have r129 := hxB
   have r130 := b1b
   refine tkP 0 rfl (by kernel_rfl) (by kernel_rfl) (fun _ => q128) (pv (fun _ _ => rmv (v := .pointer (some ⟨_, _, none⟩)) rfl)) ?_
   refine tkP 1 rfl (by kernel_rfl) (by kernel_rfl) (fun _ => q128) (pv (fun _ _ => rmv (v := .pointer (some ⟨_, _, none⟩)) rfl)) ?_
   refine tkP 2 rfl (by kernel_rfl) (by kernel_rfl) (fun _ => q128) (pv (fun _ _ => rnc (v := .pointer (some ⟨_, _, none⟩)) rfl rfl)) ?_
   refine tkP 3 rfl (by kernel_rfl) (by kernel_rfl) (fun _ => q128) (pv (fun _ _ => rfa rfl fd91_3)) ?_
   refine tkB 4 rfl (by kernel_rfl) q128 (pv (fun _ y135 => rldb (v := v) rfl sc22 (r129.ext y135) rfl)) ?_
   refine tkP 5 rfl (by kernel_rfl) (by kernel_rfl) (fun _ => q128) (pv (fun _ _ => rmv (v := .slice _ _ _) rfl)) ?_
   refine tkP 6 rfl (by kernel_rfl) (by kernel_rfl) (fun _ => q128) (pv (fun _ _ => rmv (v := .int _ _) rfl)) ?_
   refine tkP 7 rfl (by kernel_rfl) (by kernel_rfl) (fun _ => q128) (pv (fun _ _ => rix sl22 sz23 rfl rfl (by omega) (by omega) ((hAb.ext z127).isS (i := 0) (by omega) (by omega)))) ?_
   refine tkZ [14, 15, 16, 17, 18, 19] 8 rfl (by kernel_rfl) q128 (pv (fun _ y139 => rld1 (v := .slice _ _ _) rfl sc23 (CB.c1 ((cb0.ext z127).ext y139)))) ?_
   refine tkP 9 rfl (by kernel_rfl) (by kernel_rfl) (fun _ => q128) (pv (fun _ _ => rfa rfl fd25_0)) ?_
   refine tkZ [12, 13, 14, 15, 16, 17, 18, 19] 10 rfl (by kernel_rfl) q128 (pv (fun _ y141 => rldb (v := .int _ _) rfl sc3 (r130.ext y141) rfl)) ?_
   refine tkP 11 rfl (by kernel_rfl) (by kernel_rfl) (fun _ => q128) (pv (fun _ _ => rmv (v := .int _ _) rfl)) ?_
   refine tkP 12 rfl (by kernel_rfl) (by kernel_rfl) (fun _ => q128) (pv (fun _ _ => rbin (bAdd (wi (by omega))) rfl rfl)) ?_
   refine tkP 13 rfl (by kernel_rfl) (by kernel_rfl) (fun _ => q128) (pv (fun _ _ => rbin (bAdd (wi (by omega))) rfl rfl)) ?_
   refine efB 14 (by kernel_rfl) rfl ?_
   refine xcall e19 (vResize_ok _ _ _ _ (Nn + n + 1) L (rowat (allB rss bs Nn n) ((i : Int)).toNat) (SO (XS w.heap.size (W26.heap.size) (Value.slice ap2 (newP Nn i ++ [(Nn : Int) + (i : Int)]).length cp2)) v) _ _ (hga0.ext z127) (cutM (by omega) (by omega)) (by omega) hl1 (hSb.ext z127).up) rfl rfl ?_
   rintro _ W145 ⟨_, _, _, rfl, x146, hvr⟩
   have s147 := x146.sz
   have z148 := z127.trans x146
   replace hxB := hxB.ext x146
   have q149 := q128.trans x146
   refine ⟨_, rfl, ?_⟩
   refine ⟨fun _ => q149, ?_⟩
   refine efB 15 (by kernel_rfl) rfl ?_
   refine xbs (ps := [(0, .slice _ _ _)]) (cs := [.slice _ _ _]) sl22 zr23 sz23 rfl rfl rfl rfl rfl rfl ?_
   intro W150 x151 b152 nn153
   have s154 := x151.sz
   have z155 := z148.trans x151
   replace hxB := hxB.ext x151
   have q156 := q149.trans x151
   refine ⟨fun _ => q156, ?_⟩
   refine efB 16 (by kernel_rfl) rfl ?_
   have hSc := hSb.ext z155
   refine xappGo okRowC sl22 in23 rfl rfl hSc.g rfl rfl b152 rfl rfl (⟨_, _, _, rfl, (hvr.ext x151)⟩ : RowOf GC _ _ _ _) (by omega) (by decide) (by omega) ?_
   intro v2 Wc hG2 hg2 ho2 hb2
   obtain ⟨av2, cv2, rfl⟩ := hG2.form
   have hxc := hSc.x.ck (S := fun q => v.ownBlock ≠ some q) (grown_ck hg2 fun b e h => h e) hSc.vb
   refine notW (by kernel_rfl) ?_
   refine tkP 17 rfl (by kernel_rfl) (by kernel_rfl) (notWf (by kernel_rfl)) (pv (fun _ _ => rnc (v := .pointer (some ⟨_, _, none⟩)) rfl rfl)) ?_
   refine tkP 18 rfl (by kernel_rfl) (by kernel_rfl) (notWf (by kernel_rfl)) (pv (fun _ _ => rfa rfl fd91_3)) ?_
   refine efB 19 (by kernel_rfl) rfl ?_
   refine st1 (v := .slice _ _ _) (cs' := [_, _, _, _]) hxc rfl rfl sz22 rfl rfl rfl rfl ?_
   intro Wd yd hxd
   obtain ⟨hSd, kdd⟩ := hSc.pushR hG2 hg2 ho2 (hb2.below.mono (Nat.zero_le _)) yd hxd
   refine notW (by kernel_rfl) ?_
   refine dnB (by kernel_rfl) ?_
   refine V.reg rfl ?_
   refine vv (rbin (bAdd (wi (by omega))) rfl rfl) ?_
   refine mvi rfl ?_
   refine vnil ?_
   refine ⟨rfl, (i + 1, _, _), ⟨rfl, rfl, rfl, rfl, rfl, trivial⟩, ⟨rfl, trivial⟩, ⟨by omega, (by rw [newR_succ, newP_succ]; exact hSd), (hkb.trans (Ext.kd z155)).trans (kdd.mono fun q hq => ⟨hq.2, fun e => by have := hov q e; omega, fun e => by have := hop2 q e; omega⟩), (fun b e => by
    rcases ho2 with h | h
    ·exact hov b (h ▸ e)
    ·rw [h] at e; injection e with e; omega), hop2⟩, ?_⟩
   show n - (i + 1) < n - i
   omega
  ·intro c98
   refine vnil ?_
   refine V.seq ?_
   refine V.condF rfl ?_
   refine V.exit ?_
   refine V.seq (V.reg rfl ?_)
   refine mvp rfl ?_
   refine asp rfl ?_
   refine asi rfl ?_
   refine vnil ?_
   refine V.ret ?_
   refine ⟨[.pointer (some ⟨_, _, none⟩), .int _ _], ⟨rfl, rfl, trivial⟩, ?_⟩
   have ei : i = n := by omega
   subst ei
   exact ⟨Ext.trans (KD.low zL hkd (fun q hq => ⟨by omega, by omega⟩) (by omega)) zz, .inr ⟨hv, _, _, _, _, _, rfl, hK.ext zz⟩⟩
end Go.Proofs.YtknbjfefeeojlaaGreat

/- From canonical to raw; what the laws ask of closed lists. -/
import Derived.Test.YtknbjfefeeojlaaPc
namespace Go.Proofs.Ytknbjfefeeojlaa
open Go.RowKit
attribute [local irreducible] RV VH V OpF Calls
section
variable {S S1 S2 : Nat → Prop} {W : World} {a a1 a2 : Option Addr} {n c m d L : Nat} {rs ss : List Rat} {rss mss : List (List Rat)}
theorem GC.gx (h : GC S W a n c rs) : GX S W a n c (rs.map canon) := by
  obtain ⟨qs, h1, h2⟩ := h
  refine ⟨qs, h1, ?_⟩
  clear h1
  induction qs generalizing rs with
  | nil => cases rs <;> simp_all [All2]
  | cons q qs ih => cases rs with
    | nil => exact h2.elim
    | cons r rs => exact ⟨h2.1, ih h2.2⟩
theorem MC.mx (h : MC S W a n c rss) : MX S W a n c (rss.map (·.map canon)) := by
  obtain ⟨qs, h1, h2⟩ := h
  refine ⟨qs, h1, ?_⟩
  clear h1
  induction qs generalizing rss with
  | nil => cases rss <;> simp_all [All2]
  | cons q qs ih => cases rss with
    | nil => exact h2.elim
    | cons r rs => obtain ⟨a, n, c, e, h3⟩ := h2.1; exact ⟨⟨a, n, c, e, h3.gx⟩, ih h2.2⟩
theorem MC.ma (h : MC S W a n c rss) (hs : ∀ r ∈ rss, szV L r) : MA L S W a n c rss := by
  obtain ⟨qs, h1, h2⟩ := h
  refine ⟨qs, h1, ?_⟩
  clear h1
  induction qs generalizing rss with
  | nil => cases rss <;> simp_all [All2]
  | cons q qs ih => cases rss with
    | nil => exact h2.elim
    | cons r rs => obtain ⟨a, n, c, e, h3⟩ := h2.1; exact ⟨⟨a, n, c, e, h3.va (hs r (by simp))⟩, ih (fun x hx => hs x (by simp [hx])) h2.2⟩
theorem MC.cast {rss' : List (List Rat)} (h : MC S W a n c rss) (e : rss = rss') : MC S W a n c rss' := e ▸ h
theorem canon_inj {r s : Rat} (h : canon r = canon s) : r = s := by rw [← qval_canon r, h, qval_canon]
theorem map_canon {rs ss : List Rat} : rs.map canon = ss.map canon ↔ rs = ss := by
  refine ⟨fun h => ?_, fun h => by rw [h]⟩
  have := congrArg (List.map qval) h
  simpa [List.map_map, Function.comp_def, qval_canon] using this
theorem map_canon2 {rss mss : List (List Rat)} : rss.map (·.map canon) = mss.map (·.map canon) ↔ rss = mss := by
  refine ⟨fun h => ?_, fun h => by rw [h]⟩
  have := congrArg (List.map (List.map qval)) h
  simpa [List.map_map, Function.comp_def, qval_canon] using this
theorem vIs_c (w : World) (hx : GC S1 w a1 n c rs) (hy : GC S2 w a2 m d ss) : Calls Try.prog 26 #[.slice a1 n c, .slice a2 m d] w fun e w' => ∃ q, e = .returned (.bool q) ∧ Ext w w' ∧ (q = true ↔ rs = ss) := by
  have h := vIs_ok _ _ _ _ _ _ _ _ _ _ w hx.gx hy.gx
  rw [map_canon] at h; exact h
theorem mIs_c (w : World) (hx : MC S1 w a1 n c rss) (hy : MC S2 w a2 m d mss) : Calls Try.prog 12 #[.slice a1 n c, .slice a2 m d] w fun e w' => ∃ q, e = .returned (.bool q) ∧ Ext w w' ∧ (q = true ↔ rss = mss) := by
  have h := mIs_ok _ _ _ _ _ _ _ _ _ _ w hx.mx hy.mx
  rw [map_canon2] at h; exact h
theorem vIs_true (w : World) (hx : GC S1 w a1 n c rs) (hy : GC S2 w a2 m d ss) (e : rs = ss) : Calls Try.prog 26 #[.slice a1 n c, .slice a2 m d] w fun e w' => e = .returned (.bool true) ∧ Ext w w' := by
  refine (vIs_c w hx hy).mono ?_
  rintro _ _ ⟨q, h1, h2, h3⟩
  exact ⟨by rw [h1, h3.2 e], h2⟩
theorem mIs_true (w : World) (hx : MC S1 w a1 n c rss) (hy : MC S2 w a2 m d mss) (e : rss = mss) : Calls Try.prog 12 #[.slice a1 n c, .slice a2 m d] w fun e w' => e = .returned (.bool true) ∧ Ext w w' := by
  refine (mIs_c w hx hy).mono ?_
  rintro _ _ ⟨q, h1, h2, h3⟩
  exact ⟨by rw [h1, h3.2 e], h2⟩
/-- Small numbers, asked by reckoning. -/
def szB (r : Rat) : Bool := decide ((r.num.natAbs : Int) < b32 ^ 1) && decide ((r.den : Int) < b32 ^ 1)
theorem szB_sz {r : Rat} (h : szB r = true) : sz 1 r := by
  unfold szB at h; simp only [Bool.and_eq_true, decide_eq_true_eq] at h; exact h
theorem szV_B (h : rs.all szB = true) : szV 1 rs := fun r hr => szB_sz (List.all_eq_true.1 h r hr)
theorem szM_B (h : rss.all (fun r => r.all szB) = true) : ∀ r ∈ rss, szV 1 r := fun r hr => szV_B (List.all_eq_true.1 h r hr)
theorem lenM_B {R : Nat} (h : rss.all (fun r => Nat.ble r.length R) = true) : ∀ r ∈ rss, r.length ≤ R := fun r hr => Nat.le_of_ble_eq_true (List.all_eq_true.1 h r hr)
theorem mCols_at (w : World) (N : Nat) (hx : MA L S1 w a n c rss) (e : colsN rss = N) : Calls Try.prog 18 #[.slice a n c] w fun e w' => e = .returned (.int .i64 (N : Int)) ∧ Ext w w' := by
  subst e; exact mCols_ok _ _ _ _ _ _ _ hx
end
end Go.Proofs.Ytknbjfefeeojlaa

/- Integers of the program, and what is left of the steps. -/
import Derived.Deep.Upon
import Derived.Test.YtknbjfefeeojlaaGreatMga1
namespace Go.Proofs.YtknbjfefeeojlaaGreat
open Go.RowKit
section
variable {r : Option Nat} {P : Program} {N : Nat} {ops : Array Oper} {R : Env → World → Prop} {l : List Oper} {E : Env} {W W' : World} {t : Tmp} {d : Option Tmp} {ty T T' e : TypeId} {pos : String} {af : Array Edge} {g : Option (Nat × Bool)} {x y : Operand} {K : Value → World → Prop} {ρ : Operand → Value} {v : Value} {b o : Nat} {cs : List Value} {ds : List Deferred} {Q : EQ}
theorem V.condB {c : Operand} {x y : Code} {b : Bool} (hc : ev E c = .bool b) (h1 : b = true → V r P N ds x Q E W) (h2 : b = false → V r P N ds y Q E W) : V r P N ds (.cond c x y) Q E W := by
  cases b
  · exact V.condF hc (h2 rfl)
  · exact V.condT hc (h1 rfl)
theorem rix0 {n c s i : Nat} {k : IntKind} (hS : Sl P T e) (hs : Sz P e s) (hx : ρ x = .slice (some ⟨b, 0, none⟩) n c) (hy : ρ y = .int k (i : Int)) (h : i < n) :
    (execOp ρ ⟨d, .indexAddr T x y, ty, pos, af, g⟩).run P W = .ok (.value (.pointer (some ⟨b, i * s, none⟩))) W := by
  have := rix (d := d) (ty := ty) (pos := pos) (af := af) (g := g) (W := W) hS hs hx hy (by omega) (by omega) rfl
  simpa [adr, addO] using this
theorem ldcells {n : Nat} {l : List Value} (hb : BoxAt W b cs T') (h : (cs.drop o).take n = l) : ∀ j u, l[j]? = some u → W.cell? ((⟨b, o, none⟩ : Addr).add j) = some u := by
  subst h
  intro j u hj
  rw [addO]
  refine hb.cell _ ?_
  rw [List.getElem?_take] at hj
  split at hj
  · rwa [List.getElem?_drop] at hj
  · cases hj
theorem add0 (p : Addr) : p.add 0 = p := by
  obtain ⟨b, o, q⟩ := p
  unfold Addr.add
  split <;> simp_all
/-- x[:m] -/
theorem rslh {k k' : IntKind} {S : Nat → Prop} {a : Option Addr} {n c s m : Nat} {xs : List Int} {low : Option Operand} {z : Int} (h : RN k S W a n c xs) (hS : Sl P T e) (hs : Sz P e s) (hx : ρ x = .slice a n c) (hl : low = none) (hy : ρ y = .int k' z) (hz : z = (m : Int)) (hm : m ≤ n) :
    (execOp ρ ⟨d, .slice T x low (some y) none, ty, pos, af, g⟩).run P W = .ok (.value (.slice a m c)) W := by
  subst hl hz
  have hc := h.cap
  refine rslg hS hs hx (l := 0) (h := m) ?_ ?_ rfl rfl
  · simp only [Option.map_none, Option.map_some, hy]; exact sb_h (by omega)
  · rw [Nat.zero_mul]
    split
    · rfl
    · cases a <;> simp [add0]
theorem RN.cut {k : IntKind} {S : Nat → Prop} {a : Option Addr} {n c l m : Nat} {xs : List Int} (h : RN k S W a n c xs) (h0 : l ≤ m) (hm : m ≤ n) : RN k S W (if c = l then a else a.map (·.add (l * 1))) (m - l) (c - l) ((xs.take m).drop l) :=
  ⟨by have := h.len; simp; omega, by have := h.cap; omega, by have := h.max; omega, fun x hx => h.wf x (List.mem_of_mem_take (List.mem_of_mem_drop hx)), fun hn => by
    obtain ⟨b, off, cs, T, fz, rfl, hs, hb, hc⟩ := h.at_ (by omega)
    have hcap := h.cap
    refine ⟨b, off + l, cs, T, fz, by rw [if_neg (by omega)]; simp [addO], hs, hb, fun j hj => ?_⟩
    rw [Nat.add_assoc, hc (l + j) (by omega)]
    simp only [wd, Int.toNat_natCast, List.getD_eq_getElem?_getD, List.getElem?_drop, List.getElem?_take]
    rw [if_pos (by omega)]⟩
/-- x[l:m] -/
theorem rsll {k k' k'' : IntKind} {S : Nat → Prop} {a : Option Addr} {n c m l : Nat} {xs : List Int} {u : Operand} {z zl : Int} (h : RN k S W a n c xs) (hS : Sl P T e) (hs : Sz P e 1) (hx : ρ x = .slice a n c) (hu : ρ u = .int k'' zl) (hy : ρ y = .int k' z) (hl : zl = (l : Int)) (hz : z = (m : Int)) (h0 : l ≤ m) (hm : m ≤ n) :
    (execOp ρ ⟨d, .slice T x (some u) (some y) none, ty, pos, af, g⟩).run P W = .ok (.value (.slice (if c = l then a else a.map (·.add (l * 1))) (m - l) (c - l))) W := by
  subst hl hz
  have hc := h.cap
  refine rslg hS hs hx (l := l) (h := m) ?_ rfl rfl rfl
  simp only [Option.map_some, hy, hu]; exact sb_lh h0 (by omega)
theorem agree_append : ∀ {A B : List (Nat × Value)}, agree E A → agree E B → agree E (A ++ B)
  | [], _, _, h => h
  | (_, _) :: _, _, h, k => ⟨h.1, agree_append h.2 k⟩
theorem ups_append (E : Env) : ∀ (A B : List (Nat × Value)), ups E (A ++ B) = ups (ups E B) A
  | [], _ => rfl
  | (d, v) :: A, B => by show up (ups E (A ++ B)) d v = up (ups (ups E B) A) d v; rw [ups_append E A B]
theorem agree_ups : ∀ {A B : List (Nat × Value)}, agree E (A ++ B) → agree E A ∧ agree E B
  | [], _, h => ⟨trivial, h⟩
  | (_, _) :: _, _, h => ⟨⟨h.1, (agree_ups h.2).1⟩, (agree_ups h.2).2⟩
/-- A loop: slots F keep their values, slots L follow the state. -/
theorem V.loopK {c : Code} {ι : Type} (F : List (Nat × Value)) (L : ι → List (Nat × Value)) (I : ι → World → Prop) (μ : ι → Nat) (i₀ : ι) (hF : agree E F) (h₀ : agree E (L i₀)) (hI : I i₀ W)
    (round : ∀ i E0 W, I i W → V r P N ds c (thenV (fun E' ds' W' => ds' = ds ∧ ∃ j, agree E' F ∧ agree E' (L j) ∧ I j W' ∧ μ j < μ i) Q) (ups (ups E0 F) (L i)) W) : V r P N ds (.loop c) Q E W := by
  refine V.loop (fun i => L i ++ F) I μ i₀ (agree_append h₀ hF) hI ?_
  intro i E0 W hi
  rw [ups_append]
  refine (round i E0 W hi).mono ?_
  intro x E' ds' W' hx
  cases x with
  | normal =>
    obtain ⟨h1, j, h2, h3, h4, h5⟩ := hx
    exact ⟨h1, j, agree_append h3 h2, h4, h5⟩
  | _ => exact hx
theorem lastT {i : Nat} {p q : Prop} (h : lastOp ops i = true) (k : q) : (lastOp ops i = false → p) ∧ q := ⟨fun h' => (by rw [h] at h'; cases h'), k⟩
theorem V.regT {id : Nat} {ops : Array Oper} (hm : P.follows .mixedOrders = true) (hl : dstsOK N ops.toList = true)
    (h : ∀ W1, Ext W W1 → VH r P ops (fun _ => True) (fun E W => Q .normal E ds W) ops.size (Array.replicate ops.size false) E W1) : V r P N ds (.region id ops true) Q E W := fun a hrep hd =>
  wpIn_region_any hm (VA.wp (ds := ds) hl (fun a E W hr hd h => ⟨E, hr, by rw [hd]; exact h⟩) _ _ a E _ hrep hd (VH.va _ _ _ _ (h _ ((Ext.refl W).drew))))
theorem BoxAt.bl {B : Nat} (h : BoxAt W b cs T) (y : Below B W W') (hb : b < B) : BoxAt W' b cs T := (y.block b hb).trans h
theorem m32 (z : Int) : IntKind.u32.wrap z = z % 4294967296 := by rw [IntKind.wrap_u32]
theorem m64 (z : Int) : IntKind.u64.wrap z = z % 18446744073709551616 := by rw [IntKind.wrap_u64]
theorem w32 {z : Int} (h : 0 ≤ z ∧ z ≤ 4294967295) : IntKind.u32.wrap z = z := by rw [m32]; omega
theorem wu {z : Int} (h : 0 ≤ z ∧ z ≤ 18446744073709551615) : IntKind.u64.wrap z = z := by rw [m64]; omega
theorem wiq {z u : Int} (h : -9223372036854775808 ≤ z ∧ z ≤ 9223372036854775807) (e : z = u) : IntKind.i64.wrap z = u := by rw [wi h, e]
theorem wuq {z u : Int} (h : 0 ≤ z ∧ z ≤ 18446744073709551615) (e : z = u) : IntKind.u64.wrap z = u := by rw [wu h, e]
theorem vldN {k : IntKind} {S : Nat → Prop} {a : Option Addr} {n c : Nat} {xs : List Int} {i : Int} (h : RN k S W a n c xs) (hx : ev E x = .pointer (some (adr a i 1))) (hT : Sc P T) (h0 : 0 ≤ i) (h1 : i < n)
    (K : ∀ q, q = wd xs i → kb k q → RV r P ops R l (up E t (.int k q)) W) : RV r P ops R (⟨some t, .load T x, ty, pos, af, none⟩ :: l) E W := vv (rldN h hx hT h0 h1) (K _ rfl (h.kb' h0 h1))
theorem shr32 (m : Int) : m.fdiv (2 ^ 32) = m / 4294967296 := by rw [Int.fdiv_eq_ediv_of_nonneg _ (by omega)]; rfl
theorem shl32 {m : Int} (h : 0 ≤ m * 4294967296 ∧ m * 4294967296 ≤ 18446744073709551615) : IntKind.u64.wrap (m * 2 ^ 32) = m * 4294967296 := by rw [show (2 : Int) ^ 32 = 4294967296 from rfl, wu h]
theorem RN.lit {k : IntKind} {S : Nat → Prop} {xs : List Int} (n : Nat) (h : BoxAt W b (xs.map (Value.int k)) e) (hk : ∀ x ∈ xs, kb k x) (hS : S b) (hn : Nat.beq xs.length n = true := by rfl) (hm : Nat.ble n 1000 = true := by rfl) : RN k S W (some ⟨b, 0, none⟩) n n xs := by
  obtain rfl := Nat.eq_of_beq_eq_true hn
  exact ⟨rfl, Nat.le_refl _, by have := Nat.le_of_ble_eq_true hm; omega, hk, fun hn => ⟨b, 0, _, e, (0,0), rfl, hS, h, fun j hj => by simp [wd, hj]⟩⟩
theorem OI.lit {k : IntKind} {B : Nat} {xs : List Int} (h : BoxAt W b (xs.map (Value.int k)) e) (hk : ∀ x ∈ xs, kb k x) (hB : B ≤ b) (hm : Nat.ble xs.length 1000 = true := by rfl) : OI k B W e (.slice (some ⟨b, 0, none⟩) xs.length xs.length) xs :=
  ⟨⟨by simp, .inr ⟨b, xs.length, (xs.map (Value.int k)).toArray, rfl, hB, h, Nat.le_refl _, by have := Nat.le_of_ble_eq_true hm; simp only [maxLen]; omega, by simp, by rw [List.take_of_length_le (by simp)]⟩⟩, hk⟩

end
/-! ### Integers -/
abbrev b32 : Int := 4294967296
abbrev LX : Nat := 17592186044416
abbrev LY : Nat := 8796093022208
theorem RN.isNil {k : IntKind} {S S' : Nat → Prop} {W : World} {a : Option Addr} {n c : Nat} {xs : List Int} (h : RN k S W a n c xs) (ha : a.isNone = true) : RN k S' W none 0 0 xs := by
  have : n = 0 := by
    rcases Nat.eq_zero_or_pos n with h0 | h0
    · exact h0
    · obtain ⟨b, off, cs, T, fz, rfl, _⟩ := h.at_ h0; cases ha
  have hl := h.len
  have : xs = [] := List.eq_nil_of_length_eq_zero (by omega)
  subst this
  exact RN.nil _ _ _ _ _ (by omega)
theorem RN.dg32 {S : Nat → Prop} {W : World} {a : Option Addr} {n c : Nat} {xs : List Int} (h : RN .u32 S W a n c xs) : Dg b32 xs := fun x hx => by
  have := h.wf x hx
  simp only [kb] at this; unfold b32; omega
theorem tr_dg32 {xs : List Int} (h : Dg b32 xs) : dg b32 (vl b32 xs) = tr xs := dg_vl (by decide) h
theorem take_succ_wd (xs : List Int) (k : Nat) (hk : k < xs.length) : xs.take (k + 1) = xs.take k ++ [wd xs k] := by
  rw [List.take_succ_eq_append_getElem hk]; simp [wd, hk]
theorem wd_take {xs : List Int} {m : Nat} {i : Int} (h : i.toNat < m) : wd (xs.take m) i = wd xs i := by
  simp [wd, List.getElem?_take, h]
theorem trim_step {n : Nat} {xs : List Int} {i : Nat} (hi : 0 < i) (h : tr (xs.take i) = tr xs) (hn : i ≤ xs.length) (hz : wd (xs.take i) ((i : Int) - 1) = 0) : tr (xs.take (i - 1)) = tr xs := by
  obtain ⟨k, rfl⟩ : ∃ k, i = k + 1 := ⟨i - 1, by omega⟩
  have e : ((k + 1 : Nat) : Int) - 1 = (k : Int) := by omega
  rw [e, wd_take (by omega)] at hz
  rw [take_succ_wd xs k (by omega), hz, tr_snoc_zero] at h
  simpa using h
theorem trim_last {xs : List Int} {i : Nat} (hi : 0 < i) (h : tr (xs.take i) = tr xs) (hn : i ≤ xs.length) (hz : wd (xs.take i) ((i : Int) - 1) ≠ 0) : xs.take i = tr xs := by
  obtain ⟨k, rfl⟩ : ∃ k, i = k + 1 := ⟨i - 1, by omega⟩
  have e : ((k + 1 : Nat) : Int) - 1 = (k : Int) := by omega
  rw [e, wd_take (by omega)] at hz
  rw [take_succ_wd xs k (by omega), tr_snoc_ne _ hz] at h
  rw [take_succ_wd xs k (by omega), h]
/-- Reads as the integer z, in least form. -/
def ZC (S : Nat → Prop) (W : World) (neg : Bool) (a : Option Addr) (n c : Nat) (z : Int) : Prop :=
  RN .u32 S W a n c (dg b32 z.natAbs) ∧ neg = decide (z < 0)
/-- Reads as the integer z, in any form of at most L words. -/
def ZA (L : Nat) (S : Nat → Prop) (W : World) (neg : Bool) (a : Option Addr) (n c : Nat) (z : Int) : Prop :=
  ∃ xs, RN .u32 S W a n c xs ∧ n ≤ L ∧ z = if neg then -(vl b32 xs) else vl b32 xs
section
variable {L : Nat} {S : Nat → Prop} {W W' : World} {neg : Bool} {a : Option Addr} {n c : Nat} {z : Int}
theorem ZC.ck (h : ZC S W neg a n c z) (x : CK S W W') : ZC S W' neg a n c z := ⟨h.1.ck x, h.2⟩
theorem ZA.ck (h : ZA L S W neg a n c z) (x : CK S W W') : ZA L S W' neg a n c z := by
  obtain ⟨xs, h1, h2⟩ := h; exact ⟨xs, h1.ck x, h2⟩
theorem ZC.ext (h : ZC S W neg a n c z) (x : Ext W W') : ZC S W' neg a n c z := h.ck (x.ck S)
theorem ZA.ext (h : ZA L S W neg a n c z) (x : Ext W W') : ZA L S W' neg a n c z := h.ck (x.ck S)
theorem ZC.za (h : ZC S W neg a n c z) (hL : n ≤ L) : ZA L S W neg a n c z := by
  refine ⟨_, h.1, hL, ?_⟩
  rw [vl_dg (by decide) (by omega), h.2]
  by_cases hz : z < 0 <;> simp [hz] <;> omega
theorem ZC.zaH (h : ZC S W neg a n c z) (hz : (z.natAbs : Int) < b32 ^ L) : ZA L S W neg a n c z :=
  h.za (by rw [← h.1.len]; exact dg_length_le (by decide) hz)
theorem ZA.sub {S' : Nat → Prop} (h : ZA L S W neg a n c z) (hs : ∀ b, b < W.heap.size → S b → S' b) : ZA L S' W neg a n c z := by
  obtain ⟨xs, h1, h2⟩ := h; exact ⟨xs, h1.sub hs, h2⟩
theorem ZC.sub {S' : Nat → Prop} (h : ZC S W neg a n c z) (hs : ∀ b, b < W.heap.size → S b → S' b) : ZC S' W neg a n c z := ⟨h.1.sub hs, h.2⟩
theorem ZA.mono {L' : Nat} (h : ZA L S W neg a n c z) (hL : L ≤ L') : ZA L' S W neg a n c z := by
  obtain ⟨xs, h1, h2, h3⟩ := h; exact ⟨xs, h1, Nat.le_trans h2 hL, h3⟩
theorem ZA.ng (h : ZA L S W neg a n c z) : ZA L S W (!neg) a n c (-z) := by
  obtain ⟨xs, h1, h2, h3⟩ := h
  refine ⟨xs, h1, h2, ?_⟩
  cases neg <;> simp at h3 ⊢ <;> omega
theorem ZA.abs {xs : List Int} (h1 : RN .u32 S W a n c xs) (h3 : z = if neg then -(vl b32 xs) else vl b32 xs) : (z.natAbs : Int) = vl b32 xs := by
  have := vl_nonneg (B := b32) (by decide) h1.dg32
  cases neg <;> simp at h3 <;> omega
end
theorem dg_natAbs_len {v : Int} (hv : 0 ≤ v) {m : Nat} (h : (dg b32 v).length = m) : v = 0 ↔ m = 0 := by
  rw [← h, List.length_eq_zero_iff]; exact (dg_eq_nil (by decide) hv).symm
theorem sgn_abs (neg : Bool) {v : Int} (hv : 0 ≤ v) : ((if neg then -v else v).natAbs : Int) = v := by cases neg <;> simp <;> omega
/-- It returns the integer z, in least form. -/
def PZ (S : Nat → Prop) (z : Int) (w : World) (e : Ending) (w' : World) : Prop := ∃ neg a n c, e = .returned (.agg #[.bool neg, .slice a n c]) ∧ Ext w w' ∧ ZC S w' neg a n c z
/-- It returns these words. -/
def PW (S : Nat → Prop) (xs : List Int) (w : World) (e : Ending) (w' : World) : Prop := ∃ a n c, e = .returned (.slice a n c) ∧ Ext w w' ∧ RN .u32 S w' a n c xs
theorem RN.cast {k : IntKind} {S : Nat → Prop} {W : World} {a : Option Addr} {n c : Nat} {xs ys : List Int} (h : RN k S W a n c xs) (e : xs = ys) : RN k S W a n c ys := e ▸ h
theorem RN.un {k : IntKind} {S : Nat → Prop} {bs : List Nat} {W : World} {a : Option Addr} {n c : Nat} {xs : List Int} (h : RN k (SX S bs) W a n c xs) : RN k S W a n c xs := h.sub fun _ _ h => h.1
theorem ZC.un {S : Nat → Prop} {bs : List Nat} {W : World} {neg : Bool} {a : Option Addr} {n c : Nat} {z : Int} (h : ZC (SX S bs) W neg a n c z) : ZC S W neg a n c z := h.sub fun _ _ h => h.1
theorem ZA.un {L : Nat} {S : Nat → Prop} {bs : List Nat} {W : World} {neg : Bool} {a : Option Addr} {n c : Nat} {z : Int} (h : ZA L (SX S bs) W neg a n c z) : ZA L S W neg a n c z := h.sub fun _ _ h => h.1
theorem ZC.cast {S : Nat → Prop} {W : World} {neg : Bool} {a : Option Addr} {n c : Nat} {z z' : Int} (h : ZC S W neg a n c z) (e : z = z') : ZC S W neg a n c z' := e ▸ h
theorem ZC.mk' {S : Nat → Prop} {W : World} {a : Option Addr} {m c : Nat} {v : Int} {neg s : Bool} (hr : RN .u32 S W a m c (dg b32 v)) (hv : 0 ≤ v) (hs : s = (neg && decide (0 < (m : Int)))) : ZC S W s a m c (if neg then -v else v) := by
  have hd := dg_natAbs_len hv hr.len
  refine ⟨by rw [sgn_abs neg hv]; exact hr, ?_⟩
  subst hs
  cases neg
  · simp; omega
  · simp only [Bool.true_and, if_true, decide_eq_decide]; omega
def sg (z : Int) : Int := if z < 0 then -1 else if z = 0 then 0 else 1
theorem sg_of {neg : Bool} {v s : Int} {m : Nat} (hv : 0 ≤ v) (hd : v = 0 ↔ m = 0) (h : (m = 0 ∧ s = 0) ∨ (m ≠ 0 ∧ neg = true ∧ s = -1) ∨ (m ≠ 0 ∧ neg = false ∧ s = 1)) : s = sg (if neg then -v else v) := by
  unfold sg
  rcases h with ⟨h1, rfl⟩ | ⟨h1, rfl, rfl⟩ | ⟨h1, rfl, rfl⟩
  · have := hd.2 h1; subst this; cases neg <;> simp
  · simp only [if_true]; rw [if_pos (by omega)]
  · simp only [Bool.false_eq_true, if_false]; rw [if_neg (by omega), if_neg (by omega)]
section
variable {r : Option Nat} {P : Program} {ρ : Operand → Value} {W W' : World} {d : Option Tmp} {op : Op} {ty T e : TypeId} {pos : String} {af : Array Edge} {g : Option (Nat × Bool)} {x y : Operand} {v u : Value} {K : Value → World → Prop}
/-- append(v, ys...) -/
theorem xappN {k : IntKind} {S : Nat → Prop} {t1 : TypeId} {B m c : Nat} {a : Option Addr} {xs ys : List Int} {bytes : Nat} (hS : Sl P t1 e) (hi : ∃ i, P.info? e = some i ∧ i.size = 1 ∧ i.bytes = bytes ∧ i.zero = some (.int k 0)) (hO : OI k B W e v xs) (hx : ρ x = v) (hy : ρ y = .slice a m c) (hb : RN k S W a m c ys)
    (hlen : (xs.length + ys.length) * bytes ≤ 140737488355328) (hbp : 0 < bytes) (hB : B ≤ W.heap.size)
    (hk2 : ∀ v' W', OI k B W' e v' (xs ++ ys) → W.grownBy W' v.ownBlock → (v'.ownBlock = v.ownBlock ∨ v'.ownBlock = some W.heap.size) → K v' W') :
    OpF r P ρ ⟨d, .call ⟨.builtin .append, #[x, y], #[t1, t1]⟩, ty, pos, af, g⟩ W K := by
  obtain ⟨i, h1, h2, h3, h4⟩ := hi
  have hle : xs.length + ys.length ≤ 140737488355328 := Nat.le_trans (Nat.le_mul_of_pos_right _ hbp) hlen
  have hln := hb.len
  by_cases hm : 0 < m
  · obtain ⟨b, off, cs, T, fz, rfl, hs, hbb, hc⟩ := hb.at_ hm
    obtain ⟨v', W', hr, h5, h6, h7, h8⟩ := run_append_own_at (P := P) W B t1 ty e i (.int k 0) 1 bytes hS h1 h4 h2 h3 rfl (by omega) v xs.length _ hO.row ⟨b, off, none⟩ m c (ys.map (Value.int k)) (by simp [hln])
      (by intro j u hj
          have hj2 : j < m := by
            have := (List.getElem?_eq_some_iff.1 hj).1
            simpa [hln] using this
          rw [addO]
          simp only [World.cell?, hbb]
          have := hc j hj2
          rw [List.getElem?_map] at hj
          obtain ⟨q, hq, rfl⟩ := Option.map_eq_some_iff.1 hj
          simpa [wd, hq] using this) (by intro u hu; obtain ⟨q, _, rfl⟩ := List.mem_map.1 hu; rfl) (by simp only [maxLen]; omega) (by rw [← hln]; exact hlen) hB
    unfold OpF execOp
    simp only [resolve, invoke, builtin, Sem.run_bind, Sem.run_pure, Result.andThen_ok, List.map_toArray, List.map_cons, List.map_nil, hx, hy, hr]
    refine hk2 v' W' ⟨by simpa [hln] using h5, ?_⟩ h6 h8
    intro q hq
    rcases List.mem_append.1 hq with hq | hq
    · exact hO.wf q hq
    · exact hb.wf q hq
  · have hm0 : m = 0 := by omega
    subst hm0
    have hys : ys = [] := List.eq_nil_of_length_eq_zero hln
    subst hys
    have hr : (Builtin.append_ #[t1, t1] ty #[v, .slice a 0 c]).run P W = .ok v W := by
      obtain ⟨a', c', rfl⟩ := hO.form
      have hrn := hO.rn (S := fun _ => True) (fun _ _ _ => trivial)
      have hsrc : Src P i.size t1 (.slice a 0 c) 0 [] W := by
        cases a with
        | none => exact Src.ofNil W hS c
        | some ad => exact Src.ofSlice W hS ad 0 c [] (by simp) (by simp) (by simp)
      exact run_append_nothing W t1 t1 ty e i hS h1 a' xs.length c' hrn.cap _ hsrc
    unfold OpF execOp
    simp only [resolve, invoke, builtin, Sem.run_bind, Sem.run_pure, Result.andThen_ok, List.map_toArray, List.map_cons, List.map_nil, hx, hy, hr]
    exact hk2 v W (by simpa using hO) (World.grownBy.refl _ _) (.inl rfl)
end
/-! ### An array of whole numbers that was made at once -/
structure AR (k : IntKind) (W : World) (b : Nat) (e : TypeId) (n : Nat) (xs : List Int) : Prop where
  box : BoxAt W b (xs.map (Value.int k)) e
  wf : ∀ x ∈ xs, kb k x
  len : xs.length = n
  max : n ≤ 9223372036854775807
section
variable {r : Option Nat} {P : Program} {ρ : Operand → Value} {W W' : World} {d : Option Tmp} {op : Op} {ty T e : TypeId} {pos : String} {af : Array Edge} {g : Option (Nat × Bool)} {x y : Operand} {v u : Value} {K : Value → World → Prop} {k : IntKind} {b n : Nat} {xs : List Int}
theorem AR.ext (h : AR k W b e n xs) (x : Ext W W') : AR k W' b e n xs := ⟨h.box.ext x, h.wf, h.len, h.max⟩
theorem AR.ck {S : Nat → Prop} (h : AR k W b e n xs) (x : CK S W W') (hb : S b) : AR k W' b e n xs := ⟨h.box.ck x hb, h.wf, h.len, h.max⟩
theorem AR.wr {b' : Nat} (h : AR k W b e n xs) (x : Wr b' W W') (hb : b ≠ b') : AR k W' b e n xs := ⟨h.box.wr x hb, h.wf, h.len, h.max⟩
theorem AR.bl {B : Nat} (h : AR k W b e n xs) (x : Below B W W') (hb : b < B) : AR k W' b e n xs := ⟨h.box.bl x hb, h.wf, h.len, h.max⟩
theorem AR.rn {S : Nat → Prop} (h : AR k W b e n xs) (hS : S b) : RN k S W (some ⟨b, 0, none⟩) n n xs :=
  ⟨h.len, Nat.le_refl _, h.max, h.wf, fun hn => ⟨b, 0, _, e, (0,0), rfl, hS, h.box, fun j hj => by
    have hl := h.len
    have hj2 : j < xs.length := by omega
    simp [wd, hj2]⟩⟩
/-- make([]T, n) -/
theorem xmk {t1 : TypeId} {bytes : Nat} {z : Int} (n : Nat) (hS : Sl P t1 e) (hi : ∃ i, P.info? e = some i ∧ i.size = 1 ∧ i.bytes = bytes ∧ i.zero = some (.int k 0)) (hk : kb k 0) (hx : ρ x = .int .i64 z) (hy : ρ y = .int .i64 z) (hz : z = (n : Int)) (hn : bytes * n ≤ 281474976710656) (h63 : n ≤ 9223372036854775807)
    (hk2 : ∀ W', Ext W W' → AR k W' W.heap.size e n (List.replicate n 0) → W'.heap.size = W.heap.size + 1 → K (.slice (some ⟨W.heap.size, 0, none⟩) n n) W') :
    OpF r P ρ ⟨d, .makeSlice t1 x y, ty, pos, af, g⟩ W K := by
  subst hz
  obtain ⟨i, h1, h2, h3, h4⟩ := hi
  have hr := run_make (P := P) W t1 e i (.int k 0) hS h1 h4 .i64 .i64 n n (by omega) (Int.le_refl _) (by rw [h3, ← Int.natCast_mul]; omega) (by omega)
  unfold OpF execOp
  simp only [hx, hy, Sem.run_bind, hr, Result.andThen_ok, Sem.run_pure, Int.toNat_natCast]
  refine hk2 _ ((Ext.refl _).alloc _) ⟨?_, by simp; exact fun _ => hk, by simp, h63⟩ (by simp)
  have := toList_madeCells_one (.int k 0) n
  unfold BoxAt
  rw [heap_alloc_new]
  congr 2
  apply Array.ext'
  rw [h2, Nat.mul_one, show ((Value.int k 0).cells) = #[.int k 0] from rfl, toList_madeCells_one]
  simp
/-- a[i] = z -/
theorem xsti {i z : Int} (h : AR k W b e n xs) (hx : ρ x = .pointer (some (adr (some ⟨b, 0, none⟩) i 1))) (hy : ρ y = .int k z) (hT : Sz P T 1) (hk : kb k z) (h0 : 0 ≤ i) (h1 : i < n)
    (hk2 : ∀ W', Wr b W W' → AR k W' b e n (xs.set i.toNat z) → K undef W') : OpF r P ρ ⟨d, .store T x y, ty, pos, af, g⟩ W K := by
  have hl := h.len
  have hw := h.wf
  have hm := h.max
  have hlt : i.toNat < (xs.map (Value.int k)).length := by simp; omega
  refine st1 (o := i.toNat) (v := .int k z) (cs' := (xs.set i.toNat z).map (Value.int k)) h.box ?_ hy hT rfl rfl (Nat.ble_eq_true_of_le hlt) ?_ ?_
  · rw [hx]; simp [adr, addO]
  · rw [List.map_set, List.set_eq_take_append_cons_drop, if_pos hlt]; simp
  · intro W' y' hb
    exact hk2 W' y' ⟨hb, fun q hq => by
      rcases List.mem_or_eq_of_mem_set hq with h | h
      · exact hw q h
      · subst h; exact hk, by rw [List.length_set]; exact hl, hm⟩
end
end Go.Proofs.YtknbjfefeeojlaaGreat
/- Package whole, the small functions. -/
namespace Go.Proofs.YtknbjfefeeojlaaGreat
open Go.RowKit
attribute [local irreducible] RV VH V OpF Calls

set_option maxHeartbeats 400000 in
theorem trim_ok (a : Option Addr) (n c : Nat) (xs : List Int) (S : Nat → Prop) (w : World) (h : RN .u32 S w a n c xs) :
    Calls Tryz.prog 176 #[.slice a n c] w (fun e w' => ∃ m, e = .returned (.slice a m c) ∧ RN .u32 S w' a m c (dg b32 (vl b32 xs)) ∧ m ≤ n ∧ w = w') := by
  have z0 := Ext.refl w; have hLX : LX = 17592186044416 := rfl; have hLY : LY = 8796093022208 := rfl
  refine enter (args := [.slice a n c]) Tryz.func176 rfl rfl (Nat.le_of_ble_eq_true rfl) ?_
  refine V.seq (V.reg rfl ?_)
  refine ass rfl ?_
  refine vnil ?_
  refine V.seq ?_
  refine V.block ?_
  refine V.loopK (ι := Nat) [(2, .slice _ _ _)] (fun i => [(0, .slice a i c)]) (fun i W => w = W ∧ i ≤ n ∧ tr (xs.take i) = tr xs) (fun i => i) (n) ⟨rfl, trivial⟩ ⟨rfl, trivial⟩ ⟨rfl, Nat.le_refl _, by rw [List.take_of_length_le (Nat.le_of_eq h.len)]⟩ ?_
  intro i2 E3 W1 h4
  obtain ⟨rfl, hm, ht⟩ := h4
  have hx := h.take i2 hm
  have hcp := h.cap; have hmx := h.max; have hln := h.len
  refine V.seq ?_
  refine V.seq (V.reg rfl ?_)
  refine mvs rfl ?_
  refine vv (rlen sl44 rfl) ?_
  refine vgt rfl rfl ?_ ?_
  · intro c5
    refine mvb rfl ?_
    refine vg rfl ?_
    refine mvs rfl ?_
    refine vg rfl ?_
    refine mvs rfl ?_
    refine vg rfl ?_
    refine vv (rlen sl44 rfl) ?_
    refine vg rfl ?_
    refine vv (rbin (bSub (wi (by omega))) rfl rfl) ?_
    refine vg rfl ?_
    refine vv (rixn hx sl44 sz164 rfl rfl (by omega) (by omega)) ?_
    refine vg rfl ?_
    refine vldN hx rfl sc164 (by omega) (by omega) ?_
    intro q6 hq6 hk7
    simp only [kb] at hk7
    refine vg rfl ?_
    refine veq rfl rfl ?_ ?_
    · intro cz
      refine vv (rpk (v := .bool true) rfl rfl) ?_
      refine vnil ?_
      refine V.condT rfl ?_
      refine V.skip ?_
      refine V.block ?_
      refine V.reg rfl ?_
      refine mvs rfl ?_
      refine mvs rfl ?_
      refine vv (rlen sl44 rfl) ?_
      refine vv (rbin (bSub (wi (by omega))) rfl rfl) ?_
      have hs8 := (hx).take (i2 - 1) (by omega)
      refine vv (rslh (m := i2 - 1) hx sl44 sz164 rfl rfl rfl (by omega) (by omega)) ?_
      refine ass rfl ?_
      refine vnil ?_
      refine ⟨rfl, i2 - 1, ⟨rfl, trivial⟩, ⟨rfl, trivial⟩, ⟨rfl, by omega, trim_step (n := n) (by omega) ht (by omega) (by rw [← hq6]; exact cz)⟩, ?_⟩
      show i2 - 1 < i2
      omega
    · intro cz
      refine vv (rpk (v := .bool false) rfl rfl) ?_
      refine vnil ?_
      refine V.condF rfl ?_
      refine V.exit ?_
      refine V.seq (V.reg rfl ?_)
      refine mvs rfl ?_
      refine ass rfl ?_
      refine vnil ?_
      refine V.ret ?_
      refine ⟨[.slice _ _ _], ⟨rfl, trivial⟩, ?_⟩
      refine ⟨_, rfl, ?_, hm, rfl⟩
      rw [tr_dg32 h.dg32, ← trim_last (by omega) ht (by omega) (by rw [← hq6]; exact cz)]
      exact hx
  · intro c5
    refine mvb rfl ?_
    refine vgn (b := false) rfl rfl ?_
    refine vgn (b := false) rfl rfl ?_
    refine vgn (b := false) rfl rfl ?_
    refine vgn (b := false) rfl rfl ?_
    refine vgn (b := false) rfl rfl ?_
    refine vgn (b := false) rfl rfl ?_
    refine vgn (b := false) rfl rfl ?_
    refine vv (rpk (v := .bool false) rfl rfl) ?_
    refine vnil ?_
    refine V.condF rfl ?_
    refine V.exit ?_
    refine V.seq (V.reg rfl ?_)
    refine mvs rfl ?_
    refine ass rfl ?_
    refine vnil ?_
    refine V.ret ?_
    refine ⟨[.slice _ _ _], ⟨rfl, trivial⟩, ?_⟩
    refine ⟨_, rfl, ?_, hm, rfl⟩
    have e0 : i2 = 0 := by omega
    subst e0
    rw [tr_dg32 h.dg32, ← ht]
    exact hx
set_option maxHeartbeats 400000 in
theorem made_ok (neg : Bool) (a : Option Addr) (n c : Nat) (xs : List Int) (S : Nat → Prop) (w : World) (h : RN .u32 S w a n c xs) :
    Calls Tryz.prog 157 #[.bool neg, .slice a n c] w (PZ S (if neg then -(vl b32 xs) else vl b32 xs) w) := by
  have z0 := Ext.refl w; have hLX : LX = 17592186044416 := rfl; have hLY : LY = 8796093022208 := rfl
  have hS := h.sub (S' := SX S [w.heap.size]) (SX.old (by simp))
  have hv := vl_nonneg (B := b32) (by decide) h.dg32
  cases neg
  · skip
    refine enter (args := [.bool false, .slice a n c]) Tryz.func157 rfl rfl (Nat.le_of_ble_eq_true rfl) ?_
    refine V.seq (V.reg rfl ?_)
    refine vo ?_
    refine xal zc46 ?_
    intro W1 x2 b3 nn4
    have s5 := x2.sz
    have z6 := x2
    refine vnil ?_
    refine V.seq (V.reg rfl ?_)
    refine mvs rfl ?_
    refine vo ?_
    refine xcall e176 (trim_ok _ _ _ _ _ _ (hS.ext z6)) rfl rfl ?_
    rintro _ _ ⟨m8, rfl, hr7, hm9, rfl⟩
    refine ⟨_, rfl, ?_⟩
    refine ass rfl ?_
    refine vnil ?_
    refine V.seq (V.reg rfl ?_)
    refine mvb rfl ?_
    refine mvb rfl ?_
    refine vgn (b := false) rfl rfl ?_
    refine vgn (b := false) rfl rfl ?_
    refine vgn (b := false) rfl rfl ?_
    refine vv (rpk (v := .bool false) rfl rfl) ?_
    refine mvs rfl ?_
    refine vv (rbd (ps := [(0, .bool false), (1, .slice _ _ _)]) (cs := [.bool false, .slice _ _ _]) pl46 rfl rfl) ?_
    refine vo ?_
    refine sta (cs' := [_, _]) b3 rfl rfl sz46 rfl rfl rfl ?_
    intro W11 y12 b3
    have z13 := z6.below (y12.below (by omega))
    have s14 := y12.size
    refine vnil ?_
    refine V.ret ?_
    refine ⟨[_], ⟨⟨_, rfl, lvb ag46 b3 rfl⟩, trivial⟩, ?_⟩
    exact ⟨_, _, _, _, rfl, z13, ZC.mk' ((hr7.ck (y12.ck (by intro hh; simp [SX] at hh <;> omega)))).un hv (by first | rfl | (simp; omega))⟩
  · skip
    refine enter (args := [.bool true, .slice a n c]) Tryz.func157 rfl rfl (Nat.le_of_ble_eq_true rfl) ?_
    refine V.seq (V.reg rfl ?_)
    refine vo ?_
    refine xal zc46 ?_
    intro W15 x16 b17 nn18
    have s19 := x16.sz
    have z20 := x16
    refine vnil ?_
    refine V.seq (V.reg rfl ?_)
    refine mvs rfl ?_
    refine vo ?_
    refine xcall e176 (trim_ok _ _ _ _ _ _ (hS.ext z20)) rfl rfl ?_
    rintro _ _ ⟨m22, rfl, hr21, hm23, rfl⟩
    refine ⟨_, rfl, ?_⟩
    refine ass rfl ?_
    refine vnil ?_
    refine V.seq (V.reg rfl ?_)
    refine mvb rfl ?_
    refine mvb rfl ?_
    refine vg rfl ?_
    refine mvs rfl ?_
    refine vg rfl ?_
    refine vv (rlen sl44 rfl) ?_
    refine vg rfl ?_
    refine vgt rfl rfl ?_ ?_
    · intro c25
      refine vv (rpk (v := .bool true) rfl rfl) ?_
      refine mvs rfl ?_
      refine vv (rbd (ps := [(0, .bool true), (1, .slice _ _ _)]) (cs := [.bool true, .slice _ _ _]) pl46 rfl rfl) ?_
      refine vo ?_
      refine sta (cs' := [_, _]) b17 rfl rfl sz46 rfl rfl rfl ?_
      intro W26 y27 b17
      have z28 := z20.below (y27.below (by omega))
      have s29 := y27.size
      refine vnil ?_
      refine V.ret ?_
      refine ⟨[_], ⟨⟨_, rfl, lvb ag46 b17 rfl⟩, trivial⟩, ?_⟩
      exact ⟨_, _, _, _, rfl, z28, ZC.mk' ((hr21.ck (y27.ck (by intro hh; simp [SX] at hh <;> omega)))).un hv (by first | rfl | (simp; omega))⟩
    · intro c25
      refine vv (rpk (v := .bool false) rfl rfl) ?_
      refine mvs rfl ?_
      refine vv (rbd (ps := [(0, .bool false), (1, .slice _ _ _)]) (cs := [.bool false, .slice _ _ _]) pl46 rfl rfl) ?_
      refine vo ?_
      refine sta (cs' := [_, _]) b17 rfl rfl sz46 rfl rfl rfl ?_
      intro W30 y31 b17
      have z32 := z20.below (y31.below (by omega))
      have s33 := y31.size
      refine vnil ?_
      refine V.ret ?_
      refine ⟨[_], ⟨⟨_, rfl, lvb ag46 b17 rfl⟩, trivial⟩, ?_⟩
      exact ⟨_, _, _, _, rfl, z32, ZC.mk' ((hr21.ck (y31.ck (by intro hh; simp [SX] at hh <;> omega)))).un hv (by first | rfl | (simp; omega))⟩
set_option maxHeartbeats 400000 in
theorem wSign_ok (neg : Bool) (a : Option Addr) (n c : Nat) (z : Int) (L : Nat) (S : Nat → Prop) (w : World) (h : ZA L S w neg a n c z) :
    Calls Tryz.prog 138 #[.agg #[.bool neg, .slice a n c]] w (fun e w' => ∃ s, e = .returned (.int .i64 s) ∧ Ext w w' ∧ s = sg z) := by
  have z0 := Ext.refl w; have hLX : LX = 17592186044416 := rfl; have hLY : LY = 8796093022208 := rfl
  obtain ⟨xs, hx, hL, rfl⟩ := h
  have hv := vl_nonneg (B := b32) (by decide) hx.dg32
  refine enter (args := [.agg #[.bool neg, .slice a n c]]) Tryz.func138 rfl rfl (Nat.le_of_ble_eq_true rfl) ?_
  refine V.seq (V.reg rfl ?_)
  refine vo ?_
  refine bxa rfl ?_
  intro W1 x2 b3 nn4
  have s5 := x2.sz
  have z6 := x2
  refine asi rfl ?_
  refine vnil ?_
  refine V.seq ?_
  refine V.block ?_
  refine V.seq (V.reg rfl ?_)
  refine vv (rfa rfl fd46_1) ?_
  refine vv (rldb (v := .slice _ _ _) rfl sc44 b3 rfl) ?_
  refine vo ?_
  refine xcall e176 (trim_ok _ _ _ _ _ _ (hx.ext z6)) rfl rfl ?_
  rintro _ _ ⟨m8, rfl, hr7, hm9, rfl⟩
  refine ⟨_, rfl, ?_⟩
  refine vv (rlen sl44 rfl) ?_
  refine veq rfl rfl ?_ ?_
  · intro c11
    refine asb rfl ?_
    refine vnil ?_
    refine V.condT rfl ?_
    refine V.seq (V.reg rfl ?_)
    refine asi rfl ?_
    refine vnil ?_
    refine V.ret ?_
    refine ⟨[.int _ _], ⟨rfl, trivial⟩, ?_⟩
    exact ⟨_, rfl, z6, sg_of hv (dg_natAbs_len hv hr7.len) (by first | exact .inl ⟨by omega, rfl⟩ | exact .inr (.inl ⟨by omega, by assumption, rfl⟩) | exact .inr (.inr ⟨by omega, by assumption, rfl⟩))⟩
  · intro c11
    refine asb rfl ?_
    refine vnil ?_
    refine V.condF rfl ?_
    refine V.seq (V.reg rfl ?_)
    refine vv (rfa rfl fd46_0) ?_
    refine vv (rldb (v := .bool _) rfl sc4 b3 rfl) ?_
    refine asb rfl ?_
    refine vnil ?_
    refine V.condB rfl ?_ ?_
    · intro c12
      refine V.seq (V.reg rfl ?_)
      refine asi rfl ?_
      refine vnil ?_
      refine V.ret ?_
      refine ⟨[.int _ _], ⟨rfl, trivial⟩, ?_⟩
      exact ⟨_, rfl, z6, sg_of hv (dg_natAbs_len hv hr7.len) (by first | exact .inl ⟨by omega, rfl⟩ | exact .inr (.inl ⟨by omega, by assumption, rfl⟩) | exact .inr (.inr ⟨by omega, by assumption, rfl⟩))⟩
    · intro c12
      refine V.skip ?_
      refine V.seq (V.reg rfl ?_)
      refine asi rfl ?_
      refine vnil ?_
      refine V.ret ?_
      refine ⟨[.int _ _], ⟨rfl, trivial⟩, ?_⟩
      exact ⟨_, rfl, z6, sg_of hv (dg_natAbs_len hv hr7.len) (by first | exact .inl ⟨by omega, rfl⟩ | exact .inr (.inl ⟨by omega, by assumption, rfl⟩) | exact .inr (.inr ⟨by omega, by assumption, rfl⟩))⟩
set_option maxHeartbeats 400000 in
theorem clone_ok (a : Option Addr) (n c : Nat) (xs : List Int) (S S' : Nat → Prop) (w : World) (h : RN .u32 S w a n c xs) (hn : n ≤ LX) (hu : Up S' w) :
    Calls Tryz.prog 204 #[.slice a n c] w (PW S' xs w) := by
  have z0 := Ext.refl w; have hLX : LX = 17592186044416 := rfl; have hLY : LY = 8796093022208 := rfl
  have hl := h.len
  refine enter (args := [.slice a n c]) Tryz.func204 rfl rfl (Nat.le_of_ble_eq_true rfl) ?_
  refine V.seq (V.reg rfl ?_)
  refine ass rfl ?_
  refine vnil ?_
  refine V.seq ?_
  refine V.seq (V.reg rfl ?_)
  refine mvs rfl ?_
  refine vv (rsnil sl44 rfl rfl) ?_
  refine vnil ?_
  refine V.condB rfl ?_ ?_
  · intro c1
    refine V.seq (V.reg rfl ?_)
    refine ass rfl ?_
    refine vnil ?_
    refine V.ret ?_
    refine ⟨[.slice _ _ _], ⟨rfl, trivial⟩, ?_⟩
    exact ⟨_, _, _, rfl, (Ext.refl w), (h).isNil (by assumption)⟩
  · intro c1
    refine V.skip ?_
    refine V.seq (V.reg rfl ?_)
    refine vo ?_
    refine xbs (ps := []) (cs := []) sl44 zr164 sz164 rfl rfl rfl rfl rfl rfl ?_
    intro W2 x3 b4 nn5
    have s6 := x3.sz
    have z7 := x3
    refine mvs rfl ?_
    refine vo ?_
    refine xappN sl44 in164 (OI.lit (B := w.heap.size) (k := .u32) (xs := []) b4 (by simp) (by omega)) rfl rfl (h.ext z7) (by simp only [List.length_nil, List.length_cons, List.length_append]; omega) (by decide) (by omega) ?_
    intro v8 W9 hO10 hg11 ho12
    have y13 := grown_below hg11 (by omega) (fun b e => ((OI.lit (B := w.heap.size) (k := .u32) (xs := []) b4 (by simp) (by omega)).low b e).1)
    have s14 := y13.size
    have z15 := z7.below (y13.mono (by omega))
    refine vv (ras (v := v8) rfl) ?_
    refine vnil ?_
    refine V.ret ?_
    refine ⟨[v8], ⟨rfl, trivial⟩, ?_⟩
    obtain ⟨a', c', rfl⟩ := hO10.form
    exact ⟨_, _, _, rfl, z15, hO10.rn (fun b hb _ => hu b (by omega))⟩
set_option maxHeartbeats 400000 in
theorem wNeg_ok (neg : Bool) (a : Option Addr) (n c : Nat) (z : Int) (S S' : Nat → Prop) (w : World) (h : ZA LX S w neg a n c z) (hu : Up S' w) :
    Calls Tryz.prog 177 #[.agg #[.bool neg, .slice a n c]] w (PZ S' (-z) w) := by
  have z0 := Ext.refl w; have hLX : LX = 17592186044416 := rfl; have hLY : LY = 8796093022208 := rfl
  obtain ⟨xs, hx, hL, rfl⟩ := h
  have hv := vl_nonneg (B := b32) (by decide) hx.dg32
  have hu2 : ∀ W : World, w.heap.size + 2 ≤ W.heap.size → Up (SX S' [w.heap.size + 1]) W := fun W hW => SX.up (hu.mono (by omega)) (by simp; omega)
  refine enter (args := [.agg #[.bool neg, .slice a n c]]) Tryz.func177 rfl rfl (Nat.le_of_ble_eq_true rfl) ?_
  refine V.seq (V.reg rfl ?_)
  refine vo ?_
  refine bxa rfl ?_
  intro W1 x2 b3 nn4
  have s5 := x2.sz
  have z6 := x2
  refine vo ?_
  refine xal zc46 ?_
  intro W7 x8 b9 nn10
  have s11 := x8.sz
  have z12 := z6.trans x8
  replace b3 := b3.ext x8
  refine vnil ?_
  refine V.seq (V.regD mixed rfl ?_)
  intro W13 x14
  have s15 := x14.sz
  have z16 := z12.trans x14
  replace b3 := b3.ext x14
  replace b9 := b9.ext x14
  have q17 := Ext.refl W13
  have r18 := b3
  have r19 := b9
  refine tk 0 rfl (by kernel_rfl) q17 (pv (fun _ y20 => rfa rfl fd46_0)) ?_
  refine tk 1 rfl (by kernel_rfl) q17 (pv (fun _ y21 => rldb (v := .bool _) rfl sc4 (r18.ext y21) rfl)) ?_
  refine tk 2 rfl (by kernel_rfl) q17 (pv (fun _ y22 => rnot (q := _) rfl rfl)) ?_
  refine tk 3 rfl (by kernel_rfl) q17 (pv (fun _ y23 => rfa rfl fd46_1)) ?_
  refine tk 4 rfl (by kernel_rfl) q17 (pv (fun _ y24 => rldb (v := .slice _ _ _) rfl sc44 (r18.ext y24) rfl)) ?_
  refine ef 5 (by kernel_rfl) rfl ?_
  refine xcall e204 (clone_ok _ _ _ _ _ _ _ (hx.ext z16) (by omega) (hu2 _ (by omega))) rfl rfl ?_
  rintro _ W26 ⟨_, _, _, rfl, x27, hw25⟩
  have s28 := x27.sz
  have z29 := z16.trans x27
  replace b3 := b3.ext x27
  replace b9 := b9.ext x27
  have q30 := q17.trans x27
  have hw25l := hw25.len
  refine ⟨_, rfl, ?_⟩
  refine ⟨fun _ => q30, ?_⟩
  refine ef 6 (by kernel_rfl) rfl ?_
  refine xcall e157 (made_ok _ _ _ _ _ _ _ hw25) rfl rfl ?_
  rintro _ W32 ⟨_, _, _, _, rfl, x33, hz31⟩
  have s34 := x33.sz
  have z35 := z29.trans x33
  replace b3 := b3.ext x33
  replace b9 := b9.ext x33
  have q36 := q30.trans x33
  refine ⟨_, rfl, ?_⟩
  refine ⟨fun _ => q36, ?_⟩
  refine ef 7 (by kernel_rfl) rfl ?_
  refine sta (cs' := [_, _]) b9 rfl rfl sz46 rfl rfl rfl ?_
  intro W37 y38 b9
  have z39 := z35.below (y38.below (by omega))
  replace b3 := b3.wr y38 (by omega)
  have s40 := y38.size
  refine lastT (by kernel_rfl) ?_
  refine dn (by kernel_rfl) ?_
  refine V.ret ?_
  refine ⟨[_], ⟨⟨_, rfl, lvb ag46 b9 rfl⟩, trivial⟩, ?_⟩
  refine ⟨_, _, _, _, rfl, z39, ?_⟩
  rw [show (-(if neg then -(vl b32 xs) else vl b32 xs)) = (if (!neg) then -(vl b32 xs) else vl b32 xs) by cases neg <;> simp]
  exact ((hz31.ck (y38.ck (by intro hh; simp [SX] at hh <;> omega)))).un
set_option maxHeartbeats 400000 in
theorem wFrom_ok (x : Int) (S : Nat → Prop) (w : World) (hx : -9223372036854775808 ≤ x ∧ x ≤ 9223372036854775807) (hu : Up S w) :
    Calls Tryz.prog 98 #[.int .i64 x] w (PZ S x w) := by
  have z0 := Ext.refl w; have hLX : LX = 17592186044416 := rfl; have hLY : LY = 8796093022208 := rfl
  have hu2 : ∀ W : World, w.heap.size + 1 ≤ W.heap.size → Up (SX S [w.heap.size]) W := fun W hW => SX.up (hu.mono (by omega)) (by simp; omega)
  refine enter (args := [.int .i64 x]) Tryz.func98 rfl rfl (Nat.le_of_ble_eq_true rfl) ?_
  refine V.seq (V.reg rfl ?_)
  refine vo ?_
  refine xal zc46 ?_
  intro W1 x2 b3 nn4
  have s5 := x2.sz
  have z6 := x2
  refine vnil ?_
  refine V.seq (V.reg rfl ?_)
  refine mvi rfl ?_
  refine vv (rcv Tryz.underlying2 Tryz.underlying162 rfl (m64 _)) ?_
  refine asi rfl ?_
  refine vnil ?_
  refine V.seq ?_
  refine V.seq (V.reg rfl ?_)
  refine mvi rfl ?_
  refine vlt rfl rfl ?_ ?_
  · intro c7
    refine vnil ?_
    refine V.condT rfl ?_
    refine V.reg rfl ?_
    refine mvi rfl ?_
    refine vv (rneg rfl (m64 _)) ?_
    refine asi rfl ?_
    refine vnil ?_
    refine V.seq (V.reg rfl ?_)
    refine mvi rfl ?_
    refine vlt rfl rfl ?_ ?_
    · intro c8
      refine mvi rfl ?_
      refine vv (rcv Tryz.underlying162 Tryz.underlying164 rfl (m32 _)) ?_
      refine mvi rfl ?_
      refine vv (rshr (n := 32) rfl rfl (by decide) (shr32 _)) ?_
      refine vv (rcv Tryz.underlying162 Tryz.underlying164 rfl (m32 _)) ?_
      refine vo ?_
      refine xbs (ps := [(0, .int _ _), (1, .int _ _)]) (cs := [.int _ _, .int _ _]) sl44 zr164 sz164 rfl rfl rfl rfl rfl rfl ?_
      intro W9 x10 b11 nn12
      have s13 := x10.sz
      have z14 := z6.trans x10
      replace b3 := b3.ext x10
      have hl15 := RN.lit (k := .u32) (xs := [_, _]) 2 b11 (by intro q hq; simp only [List.mem_cons, List.not_mem_nil, or_false] at hq; simp only [kb]; omega) (hu2 W1 (by omega) _ (Nat.le_refl _))
      refine vo ?_
      refine xcall e157 (made_ok true _ _ _ _ _ _ hl15) rfl rfl ?_
      rintro _ W17 ⟨_, _, _, _, rfl, x18, hz16⟩
      have s19 := x18.sz
      have z20 := z14.trans x18
      replace b3 := b3.ext x18
      replace b11 := b11.ext x18
      refine ⟨_, rfl, ?_⟩
      refine vo ?_
      refine sta (cs' := [_, _]) b3 rfl rfl sz46 rfl rfl rfl ?_
      intro W21 y22 b3
      have z23 := z20.below (y22.below (by omega))
      replace b11 := b11.wr y22 (by omega)
      have s24 := y22.size
      refine vnil ?_
      refine V.ret ?_
      refine ⟨[_], ⟨⟨_, rfl, lvb ag46 b3 rfl⟩, trivial⟩, ?_⟩
      exact ⟨_, _, _, _, rfl, z23, ((hz16.ck (y22.ck (by intro hh; simp [SX] at hh <;> omega)))).un.cast (by simp [vl, b32]; omega)⟩
    · intro c8
      omega
  · intro c7
    refine vnil ?_
    refine V.condF rfl ?_
    refine V.skip ?_
    refine V.seq (V.reg rfl ?_)
    refine mvi rfl ?_
    refine vlt rfl rfl ?_ ?_
    · intro c25
      omega
    · intro c25
      refine mvi rfl ?_
      refine vv (rcv Tryz.underlying162 Tryz.underlying164 rfl (m32 _)) ?_
      refine mvi rfl ?_
      refine vv (rshr (n := 32) rfl rfl (by decide) (shr32 _)) ?_
      refine vv (rcv Tryz.underlying162 Tryz.underlying164 rfl (m32 _)) ?_
      refine vo ?_
      refine xbs (ps := [(0, .int _ _), (1, .int _ _)]) (cs := [.int _ _, .int _ _]) sl44 zr164 sz164 rfl rfl rfl rfl rfl rfl ?_
      intro W26 x27 b28 nn29
      have s30 := x27.sz
      have z31 := z6.trans x27
      replace b3 := b3.ext x27
      have hl32 := RN.lit (k := .u32) (xs := [_, _]) 2 b28 (by intro q hq; simp only [List.mem_cons, List.not_mem_nil, or_false] at hq; simp only [kb]; omega) (hu2 W1 (by omega) _ (Nat.le_refl _))
      refine vo ?_
      refine xcall e157 (made_ok false _ _ _ _ _ _ hl32) rfl rfl ?_
      rintro _ W34 ⟨_, _, _, _, rfl, x35, hz33⟩
      have s36 := x35.sz
      have z37 := z31.trans x35
      replace b3 := b3.ext x35
      replace b28 := b28.ext x35
      refine ⟨_, rfl, ?_⟩
      refine vo ?_
      refine sta (cs' := [_, _]) b3 rfl rfl sz46 rfl rfl rfl ?_
      intro W38 y39 b3
      have z40 := z37.below (y39.below (by omega))
      replace b28 := b28.wr y39 (by omega)
      have s41 := y39.size
      refine vnil ?_
      refine V.ret ?_
      refine ⟨[_], ⟨⟨_, rfl, lvb ag46 b3 rfl⟩, trivial⟩, ?_⟩
      exact ⟨_, _, _, _, rfl, z40, ((hz33.ck (y39.ck (by intro hh; simp [SX] at hh <;> omega)))).un.cast (by simp [vl, b32]; omega)⟩
end Go.Proofs.YtknbjfefeeojlaaGreat
/- Package whole: pairs, carrier, add, sub, cmp. -/
namespace Go.Proofs.YtknbjfefeeojlaaGreat
open Go.RowKit
attribute [local irreducible] RV VH V OpF Calls

/-- What a call of carrier's functions may do. -/
def PK (B bo bc : Nat) (W W' : World) : Prop := KB B W W' ∧ ∀ k cs T fz, W.heap[k]? = some (.cells cs T fz) → T ≠ 164 → k ≠ bo → k ≠ bc → W'.heap[k]? = some (.cells cs T fz)
theorem BoxAt.pk {B bo bc b : Nat} {W W' : World} {cs : List Value} {T : TypeId} (h : BoxAt W b cs T) (p : PK B bo bc W W') (hT : T ≠ 164) (h1 : b ≠ bo) (h2 : b ≠ bc) : BoxAt W' b cs T := p.2 b _ T _ h hT h1 h2
/-- The state of a carrier: its words so far, and the carry. -/
def CR (W : World) (B bo bc : Nat) (xs : List Int) (c : Int) : Prop := ∃ u, BoxAt W bo [u] 44 ∧ BoxAt W bc [.int .u64 c] 162 ∧ OI .u32 B W 164 u xs
theorem CR.ext {W W' : World} {B bo bc : Nat} {xs : List Int} {c : Int} (h : CR W B bo bc xs c) (x : Ext W W') : CR W' B bo bc xs c := by
  obtain ⟨u, h1, h2, h3⟩ := h; exact ⟨u, h1.ext x, h2.ext x, h3.ext x⟩
theorem CR.lt {W : World} {B bo bc : Nat} {xs : List Int} {c : Int} (h : CR W B bo bc xs c) : bo < W.heap.size ∧ bc < W.heap.size := by
  obtain ⟨u, h1, h2, h3⟩ := h; exact ⟨h1.lt, h2.lt⟩
theorem CR.tn {W W' : World} {Bt B bo bc : Nat} {xs : List Int} {c : Int} (h : CR W B bo bc xs c) (x : Tn Bt W W') : CR W' B bo bc xs c := by
  obtain ⟨u, h1, h2, h3⟩ := h; exact ⟨u, h1.tn x, h2.tn x, h3.ck (x.ck fun _ => True) fun _ _ => trivial⟩
theorem OI.setRow {k : IntKind} {B : Nat} {W : World} {e : TypeId} {v : Value} {xs : List Int} {b : Nat} {W' : World} (h : OI k B W e v xs) (y : Wr b W W') (hb : v.ownBlock ≠ some b) : OI k B W' e v xs :=
  h.ck (y.ck (S := fun q => some q ≠ some b) (fun h => h rfl)) (fun q e => by rw [e] at hb; exact hb)

theorem carrier_ok (w : World) : Calls Tryz.prog 216 #[] w fun e w' => ∃ bo bc, bo = w.heap.size ∧ bc = w.heap.size + 1 ∧
    e = .returned (.tuple #[.func (.func 219) #[] #[.pointer (some ⟨bc, 0, none⟩), .pointer (some ⟨bo, 0, none⟩)], .func (.func 220) #[] #[.pointer (some ⟨bo, 0, none⟩), .pointer (some ⟨bc, 0, none⟩)]]) ∧ Ext w w' ∧ CR w' w.heap.size bo bc [] 0 := by
  refine enter (args := []) Tryz.func216 rfl rfl (Nat.le_of_ble_eq_true rfl) ?_
  refine V.seq (V.reg rfl ?_)
  refine asn rfl ?_
  refine asn rfl ?_
  refine vnil ?_
  refine V.seq (V.reg rfl ?_)
  refine vo ?_
  refine xal zc44 ?_
  intro W1 x1 b1 n1
  refine vnil ?_
  refine V.seq (V.reg rfl ?_)
  refine vo ?_
  refine xal zc162 ?_
  intro W2 x2 b2 n2
  refine vo ?_
  refine st1 (v := .int _ _) (cs' := [_]) b2 rfl rfl sz162 rfl rfl rfl rfl ?_
  intro W3 y3 b2
  refine vnil ?_
  refine V.seq (V.reg rfl ?_)
  refine vv (rmk2 (v := .pointer (some ⟨_, _, none⟩)) (u := .pointer (some ⟨_, _, none⟩)) rfl rfl) ?_
  refine asf rfl ?_
  refine vnil ?_
  refine V.seq (V.reg rfl ?_)
  refine mvf rfl ?_
  refine vv (rmk2 (v := .pointer (some ⟨_, _, none⟩)) (u := .pointer (some ⟨_, _, none⟩)) rfl rfl) ?_
  refine asf rfl ?_
  refine asf rfl ?_
  refine vnil ?_
  refine V.ret ?_
  refine ⟨[.func _ _ _, .func _ _ _], ⟨rfl, rfl, trivial⟩, ?_⟩
  exact ⟨_, _, rfl, n1, rfl, (x1.trans x2).below (y3.below (by omega)), .slice none 0 0, (b1.ext x2).wr y3 (by omega), b2, OI.nil _ _ _ _⟩

set_option maxHeartbeats 400000 in
theorem put_ok (B bo bc : Nat) (xs : List Int) (c v : Int) (w : World) (h : CR w B bo bc xs c) (hc : 0 ≤ c) (hv : 0 ≤ v) (hs : v + c ≤ 18446744073709551615) (hl : (xs.length + 1) * 4 ≤ 140737488355328) (hbo : B ≤ bo) (hbc : B ≤ bc) (hne : bo ≠ bc) :
    Calls Tryz.prog 219 #[.int .u64 v, .pointer (some ⟨bc, 0, none⟩), .pointer (some ⟨bo, 0, none⟩)] w fun e w' => e = .returned (.tuple #[]) ∧ PK B bo bc w w' ∧ CR w' B bo bc (xs ++ [(v + c) % 4294967296]) ((v + c) / 4294967296) := by
  obtain ⟨u, b1, b2, hO⟩ := h
  have l1 := b1.lt
  have l2 := b2.lt
  have d1 := hO.neBox b1 (by decide)
  have d2 := hO.neBox b2 (by decide)
  refine enter (args := [.int .u64 v, .pointer (some ⟨bc, 0, none⟩), .pointer (some ⟨bo, 0, none⟩)]) Tryz.func219 rfl rfl (Nat.le_of_ble_eq_true rfl) ?_
  refine V.seq (V.reg rfl ?_)
  refine mvi rfl ?_
  refine vv (rldb (v := .int .u64 c) rfl sc162 b2 rfl) ?_
  refine vv (rbin (bAdd (wu (by omega))) rfl rfl) ?_
  refine asi rfl ?_
  refine vnil ?_
  refine V.reg rfl ?_
  refine vv (rldb (v := u) rfl sc44 b1 rfl) ?_
  refine mvi rfl ?_
  refine vv (rcv Tryz.underlying162 Tryz.underlying164 rfl (m32 _)) ?_
  refine vo ?_
  refine xbs (ps := [(0, .int _ _)]) (cs := [.int _ _]) sl44 zr164 sz164 rfl rfl rfl rfl rfl rfl ?_
  intro W1 x1 b3 n3
  refine vo ?_
  refine xapp sl44 in164 (hO.ext x1) rfl rfl b3 (by simp only [kb]; omega) hl (by decide) (by omega) ?_
  intro v' W2 hO2 hg ho
  have k2 : KB B W1 W2 := KB.grown (hO.ext x1) hg (Nat.le_refl _) (by omega)
  have c2 : CK (fun q => u.ownBlock ≠ some q) W1 W2 := grown_ck hg fun b e h => h e
  have b1' := (b1.ext x1).ck c2 d1
  have b2' := (b2.ext x1).ck c2 d2
  have e1 : v'.ownBlock ≠ some bo := by
    rcases ho with h | h <;> rw [h]
    · exact d1
    · intro e; injection e with e; omega
  have e2 : v'.ownBlock ≠ some bc := by
    rcases ho with h | h <;> rw [h]
    · exact d2
    · intro e; injection e with e; omega
  have s2 := k2.below.size
  refine mvi rfl ?_
  refine vv (rshr (n := 32) rfl rfl (by decide) (shr32 _)) ?_
  refine vo ?_
  obtain ⟨a', c', rfl⟩ := hO2.form
  refine st1 (v := .slice _ _ _) (cs' := [_]) b1' rfl rfl sz44 rfl rfl rfl rfl ?_
  intro W3 y3 b1''
  refine vo ?_
  refine st1 (v := .int _ _) (cs' := [_]) (b2'.wr y3 (by omega)) rfl rfl sz162 rfl rfl rfl rfl ?_
  intro W4 y4 b2''
  refine vnil ?_
  refine ⟨[], trivial, ?_⟩
  refine ⟨rfl, ⟨(KB.ext x1 (by omega)).trans (k2.trans ((KB.wr y3 b1' hbo).trans (KB.wr y4 (b2'.wr y3 (by omega)) hbc))), ?_⟩, _, b1''.wr y4 hne, b2'', (hO2.setRow y3 e1).setRow y4 e2⟩
  intro k cs T fz hk hT h1 h2
  have hk1 := (x1.block k (Array.getElem?_eq_some_iff.1 hk).1).trans hk
  have hk2 := c2.2 k cs T fz (by
    intro e
    rcases (hO.ext x1).row.2 with ⟨rfl, _⟩ | ⟨b', cap, cur, rfl, _, hh, _⟩
    · cases e
    · simp only [Value.ownBlock, Option.some.injEq] at e
      subst e
      rw [hk1] at hh
      injection hh with hh
      injection hh with _ h2 _
      exact hT h2) hk1
  exact (y4.block k h2).trans ((y3.block k h1).trans hk2)

set_option maxHeartbeats 400000 in
theorem all_ok (B bo bc : Nat) (xs : List Int) (c : Int) (w : World) (h : CR w B bo bc xs c) (hl : (xs.length + 1) * 4 ≤ 140737488355328) (hbo : B ≤ bo) :
    Calls Tryz.prog 220 #[.pointer (some ⟨bo, 0, none⟩), .pointer (some ⟨bc, 0, none⟩)] w fun e w' => ∃ a n d, e = .returned (.slice a n d) ∧ KB B w w' ∧ OI .u32 B w' 164 (.slice a n d) (xs ++ [c % 4294967296]) := by
  obtain ⟨u, b1, b2, hO⟩ := h
  have l1 := b1.lt
  refine enter (args := [.pointer (some ⟨bo, 0, none⟩), .pointer (some ⟨bc, 0, none⟩)]) Tryz.func220 rfl rfl (Nat.le_of_ble_eq_true rfl) ?_
  refine V.seq (V.reg rfl ?_)
  refine ass rfl ?_
  refine vnil ?_
  refine V.seq (V.reg rfl ?_)
  refine vv (rldb (v := u) rfl sc44 b1 rfl) ?_
  refine vv (rldb (v := .int .u64 c) rfl sc162 b2 rfl) ?_
  refine vv (rcv Tryz.underlying162 Tryz.underlying164 rfl (m32 _)) ?_
  refine vo ?_
  refine xbs (ps := [(0, .int _ _)]) (cs := [.int _ _]) sl44 zr164 sz164 rfl rfl rfl rfl rfl rfl ?_
  intro W1 x1 b3 n3
  refine vo ?_
  refine xapp sl44 in164 (hO.ext x1) rfl rfl b3 (by simp only [kb]; omega) hl (by decide) (by omega) ?_
  intro v' W2 hO2 hg ho
  obtain ⟨a', c', rfl⟩ := hO2.form
  refine ass rfl ?_
  refine vnil ?_
  refine V.ret ?_
  refine ⟨[.slice _ _ _], ⟨rfl, trivial⟩, ?_⟩
  exact ⟨_, _, _, rfl, (KB.ext x1 (by omega)).trans (KB.grown (hO.ext x1) hg (Nat.le_refl _) (by omega)), hO2⟩


theorem wd_ge {xs : List Int} {i : Int} (h : xs.length ≤ i.toNat) : wd xs i = 0 := by
  unfold wd; rw [List.getD_eq_getElem?_getD, List.getElem?_eq_none h]; rfl
theorem RN.kd {D : Nat → Prop} {k : IntKind} {W W' : World} {a : Option Addr} {n c : Nat} {xs : List Int} (h : RN k D W a n c xs) (x : KD D W W') : RN k D W' a n c xs := h.ck x.ck

set_option maxHeartbeats 400000 in
theorem pairs_iter {D : Nat → Prop} {w : World} {a1 a2 : Option Addr} {n c m d : Nat} {xs ys : List Int} {b1 b2 : Nat} (hb1 : BoxAt w b1 [.slice a1 n c] 44) (hb2 : BoxAt w b2 [.slice a2 m d] 44) (hx : RN .u32 D w a1 n c xs) (hy : RN .u32 D w a2 m d ys) (h1 : D b1) (h2 : D b2) :
    Iter Tryz.prog 221 #[.pointer (some ⟨b1, 0, none⟩), .pointer (some ⟨b2, 0, none⟩)] (fun i => .int .u64 (wd xs i)) (fun i => .int .u64 (wd ys i)) D (max n m) w := by
  have z0 := Ext.refl w; have hLX : LX = 17592186044416 := rfl; have hLY : LY = 8796093022208 := rfl
  intro l J Jx X hX hJs hJxs hY hJ0
  have hx0 := hx.ext hX; have hy0 := hy.ext hX; have b10 := hb1.ext hX; have b20 := hb2.ext hX
  have l1 := hx.len; have l2 := hy.len; have q1 := hx.cap; have q2 := hy.cap; have q3 := hx.max; have q4 := hy.max
  refine enter (args := [.func (.yield l) #[] #[], .pointer (some ⟨b1, 0, none⟩), .pointer (some ⟨b2, 0, none⟩)]) Tryz.func221 rfl rfl (Nat.le_of_ble_eq_true rfl) ?_
  refine V.seq (V.reg rfl ?_)
  refine vv (rldb (v := .slice _ _ _) rfl sc44 b10 rfl) ?_
  refine vv (rlen sl44 rfl) ?_
  refine vv (rldb (v := .slice _ _ _) rfl sc44 b20 rfl) ?_
  refine vv (rlen sl44 rfl) ?_
  refine vv (rmax rfl rfl rfl) ?_
  refine mvi rfl ?_
  refine vnil ?_
  refine V.block ?_
  refine V.loopK (ι := Nat) [(0, .func _ _ _), (1, .pointer (some ⟨_, _, none⟩)), (2, .pointer (some ⟨_, _, none⟩)), (11, .int _ _)] (fun k => [(12, .int .i64 (k : Int))]) (fun k W => J k W ∧ KD D w W ∧ k ≤ max n m) (fun k => max n m - k) (0) ⟨rfl, rfl, rfl, rfl, trivial⟩ ⟨rfl, trivial⟩ ⟨hJ0, hX.kd, Nat.zero_le _⟩ ?_
  intro k E2 W1 h3
  obtain ⟨hJ, hkd, hk⟩ := h3
  have hx1 := hx.kd hkd
  have hy1 := hy.kd hkd
  have b1' := hb1.kd hkd h1; have b2' := hb2.kd hkd h2
  have hYk : ∀ x y, x = wd xs k → y = wd ys k → k < max n m → YieldAt Fence.wide 0 Tryz.prog l #[.int .u64 x, .int .u64 y] W1 (fun e B => (e = .returned (.bool true) ∧ J (k + 1) B ∧ KD D W1 B) ∨ (e = .returned (.bool false) ∧ Jx k B ∧ KD D W1 B)) := by intro x y ex ey hlt; subst ex; subst ey; exact hY k _ hJ hlt hkd
  refine V.seq (V.reg rfl ?_)
  refine vlt rfl rfl ?_ ?_
  · intro c4
    refine vnil ?_
    refine V.seq ?_
    refine V.condT rfl ?_
    refine V.skip ?_
    refine V.seq ?_
    refine V.block ?_
    refine V.seq (V.reg rfl ?_)
    refine mvi rfl ?_
    refine asi rfl ?_
    refine vnil ?_
    refine V.seq (V.reg rfl ?_)
    refine asi rfl ?_
    refine asi rfl ?_
    refine vnil ?_
    refine V.seq ?_
    refine V.seq (V.reg rfl ?_)
    refine mvi rfl ?_
    refine vv (rldb (v := .slice _ _ _) rfl sc44 b1' rfl) ?_
    refine vv (rlen sl44 rfl) ?_
    refine vlt rfl rfl ?_ ?_
    · intro c5
      refine vnil ?_
      refine V.condT rfl ?_
      refine V.reg rfl ?_
      refine vv (rldb (v := .slice _ _ _) rfl sc44 b1' rfl) ?_
      refine mvi rfl ?_
      refine vv (rixn hx1 sl44 sz164 rfl rfl (by omega) (by omega)) ?_
      refine vldN hx1 rfl sc164 (by omega) (by omega) ?_
      intro q6 hq6 hk7
      simp only [kb] at hk7
      refine vv (rcv Tryz.underlying164 Tryz.underlying162 rfl (wu (by omega))) ?_
      refine asi rfl ?_
      refine vnil ?_
      refine V.seq ?_
      refine V.seq (V.reg rfl ?_)
      refine mvi rfl ?_
      refine vv (rldb (v := .slice _ _ _) rfl sc44 b2' rfl) ?_
      refine vv (rlen sl44 rfl) ?_
      refine vlt rfl rfl ?_ ?_
      · intro c8
        refine vnil ?_
        refine V.condT rfl ?_
        refine V.reg rfl ?_
        refine vv (rldb (v := .slice _ _ _) rfl sc44 b2' rfl) ?_
        refine mvi rfl ?_
        refine vv (rixn hy1 sl44 sz164 rfl rfl (by omega) (by omega)) ?_
        refine vldN hy1 rfl sc164 (by omega) (by omega) ?_
        intro q9 hq9 hk10
        simp only [kb] at hk10
        refine vv (rcv Tryz.underlying164 Tryz.underlying162 rfl (wu (by omega))) ?_
        refine asi rfl ?_
        refine vnil ?_
        refine V.seq (V.reg rfl ?_)
        refine mvf rfl ?_
        refine mvi rfl ?_
        refine mvi rfl ?_
        refine vo ?_
        refine xyield (vs := [.int _ _, .int _ _]) rfl rfl (hYk _ _ hq6 hq9 (by omega)) ?_
        rintro _ W' (⟨rfl, hJ', hkd'⟩ | ⟨rfl, hJx, hkd'⟩) <;> refine ⟨_, rfl, ?_⟩
        · skip
          refine vv (rnot (q := false) rfl rfl) ?_
          refine vnil ?_
          refine V.condF rfl ?_
          refine V.skip ?_
          refine V.reg rfl ?_
          refine vv (rbin (bAdd (wi (by omega))) rfl rfl) ?_
          refine mvi rfl ?_
          refine vnil ?_
          refine ⟨rfl, k + 1, ⟨rfl, rfl, rfl, rfl, trivial⟩, ⟨rfl, trivial⟩, ⟨hJ', hkd.trans hkd', by omega⟩, ?_⟩
          show max n m - (k + 1) < max n m - k
          omega
        · skip
          refine vv (rnot (q := true) rfl rfl) ?_
          refine vnil ?_
          refine V.condT rfl ?_
          refine V.ret ?_
          refine ⟨[], trivial, ?_⟩
          exact ⟨⟨_, rfl⟩, .inr ⟨k, by omega, hJx⟩⟩
      · intro c8
        refine vnil ?_
        refine V.condF rfl ?_
        refine V.skip ?_
        refine V.seq (V.reg rfl ?_)
        refine mvf rfl ?_
        refine mvi rfl ?_
        refine mvi rfl ?_
        refine vo ?_
        refine xyield (vs := [.int _ _, .int _ _]) rfl rfl (hYk _ _ hq6 (wd_ge (by omega)).symm (by omega)) ?_
        rintro _ W' (⟨rfl, hJ', hkd'⟩ | ⟨rfl, hJx, hkd'⟩) <;> refine ⟨_, rfl, ?_⟩
        · skip
          refine vv (rnot (q := false) rfl rfl) ?_
          refine vnil ?_
          refine V.condF rfl ?_
          refine V.skip ?_
          refine V.reg rfl ?_
          refine vv (rbin (bAdd (wi (by omega))) rfl rfl) ?_
          refine mvi rfl ?_
          refine vnil ?_
          refine ⟨rfl, k + 1, ⟨rfl, rfl, rfl, rfl, trivial⟩, ⟨rfl, trivial⟩, ⟨hJ', hkd.trans hkd', by omega⟩, ?_⟩
          show max n m - (k + 1) < max n m - k
          omega
        · skip
          refine vv (rnot (q := true) rfl rfl) ?_
          refine vnil ?_
          refine V.condT rfl ?_
          refine V.ret ?_
          refine ⟨[], trivial, ?_⟩
          exact ⟨⟨_, rfl⟩, .inr ⟨k, by omega, hJx⟩⟩
    · intro c5
      refine vnil ?_
      refine V.condF rfl ?_
      refine V.skip ?_
      refine V.seq ?_
      refine V.seq (V.reg rfl ?_)
      refine mvi rfl ?_
      refine vv (rldb (v := .slice _ _ _) rfl sc44 b2' rfl) ?_
      refine vv (rlen sl44 rfl) ?_
      refine vlt rfl rfl ?_ ?_
      · intro c11
        refine vnil ?_
        refine V.condT rfl ?_
        refine V.reg rfl ?_
        refine vv (rldb (v := .slice _ _ _) rfl sc44 b2' rfl) ?_
        refine mvi rfl ?_
        refine vv (rixn hy1 sl44 sz164 rfl rfl (by omega) (by omega)) ?_
        refine vldN hy1 rfl sc164 (by omega) (by omega) ?_
        intro q12 hq12 hk13
        simp only [kb] at hk13
        refine vv (rcv Tryz.underlying164 Tryz.underlying162 rfl (wu (by omega))) ?_
        refine asi rfl ?_
        refine vnil ?_
        refine V.seq (V.reg rfl ?_)
        refine mvf rfl ?_
        refine mvi rfl ?_
        refine mvi rfl ?_
        refine vo ?_
        refine xyield (vs := [.int _ _, .int _ _]) rfl rfl (hYk _ _ (wd_ge (by omega)).symm hq12 (by omega)) ?_
        rintro _ W' (⟨rfl, hJ', hkd'⟩ | ⟨rfl, hJx, hkd'⟩) <;> refine ⟨_, rfl, ?_⟩
        · skip
          refine vv (rnot (q := false) rfl rfl) ?_
          refine vnil ?_
          refine V.condF rfl ?_
          refine V.skip ?_
          refine V.reg rfl ?_
          refine vv (rbin (bAdd (wi (by omega))) rfl rfl) ?_
          refine mvi rfl ?_
          refine vnil ?_
          refine ⟨rfl, k + 1, ⟨rfl, rfl, rfl, rfl, trivial⟩, ⟨rfl, trivial⟩, ⟨hJ', hkd.trans hkd', by omega⟩, ?_⟩
          show max n m - (k + 1) < max n m - k
          omega
        · skip
          refine vv (rnot (q := true) rfl rfl) ?_
          refine vnil ?_
          refine V.condT rfl ?_
          refine V.ret ?_
          refine ⟨[], trivial, ?_⟩
          exact ⟨⟨_, rfl⟩, .inr ⟨k, by omega, hJx⟩⟩
      · intro c11
        refine vnil ?_
        refine V.condF rfl ?_
        refine V.skip ?_
        refine V.seq (V.reg rfl ?_)
        refine mvf rfl ?_
        refine mvi rfl ?_
        refine mvi rfl ?_
        refine vo ?_
        refine xyield (vs := [.int _ _, .int _ _]) rfl rfl (hYk _ _ (wd_ge (by omega)).symm (wd_ge (by omega)).symm (by omega)) ?_
        rintro _ W' (⟨rfl, hJ', hkd'⟩ | ⟨rfl, hJx, hkd'⟩) <;> refine ⟨_, rfl, ?_⟩
        · skip
          refine vv (rnot (q := false) rfl rfl) ?_
          refine vnil ?_
          refine V.condF rfl ?_
          refine V.skip ?_
          refine V.reg rfl ?_
          refine vv (rbin (bAdd (wi (by omega))) rfl rfl) ?_
          refine mvi rfl ?_
          refine vnil ?_
          refine ⟨rfl, k + 1, ⟨rfl, rfl, rfl, rfl, trivial⟩, ⟨rfl, trivial⟩, ⟨hJ', hkd.trans hkd', by omega⟩, ?_⟩
          show max n m - (k + 1) < max n m - k
          omega
        · skip
          refine vv (rnot (q := true) rfl rfl) ?_
          refine vnil ?_
          refine V.condT rfl ?_
          refine V.ret ?_
          refine ⟨[], trivial, ?_⟩
          exact ⟨⟨_, rfl⟩, .inr ⟨k, by omega, hJx⟩⟩
  · intro c4
    refine vnil ?_
    refine V.seq ?_
    refine V.condF rfl ?_
    refine V.exit ?_
    refine ⟨[], trivial, ?_⟩
    exact ⟨⟨_, rfl⟩, .inl (by rw [show max n m = k by omega]; exact hJ)⟩
set_option maxHeartbeats 400000 in
theorem pairs_ok (a1 a2 : Option Addr) (n c m d : Nat) (w : World) :
    Calls Tryz.prog 217 #[.slice a1 n c, .slice a2 m d] w (fun e w' => ∃ b1 b2, b1 = w.heap.size ∧ b2 = w.heap.size + 1 ∧ e = .returned (.func (.func 221) #[] #[.pointer (some ⟨b1, 0, none⟩), .pointer (some ⟨b2, 0, none⟩)]) ∧ Ext w w' ∧ BoxAt w' b1 [.slice a1 n c] 44 ∧ BoxAt w' b2 [.slice a2 m d] 44) := by
  have z0 := Ext.refl w; have hLX : LX = 17592186044416 := rfl; have hLY : LY = 8796093022208 := rfl
  refine enter (args := [.slice a1 n c, .slice a2 m d]) Tryz.func217 rfl rfl (Nat.le_of_ble_eq_true rfl) ?_
  refine V.seq (V.reg rfl ?_)
  refine vo ?_
  refine bxs rfl ?_
  intro W1 x2 b3 nn4
  have s5 := x2.sz
  have z6 := x2
  refine vo ?_
  refine bxs rfl ?_
  intro W7 x8 b9 nn10
  have s11 := x8.sz
  have z12 := z6.trans x8
  replace b3 := b3.ext x8
  refine asn rfl ?_
  refine vnil ?_
  refine V.seq (V.reg rfl ?_)
  refine vv (rmk2 (v := .pointer (some ⟨_, _, none⟩)) (u := .pointer (some ⟨_, _, none⟩)) rfl rfl) ?_
  refine asf rfl ?_
  refine vnil ?_
  refine V.ret ?_
  refine ⟨[.func _ _ _], ⟨rfl, trivial⟩, ?_⟩
  exact ⟨_, _, rfl, by omega, rfl, z12, b3, b9⟩

theorem PK.kd {D : Nat → Prop} {B bo bc : Nat} {X Y : World} (p : PK B bo bc X Y) (hD : ∀ k, D k → k < B ∨ (k ≠ bo ∧ k ≠ bc ∧ ∃ cs T, T ≠ 164 ∧ BoxAt X k cs T)) : KD D X Y :=
  ⟨p.1.below.os, p.1.below.tape, p.1.below.output, p.1.below.size, fun k hk hl => by
    rcases hD k hk with h | ⟨h1, h2, cs, T, hT, hb⟩
    · exact p.1.below.block k h
    · exact (p.2 k _ T _ hb hT h1 h2).trans hb.symm⟩
theorem RN.wdb {k : IntKind} {S : Nat → Prop} {W : World} {a : Option Addr} {n c : Nat} {xs : List Int} (h : RN k S W a n c xs) (h0 : kb k 0) (i : Int) : kb k (wd xs i) := by
  by_cases hi : i.toNat < xs.length
  · refine h.wf _ ?_
    simp [wd, hi]
  · rw [wd_ge (by omega)]; exact h0
theorem vl_take_succ (B : Int) (xs : List Int) (i : Nat) : vl B (xs.take (i + 1)) = vl B (xs.take i) + B ^ i * wd xs i := by
  by_cases h : i < xs.length
  · rw [take_succ_wd xs i h, vl_snoc]
    rw [List.length_take, Nat.min_eq_left (by omega)]
  · rw [wd_ge (by simp; omega), List.take_of_length_le (by omega), List.take_of_length_le (by omega)]; simp
theorem add_step {B v c lo hi : Int} {i : Nat} {out xs ys : List Int} (hl : out.length = i) (h : vl B out + B ^ i * c = vl B (xs.take i) + vl B (ys.take i)) (hv : v = wd xs i + wd ys i + c) (e : B * hi + lo = v) :
    vl B (out ++ [lo]) + B ^ (i + 1) * hi = vl B (xs.take (i + 1)) + vl B (ys.take (i + 1)) := by
  rw [vl_snoc, vl_take_succ, vl_take_succ, hl, Int.pow_succ]
  have : vl B out = vl B (xs.take i) + vl B (ys.take i) - B ^ i * c := by omega
  rw [this]
  have e2 : B ^ i * lo + B ^ i * B * hi = B ^ i * (wd xs i + wd ys i + c) := by rw [← hv, ← e, Int.mul_add, Int.mul_assoc, Int.add_comm]
  rw [Int.mul_add, Int.mul_add] at e2
  omega
/-- The state of the loops of add and sub. -/
structure AI (w : World) (T5 : TypeId) (b5 bo bc b1 b2 : Nat) (f v1 v2 : Value) (out : List Int) (c : Int) (X : World) : Prop where
  ext : Ext w X
  cr : CR X w.heap.size bo bc out c
  x5 : BoxAt X b5 [f] T5
  x1 : BoxAt X b1 [v1] 44
  x2 : BoxAt X b2 [v2] 44
theorem AI.tn {w X Y : World} {T5 : TypeId} {B b5 bo bc b1 b2 : Nat} {f v1 v2 : Value} {out : List Int} {c : Int} (h : AI w T5 b5 bo bc b1 b2 f v1 v2 out c X) (t : Tn B X Y) (hB : w.heap.size ≤ B) : AI w T5 b5 bo bc b1 b2 f v1 v2 out c Y :=
  ⟨t.ext h.ext hB, h.cr.tn t, h.x5.tn t, h.x1.tn t, h.x2.tn t⟩
theorem AI.put {w X Y : World} {T5 : TypeId} {b5 bo bc b1 b2 : Nat} {f v1 v2 : Value} {out out' : List Int} {c c' : Int} (h : AI w T5 b5 bo bc b1 b2 f v1 v2 out c X) (p : PK w.heap.size bo bc X Y) (hC : CR Y w.heap.size bo bc out' c') (hT : T5 ≠ 164) (h5 : b5 ≠ bo ∧ b5 ≠ bc) (h1 : b1 ≠ bo ∧ b1 ≠ bc) (h2 : b2 ≠ bo ∧ b2 ≠ bc) : AI w T5 b5 bo bc b1 b2 f v1 v2 out' c' Y :=
  ⟨h.ext.below p.1.below, hC, h.x5.pk p hT h5.1 h5.2, h.x1.pk p (by decide) h1.1 h1.2, h.x2.pk p (by decide) h2.1 h2.2⟩

set_option maxHeartbeats 400000 in
theorem add_ok (a1 a2 : Option Addr) (n c m d : Nat) (xs ys : List Int) (S S1 S2 : Nat → Prop) (w : World) (hx : RN .u32 S1 w a1 n c xs) (hy : RN .u32 S2 w a2 m d ys) (hn : n ≤ LX) (hm : m ≤ LX) (hu : Up S w) :
    Calls Tryz.prog 206 #[.slice a1 n c, .slice a2 m d] w (fun e w' => ∃ zs, PW S zs w e w' ∧ vl b32 zs = vl b32 xs + vl b32 ys ∧ zs.length = max n m + 1) := by
  have z0 := Ext.refl w; have hLX : LX = 17592186044416 := rfl; have hLY : LY = 8796093022208 := rfl
  have l1 := hx.len; have l2 := hy.len
  refine enter (args := [.slice a1 n c, .slice a2 m d]) Tryz.func206 rfl rfl (Nat.le_of_ble_eq_true rfl) ?_
  refine V.seq (V.reg rfl ?_)
  refine ass rfl ?_
  refine vnil ?_
  refine V.seq (V.reg rfl ?_)
  refine vo ?_
  refine xcall e216 (carrier_ok _) rfl rfl ?_
  rintro _ W1 ⟨bo, bc, ebo, ebc, rfl, x2, hC⟩
  have s3 := x2.sz
  have z4 := x2
  have lC := hC.lt
  refine ⟨_, rfl, ?_⟩
  refine mvt rfl ?_
  refine vv (rext (v := .func _ _ _) rfl rfl) ?_
  refine vv (rext (v := .func _ _ _) rfl rfl) ?_
  have z5 := Ext.refl W1
  refine vo ?_
  refine xal zc199 ?_
  intro W6 x7 b8 nn9
  have s10 := x7.sz
  have z11 := z4.trans x7
  have z12 := x7
  refine vo ?_
  refine st1 (v := .func _ _ _) (cs' := [_]) b8 rfl rfl sz199 rfl rfl rfl rfl ?_
  intro W13 y14 b8
  have z15 := z11.below (y14.below (by omega))
  have z16 := z12.below (y14.below (by omega))
  have s17 := y14.size
  refine asf rfl ?_
  refine vnil ?_
  refine V.seq ?_
  refine V.seq (V.reg rfl ?_)
  refine mvs rfl ?_
  refine mvs rfl ?_
  refine vo ?_
  refine xcall e217 (pairs_ok _ _ _ _ _ _ _) rfl rfl ?_
  rintro _ W18 ⟨b1, b2, eb1, eb2, rfl, x19, hb1, hb2⟩
  have s20 := x19.sz
  have z21 := z15.trans x19
  have z22 := z16.trans x19
  replace b8 := b8.ext x19
  have lb1 := hb1.lt; have lb2 := hb2.lt
  refine ⟨_, rfl, ?_⟩
  refine vnil ?_
  refine V.block ?_
  refine V.rf (gf := 221) rfl e221 (pairs_iter hb1 hb2 ((hx.sub (S' := fun q => q < w.heap.size ∨ q = b1 ∨ q = b2) (fun b hb _ => .inl hb)).ext z21) ((hy.sub (S' := fun q => q < w.heap.size ∨ q = b1 ∨ q = b2) (fun b hb _ => .inl hb)).ext z21) (.inr (.inl rfl)) (.inr (.inr rfl))) (Ext.refl _) (by rintro k (h | rfl | rfl) <;> omega) rfl (fun i X => ∃ out cy, AI w 199 W1.heap.size bo bc b1 b2 (.func (.func 219) #[] #[.pointer (some ⟨bc, 0, none⟩), .pointer (some ⟨bo, 0, none⟩)]) (.slice a1 n c) (.slice a2 m d) out cy X ∧ out.length = i ∧ 0 ≤ cy ∧ cy ≤ 1 ∧ vl b32 out + b32 ^ i * cy = vl b32 (xs.take i) + vl b32 (ys.take i)) (fun _ _ _ => False) (fun i X Y ⟨out, cy, hA, h1, h2⟩ t => ⟨out, cy, hA.tn t (by omega), h1, h2⟩) (fun _ _ _ _ h _ => h) (⟨[], 0, ⟨z21, (hC.ext z22), b8, hb1, hb2⟩, rfl, by omega, by omega, by simp [vl]⟩) ?_ ?_ ?_
  · intro l23 i24 X25 hi26 hM27 hk28 hs29
    refine V.seq (V.reg rfl ?_)
    refine asi rfl ?_
    refine vnil ?_
    refine V.reg rfl ?_
    refine asi rfl ?_
    refine vnil ?_
    refine ⟨rfl, Kf.refl _ _ _, ?_⟩
    intro Z30 t31
    obtain ⟨out, cy, hA, hlen, hinv⟩ := hi26
    replace hA := hA.tn t31 (by omega)
    have x5 := hA.x5; have kx := hx.wdb (by simp [kb]) i24; have ky := hy.wdb (by simp [kb]) i24; simp only [kb] at kx ky
    refine V.block ?_
    refine V.reg rfl ?_
    refine vv (rldb (v := .func _ _ _) rfl sc199 x5 rfl) ?_
    refine mvi rfl ?_
    refine mvi rfl ?_
    refine vv (rbin (bAdd (wu (by omega))) rfl rfl) ?_
    refine vo ?_
    refine xcall e219 (put_ok _ _ _ _ _ _ _ hA.cr (by omega) (by omega) (by omega) (by omega) (by omega) (by omega) (by omega)) rfl rfl ?_
    rintro _ W8 ⟨rfl, hp, hC2⟩
    refine ⟨_, rfl, ?_⟩
    refine vnil ?_
    refine ⟨⟨hp.1.keeps _, hp.kd ?_⟩, _, _, hA.put hp hC2 (by decide) (by omega) (by omega) (by omega), by simp; omega, ?_⟩
    · rintro q (h | rfl | rfl)
      · exact .inl h
      · exact .inr ⟨by omega, by omega, _, _, by decide, hA.x1⟩
      · exact .inr ⟨by omega, by omega, _, _, by decide, hA.x2⟩
    · exact ⟨by omega, by omega, add_step hlen hinv.2.2 rfl (by unfold b32; omega)⟩
  · intro D32 X33 hD34 hI35 hdf36 hs37
    obtain ⟨out, cy, hA, hlen, hinv⟩ := hI35
    refine V.seq (V.reg rfl ?_)
    refine mvf rfl ?_
    refine vo ?_
    refine xcall e220 (all_ok _ _ _ _ _ _ hA.cr (by omega) (by omega)) rfl rfl ?_
    rintro _ W9 ⟨a', n', c', rfl, hk, hO⟩
    refine ⟨_, rfl, ?_⟩
    have hO9 := hO.rn (S := fun q => w.heap.size ≤ q) (fun b hb _ => hb)
    have ln9 : out.length + 1 = n' := by have := hO9.len; simpa using this
    refine ass rfl ?_
    refine vnil ?_
    refine V.ret ?_
    refine ⟨D32, rfl, (hk.recs _ _ hdf36 rfl), ?_⟩
    have tp := Tn.putObj (B := w.heap.size) (.deferred none) (hk.recs _ _ hdf36 rfl) (by omega) rfl
    refine ⟨[.slice _ _ _], ⟨rfl, trivial⟩, ?_⟩
    have tp := Tn.putObj (B := w.heap.size) (.deferred none) (hk.recs _ _ hdf36 rfl) (by omega) rfl
    refine ⟨_, ⟨_, _, _, rfl, tp.ext (hA.ext.below hk.below) (Nat.le_refl _), (hO.ck (tp.ck fun _ => True) (fun _ _ => trivial)).rn (fun b hb _ => hu b hb)⟩, ?_, by simp; omega⟩
    rw [vl_snoc, hlen, Int.emod_eq_of_lt hinv.1 (by have := hinv.2.1; omega), hinv.2.2, List.take_of_length_le (by omega), List.take_of_length_le (by omega)]
  · intro _ _ _ _ _ _ h; exact h.elim

theorem sub_step {B v c lo hi : Int} {i : Nat} {out xs ys : List Int} (hl : out.length = i + 1) (h : vl B out + B ^ (i + 1) * c = B * (vl B (xs.take i) - vl B (ys.take i) + B ^ i)) (hv : v = wd xs i + B - 1 - wd ys i + c) (e : B * hi + lo = v) :
    vl B (out ++ [lo]) + B ^ (i + 2) * hi = B * (vl B (xs.take (i + 1)) - vl B (ys.take (i + 1)) + B ^ (i + 1)) := by
  rw [vl_snoc, vl_take_succ, vl_take_succ, hl]
  have e0 : B ^ (i + 2) = B ^ (i + 1) * B := Int.pow_succ ..
  have e2 : B ^ (i + 1) * lo + B ^ (i + 1) * B * hi = B ^ (i + 1) * (wd xs i + B - 1 - wd ys i + c) := by rw [← hv, ← e, Int.mul_add, Int.mul_assoc, Int.add_comm]
  have e1 : B ^ (i + 1) = B ^ i * B := Int.pow_succ ..
  rw [e0]
  rw [e1] at h e2 ⊢
  have : vl B out = B * (vl B (xs.take i) - vl B (ys.take i) + B ^ i) - B ^ i * B * c := by omega
  rw [this]
  grind
theorem sub_end {B c X Y : Int} {M : Nat} {o : Int} {t : List Int} (hB : 2 ≤ B) (hd : Dg B (o :: t)) (hl : t.length = M) (h0 : 0 ≤ c) (h1 : c ≤ 1) (h : vl B (o :: t) + B ^ (M + 1) * c = B * (X - Y + B ^ M)) (hx : X < B ^ M) (hle : Y ≤ X) (hY : 0 ≤ Y) : vl B t = X - Y := by
  rw [vl_cons] at h
  obtain ⟨⟨d1, d2⟩, d3⟩ := Dg.cons.1 hd
  have p := vl_nonneg (by omega) d3
  have q := vl_lt (by omega) d3
  rw [hl] at q
  have e1 : B ^ (M + 1) = B * B ^ M := by rw [Int.pow_succ, Int.mul_comm]
  rw [e1] at h
  have h2 : o = B * (X - Y + B ^ M - vl B t - B ^ M * c) := by grind
  have h3 : X - Y + B ^ M - vl B t - B ^ M * c = 0 := by
    rcases Int.lt_trichotomy (X - Y + B ^ M - vl B t - B ^ M * c) 0 with hh | hh | hh
    · have := Int.mul_lt_mul_of_pos_left hh (show 0 < B by omega); omega
    · exact hh
    · have : B * 1 ≤ B * (X - Y + B ^ M - vl B t - B ^ M * c) := Int.mul_le_mul_of_nonneg_left (by omega) (by omega)
      omega
  have : c = 0 ∨ c = 1 := by omega
  rcases this with rfl | rfl
  · omega
  · omega

set_option maxHeartbeats 400000 in
theorem sub_ok (a1 a2 : Option Addr) (n c m d : Nat) (xs ys : List Int) (S S1 S2 : Nat → Prop) (w : World) (hx : RN .u32 S1 w a1 n c xs) (hy : RN .u32 S2 w a2 m d ys) (hn : n ≤ LX) (hm : m ≤ n) (hle : vl b32 ys ≤ vl b32 xs) (hu : Up S w) :
    Calls Tryz.prog 208 #[.slice a1 n c, .slice a2 m d] w (fun e w' => ∃ zs, PW S zs w e w' ∧ vl b32 zs = vl b32 xs - vl b32 ys ∧ zs.length = n) := by
  have z0 := Ext.refl w; have hLX : LX = 17592186044416 := rfl; have hLY : LY = 8796093022208 := rfl
  have l1 := hx.len; have l2 := hy.len
  refine enter (args := [.slice a1 n c, .slice a2 m d]) Tryz.func208 rfl rfl (Nat.le_of_ble_eq_true rfl) ?_
  refine V.seq (V.reg rfl ?_)
  refine ass rfl ?_
  refine vnil ?_
  refine V.seq (V.reg rfl ?_)
  refine vo ?_
  refine xcall e216 (carrier_ok _) rfl rfl ?_
  rintro _ W1 ⟨bo, bc, ebo, ebc, rfl, x2, hC⟩
  have s3 := x2.sz
  have z4 := x2
  have lC := hC.lt
  refine ⟨_, rfl, ?_⟩
  refine mvt rfl ?_
  refine vv (rext (v := .func _ _ _) rfl rfl) ?_
  refine vv (rext (v := .func _ _ _) rfl rfl) ?_
  have z5 := Ext.refl W1
  refine vo ?_
  refine xal zc199 ?_
  intro W6 x7 b8 nn9
  have s10 := x7.sz
  have z11 := z4.trans x7
  have z12 := x7
  refine vo ?_
  refine st1 (v := .func _ _ _) (cs' := [_]) b8 rfl rfl sz199 rfl rfl rfl rfl ?_
  intro W13 y14 b8
  have z15 := z11.below (y14.below (by omega))
  have z16 := z12.below (y14.below (by omega))
  have s17 := y14.size
  refine asf rfl ?_
  refine vnil ?_
  refine V.seq (V.reg rfl ?_)
  refine vv (rldb (v := .func _ _ _) rfl sc199 b8 rfl) ?_
  refine vo ?_
  refine xcall e219 (put_ok _ _ _ _ _ _ _ (hC.ext z16) (by omega) (by omega) (by omega) (by simp) (by omega) (by omega) (by omega)) rfl rfl ?_
  rintro _ W8 ⟨rfl, hp, hC2⟩
  refine ⟨_, rfl, ?_⟩
  have hC1 := hC2
  have hz2 := (z15).below hp.1.below
  have b18 := b8.pk hp (by decide) (by omega) (by omega)
  have s8 := hp.1.below.size; have lC2 := hC1.lt
  have z19 := Ext.refl W8
  refine vnil ?_
  refine V.seq ?_
  refine V.seq (V.reg rfl ?_)
  refine mvs rfl ?_
  refine mvs rfl ?_
  refine vo ?_
  refine xcall e217 (pairs_ok _ _ _ _ _ _ _) rfl rfl ?_
  rintro _ W20 ⟨b1, b2, eb1, eb2, rfl, x21, hb1, hb2⟩
  have s22 := x21.sz
  have z23 := hz2.trans x21
  have z24 := x21
  replace b18 := b18.ext x21
  have lb1 := hb1.lt; have lb2 := hb2.lt
  refine ⟨_, rfl, ?_⟩
  refine vnil ?_
  refine V.block ?_
  refine V.rf (gf := 221) rfl e221 (pairs_iter hb1 hb2 ((hx.sub (S' := fun q => q < w.heap.size ∨ q = b1 ∨ q = b2) (fun b hb _ => .inl hb)).ext z23) ((hy.sub (S' := fun q => q < w.heap.size ∨ q = b1 ∨ q = b2) (fun b hb _ => .inl hb)).ext z23) (.inr (.inl rfl)) (.inr (.inr rfl))) (Ext.refl _) (by rintro k (h | rfl | rfl) <;> omega) rfl (fun i X => ∃ out cy, AI w 199 W1.heap.size bo bc b1 b2 (.func (.func 219) #[] #[.pointer (some ⟨bc, 0, none⟩), .pointer (some ⟨bo, 0, none⟩)]) (.slice a1 n c) (.slice a2 m d) out cy X ∧ out.length = i + 1 ∧ 0 ≤ cy ∧ cy ≤ 1 ∧ Dg b32 out ∧ vl b32 out + b32 ^ (i + 1) * cy = b32 * (vl b32 (xs.take i) - vl b32 (ys.take i) + b32 ^ i)) (fun _ _ _ => False) (fun i X Y ⟨out, cy, hA, h1, h2⟩ t => ⟨out, cy, hA.tn t (by omega), h1, h2⟩) (fun _ _ _ _ h _ => h) (⟨_, _, ⟨z23, (hC1.ext z24), b18, hb1, hb2⟩, rfl, by simp, by simp, by simp [Dg, b32], by simp [vl, b32]⟩) ?_ ?_ ?_
  · intro l25 i26 X27 hi28 hM29 hk30 hs31
    refine V.seq (V.reg rfl ?_)
    refine asi rfl ?_
    refine vnil ?_
    refine V.reg rfl ?_
    refine asi rfl ?_
    refine vnil ?_
    refine ⟨rfl, Kf.refl _ _ _, ?_⟩
    intro Z32 t33
    obtain ⟨out, cy, hA, hlen, hinv⟩ := hi28
    replace hA := hA.tn t33 (by omega)
    have x5 := hA.x5; have kx := hx.wdb (by simp [kb]) i26; have ky := hy.wdb (by simp [kb]) i26; simp only [kb] at kx ky
    refine V.block ?_
    refine V.reg rfl ?_
    refine vv (rldb (v := .func _ _ _) rfl sc199 x5 rfl) ?_
    refine mvi rfl ?_
    refine vv (rbin (bAdd (wu (by omega))) rfl rfl) ?_
    refine vv (rbin (bSub (wu (by omega))) rfl rfl) ?_
    refine mvi rfl ?_
    refine vv (rbin (bSub (wu (by omega))) rfl rfl) ?_
    refine vo ?_
    refine xcall e219 (put_ok _ _ _ _ _ _ _ hA.cr (by omega) (by omega) (by omega) (by omega) (by omega) (by omega) (by omega)) rfl rfl ?_
    rintro _ W9 ⟨rfl, hp, hC2⟩
    refine ⟨_, rfl, ?_⟩
    refine vnil ?_
    refine ⟨⟨hp.1.keeps _, hp.kd ?_⟩, _, _, hA.put hp hC2 (by decide) (by omega) (by omega) (by omega), by simp; omega, ?_⟩
    · rintro q (h | rfl | rfl)
      · exact .inl h
      · exact .inr ⟨by omega, by omega, _, _, by decide, hA.x1⟩
      · exact .inr ⟨by omega, by omega, _, _, by decide, hA.x2⟩
    · exact ⟨by omega, by omega, Dg.append.2 ⟨hinv.2.2.1, by simp [Dg, b32]; omega⟩, sub_step hlen hinv.2.2.2 rfl (by unfold b32; omega)⟩
  · intro D34 X35 hD36 hI37 hdf38 hs39
    obtain ⟨out, cy, hA, hlen, hinv⟩ := hI37
    refine V.seq (V.reg rfl ?_)
    refine mvf rfl ?_
    refine vo ?_
    refine xcall e220 (all_ok _ _ _ _ _ _ hA.cr (by omega) (by omega)) rfl rfl ?_
    rintro _ W9 ⟨a', n', c', rfl, hk, hO⟩
    refine ⟨_, rfl, ?_⟩
    have hO9 := hO.rn (S := fun q => w.heap.size ≤ q) (fun b hb _ => hb)
    have ln9 : out.length + 1 = n' := by have := hO9.len; simpa using this
    refine ass rfl ?_
    refine vnil ?_
    refine V.seq (V.reg rfl ?_)
    refine mvs rfl ?_
    refine mvs rfl ?_
    refine vv (rlen sl44 rfl) ?_
    refine vv (rbin (bSub (wi (by omega))) rfl rfl) ?_
    have hsl := (hO9).cut (l := 1) (m := n + 1) (by omega) (by omega)
    refine vv (rsll (l := 1) (m := n + 1) hO9 sl44 sz164 rfl rfl rfl (by omega) (by omega) (by omega) (by omega)) ?_
    refine ass rfl ?_
    refine vnil ?_
    refine V.ret ?_
    refine ⟨D34, rfl, (hk.recs _ _ hdf38 rfl), ?_⟩
    have tp := Tn.putObj (B := w.heap.size) (.deferred none) (hk.recs _ _ hdf38 rfl) (by omega) rfl
    refine ⟨[.slice _ _ _], ⟨rfl, trivial⟩, ?_⟩
    have tp := Tn.putObj (B := w.heap.size) (.deferred none) (hk.recs _ _ hdf38 rfl) (by omega) rfl
    refine ⟨_, ⟨_, _, _, rfl, tp.ext (hA.ext.below hk.below) (Nat.le_refl _), (hsl.ck (tp.ck _)).sub (fun b _ hb => hu b hb)⟩, ?_, by simp; omega⟩
    obtain ⟨i1, i2, i3, i4⟩ := hinv
    rw [show max n m = n by omega] at hlen i4
    rw [List.take_of_length_le (by omega), List.take_of_length_le (by omega)] at i4
    match out, hlen, i3, i4 with
    | o :: t, hlen, i3, i4 =>
      have ht : t.length = n := by simpa using hlen
      have e : ((o :: t ++ [cy % 4294967296]).take (n + 1)).drop 1 = t := by subst ht; simp
      rw [e]
      have hq := vl_lt (B := b32) (by decide) hx.dg32
      rw [hx.len] at hq
      exact sub_end (by decide) i3 ht i1 i2 i4 hq hle (vl_nonneg (by decide) hy.dg32)
  · intro _ _ _ _ _ _ h; exact h.elim

theorem dg_len_lt {u v : Int} (hv : 0 ≤ v) (hu : 0 ≤ u) (h : (dg b32 u).length < (dg b32 v).length) : u < v := by
  rcases Int.lt_or_le u v with h1 | h1
  · exact h1
  · have h2 := vl_lt (B := b32) (by decide) (Dg.dg (by decide) u)
    rw [vl_dg (by decide) hu] at h2
    have := dg_length_le (B := b32) (by decide) (show v < b32 ^ (dg b32 u).length by omega)
    omega
theorem cmp_step {xs ys : List Int} {i : Nat} {cy s : Int} (hx : Dg b32 xs) (hy : Dg b32 ys) (hlx : i < xs.length) (hly : i < ys.length) (h : cy = sg (vl b32 (xs.take i) - vl b32 (ys.take i)))
    (hs : (wd xs i < wd ys i ∧ s = -1) ∨ (wd ys i < wd xs i ∧ s = 1) ∨ (wd xs i = wd ys i ∧ s = cy)) : s = sg (vl b32 (xs.take (i + 1)) - vl b32 (ys.take (i + 1))) := by
  rw [vl_take_succ, vl_take_succ]
  have p1 := vl_nonneg (B := b32) (by decide) (hx.take i)
  have p2 := vl_nonneg (B := b32) (by decide) (hy.take i)
  have q1 := vl_lt (B := b32) (by decide) (hx.take i)
  have q2 := vl_lt (B := b32) (by decide) (hy.take i)
  rw [List.length_take, Nat.min_eq_left (by omega)] at q1 q2
  generalize vl b32 (xs.take i) = X at *
  generalize vl b32 (ys.take i) = Y at *
  generalize wd xs i = x at *
  generalize wd ys i = y at *
  have hp : 0 < b32 ^ i := pow_pos' (by decide) i
  generalize b32 ^ i = q at *
  rcases hs with ⟨h1, rfl⟩ | ⟨h1, rfl⟩ | ⟨h1, rfl⟩
  · have : q * x + q ≤ q * y := by
      have := Int.mul_le_mul_of_nonneg_left (show x + 1 ≤ y by omega) (Int.le_of_lt hp)
      rw [Int.mul_add] at this; omega
    unfold sg; rw [if_pos (by omega)]
  · have : q * y + q ≤ q * x := by
      have := Int.mul_le_mul_of_nonneg_left (show y + 1 ≤ x by omega) (Int.le_of_lt hp)
      rw [Int.mul_add] at this; omega
    unfold sg; rw [if_neg (by omega), if_neg (by omega)]
  · subst h1; rw [h]; congr 1; omega
theorem sg_cmp {u v s : Int} (h : s = sg (u - v)) : (s < 0 ↔ u < v) ∧ (s = 0 ↔ u = v) := by
  unfold sg at h
  split at h
  · omega
  · split at h <;> omega
structure CI (w : World) (b6 b1 b2 : Nat) (v1 v2 : Value) (cy : Int) (X : World) : Prop where
  ext : Ext w X
  x6 : BoxAt X b6 [.int .i64 cy] 3
  x1 : BoxAt X b1 [v1] 44
  x2 : BoxAt X b2 [v2] 44
theorem CI.tn {w X Y : World} {B b6 b1 b2 : Nat} {v1 v2 : Value} {cy : Int} (h : CI w b6 b1 b2 v1 v2 cy X) (t : Tn B X Y) (hB : w.heap.size ≤ B) : CI w b6 b1 b2 v1 v2 cy Y :=
  ⟨t.ext h.ext hB, h.x6.tn t, h.x1.tn t, h.x2.tn t⟩

set_option maxHeartbeats 400000 in
theorem cmp_ok (a1 a2 : Option Addr) (n c m d : Nat) (u v : Int) (S1 S2 : Nat → Prop) (w : World) (hx : RN .u32 S1 w a1 n c (dg b32 u)) (hy : RN .u32 S2 w a2 m d (dg b32 v)) (hu : 0 ≤ u) (hv : 0 ≤ v) :
    Calls Tryz.prog 207 #[.slice a1 n c, .slice a2 m d] w (fun e w' => ∃ s, e = .returned (.int .i64 s) ∧ Ext w w' ∧ (s < 0 ↔ u < v) ∧ (s = 0 ↔ u = v)) := by
  have z0 := Ext.refl w; have hLX : LX = 17592186044416 := rfl; have hLY : LY = 8796093022208 := rfl
  have l1 := hx.len; have l2 := hy.len; have q1 := hx.cap; have q2 := hy.cap; have q3 := hx.max; have q4 := hy.max
  refine enter (args := [.slice a1 n c, .slice a2 m d]) Tryz.func207 rfl rfl (Nat.le_of_ble_eq_true rfl) ?_
  refine V.seq (V.reg rfl ?_)
  refine asi rfl ?_
  refine vnil ?_
  refine V.seq ?_
  refine V.seq (V.reg rfl ?_)
  refine mvs rfl ?_
  refine vv (rlen sl44 rfl) ?_
  refine mvs rfl ?_
  refine vv (rlen sl44 rfl) ?_
  refine vv (rbin (bSub (wi (by omega))) rfl rfl) ?_
  refine asi rfl ?_
  refine vnil ?_
  refine V.seq (V.reg rfl ?_)
  refine mvi rfl ?_
  refine vne rfl rfl ?_ ?_
  · intro c1
    refine vnil ?_
    refine V.condT rfl ?_
    refine V.seq (V.reg rfl ?_)
    refine mvi rfl ?_
    refine asi rfl ?_
    refine vnil ?_
    refine V.ret ?_
    refine ⟨[.int _ _], ⟨rfl, trivial⟩, ?_⟩
    refine ⟨_, rfl, (Ext.refl w), ?_⟩
    have e1 := @dg_len_lt u v hv hu
    have e2 := @dg_len_lt v u hu hv
    rw [hx.len, hy.len] at e1 e2
    refine ⟨⟨fun h => e1 (by omega), fun h => ?_⟩, ⟨fun h => by omega, fun h => ?_⟩⟩
    · rcases Nat.lt_trichotomy n m with h1 | h1 | h1
      · omega
      · omega
      · have := e2 h1; omega
    · subst h; have := hx.len; have := hy.len; omega
  · intro c1
    refine vnil ?_
    refine V.condF rfl ?_
    refine V.skip ?_
    refine V.seq (V.reg rfl ?_)
    refine vo ?_
    refine xal zc3 ?_
    intro W2 x3 b4 nn5
    have s6 := x3.sz
    have z7 := x3
    refine vo ?_
    refine st1 (v := .int _ _) (cs' := [_]) b4 rfl rfl sz3 rfl rfl rfl rfl ?_
    intro W8 y9 b4
    have z10 := z7.below (y9.below (by omega))
    have s11 := y9.size
    refine vnil ?_
    refine V.seq ?_
    refine V.seq (V.reg rfl ?_)
    refine mvs rfl ?_
    refine mvs rfl ?_
    refine vo ?_
    refine xcall e217 (pairs_ok _ _ _ _ _ _ _) rfl rfl ?_
    rintro _ W12 ⟨b1, b2, eb1, eb2, rfl, x13, hb1, hb2⟩
    have s14 := x13.sz
    have z15 := z10.trans x13
    replace b4 := b4.ext x13
    have lb1 := hb1.lt; have lb2 := hb2.lt
    refine ⟨_, rfl, ?_⟩
    refine vnil ?_
    refine V.block ?_
    refine V.rf (gf := 221) rfl e221 (pairs_iter hb1 hb2 ((hx.sub (S' := fun q => q < w.heap.size ∨ q = b1 ∨ q = b2) (fun b hb _ => .inl hb)).ext z15) ((hy.sub (S' := fun q => q < w.heap.size ∨ q = b1 ∨ q = b2) (fun b hb _ => .inl hb)).ext z15) (.inr (.inl rfl)) (.inr (.inr rfl))) (Ext.refl _) (by rintro k (h | rfl | rfl) <;> omega) rfl (fun i X => ∃ cy, CI w (w.heap.size) b1 b2 (.slice a1 n c) (.slice a2 m d) cy X ∧ cy = sg (vl b32 ((dg b32 u).take i) - vl b32 ((dg b32 v).take i))) (fun _ _ _ => False) (fun i X Y ⟨cy, hA, h1⟩ t => ⟨cy, hA.tn t (by omega), h1⟩) (fun _ _ _ _ h _ => h) (⟨_, ⟨z15, b4, hb1, hb2⟩, by simp [vl, sg]⟩) ?_ ?_ ?_
    · intro l16 i17 X18 hi19 hM20 hk21 hs22
      refine V.seq (V.reg rfl ?_)
      refine asi rfl ?_
      refine vnil ?_
      refine V.reg rfl ?_
      refine asi rfl ?_
      refine vnil ?_
      refine ⟨rfl, Kf.refl _ _ _, ?_⟩
      intro Z23 t24
      obtain ⟨cy, hA, hinv⟩ := hi19
      replace hA := hA.tn t24 (by omega); have x6 := hA.x6
      refine V.block ?_
      refine V.block ?_
      refine V.seq (V.reg rfl ?_)
      refine mvi rfl ?_
      refine mvi rfl ?_
      refine vlt rfl rfl ?_ ?_
      · intro c25
        refine asb rfl ?_
        refine vnil ?_
        refine V.condT rfl ?_
        refine V.reg rfl ?_
        refine vo ?_
        refine st1 (v := .int _ _) (cs' := [_]) x6 rfl rfl sz3 rfl rfl rfl rfl ?_
        intro W26 y27 x6
        have s28 := y27.size
        refine vnil ?_
        exact ⟨Kf.wr y27 hA.x6 (by rintro (h | h | h) <;> omega), _, ⟨hA.ext.below (y27.below (by omega)), x6, hA.x1.wr y27 (by omega), hA.x2.wr y27 (by omega)⟩, cmp_step hx.dg32 hy.dg32 (by omega) (by omega) hinv (.inl ⟨by assumption, rfl⟩)⟩
      · intro c25
        refine asb rfl ?_
        refine vnil ?_
        refine V.condF rfl ?_
        refine V.seq (V.reg rfl ?_)
        refine mvi rfl ?_
        refine mvi rfl ?_
        refine vgt rfl rfl ?_ ?_
        · intro c29
          refine asb rfl ?_
          refine vnil ?_
          refine V.condT rfl ?_
          refine V.reg rfl ?_
          refine vo ?_
          refine st1 (v := .int _ _) (cs' := [_]) x6 rfl rfl sz3 rfl rfl rfl rfl ?_
          intro W30 y31 x6
          have s32 := y31.size
          refine vnil ?_
          exact ⟨Kf.wr y31 hA.x6 (by rintro (h | h | h) <;> omega), _, ⟨hA.ext.below (y31.below (by omega)), x6, hA.x1.wr y31 (by omega), hA.x2.wr y31 (by omega)⟩, cmp_step hx.dg32 hy.dg32 (by omega) (by omega) hinv (.inr (.inl ⟨by assumption, rfl⟩))⟩
        · intro c29
          refine asb rfl ?_
          refine vnil ?_
          refine V.condF rfl ?_
          refine V.skip ?_
          exact ⟨Kf.refl _ _ _, _, hA, cmp_step hx.dg32 hy.dg32 (by omega) (by omega) hinv (.inr (.inr ⟨by omega, rfl⟩))⟩
    · intro D33 X34 hD35 hI36 hdf37 hs38
      obtain ⟨cy, hA, hinv⟩ := hI36
      have x6 := hA.x6
      refine V.seq (V.reg rfl ?_)
      refine vv (rldb (v := .int _ _) rfl sc3 x6 rfl) ?_
      refine asi rfl ?_
      refine vnil ?_
      refine V.ret ?_
      refine ⟨D33, rfl, hdf37, ?_⟩
      have tp := Tn.putObj (B := w.heap.size) (.deferred none) hdf37 (by omega) rfl
      have x6 := x6.tn tp
      have z39 := tp.ext hA.ext (Nat.le_refl _)
      refine ⟨[.int _ _], ⟨rfl, trivial⟩, ?_⟩
      have tp := Tn.putObj (B := w.heap.size) (.deferred none) hdf37 (by omega) rfl
      rw [show max n m = n by omega, List.take_of_length_le (by omega), List.take_of_length_le (by omega), vl_dg (by decide) hu, vl_dg (by decide) hv] at hinv
      exact ⟨_, rfl, tp.ext hA.ext (Nat.le_refl _), sg_cmp hinv⟩
    · intro _ _ _ _ _ _ h; exact h.elim
end Go.Proofs.YtknbjfefeeojlaaGreat
/- Package whole: mul, small, div. -/
namespace Go.Proofs.YtknbjfefeeojlaaGreat
open Go.RowKit
attribute [local irreducible] RV VH V OpF Calls
theorem mul_bd {x y M N : Int} (h0 : 0 ≤ x) (h1 : x ≤ M) (h2 : 0 ≤ y) (h3 : y ≤ N) : 0 ≤ x * y ∧ x * y ≤ M * N :=
  ⟨Int.mul_nonneg h0 h2, Int.mul_le_mul h1 h3 h2 (Int.le_trans h0 h1)⟩
theorem vl_set {B : Int} : ∀ (xs : List Int) (i : Nat) (z : Int), i < xs.length → vl B (xs.set i z) = vl B xs + B ^ i * (z - wd xs i)
  | [], _, _, h => by simp at h
  | x :: xs, 0, z, _ => by simp [vl, wd]; omega
  | x :: xs, i + 1, z, h => by
    rw [List.set_cons_succ, vl_cons, vl_cons, vl_set xs i z (by simpa using h), Int.pow_succ]
    have : wd (x :: xs) ((i + 1 : Nat) : Int) = wd xs i := by simp only [wd, Int.toNat_natCast, List.getD_cons_succ]
    rw [this]
    grind
theorem vl_set' {B z : Int} {xs : List Int} {i : Int} (h0 : 0 ≤ i) (h : i < xs.length) : vl B (xs.set i.toNat z) = vl B xs + B ^ i.toNat * (z - wd xs i) := by
  have := vl_set (B := B) xs i.toNat z (by omega)
  rwa [show ((i.toNat : Nat) : Int) = i by omega] at this
theorem wd_set_ne {xs : List Int} {i : Nat} {j z : Int} (h : j.toNat ≠ i) : wd (xs.set i z) j = wd xs j := by
  simp only [wd, List.getD_eq_getElem?_getD, List.getElem?_set]
  rw [if_neg (fun e => h e.symm)]
theorem vl_zeros (B : Int) : ∀ n, vl B (List.replicate n 0) = 0
  | 0 => rfl
  | n + 1 => by rw [List.replicate_succ, vl_cons, vl_zeros B n]; simp
theorem wd_zeros (n : Nat) (i : Int) : wd (List.replicate n 0) i = 0 := by
  simp only [wd, List.getD_eq_getElem?_getD, List.getElem?_replicate]; split <;> rfl
theorem mul_in {B c hi lo x q2 q3 os : Int} {i k : Nat} {A Y Yk : Int} (h : os + B ^ (i + k) * c = A * Y + B ^ i * x * Yk) (h2 : B * hi + lo = c + (x * q2 + q3)) :
    os + B ^ (i + k) * (lo - q3) + B ^ (i + (k + 1)) * hi = A * Y + B ^ i * x * (Yk + B ^ k * q2) := by
  have e1 : B ^ (i + (k + 1)) = B ^ i * B ^ k * B := by rw [← Nat.add_assoc, Int.pow_succ, Int.pow_add]
  have e2 : B ^ (i + k) = B ^ i * B ^ k := Int.pow_add ..
  rw [e1]; rw [e2] at h ⊢
  clear e1 e2
  generalize B ^ i = p at *
  generalize B ^ k = r at *
  have e3 : p * r * (B * hi + lo) = p * r * (c + (x * q2 + q3)) := by rw [h2]
  grind
theorem mul_in2 {os ys : List Int} {p k : Nat} {c x y o v A Y : Int} (hl : p + k < os.length) (ho : o = wd os ((p : Int) + k)) (hy : y = wd ys k) (hv : v = c + (x * y + o)) (h : vl b32 os + b32 ^ (p + k) * c = A * Y + b32 ^ p * x * vl b32 (ys.take k)) :
    vl b32 (os.set ((p : Int) + k).toNat (v % 4294967296)) + b32 ^ (p + (k + 1)) * (v / 4294967296) = A * Y + b32 ^ p * x * vl b32 (ys.take (k + 1)) := by
  rw [vl_set' (by omega) (by omega), vl_take_succ, show ((p : Int) + k).toNat = p + k by omega, ← ho, ← hy]
  exact mul_in h (by unfold b32; omega)
theorem mul_out {os xs ys : List Int} {p m : Nat} {c x : Int} (hm : ys.length = m) (hl : p + m < os.length) (hx : x = wd xs p) (hz : wd os ((p + m : Nat) : Int) = 0) (c0 : 0 ≤ c) (c1 : c ≤ 4294967295) (h : vl b32 os + b32 ^ (p + m) * c = vl b32 (xs.take p) * vl b32 ys + b32 ^ p * x * vl b32 (ys.take m)) :
    vl b32 (os.set ((p : Int) + m).toNat (c % 4294967296)) = vl b32 (xs.take (p + 1)) * vl b32 ys := by
  rw [vl_set' (by omega) (by omega), vl_take_succ, show ((p : Int) + m).toNat = p + m by omega, Int.emod_eq_of_lt c0 (by omega)]
  rw [show ((p + m : Nat) : Int) = (p : Int) + m by omega] at hz
  rw [hz, Int.sub_zero, h, List.take_of_length_le (l := ys) (by omega), ← hx, Int.add_mul]

set_option maxHeartbeats 400000 in
theorem mul_ok (a1 a2 : Option Addr) (n c m d : Nat) (xs ys : List Int) (S S1 S2 : Nat → Prop) (w : World) (hx : RN .u32 S1 w a1 n c xs) (hy : RN .u32 S2 w a2 m d ys) (hn : n ≤ LX) (hm : m ≤ LX) (hu : Up S w) :
    Calls Tryz.prog 205 #[.slice a1 n c, .slice a2 m d] w (fun e w' => ∃ zs, PW S zs w e w' ∧ vl b32 zs = vl b32 xs * vl b32 ys ∧ zs.length = n + m) := by
  have z0 := Ext.refl w; have hLX : LX = 17592186044416 := rfl; have hLY : LY = 8796093022208 := rfl
  have l1 := hx.len; have l2 := hy.len
  refine enter (args := [.slice a1 n c, .slice a2 m d]) Tryz.func205 rfl rfl (Nat.le_of_ble_eq_true rfl) ?_
  refine V.seq (V.reg rfl ?_)
  refine ass rfl ?_
  refine vnil ?_
  refine V.seq (V.reg rfl ?_)
  refine mvs rfl ?_
  refine vv (rlen sl44 rfl) ?_
  refine mvs rfl ?_
  refine vv (rlen sl44 rfl) ?_
  refine vv (rbin (bAdd (wi (by omega))) rfl rfl) ?_
  refine vo ?_
  refine xmk (n + m) sl44 in164 (by simp [kb]) rfl rfl (by omega) (by omega) (by omega) ?_
  intro W1 x2 out n3
  have s4 := x2.sz
  have z5 := x2
  refine ass rfl ?_
  refine vnil ?_
  refine V.seq ?_
  refine V.seq (V.reg rfl ?_)
  refine mvs rfl ?_
  refine vv (rlen sl44 rfl) ?_
  refine mvi rfl ?_
  refine vnil ?_
  refine V.block ?_
  refine V.loopK (ι := Nat × List Int) [(1, .slice _ _ _), (4, .slice _ _ _), (5, .slice _ _ _), (17, .slice _ _ _), (18, .int _ _)] (fun ⟨p, os⟩ => [(19, .int .i64 (p : Int))]) (fun ⟨p, os⟩ W => Ext w W ∧ p ≤ n ∧ AR .u32 W (w.heap.size) 164 (n + m) os ∧ vl b32 os = vl b32 (xs.take p) * vl b32 ys ∧ ∀ j : Nat, p + m ≤ j → wd os j = 0) (fun ⟨p, os⟩ => n - p) ((0, _)) ⟨rfl, rfl, rfl, rfl, rfl, trivial⟩ ⟨rfl, trivial⟩ ⟨z5, Nat.zero_le _, out, by simp [vl_zeros, vl], fun j _ => wd_zeros _ _⟩ ?_
  intro i7 E8 W6 h9
  obtain ⟨p, os⟩ := i7
  simp only at h9
  show V _ _ _ _ _ _ (ups (ups _ _) [(19, .int .i64 (p : Int))]) _
  obtain ⟨x10, hp, hA, hinv, hz⟩ := h9
  have s11 := x10.sz
  have z12 := x10
  have lA := hA.len; have lb := hA.box.lt
  refine V.seq (V.reg rfl ?_)
  refine vlt rfl rfl ?_ ?_
  · intro c13
    refine vnil ?_
    refine V.seq ?_
    refine V.condT rfl ?_
    refine V.skip ?_
    refine V.seq ?_
    refine V.block ?_
    refine V.seq (V.reg rfl ?_)
    refine mvi rfl ?_
    refine vv (rixn (hx.ext z12) sl44 sz164 rfl rfl (by omega) (by omega)) ?_
    refine vldN (hx.ext z12) rfl sc164 (by omega) (by omega) ?_
    intro q14 hq14 hk15
    simp only [kb] at hk15
    refine asi rfl ?_
    refine asi rfl ?_
    refine vnil ?_
    refine V.seq (V.reg rfl ?_)
    refine asi rfl ?_
    refine vnil ?_
    refine V.seq ?_
    refine V.seq (V.reg rfl ?_)
    refine mvs rfl ?_
    refine vv (rlen sl44 rfl) ?_
    refine mvi rfl ?_
    refine vnil ?_
    refine V.block ?_
    refine V.loopK (ι := Nat × List Int × Int) [(1, .slice _ _ _), (4, .slice _ _ _), (5, .slice _ _ _), (6, .int _ _), (7, .int _ _), (17, .slice _ _ _), (18, .int _ _), (19, .int _ _), (20, .bool true), (21, .int _ _), (22, .pointer _), (23, .int _ _), (24, .slice _ _ _), (25, .int _ _)] (fun ⟨k, os, cy⟩ => [(26, .int .i64 (k : Int)), (8, .int .u64 cy)]) (fun ⟨k, os, cy⟩ W => Ext w W ∧ k ≤ m ∧ AR .u32 W (w.heap.size) 164 (n + m) os ∧ 0 ≤ cy ∧ cy ≤ 4294967295 ∧ vl b32 os + b32 ^ (p + k) * cy = vl b32 (xs.take p) * vl b32 ys + b32 ^ p * q14 * vl b32 (ys.take k) ∧ ∀ j : Nat, p + m ≤ j → wd os j = 0) (fun ⟨k, os, cy⟩ => m - k) ((0, _, _)) ⟨rfl, rfl, rfl, rfl, rfl, rfl, rfl, rfl, rfl, rfl, rfl, rfl, rfl, rfl, trivial⟩ ⟨rfl, rfl, trivial⟩ ⟨z12, Nat.zero_le _, hA, by omega, by omega, by simp [hinv, vl], hz⟩ ?_
    intro i17 E18 W16 h19
    obtain ⟨k, os, cy⟩ := i17
    simp only at h19
    show V _ _ _ _ _ _ (ups (ups _ _) [(26, .int .i64 (k : Int)), (8, .int .u64 cy)]) _
    obtain ⟨x20, hk, hA, c0, c1, hinv, hz⟩ := h19
    have s21 := x20.sz
    have z22 := x20
    have lA := hA.len; have lb := hA.box.lt
    refine V.seq (V.reg rfl ?_)
    refine vlt rfl rfl ?_ ?_
    · intro c23
      refine vnil ?_
      refine V.seq ?_
      refine V.condT rfl ?_
      refine V.skip ?_
      refine V.seq ?_
      refine V.block ?_
      refine V.seq (V.reg rfl ?_)
      refine mvi rfl ?_
      refine vv (rixn (hy.ext z22) sl44 sz164 rfl rfl (by omega) (by omega)) ?_
      refine vldN (hy.ext z22) rfl sc164 (by omega) (by omega) ?_
      intro q24 hq24 hk25
      simp only [kb] at hk25
      refine asi rfl ?_
      refine asi rfl ?_
      refine vnil ?_
      refine V.seq (V.reg rfl ?_)
      refine mvi rfl ?_
      refine mvi rfl ?_
      refine vv (rcv Tryz.underlying164 Tryz.underlying162 rfl (wu (by omega))) ?_
      refine mvi rfl ?_
      refine vv (rcv Tryz.underlying164 Tryz.underlying162 rfl (wu (by omega))) ?_
      have hxy := mul_bd hk15.1 hk15.2 hk25.1 hk25.2
      refine vv (rbin (bMul (wu (by omega))) rfl rfl) ?_
      refine mvs rfl ?_
      refine mvi rfl ?_
      refine mvi rfl ?_
      refine vv (rbin (bAdd (wi (by omega))) rfl rfl) ?_
      refine vv (rix sl44 sz164 rfl rfl (by omega) (by omega) rfl) ?_
      refine vldN (hA.rn (S := fun _ => True) trivial) rfl sc164 (by omega) (by omega) ?_
      intro q26 hq26 hk27
      simp only [kb] at hk27
      refine vv (rcv Tryz.underlying164 Tryz.underlying162 rfl (wu (by omega))) ?_
      refine vv (rbin (bAdd (wu (by omega))) rfl rfl) ?_
      refine vv (rbin (bAdd (wu (by omega))) rfl rfl) ?_
      refine asi rfl ?_
      refine vnil ?_
      refine V.reg rfl ?_
      refine mvs rfl ?_
      refine mvi rfl ?_
      refine mvi rfl ?_
      refine vv (rbin (bAdd (wi (by omega))) rfl rfl) ?_
      refine mvi rfl ?_
      refine vv (rcv Tryz.underlying162 Tryz.underlying164 rfl (m32 _)) ?_
      refine mvi rfl ?_
      refine vv (rshr (n := 32) rfl rfl (by decide) (shr32 _)) ?_
      refine vv (rix sl44 sz164 rfl rfl (by omega) (by omega) rfl) ?_
      refine vo ?_
      refine xsti hA rfl rfl sz164 (by simp only [kb]; omega) (by omega) (by omega) ?_
      intro W28 y29 hA
      have z30 := z22.below (y29.below (by omega))
      have s31 := y29.size
      refine asi rfl ?_
      refine vnil ?_
      refine V.reg rfl ?_
      refine vv (rbin (bAdd (wi (by omega))) rfl rfl) ?_
      refine mvi rfl ?_
      refine vnil ?_
      refine ⟨rfl, (k + 1, _, _), ⟨rfl, rfl, rfl, rfl, rfl, rfl, rfl, rfl, rfl, rfl, rfl, rfl, rfl, rfl, trivial⟩, ⟨rfl, rfl, trivial⟩, ⟨z30, by omega, hA, by omega, by omega, mul_in2 (by omega) hq26 hq24 rfl hinv, fun j hj => (wd_set_ne (by omega)).trans (hz j hj)⟩, ?_⟩
      show m - (k + 1) < m - k
      omega
    · intro c23
      refine vnil ?_
      refine V.seq ?_
      refine V.condF rfl ?_
      refine V.exit ?_
      refine V.reg rfl ?_
      refine mvs rfl ?_
      refine mvi rfl ?_
      refine mvs rfl ?_
      refine vv (rlen sl44 rfl) ?_
      refine vv (rbin (bAdd (wi (by omega))) rfl rfl) ?_
      refine mvi rfl ?_
      refine vv (rcv Tryz.underlying162 Tryz.underlying164 rfl (m32 _)) ?_
      refine vv (rix sl44 sz164 rfl rfl (by omega) (by omega) rfl) ?_
      refine vo ?_
      refine xsti hA rfl rfl sz164 (by simp only [kb]; omega) (by omega) (by omega) ?_
      intro W32 y33 hA
      have z34 := z22.below (y33.below (by omega))
      have s35 := y33.size
      refine vnil ?_
      refine V.reg rfl ?_
      refine vv (rbin (bAdd (wi (by omega))) rfl rfl) ?_
      refine mvi rfl ?_
      refine vnil ?_
      refine ⟨rfl, (p + 1, _), ⟨rfl, rfl, rfl, rfl, rfl, trivial⟩, ⟨rfl, trivial⟩, ⟨z34, by omega, hA, mul_out l2 (by omega) hq14 (hz _ (by omega)) c0 c1 (by rw [show m = k by omega]; exact hinv), fun j hj => (wd_set_ne (by omega)).trans (hz j (by omega))⟩, ?_⟩
      show n - (p + 1) < n - p
      omega
  · intro c13
    refine vnil ?_
    refine V.seq ?_
    refine V.condF rfl ?_
    refine V.exit ?_
    refine V.seq (V.reg rfl ?_)
    refine mvs rfl ?_
    refine ass rfl ?_
    refine vnil ?_
    refine V.ret ?_
    refine ⟨[.slice _ _ _], ⟨rfl, trivial⟩, ?_⟩
    refine ⟨os, ⟨_, _, _, rfl, z12, hA.rn (hu _ (by omega))⟩, ?_, lA⟩
    rw [hinv, List.take_of_length_le (by omega)]

theorem divmod_of {u v q r : Int} (h : u = q * v + r) (h0 : 0 ≤ r) (h1 : r < v) : q = u / v ∧ r = u % v := by
  have := Int.ediv_emod_unique (a := u) (b := v) (r := r) (q := q) (by omega)
  have e : r + v * q = u := by rw [h, Int.mul_comm v]; omega
  exact ⟨(this.2 ⟨e, h0, h1⟩).1.symm, (this.2 ⟨e, h0, h1⟩).2.symm⟩
theorem div_facts {v r x : Int} (hv : 1 ≤ v) (r0 : 0 ≤ r) (r1 : r < v) (x0 : 0 ≤ x) (x1 : x ≤ 4294967295) : 0 ≤ (r * 4294967296 + x) / v ∧ (r * 4294967296 + x) / v ≤ 4294967295 ∧ 0 ≤ (r * 4294967296 + x) % v ∧ (r * 4294967296 + x) % v < v ∧ r * 4294967296 + x = ((r * 4294967296 + x) / v % 4294967296) * v + (r * 4294967296 + x) % v := by
  have h0 : 0 ≤ (r * 4294967296 + x) / v := Int.ediv_nonneg (by omega) (by omega)
  have h1 : (r * 4294967296 + x) / v < 4294967296 := Int.ediv_lt_of_lt_mul (by omega) (by omega)
  refine ⟨h0, by omega, Int.emod_nonneg _ (by omega), Int.emod_lt_of_pos _ (by omega), ?_⟩
  rw [Int.emod_eq_of_lt h0 h1]
  have := Int.mul_ediv_add_emod (r * 4294967296 + x) v
  rw [Int.mul_comm v] at this
  omega
theorem div_step {V Q R T x q r' : Int} {B : Int} {at_ : Nat} {u : Int} (h : u = Q * V + B ^ (at_ + 1) * R + (T + B ^ at_ * x)) (hq : R * B + x = q * V + r') : u = (Q + B ^ at_ * (q - 0)) * V + B ^ at_ * r' + T := by
  rw [Int.pow_succ] at h
  have : B ^ at_ * (R * B + x) = B ^ at_ * (q * V + r') := by rw [hq]
  grind
theorem small_step {qs xs : List Int} {k n : Nat} {V R x u : Int} (hk : k < n) (hq : qs.length = n) (hxl : xs.length = n) (hx : x = wd xs ((n : Int) - 1 - k)) (hz : ∀ j : Nat, j < n - k → wd qs j = 0)
    (h : u = vl b32 qs * V + b32 ^ (n - k) * R + vl b32 (xs.take (n - k))) {N q r' : Int} (hN : N = R * 4294967296 + x) (e : N = q * V + r') :
    u = vl b32 (qs.set ((n : Int) - 1 - k).toNat q) * V + b32 ^ (n - (k + 1)) * r' + vl b32 (xs.take (n - (k + 1))) := by
  obtain ⟨t, ht⟩ : ∃ t, n - k = t + 1 := ⟨n - k - 1, by omega⟩
  have e1 : n - (k + 1) = t := by omega
  have e2 : ((n : Int) - 1 - k) = (t : Int) := by omega
  rw [e2] at hx ⊢
  rw [ht, vl_take_succ, ← hx] at h
  rw [e1, vl_set' (by omega) (by omega), hz _ (by omega), Int.toNat_natCast]
  exact div_step h (by rw [← e, hN])

set_option maxHeartbeats 400000 in
theorem small_ok (a1 : Option Addr) (n c : Nat) (v : Int) (xs : List Int) (S S1 : Nat → Prop) (w : World) (hx : RN .u32 S1 w a1 n c xs) (hn : n ≤ LX) (hv0 : 1 ≤ v) (hv1 : v ≤ 4294967295) (hu : Up S w) :
    Calls Tryz.prog 218 #[.slice a1 n c, .int .u64 v] w (fun e w' => ∃ a m d r, e = .returned (.tuple #[.slice a m d, .int .u64 r]) ∧ Ext w w' ∧ RN .u32 S w' a m d (dg b32 (vl b32 xs / v)) ∧ r = vl b32 xs % v) := by
  have z0 := Ext.refl w; have hLX : LX = 17592186044416 := rfl; have hLY : LY = 8796093022208 := rfl
  have l1 := hx.len
  refine enter (args := [.slice a1 n c, .int .u64 v]) Tryz.func218 rfl rfl (Nat.le_of_ble_eq_true rfl) ?_
  refine V.seq (V.reg rfl ?_)
  refine ass rfl ?_
  refine asi rfl ?_
  refine vnil ?_
  refine V.seq (V.reg rfl ?_)
  refine mvs rfl ?_
  refine vv (rlen sl44 rfl) ?_
  refine vo ?_
  refine xmk (n) sl44 in164 (by simp [kb]) rfl rfl (by omega) (by omega) (by omega) ?_
  intro W1 x2 out n3
  have s4 := x2.sz
  have z5 := x2
  refine ass rfl ?_
  refine vnil ?_
  refine V.seq ?_
  refine V.seq (V.reg rfl ?_)
  refine mvs rfl ?_
  refine vv (rlen sl44 rfl) ?_
  refine mvi rfl ?_
  refine vnil ?_
  refine V.block ?_
  refine V.loopK (ι := Nat × List Int × Int) [(0, .slice _ _ _), (1, .int _ _), (4, .slice _ _ _), (12, .int _ _)] (fun ⟨k, qs, r⟩ => [(13, .int .i64 (k : Int)), (5, .int .u64 r)]) (fun ⟨k, qs, r⟩ W => Ext w W ∧ k ≤ n ∧ AR .u32 W (w.heap.size) 164 n qs ∧ 0 ≤ r ∧ r < v ∧ vl b32 xs = vl b32 qs * v + b32 ^ (n - k) * r + vl b32 (xs.take (n - k)) ∧ ∀ j : Nat, j < n - k → wd qs j = 0) (fun ⟨k, qs, r⟩ => n - k) ((0, _, _)) ⟨rfl, rfl, rfl, rfl, trivial⟩ ⟨rfl, rfl, trivial⟩ ⟨z5, Nat.zero_le _, out, by omega, by omega, by simp [vl_zeros, l1]; rw [List.take_of_length_le (by omega)], fun j _ => wd_zeros _ _⟩ ?_
  intro i7 E8 W6 h9
  obtain ⟨k, qs, r⟩ := i7
  simp only at h9
  show V _ _ _ _ _ _ (ups (ups _ _) [(13, .int .i64 (k : Int)), (5, .int .u64 r)]) _
  obtain ⟨x10, hk, hA, r0, r1, hinv, hz⟩ := h9
  have s11 := x10.sz
  have z12 := x10
  have lA := hA.len; have lb := hA.box.lt
  refine V.seq (V.reg rfl ?_)
  refine vlt rfl rfl ?_ ?_
  · intro c13
    refine vnil ?_
    refine V.seq ?_
    refine V.condT rfl ?_
    refine V.skip ?_
    refine V.seq ?_
    refine V.block ?_
    refine V.seq (V.reg rfl ?_)
    refine mvi rfl ?_
    refine asi rfl ?_
    refine vnil ?_
    refine V.seq (V.reg rfl ?_)
    refine mvs rfl ?_
    refine vv (rlen sl44 rfl) ?_
    refine vv (rbin (bSub (wi (by omega))) rfl rfl) ?_
    refine mvi rfl ?_
    refine vv (rbin (bSub (wi (by omega))) rfl rfl) ?_
    refine asi rfl ?_
    refine vnil ?_
    refine V.seq (V.reg rfl ?_)
    refine mvi rfl ?_
    refine vv (rshl (n := 32) rfl rfl (by decide) (shl32 (by omega))) ?_
    refine mvs rfl ?_
    refine mvi rfl ?_
    refine vv (rixn (hx.ext z12) sl44 sz164 rfl rfl (by omega) (by omega)) ?_
    refine vldN (hx.ext z12) rfl sc164 (by omega) (by omega) ?_
    intro q14 hq14 hk15
    simp only [kb] at hk15
    refine vv (rcv Tryz.underlying164 Tryz.underlying162 rfl (wu (by omega))) ?_
    refine vv (rbin (bAdd (wu (by omega))) rfl rfl) ?_
    obtain ⟨d0, d1, d2, d3, d4⟩ := div_facts hv0 r0 r1 hk15.1 hk15.2
    refine asi rfl ?_
    refine vnil ?_
    refine V.regT mixed rfl ?_
    intro W16 x17
    have s18 := x17.sz
    have z19 := z12.trans x17
    replace hA := hA.ext x17
    have q20 := Ext.refl W16
    have r21 := hA
    refine tk 0 rfl (by kernel_rfl) trivial (pv (fun _ y22 => rmv (v := .slice _ _ _) rfl)) ?_
    refine tk 1 rfl (by kernel_rfl) trivial (pv (fun _ y23 => rmv (v := .int _ _) rfl)) ?_
    refine tk 2 rfl (by kernel_rfl) trivial (pv (fun _ y24 => rmv (v := .int _ _) rfl)) ?_
    refine tk 3 rfl (by kernel_rfl) trivial (pv (fun _ y25 => rmv (v := .int _ _) rfl)) ?_
    refine tk 4 rfl (by kernel_rfl) trivial (pv (fun _ y26 => rbin (bQuo (by omega) (wuq (by rw [Int.tdiv_eq_ediv_of_nonneg (by omega)]; omega) (Int.tdiv_eq_ediv_of_nonneg (by omega)))) rfl rfl)) ?_
    refine tk 5 rfl (by kernel_rfl) trivial (pv (fun _ y27 => rcv Tryz.underlying162 Tryz.underlying164 rfl (m32 _))) ?_
    refine tk 6 rfl (by kernel_rfl) trivial (pv (fun _ y28 => rmv (v := .int _ _) rfl)) ?_
    refine tk 7 rfl (by kernel_rfl) trivial (pv (fun _ y29 => rmv (v := .int _ _) rfl)) ?_
    refine tk 8 rfl (by kernel_rfl) trivial (pv (fun _ y30 => rbin (bRem (by omega) (Int.tmod_eq_emod_of_nonneg (by omega))) rfl rfl)) ?_
    refine tk 9 rfl (by kernel_rfl) trivial (pv (fun _ y31 => rix sl44 sz164 rfl rfl (by omega) (by omega) rfl)) ?_
    refine ef 10 (by kernel_rfl) rfl ?_
    refine xsti hA rfl rfl sz164 (by simp only [kb]; omega) (by omega) (by omega) ?_
    intro W32 y33 hA
    have z34 := z19.below (y33.below (by omega))
    have s35 := y33.size
    refine ⟨fun _ => trivial, ?_⟩
    refine tk 11 rfl (by kernel_rfl) trivial (pv (fun _ y36 => ras (v := .int _ _) rfl)) ?_
    refine dn (by kernel_rfl) ?_
    refine V.reg rfl ?_
    refine vv (rbin (bAdd (wi (by omega))) rfl rfl) ?_
    refine mvi rfl ?_
    refine vnil ?_
    refine ⟨rfl, (k + 1, _, _), ⟨rfl, rfl, rfl, rfl, trivial⟩, ⟨rfl, rfl, trivial⟩, ⟨z34, by omega, hA, by omega, by omega, small_step (by omega) lA l1 hq14 hz hinv rfl d4, fun j hj => (wd_set_ne (by omega)).trans (hz j (by omega))⟩, ?_⟩
    show n - (k + 1) < n - k
    omega
  · intro c13
    refine vnil ?_
    refine V.seq ?_
    refine V.condF rfl ?_
    refine V.exit ?_
    refine V.seq (V.reg rfl ?_)
    refine mvs rfl ?_
    have ha37 := hA.rn (S := S) (hu _ (by omega))
    refine vo ?_
    refine xcall e176 (trim_ok _ _ _ _ _ _ ha37) rfl rfl ?_
    rintro _ _ ⟨m39, rfl, hr38, hm40, rfl⟩
    refine ⟨_, rfl, ?_⟩
    refine mvi rfl ?_
    refine ass rfl ?_
    refine asi rfl ?_
    refine vnil ?_
    refine V.ret ?_
    refine ⟨[.slice _ _ _, .int _ _], ⟨rfl, rfl, trivial⟩, ?_⟩
    have hq := divmod_of (u := vl b32 xs) (v := v) (by simpa [show n - k = 0 by omega, vl] using hinv) r0 r1
    exact ⟨_, _, _, _, rfl, z12, hq.1 ▸ hr38, hq.2⟩

theorem dg_len_mono {u v : Int} (hu : 0 ≤ u) (h : u ≤ v) : (dg b32 u).length ≤ (dg b32 v).length := by
  have h2 := vl_lt (B := b32) (by decide) (Dg.dg (by decide) v)
  rw [vl_dg (by decide) (by omega)] at h2
  exact dg_length_le (by decide) (by omega)
/-- One word more. -/
theorem long_step {qs xs : List Int} {k n : Nat} {V R x u q : Int} (hk : k < n) (hq : qs.length = n) (hxl : xs.length = n) (hx : x = wd xs ((n : Int) - 1 - k)) (hz : ∀ j : Nat, j < n - k → wd qs j = 0)
    (h : u = vl b32 qs * V + b32 ^ (n - k) * R + vl b32 (xs.take (n - k))) :
    u = vl b32 (qs.set ((n : Int) - 1 - k).toNat q) * V + b32 ^ (n - (k + 1)) * (x + b32 * R - V * q) + vl b32 (xs.take (n - (k + 1))) :=
  small_step hk hq hxl hx hz h (N := x + b32 * R) (by unfold b32; omega) (by rw [Int.mul_comm q V]; omega)
theorem one_len {v : Int} {n : Nat} (hv : 0 ≤ v) (h : (dg b32 v).length = n) (h1 : n = 1) : wd (dg b32 v) 0 = v := by
  have e := vl_dg (B := b32) (by decide) hv
  match hd : dg b32 v with
  | [] => rw [hd] at h; simp at h; omega
  | [x] => rw [hd] at e; simp [vl] at e; simp [wd, e]
  | _ :: _ :: _ => rw [hd] at h; simp at h; omega

set_option maxHeartbeats 400000 in
theorem div_ok (a1 a2 : Option Addr) (n c m d : Nat) (u v : Int) (S S1 S2 : Nat → Prop) (w : World) (hx : RN .u32 S1 w a1 n c (dg b32 u)) (hy : RN .u32 S2 w a2 m d (dg b32 v)) (hu0 : 0 ≤ u) (hv : 0 < v) (hn : n < LX) (hm : m < LX) (hu : Up S w) :
    Calls Tryz.prog 209 #[.slice a1 n c, .slice a2 m d] w (fun e w' => ∃ a3 n3 c3 a4 n4 c4, e = .returned (.tuple #[.slice a3 n3 c3, .slice a4 n4 c4]) ∧ Ext w w' ∧ RN .u32 S w' a3 n3 c3 (dg b32 (u / v)) ∧ RN .u32 S w' a4 n4 c4 (dg b32 (u % v))) := by
  have z0 := Ext.refl w; have hLX : LX = 17592186044416 := rfl; have hLY : LY = 8796093022208 := rfl
  have l1 := hx.len; have l2 := hy.len; have hv0 : 0 ≤ v := by omega
  refine enter (args := [.slice a1 n c, .slice a2 m d]) Tryz.func209 rfl rfl (Nat.le_of_ble_eq_true rfl) ?_
  refine V.seq (V.reg rfl ?_)
  refine ass rfl ?_
  refine ass rfl ?_
  refine vnil ?_
  refine V.seq ?_
  refine V.seq (V.reg rfl ?_)
  refine mvs rfl ?_
  refine vv (rlen sl44 rfl) ?_
  refine veq rfl rfl ?_ ?_
  · intro c1
    refine vnil ?_
    refine V.condT rfl ?_
    refine V.seq (V.reg rfl ?_)
    refine mvs rfl ?_
    refine mvs rfl ?_
    refine vv (rixn hy sl44 sz164 rfl rfl (by omega) (by omega)) ?_
    refine vldN hy rfl sc164 (by omega) (by omega) ?_
    intro q2 hq2 hk3
    simp only [kb] at hk3
    refine vv (rcv Tryz.underlying164 Tryz.underlying162 rfl (wu (by omega))) ?_
    have hu2 : ∀ W : World, w.heap.size ≤ W.heap.size → Up S W := fun W hW => hu.mono hW
    have hv1 : 1 ≤ q2 := by rw [hq2, one_len hv0 l2 (by omega)]; omega
    refine vo ?_
    refine xcall e218 (small_ok _ _ _ _ _ _ _ _ hx (by omega) (by omega) (by omega) (hu2 _ (by omega))) rfl rfl ?_
    rintro _ W7 ⟨_, _, _, r6, rfl, x8, hr4, hq5⟩
    have s9 := x8.sz
    have z10 := x8
    refine ⟨_, rfl, ?_⟩
    refine mvt rfl ?_
    refine vv (rext (v := .slice _ _ _) rfl rfl) ?_
    refine vv (rext (v := .int _ _) rfl rfl) ?_
    refine ass rfl ?_
    refine asi rfl ?_
    refine vnil ?_
    refine V.seq (V.reg rfl ?_)
    refine mvs rfl ?_
    refine mvi rfl ?_
    refine vv (rcv Tryz.underlying162 Tryz.underlying164 rfl (m32 _)) ?_
    refine vo ?_
    refine xbs (ps := [(0, .int _ _)]) (cs := [.int _ _]) sl44 zr164 sz164 rfl rfl rfl rfl rfl rfl ?_
    intro W11 x12 b13 nn14
    have s15 := x12.sz
    have z16 := z10.trans x12
    have hl17 := RN.lit (k := .u32) (xs := [_]) 1 b13 (by intro q hq; simp only [List.mem_cons, List.not_mem_nil, or_false] at hq; simp only [kb]; omega) (hu2 W7 (by omega) _ (Nat.le_refl _))
    refine vo ?_
    refine xcall e176 (trim_ok _ _ _ _ _ _ hl17) rfl rfl ?_
    rintro _ _ ⟨m19, rfl, hr18, hm20, rfl⟩
    refine ⟨_, rfl, ?_⟩
    refine ass rfl ?_
    refine ass rfl ?_
    refine vnil ?_
    refine V.ret ?_
    refine ⟨[.slice _ _ _, .slice _ _ _], ⟨rfl, rfl, trivial⟩, ?_⟩
    have hv1 : wd (dg b32 v) 0 = v := one_len hv0 l2 (by omega)
    rw [hq2, hv1, vl_dg (by decide) hu0] at hr4 hq5
    have rl : 0 ≤ r6 ∧ r6 < v := by rw [hq5]; exact ⟨Int.emod_nonneg _ (by omega), Int.emod_lt_of_pos _ (by omega)⟩
    exact ⟨_, _, _, _, _, _, rfl, z16, (hr4.ext x12), (hr18).cast (by rw [← hq5]; simp only [vl, Int.mul_zero, Int.add_zero]; rw [Int.emod_eq_of_lt rl.1 (by omega)])⟩
  · intro c1
    refine vnil ?_
    refine V.condF rfl ?_
    refine V.skip ?_
    refine V.seq (V.reg rfl ?_)
    refine mvs rfl ?_
    refine vv (rlen sl44 rfl) ?_
    refine vo ?_
    refine xmk (n) sl44 in164 (by simp [kb]) rfl rfl (by omega) (by omega) (by omega) ?_
    intro W22 x23 out n24
    have s25 := x23.sz
    have z26 := x23
    have hu2 : ∀ W : World, w.heap.size + 1 ≤ W.heap.size → Up (SX S [w.heap.size]) W := fun W hW => SX.up (hu.mono (by omega)) (by simp; omega)
    refine ass rfl ?_
    refine vnil ?_
    refine V.seq ?_
    refine V.seq (V.reg rfl ?_)
    refine mvs rfl ?_
    refine vv (rlen sl44 rfl) ?_
    refine mvi rfl ?_
    refine vnil ?_
    refine V.block ?_
    refine V.loopK (ι := Nat × List Int × Int × Option Addr × Nat × Nat) [(0, .slice _ _ _), (1, .slice _ _ _), (4, .slice _ _ _), (34, .int _ _)] (fun ⟨k, qs, R, ra, rn, rc⟩ => [(35, .int .i64 (k : Int)), (5, .slice ra rn rc)]) (fun ⟨k, qs, R, ra, rn, rc⟩ W => Ext w W ∧ k ≤ n ∧ AR .u32 W w.heap.size 164 n qs ∧ 0 ≤ R ∧ R < v ∧ RN .u32 (SX S [w.heap.size]) W ra rn rc (dg b32 R) ∧ rn ≤ m ∧ u = vl b32 qs * v + b32 ^ (n - k) * R + vl b32 ((dg b32 u).take (n - k)) ∧ ∀ j : Nat, j < n - k → wd qs j = 0) (fun ⟨k, qs, R, ra, rn, rc⟩ => n - k) ((0, _, 0, none, 0, 0)) ⟨rfl, rfl, rfl, rfl, trivial⟩ ⟨rfl, rfl, trivial⟩ ⟨z26, Nat.zero_le _, out, by omega, by omega, by rw [dg_zero]; exact RN.nil _ _ _ _ _ (by omega), by omega, by simp [vl_zeros]; rw [List.take_of_length_le (by omega), vl_dg (by decide) hu0], fun j _ => wd_zeros _ _⟩ ?_
    intro i28 E29 W27 h30
    obtain ⟨k, qs, R, ra, rn, rc⟩ := i28
    simp only at h30
    show V _ _ _ _ _ _ (ups (ups _ _) [(35, .int .i64 (k : Int)), (5, .slice ra rn rc)]) _
    obtain ⟨x31, hk, hA, r0, r1, hR, hrm, hinv, hz⟩ := h30
    have s32 := x31.sz
    have z33 := x31
    have lA := hA.len; have lb := hA.box.lt; have lR := hR.len
    have z34 := Ext.refl W27
    refine V.seq (V.reg rfl ?_)
    refine vlt rfl rfl ?_ ?_
    · intro c35
      refine vnil ?_
      refine V.seq ?_
      refine V.condT rfl ?_
      refine V.skip ?_
      refine V.seq ?_
      refine V.block ?_
      refine V.seq (V.reg rfl ?_)
      refine mvi rfl ?_
      refine asi rfl ?_
      refine vnil ?_
      refine V.seq (V.reg rfl ?_)
      refine mvs rfl ?_
      refine vv (rlen sl44 rfl) ?_
      refine vv (rbin (bSub (wi (by omega))) rfl rfl) ?_
      refine mvi rfl ?_
      refine vv (rbin (bSub (wi (by omega))) rfl rfl) ?_
      refine asi rfl ?_
      refine vnil ?_
      refine V.seq (V.reg rfl ?_)
      refine mvs rfl ?_
      refine mvi rfl ?_
      refine vv (rixn (hx.ext z33) sl44 sz164 rfl rfl (by omega) (by omega)) ?_
      refine vldN (hx.ext z33) rfl sc164 (by omega) (by omega) ?_
      intro q36 hq36 hk37
      simp only [kb] at hk37
      refine vo ?_
      refine xbs (ps := [(0, .int _ _)]) (cs := [.int _ _]) sl44 zr164 sz164 rfl rfl rfl rfl rfl rfl ?_
      intro W38 x39 b40 nn41
      have s42 := x39.sz
      have z43 := z33.trans x39
      have z44 := x39
      replace hA := hA.ext x39
      refine mvs rfl ?_
      refine vo ?_
      refine xappN sl44 in164 (OI.lit (B := W27.heap.size) (k := .u32) (xs := [_]) b40 (by intro q hq; simp only [List.mem_cons, List.not_mem_nil, or_false] at hq; simp only [kb]; omega) (by omega)) rfl rfl (hR.ext z44) (by simp only [List.length_nil, List.length_cons, List.length_append]; omega) (by decide) (by omega) ?_
      intro v45 W46 hO47 hg48 ho49
      have y50 := grown_below hg48 (by omega) (fun b e => ((OI.lit (B := W27.heap.size) (k := .u32) (xs := [_]) b40 (by intro q hq; simp only [List.mem_cons, List.not_mem_nil, or_false] at hq; simp only [kb]; omega) (by omega)).low b e).1)
      have s51 := y50.size
      have z52 := z43.below (y50.mono (by omega))
      have z53 := z44.below (y50.mono (by omega))
      replace hA := hA.bl y50 (by omega)
      obtain ⟨ra1, rc1, rfl⟩ := hO47.form
      have hr1 := hO47.rn (S := SX S [w.heap.size]) (fun b hb _ => ⟨hu b (by omega), by simp; omega⟩)
      have e1 : vl b32 ([q36] ++ dg b32 R) = q36 + b32 * R := by rw [List.singleton_append, vl_cons, vl_dg (by decide) r0]
      have l49 : ([q36] ++ dg b32 R).length = rn + 1 := by simp; omega
      have p1 : 0 ≤ q36 + b32 * R := by unfold b32; omega
      refine vo ?_
      refine xcall e176 (trim_ok _ _ _ _ _ _ hr1) rfl rfl ?_
      rintro _ _ ⟨m55, rfl, hr54, hm56, rfl⟩
      refine ⟨_, rfl, ?_⟩
      obtain ⟨R1, eR1⟩ : ∃ q, q = q36 + b32 * R := ⟨_, rfl⟩
      rw [e1, ← eR1] at hr54
      rw [← eR1] at p1; have l50 := hr54.len; have hb0 : R1 < v * 4294967296 := by unfold b32 at eR1; omega
      refine ass rfl ?_
      refine vnil ?_
      refine V.seq (V.reg rfl ?_)
      refine asi rfl ?_
      refine asi rfl ?_
      refine vnil ?_
      refine V.seq ?_
      refine V.seq (V.reg rfl ?_)
      refine mvs rfl ?_
      refine vv (rlen sl44 rfl) ?_
      refine mvs rfl ?_
      refine vv (rlen sl44 rfl) ?_
      refine vlt rfl rfl ?_ ?_
      · intro c58
        refine vnil ?_
        refine V.condT rfl ?_
        refine V.reg rfl ?_
        refine asi rfl ?_
        refine vnil ?_
        refine V.seq ?_
        refine V.block ?_
        refine V.loopK (ι := Int × Int) [(0, .slice _ _ _), (1, .slice _ _ _), (4, .slice _ _ _), (5, .slice _ _ _), (8, .int _ _), (9, .int _ _), (34, .int _ _), (35, .int _ _), (36, .bool true), (37, .int _ _), (38, .slice _ _ _), (39, .int _ _), (40, .int _ _), (41, .int _ _), (42, .int _ _), (43, .slice _ _ _), (44, .int _ _), (45, .pointer _), (46, .int _ _), (47, .slice _ _ _), (48, .slice _ _ _), (49, .slice _ _ _), (50, .slice _ _ _), (51, .slice _ _ _), (52, .int _ _), (53, .slice _ _ _), (54, .int _ _), (55, .bool true)] (fun ⟨lo, hi⟩ => [(10, .int .u64 lo), (11, .int .u64 hi)]) (fun ⟨lo, hi⟩ W => Ext W46 W ∧ 0 ≤ lo ∧ lo < hi ∧ hi ≤ 4294967296 ∧ v * lo ≤ R1 ∧ R1 < v * hi) (fun ⟨lo, hi⟩ => (hi - lo).toNat) ((_, _)) ⟨rfl, rfl, rfl, rfl, rfl, rfl, rfl, rfl, rfl, rfl, rfl, rfl, rfl, rfl, rfl, rfl, rfl, rfl, rfl, rfl, rfl, rfl, rfl, rfl, rfl, rfl, rfl, rfl, trivial⟩ ⟨rfl, rfl, trivial⟩ ⟨Ext.refl _, by omega, by omega, by omega, by rw [Int.mul_zero]; exact p1, by first | exact hb0 | (rw [Int.mul_one]; exact dg_len_lt hv0 p1 (by omega))⟩ ?_
        intro i60 E61 W59 h62
        obtain ⟨lo, hi⟩ := i60
        simp only at h62
        show V _ _ _ _ _ _ (ups (ups _ _) [(10, .int .u64 lo), (11, .int .u64 hi)]) _
        obtain ⟨x63, i1, i2, i3, i4, i5⟩ := h62
        have s64 := x63.sz
        have z65 := z52.trans x63
        have z66 := z53.trans x63
        have z67 := x63
        replace hA := hA.ext x63
        refine V.seq ?_
        refine V.seq (V.reg rfl ?_)
        refine mvi rfl ?_
        refine mvi rfl ?_
        refine vv (rbin (bSub (wu (by omega))) rfl rfl) ?_
        refine vgt rfl rfl ?_ ?_
        · intro c68
          refine vnil ?_
          refine V.condT rfl ?_
          refine V.skip ?_
          refine V.block ?_
          refine V.seq (V.reg rfl ?_)
          refine mvi rfl ?_
          refine mvi rfl ?_
          refine vv (rbin (bAdd (wu (by omega))) rfl rfl) ?_
          refine vv (rbin (bQuo (by omega) (wuq (by rw [Int.tdiv_eq_ediv_of_nonneg (by omega)]; omega) (Int.tdiv_eq_ediv_of_nonneg (by omega)))) rfl rfl) ?_
          refine asi rfl ?_
          refine vnil ?_
          refine V.seq (V.reg rfl ?_)
          refine mvs rfl ?_
          refine mvi rfl ?_
          refine vv (rcv Tryz.underlying162 Tryz.underlying164 rfl (m32 _)) ?_
          refine vo ?_
          refine xbs (ps := [(0, .int _ _)]) (cs := [.int _ _]) sl44 zr164 sz164 rfl rfl rfl rfl rfl rfl ?_
          intro W69 x70 b71 nn72
          have s73 := x70.sz
          have z74 := z65.trans x70
          have z75 := z66.trans x70
          have z76 := z67.trans x70
          replace hA := hA.ext x70
          have hl77 := RN.lit (k := .u32) (xs := [_]) 1 b71 (by intro q hq; simp only [List.mem_cons, List.not_mem_nil, or_false] at hq; simp only [kb]; omega) (hu2 W59 (by omega) _ (Nat.le_refl _))
          refine vo ?_
          refine xcall e205 (mul_ok _ _ _ _ _ _ _ _ _ _ _ _ (hy.ext z74) hl77 (by omega) (by omega) (hu2 _ (by omega))) rfl rfl ?_
          rintro _ W82 ⟨zs79, ⟨_, _, _, rfl, x83, hw78⟩, hv80, hl81⟩
          have s84 := x83.sz
          have z85 := z74.trans x83
          have z86 := z75.trans x83
          have z87 := z76.trans x83
          replace hA := hA.ext x83
          replace b71 := b71.ext x83
          have hw78l := hw78.len
          refine ⟨_, rfl, ?_⟩
          refine vo ?_
          refine xcall e176 (trim_ok _ _ _ _ _ _ hw78) rfl rfl ?_
          rintro _ _ ⟨m89, rfl, hr88, hm90, rfl⟩
          refine ⟨_, rfl, ?_⟩
          refine mvs rfl ?_
          refine vo ?_
          refine xcall e207 (cmp_ok _ _ _ _ _ _ _ _ _ _ _ hr88 (hr54.ext z87) (vl_nonneg (by decide) hw78.dg32) (p1)) rfl rfl ?_
          rintro _ W94 ⟨s93, rfl, x95, hc92⟩
          have s96 := x95.sz
          have z97 := z85.trans x95
          have z98 := z86.trans x95
          have z99 := z87.trans x95
          replace hA := hA.ext x95
          replace b71 := b71.ext x95
          refine ⟨_, rfl, ?_⟩
          have ez : vl b32 zs79 = v * ((lo + hi) / 2) := by rw [hv80, vl_dg (by decide) hv0]; simp only [vl, Int.mul_zero, Int.add_zero]; rw [Int.emod_eq_of_lt (by omega) (by omega)]
          rw [ez] at hc92
          refine vle rfl rfl ?_ ?_
          · intro c100
            refine vnil ?_
            refine V.condT rfl ?_
            refine V.reg rfl ?_
            refine mvi rfl ?_
            refine asi rfl ?_
            refine vnil ?_
            refine ⟨rfl, (_, _), ⟨rfl, rfl, rfl, rfl, rfl, rfl, rfl, rfl, rfl, rfl, rfl, rfl, rfl, rfl, rfl, rfl, rfl, rfl, rfl, rfl, rfl, rfl, rfl, rfl, rfl, rfl, rfl, rfl, trivial⟩, ⟨rfl, rfl, trivial⟩, ⟨z99, by omega, by omega, by omega, by omega, i5⟩, ?_⟩
            show (hi - (lo + hi) / 2).toNat < (hi - lo).toNat
            omega
          · intro c100
            refine vnil ?_
            refine V.condF rfl ?_
            refine V.reg rfl ?_
            refine mvi rfl ?_
            refine asi rfl ?_
            refine vnil ?_
            refine ⟨rfl, (_, _), ⟨rfl, rfl, rfl, rfl, rfl, rfl, rfl, rfl, rfl, rfl, rfl, rfl, rfl, rfl, rfl, rfl, rfl, rfl, rfl, rfl, rfl, rfl, rfl, rfl, rfl, rfl, rfl, rfl, trivial⟩, ⟨rfl, rfl, trivial⟩, ⟨z99, by omega, by omega, by omega, i4, by omega⟩, ?_⟩
            show ((lo + hi) / 2 - lo).toNat < (hi - lo).toNat
            omega
        · intro c68
          refine vnil ?_
          refine V.condF rfl ?_
          refine V.exit ?_
          refine V.seq (V.reg rfl ?_)
          refine mvs rfl ?_
          refine mvi rfl ?_
          refine mvi rfl ?_
          refine vv (rcv Tryz.underlying162 Tryz.underlying164 rfl (m32 _)) ?_
          refine vv (rix sl44 sz164 rfl rfl (by omega) (by omega) rfl) ?_
          refine vo ?_
          refine xsti hA rfl rfl sz164 (by simp only [kb]; omega) (by omega) (by omega) ?_
          intro W101 y102 hA
          have z103 := z65.below (y102.below (by omega))
          have s104 := y102.size
          refine vnil ?_
          refine V.reg rfl ?_
          refine mvs rfl ?_
          refine mvs rfl ?_
          refine mvi rfl ?_
          refine vv (rcv Tryz.underlying162 Tryz.underlying164 rfl (m32 _)) ?_
          refine vo ?_
          refine xbs (ps := [(0, .int _ _)]) (cs := [.int _ _]) sl44 zr164 sz164 rfl rfl rfl rfl rfl rfl ?_
          intro W105 x106 b107 nn108
          have s109 := x106.sz
          have z110 := z103.trans x106
          replace hA := hA.ext x106
          have hl111 := RN.lit (k := .u32) (xs := [_]) 1 b107 (by intro q hq; simp only [List.mem_cons, List.not_mem_nil, or_false] at hq; simp only [kb]; omega) (hu2 W101 (by omega) _ (Nat.le_refl _))
          refine vo ?_
          refine xcall e205 (mul_ok _ _ _ _ _ _ _ _ _ _ _ _ (hy.ext z110) hl111 (by omega) (by omega) (hu2 _ (by omega))) rfl rfl ?_
          rintro _ W116 ⟨zs113, ⟨_, _, _, rfl, x117, hw112⟩, hv114, hl115⟩
          have s118 := x117.sz
          have z119 := z110.trans x117
          replace hA := hA.ext x117
          replace b107 := b107.ext x117
          have hw112l := hw112.len
          refine ⟨_, rfl, ?_⟩
          refine vo ?_
          refine xcall e176 (trim_ok _ _ _ _ _ _ hw112) rfl rfl ?_
          rintro _ _ ⟨m121, rfl, hr120, hm122, rfl⟩
          refine ⟨_, rfl, ?_⟩
          have ez : vl b32 zs113 = v * lo := by rw [hv114, vl_dg (by decide) hv0]; simp only [vl, Int.mul_zero, Int.add_zero]; rw [Int.emod_eq_of_lt (by omega) (by omega)]
          have hlm : v * (lo + 1) = v * lo + v := by rw [Int.mul_add, Int.mul_one]
          have h1 : R1 < v * lo + v := by rw [← hlm, show lo + 1 = hi by omega]; exact i5
          have hz0 : 0 ≤ v * lo := Int.mul_nonneg (by omega) i1
          rw [ez] at hr120; have l86 := hr120.len; have l86b := dg_len_mono hz0 i4
          refine vo ?_
          refine xcall e208 (sub_ok _ _ _ _ _ _ _ _ _ _ _ _ ((hr54.ext z67).ck (((y102.ck (by intro hh; simp [SX] at hh <;> omega)).trans (x106.ck _)).trans (x117.ck _))) hr120 (by omega) (by omega) (by rw [vl_dg (by decide) hz0, vl_dg (by decide) p1]; exact i4) (hu2 _ (by omega))) rfl rfl ?_
          rintro _ W128 ⟨zs125, ⟨_, _, _, rfl, x129, hw124⟩, hv126, hl127⟩
          have s130 := x129.sz
          have z131 := z119.trans x129
          replace hA := hA.ext x129
          replace b107 := b107.ext x129
          have hw124l := hw124.len
          refine ⟨_, rfl, ?_⟩
          refine vo ?_
          refine xcall e176 (trim_ok _ _ _ _ _ _ hw124) rfl rfl ?_
          rintro _ _ ⟨m133, rfl, hr132, hm134, rfl⟩
          refine ⟨_, rfl, ?_⟩
          refine ass rfl ?_
          refine vnil ?_
          refine V.reg rfl ?_
          refine vv (rbin (bAdd (wi (by omega))) rfl rfl) ?_
          refine mvi rfl ?_
          refine vnil ?_
          have ez3 : vl b32 zs125 = R1 - v * lo := by rw [hv126, vl_dg (by decide) p1, vl_dg (by decide) hz0]
          rw [ez3] at hr132; have l87 := hr132.len; have l87b := dg_len_mono (u := R1 - v * lo) (v := v) (by omega) (by omega); have elo : lo % 4294967296 = lo := Int.emod_eq_of_lt (by omega) (by omega)
          refine ⟨rfl, (k + 1, _, R1 - v * lo, _, _, _), ⟨rfl, rfl, rfl, rfl, trivial⟩, ⟨rfl, rfl, trivial⟩, ⟨z131, by omega, hA, by omega, by omega, hr132, by omega, by rw [elo, eR1]; exact long_step (by omega) lA l1 hq36 hz hinv, fun j hj => (wd_set_ne (by omega)).trans (hz j (by omega))⟩, ?_⟩
          show n - (k + 1) < n - k
          omega
      · intro c58
        refine vnil ?_
        refine V.condF rfl ?_
        refine V.skip ?_
        refine V.seq ?_
        refine V.block ?_
        refine V.loopK (ι := Int × Int) [(0, .slice _ _ _), (1, .slice _ _ _), (4, .slice _ _ _), (5, .slice _ _ _), (8, .int _ _), (9, .int _ _), (34, .int _ _), (35, .int _ _), (36, .bool true), (37, .int _ _), (38, .slice _ _ _), (39, .int _ _), (40, .int _ _), (41, .int _ _), (42, .int _ _), (43, .slice _ _ _), (44, .int _ _), (45, .pointer _), (46, .int _ _), (47, .slice _ _ _), (48, .slice _ _ _), (49, .slice _ _ _), (50, .slice _ _ _), (51, .slice _ _ _), (52, .int _ _), (53, .slice _ _ _), (54, .int _ _), (55, .bool false)] (fun ⟨lo, hi⟩ => [(10, .int .u64 lo), (11, .int .u64 hi)]) (fun ⟨lo, hi⟩ W => Ext W46 W ∧ 0 ≤ lo ∧ lo < hi ∧ hi ≤ 4294967296 ∧ v * lo ≤ R1 ∧ R1 < v * hi) (fun ⟨lo, hi⟩ => (hi - lo).toNat) ((_, _)) ⟨rfl, rfl, rfl, rfl, rfl, rfl, rfl, rfl, rfl, rfl, rfl, rfl, rfl, rfl, rfl, rfl, rfl, rfl, rfl, rfl, rfl, rfl, rfl, rfl, rfl, rfl, rfl, rfl, trivial⟩ ⟨rfl, rfl, trivial⟩ ⟨Ext.refl _, by omega, by omega, by omega, by rw [Int.mul_zero]; exact p1, by first | exact hb0 | (rw [Int.mul_one]; exact dg_len_lt hv0 p1 (by omega))⟩ ?_
        intro i137 E138 W136 h139
        obtain ⟨lo, hi⟩ := i137
        simp only at h139
        show V _ _ _ _ _ _ (ups (ups _ _) [(10, .int .u64 lo), (11, .int .u64 hi)]) _
        obtain ⟨x140, i1, i2, i3, i4, i5⟩ := h139
        have s141 := x140.sz
        have z142 := z52.trans x140
        have z143 := z53.trans x140
        have z144 := x140
        replace hA := hA.ext x140
        refine V.seq ?_
        refine V.seq (V.reg rfl ?_)
        refine mvi rfl ?_
        refine mvi rfl ?_
        refine vv (rbin (bSub (wu (by omega))) rfl rfl) ?_
        refine vgt rfl rfl ?_ ?_
        · intro c145
          refine vnil ?_
          refine V.condT rfl ?_
          refine V.skip ?_
          refine V.block ?_
          refine V.seq (V.reg rfl ?_)
          refine mvi rfl ?_
          refine mvi rfl ?_
          refine vv (rbin (bAdd (wu (by omega))) rfl rfl) ?_
          refine vv (rbin (bQuo (by omega) (wuq (by rw [Int.tdiv_eq_ediv_of_nonneg (by omega)]; omega) (Int.tdiv_eq_ediv_of_nonneg (by omega)))) rfl rfl) ?_
          refine asi rfl ?_
          refine vnil ?_
          refine V.seq (V.reg rfl ?_)
          refine mvs rfl ?_
          refine mvi rfl ?_
          refine vv (rcv Tryz.underlying162 Tryz.underlying164 rfl (m32 _)) ?_
          refine vo ?_
          refine xbs (ps := [(0, .int _ _)]) (cs := [.int _ _]) sl44 zr164 sz164 rfl rfl rfl rfl rfl rfl ?_
          intro W146 x147 b148 nn149
          have s150 := x147.sz
          have z151 := z142.trans x147
          have z152 := z143.trans x147
          have z153 := z144.trans x147
          replace hA := hA.ext x147
          have hl154 := RN.lit (k := .u32) (xs := [_]) 1 b148 (by intro q hq; simp only [List.mem_cons, List.not_mem_nil, or_false] at hq; simp only [kb]; omega) (hu2 W136 (by omega) _ (Nat.le_refl _))
          refine vo ?_
          refine xcall e205 (mul_ok _ _ _ _ _ _ _ _ _ _ _ _ (hy.ext z151) hl154 (by omega) (by omega) (hu2 _ (by omega))) rfl rfl ?_
          rintro _ W159 ⟨zs156, ⟨_, _, _, rfl, x160, hw155⟩, hv157, hl158⟩
          have s161 := x160.sz
          have z162 := z151.trans x160
          have z163 := z152.trans x160
          have z164 := z153.trans x160
          replace hA := hA.ext x160
          replace b148 := b148.ext x160
          have hw155l := hw155.len
          refine ⟨_, rfl, ?_⟩
          refine vo ?_
          refine xcall e176 (trim_ok _ _ _ _ _ _ hw155) rfl rfl ?_
          rintro _ _ ⟨m166, rfl, hr165, hm167, rfl⟩
          refine ⟨_, rfl, ?_⟩
          refine mvs rfl ?_
          refine vo ?_
          refine xcall e207 (cmp_ok _ _ _ _ _ _ _ _ _ _ _ hr165 (hr54.ext z164) (vl_nonneg (by decide) hw155.dg32) (p1)) rfl rfl ?_
          rintro _ W171 ⟨s170, rfl, x172, hc169⟩
          have s173 := x172.sz
          have z174 := z162.trans x172
          have z175 := z163.trans x172
          have z176 := z164.trans x172
          replace hA := hA.ext x172
          replace b148 := b148.ext x172
          refine ⟨_, rfl, ?_⟩
          have ez : vl b32 zs156 = v * ((lo + hi) / 2) := by rw [hv157, vl_dg (by decide) hv0]; simp only [vl, Int.mul_zero, Int.add_zero]; rw [Int.emod_eq_of_lt (by omega) (by omega)]
          rw [ez] at hc169
          refine vle rfl rfl ?_ ?_
          · intro c177
            refine vnil ?_
            refine V.condT rfl ?_
            refine V.reg rfl ?_
            refine mvi rfl ?_
            refine asi rfl ?_
            refine vnil ?_
            refine ⟨rfl, (_, _), ⟨rfl, rfl, rfl, rfl, rfl, rfl, rfl, rfl, rfl, rfl, rfl, rfl, rfl, rfl, rfl, rfl, rfl, rfl, rfl, rfl, rfl, rfl, rfl, rfl, rfl, rfl, rfl, rfl, trivial⟩, ⟨rfl, rfl, trivial⟩, ⟨z176, by omega, by omega, by omega, by omega, i5⟩, ?_⟩
            show (hi - (lo + hi) / 2).toNat < (hi - lo).toNat
            omega
          · intro c177
            refine vnil ?_
            refine V.condF rfl ?_
            refine V.reg rfl ?_
            refine mvi rfl ?_
            refine asi rfl ?_
            refine vnil ?_
            refine ⟨rfl, (_, _), ⟨rfl, rfl, rfl, rfl, rfl, rfl, rfl, rfl, rfl, rfl, rfl, rfl, rfl, rfl, rfl, rfl, rfl, rfl, rfl, rfl, rfl, rfl, rfl, rfl, rfl, rfl, rfl, rfl, trivial⟩, ⟨rfl, rfl, trivial⟩, ⟨z176, by omega, by omega, by omega, i4, by omega⟩, ?_⟩
            show ((lo + hi) / 2 - lo).toNat < (hi - lo).toNat
            omega
        · intro c145
          refine vnil ?_
          refine V.condF rfl ?_
          refine V.exit ?_
          refine V.seq (V.reg rfl ?_)
          refine mvs rfl ?_
          refine mvi rfl ?_
          refine mvi rfl ?_
          refine vv (rcv Tryz.underlying162 Tryz.underlying164 rfl (m32 _)) ?_
          refine vv (rix sl44 sz164 rfl rfl (by omega) (by omega) rfl) ?_
          refine vo ?_
          refine xsti hA rfl rfl sz164 (by simp only [kb]; omega) (by omega) (by omega) ?_
          intro W178 y179 hA
          have z180 := z142.below (y179.below (by omega))
          have s181 := y179.size
          refine vnil ?_
          refine V.reg rfl ?_
          refine mvs rfl ?_
          refine mvs rfl ?_
          refine mvi rfl ?_
          refine vv (rcv Tryz.underlying162 Tryz.underlying164 rfl (m32 _)) ?_
          refine vo ?_
          refine xbs (ps := [(0, .int _ _)]) (cs := [.int _ _]) sl44 zr164 sz164 rfl rfl rfl rfl rfl rfl ?_
          intro W182 x183 b184 nn185
          have s186 := x183.sz
          have z187 := z180.trans x183
          replace hA := hA.ext x183
          have hl188 := RN.lit (k := .u32) (xs := [_]) 1 b184 (by intro q hq; simp only [List.mem_cons, List.not_mem_nil, or_false] at hq; simp only [kb]; omega) (hu2 W178 (by omega) _ (Nat.le_refl _))
          refine vo ?_
          refine xcall e205 (mul_ok _ _ _ _ _ _ _ _ _ _ _ _ (hy.ext z187) hl188 (by omega) (by omega) (hu2 _ (by omega))) rfl rfl ?_
          rintro _ W193 ⟨zs190, ⟨_, _, _, rfl, x194, hw189⟩, hv191, hl192⟩
          have s195 := x194.sz
          have z196 := z187.trans x194
          replace hA := hA.ext x194
          replace b184 := b184.ext x194
          have hw189l := hw189.len
          refine ⟨_, rfl, ?_⟩
          refine vo ?_
          refine xcall e176 (trim_ok _ _ _ _ _ _ hw189) rfl rfl ?_
          rintro _ _ ⟨m198, rfl, hr197, hm199, rfl⟩
          refine ⟨_, rfl, ?_⟩
          have ez : vl b32 zs190 = v * lo := by rw [hv191, vl_dg (by decide) hv0]; simp only [vl, Int.mul_zero, Int.add_zero]; rw [Int.emod_eq_of_lt (by omega) (by omega)]
          have hlm : v * (lo + 1) = v * lo + v := by rw [Int.mul_add, Int.mul_one]
          have h1 : R1 < v * lo + v := by rw [← hlm, show lo + 1 = hi by omega]; exact i5
          have hz0 : 0 ≤ v * lo := Int.mul_nonneg (by omega) i1
          rw [ez] at hr197; have l86 := hr197.len; have l86b := dg_len_mono hz0 i4
          refine vo ?_
          refine xcall e208 (sub_ok _ _ _ _ _ _ _ _ _ _ _ _ ((hr54.ext z144).ck (((y179.ck (by intro hh; simp [SX] at hh <;> omega)).trans (x183.ck _)).trans (x194.ck _))) hr197 (by omega) (by omega) (by rw [vl_dg (by decide) hz0, vl_dg (by decide) p1]; exact i4) (hu2 _ (by omega))) rfl rfl ?_
          rintro _ W205 ⟨zs202, ⟨_, _, _, rfl, x206, hw201⟩, hv203, hl204⟩
          have s207 := x206.sz
          have z208 := z196.trans x206
          replace hA := hA.ext x206
          replace b184 := b184.ext x206
          have hw201l := hw201.len
          refine ⟨_, rfl, ?_⟩
          refine vo ?_
          refine xcall e176 (trim_ok _ _ _ _ _ _ hw201) rfl rfl ?_
          rintro _ _ ⟨m210, rfl, hr209, hm211, rfl⟩
          refine ⟨_, rfl, ?_⟩
          refine ass rfl ?_
          refine vnil ?_
          refine V.reg rfl ?_
          refine vv (rbin (bAdd (wi (by omega))) rfl rfl) ?_
          refine mvi rfl ?_
          refine vnil ?_
          have ez3 : vl b32 zs202 = R1 - v * lo := by rw [hv203, vl_dg (by decide) p1, vl_dg (by decide) hz0]
          rw [ez3] at hr209; have l87 := hr209.len; have l87b := dg_len_mono (u := R1 - v * lo) (v := v) (by omega) (by omega); have elo : lo % 4294967296 = lo := Int.emod_eq_of_lt (by omega) (by omega)
          refine ⟨rfl, (k + 1, _, R1 - v * lo, _, _, _), ⟨rfl, rfl, rfl, rfl, trivial⟩, ⟨rfl, rfl, trivial⟩, ⟨z208, by omega, hA, by omega, by omega, hr209, by omega, by rw [elo, eR1]; exact long_step (by omega) lA l1 hq36 hz hinv, fun j hj => (wd_set_ne (by omega)).trans (hz j (by omega))⟩, ?_⟩
          show n - (k + 1) < n - k
          omega
    · intro c35
      refine vnil ?_
      refine V.seq ?_
      refine V.condF rfl ?_
      refine V.exit ?_
      refine V.seq (V.reg rfl ?_)
      refine mvs rfl ?_
      have ha213 := hA.rn (S := S) (hu _ (by omega))
      refine vo ?_
      refine xcall e176 (trim_ok _ _ _ _ _ _ ha213) rfl rfl ?_
      rintro _ _ ⟨m215, rfl, hr214, hm216, rfl⟩
      refine ⟨_, rfl, ?_⟩
      refine mvs rfl ?_
      refine ass rfl ?_
      refine ass rfl ?_
      refine vnil ?_
      refine V.ret ?_
      refine ⟨[.slice _ _ _, .slice _ _ _], ⟨rfl, rfl, trivial⟩, ?_⟩
      have hq := divmod_of (u := u) (v := v) (by simpa [show n - k = 0 by omega, vl] using hinv) r0 r1
      exact ⟨_, _, _, _, _, _, rfl, z33, hq.1 ▸ hr214, hq.2 ▸ (hR).un⟩
end Go.Proofs.YtknbjfefeeojlaaGreat

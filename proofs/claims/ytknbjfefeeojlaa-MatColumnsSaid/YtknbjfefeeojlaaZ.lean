/- Integers of the program, and what is left of the steps. -/
import Derived.Test.YtknbjfefeeojlaaK
import Derived.Test.YtknbjfefeeojlaaNum
import Derived.Deep.Upon
namespace Go.Proofs.Ytknbjfefeeojlaa
open Go.RowKit
section
variable {r : Option Nat} {P : Program} {N : Nat} {ops : Array Oper} {R : Env → World → Prop} {l : List Oper} {E : Env} {W W' : World} {t : Tmp} {d : Option Tmp} {ty T T' e : TypeId} {pos : String} {af : Array Edge} {g : Option (Nat × Bool)} {x y : Operand} {K : Value → World → Prop} {ρ : Operand → Value} {v : Value} {b o : Nat} {cs : List Value} {ds : List Deferred} {Q : EQ}
theorem V.condB {c : Operand} {x y : Code} {b : Bool} (hc : ev E c = .bool b) (h1 : b = true → V r P N ds x Q E W) (h2 : b = false → V r P N ds y Q E W) : V r P N ds (.cond c x y) Q E W := by
  cases b
  · exact V.condF hc (h2 rfl)
  · exact V.condT hc (h1 rfl)
theorem rix0 {n c s i : Nat} {k : IntKind} (hS : Sl P T e) (hs : Sz P e s) (hx : ρ x = .slice (some ⟨b, 0, none⟩) n c) (hy : ρ y = .int k (i : Int)) (h : i < n) :
    (execOp ρ ⟨d, .indexAddr T x y, ty, pos, af, g⟩).run P W = .ok (.value (.pointer (some ⟨b, i * s, none⟩))) W := by
  have := rix (d := d) (ty := ty) (pos := pos) (af := af) (g := g) (W := W) hS hs hx hy (by omega) (by omega) rfl
  simpa [adr, addO] using this
theorem ldcells {n : Nat} {l : List Value} (hb : BoxAt W b cs T') (h : (cs.drop o).take n = l) : ∀ j u, l[j]? = some u → W.cell? ((⟨b, o, none⟩ : Addr).add j) = some u := by
  subst h
  intro j u hj
  rw [addO]
  refine hb.cell _ ?_
  rw [List.getElem?_take] at hj
  split at hj
  · rwa [List.getElem?_drop] at hj
  · cases hj
theorem add0 (p : Addr) : p.add 0 = p := by
  obtain ⟨b, o, q⟩ := p
  unfold Addr.add
  split <;> simp_all
/-- x[:m] -/
theorem rslh {k k' : IntKind} {S : Nat → Prop} {a : Option Addr} {n c s m : Nat} {xs : List Int} {low : Option Operand} {z : Int} (h : RN k S W a n c xs) (hS : Sl P T e) (hs : Sz P e s) (hx : ρ x = .slice a n c) (hl : low = none) (hy : ρ y = .int k' z) (hz : z = (m : Int)) (hm : m ≤ n) :
    (execOp ρ ⟨d, .slice T x low (some y) none, ty, pos, af, g⟩).run P W = .ok (.value (.slice a m c)) W := by
  subst hl hz
  have hc := h.cap
  refine rslg hS hs hx (l := 0) (h := m) ?_ ?_ rfl rfl
  · simp only [Option.map_none, Option.map_some, hy]; exact sb_h (by omega)
  · rw [Nat.zero_mul]
    split
    · rfl
    · cases a <;> simp [add0]
theorem RN.cut {k : IntKind} {S : Nat → Prop} {a : Option Addr} {n c l m : Nat} {xs : List Int} (h : RN k S W a n c xs) (h0 : l ≤ m) (hm : m ≤ n) : RN k S W (if c = l then a else a.map (·.add (l * 1))) (m - l) (c - l) ((xs.take m).drop l) :=
  ⟨by have := h.len; simp; omega, by have := h.cap; omega, by have := h.max; omega, fun x hx => h.wf x (List.mem_of_mem_take (List.mem_of_mem_drop hx)), fun hn => by
    obtain ⟨b, off, cs, T, fz, rfl, hs, hb, hc⟩ := h.at_ (by omega)
    have hcap := h.cap
    refine ⟨b, off + l, cs, T, fz, by rw [if_neg (by omega)]; simp [addO], hs, hb, fun j hj => ?_⟩
    rw [Nat.add_assoc, hc (l + j) (by omega)]
    simp only [wd, Int.toNat_natCast, List.getD_eq_getElem?_getD, List.getElem?_drop, List.getElem?_take]
    rw [if_pos (by omega)]⟩
/-- x[l:m] -/
theorem rsll {k k' k'' : IntKind} {S : Nat → Prop} {a : Option Addr} {n c m l : Nat} {xs : List Int} {u : Operand} {z zl : Int} (h : RN k S W a n c xs) (hS : Sl P T e) (hs : Sz P e 1) (hx : ρ x = .slice a n c) (hu : ρ u = .int k'' zl) (hy : ρ y = .int k' z) (hl : zl = (l : Int)) (hz : z = (m : Int)) (h0 : l ≤ m) (hm : m ≤ n) :
    (execOp ρ ⟨d, .slice T x (some u) (some y) none, ty, pos, af, g⟩).run P W = .ok (.value (.slice (if c = l then a else a.map (·.add (l * 1))) (m - l) (c - l))) W := by
  subst hl hz
  have hc := h.cap
  refine rslg hS hs hx (l := l) (h := m) ?_ rfl rfl rfl
  simp only [Option.map_some, hy, hu]; exact sb_lh h0 (by omega)
theorem agree_append : ∀ {A B : List (Nat × Value)}, agree E A → agree E B → agree E (A ++ B)
  | [], _, _, h => h
  | (_, _) :: _, _, h, k => ⟨h.1, agree_append h.2 k⟩
theorem ups_append (E : Env) : ∀ (A B : List (Nat × Value)), ups E (A ++ B) = ups (ups E B) A
  | [], _ => rfl
  | (d, v) :: A, B => by show up (ups E (A ++ B)) d v = up (ups (ups E B) A) d v; rw [ups_append E A B]
theorem agree_ups : ∀ {A B : List (Nat × Value)}, agree E (A ++ B) → agree E A ∧ agree E B
  | [], _, h => ⟨trivial, h⟩
  | (_, _) :: _, _, h => ⟨⟨h.1, (agree_ups h.2).1⟩, (agree_ups h.2).2⟩
/-- A loop: slots F keep their values, slots L follow the state. -/
theorem V.loopK {c : Code} {ι : Type} (F : List (Nat × Value)) (L : ι → List (Nat × Value)) (I : ι → World → Prop) (μ : ι → Nat) (i₀ : ι) (hF : agree E F) (h₀ : agree E (L i₀)) (hI : I i₀ W)
    (round : ∀ i E0 W, I i W → V r P N ds c (thenV (fun E' ds' W' => ds' = ds ∧ ∃ j, agree E' F ∧ agree E' (L j) ∧ I j W' ∧ μ j < μ i) Q) (ups (ups E0 F) (L i)) W) : V r P N ds (.loop c) Q E W := by
  refine V.loop (fun i => L i ++ F) I μ i₀ (agree_append h₀ hF) hI ?_
  intro i E0 W hi
  rw [ups_append]
  refine (round i E0 W hi).mono ?_
  intro x E' ds' W' hx
  cases x with
  | normal =>
    obtain ⟨h1, j, h2, h3, h4, h5⟩ := hx
    exact ⟨h1, j, agree_append h3 h2, h4, h5⟩
  | _ => exact hx
theorem lastT {i : Nat} {p q : Prop} (h : lastOp ops i = true) (k : q) : (lastOp ops i = false → p) ∧ q := ⟨fun h' => (by rw [h] at h'; cases h'), k⟩
theorem V.regT {id : Nat} {ops : Array Oper} (hm : P.follows .mixedOrders = true) (hl : dstsOK N ops.toList = true)
    (h : ∀ W1, Ext W W1 → VH r P ops (fun _ => True) (fun E W => Q .normal E ds W) ops.size (Array.replicate ops.size false) E W1) : V r P N ds (.region id ops true) Q E W := fun a hrep hd =>
  wpIn_region_any hm (VA.wp (ds := ds) hl (fun a E W hr hd h => ⟨E, hr, by rw [hd]; exact h⟩) _ _ a E _ hrep hd (VH.va _ _ _ _ (h _ ((Ext.refl W).drew))))
theorem BoxAt.bl {B : Nat} (h : BoxAt W b cs T) (y : Below B W W') (hb : b < B) : BoxAt W' b cs T := (y.block b hb).trans h
theorem m32 (z : Int) : IntKind.u32.wrap z = z % 4294967296 := by rw [IntKind.wrap_u32]
theorem m64 (z : Int) : IntKind.u64.wrap z = z % 18446744073709551616 := by rw [IntKind.wrap_u64]
theorem w32 {z : Int} (h : 0 ≤ z ∧ z ≤ 4294967295) : IntKind.u32.wrap z = z := by rw [m32]; omega
theorem wu {z : Int} (h : 0 ≤ z ∧ z ≤ 18446744073709551615) : IntKind.u64.wrap z = z := by rw [m64]; omega
theorem wiq {z u : Int} (h : -9223372036854775808 ≤ z ∧ z ≤ 9223372036854775807) (e : z = u) : IntKind.i64.wrap z = u := by rw [wi h, e]
theorem wuq {z u : Int} (h : 0 ≤ z ∧ z ≤ 18446744073709551615) (e : z = u) : IntKind.u64.wrap z = u := by rw [wu h, e]
theorem vldN {k : IntKind} {S : Nat → Prop} {a : Option Addr} {n c : Nat} {xs : List Int} {i : Int} (h : RN k S W a n c xs) (hx : ev E x = .pointer (some (adr a i 1))) (hT : Sc P T) (h0 : 0 ≤ i) (h1 : i < n)
    (K : ∀ q, q = wd xs i → kb k q → RV r P ops R l (up E t (.int k q)) W) : RV r P ops R (⟨some t, .load T x, ty, pos, af, none⟩ :: l) E W := vv (rldN h hx hT h0 h1) (K _ rfl (h.kb' h0 h1))
theorem shr32 (m : Int) : m.fdiv (2 ^ 32) = m / 4294967296 := by rw [Int.fdiv_eq_ediv_of_nonneg _ (by omega)]; rfl
theorem shl32 {m : Int} (h : 0 ≤ m * 4294967296 ∧ m * 4294967296 ≤ 18446744073709551615) : IntKind.u64.wrap (m * 2 ^ 32) = m * 4294967296 := by rw [show (2 : Int) ^ 32 = 4294967296 from rfl, wu h]
theorem RN.lit {k : IntKind} {S : Nat → Prop} {xs : List Int} (n : Nat) (h : BoxAt W b (xs.map (Value.int k)) e) (hk : ∀ x ∈ xs, kb k x) (hS : S b) (hn : Nat.beq xs.length n = true := by rfl) (hm : Nat.ble n 1000 = true := by rfl) : RN k S W (some ⟨b, 0, none⟩) n n xs := by
  obtain rfl := Nat.eq_of_beq_eq_true hn
  exact ⟨rfl, Nat.le_refl _, by have := Nat.le_of_ble_eq_true hm; omega, hk, fun hn => ⟨b, 0, _, e, (0,0), rfl, hS, h, fun j hj => by simp [wd, hj]⟩⟩
theorem OI.lit {k : IntKind} {B : Nat} {xs : List Int} (h : BoxAt W b (xs.map (Value.int k)) e) (hk : ∀ x ∈ xs, kb k x) (hB : B ≤ b) (hm : Nat.ble xs.length 1000 = true := by rfl) : OI k B W e (.slice (some ⟨b, 0, none⟩) xs.length xs.length) xs :=
  ⟨⟨by simp, .inr ⟨b, xs.length, (xs.map (Value.int k)).toArray, rfl, hB, h, Nat.le_refl _, by have := Nat.le_of_ble_eq_true hm; simp only [maxLen]; omega, by simp, by rw [List.take_of_length_le (by simp)]⟩⟩, hk⟩

end
/-! ### Integers -/
abbrev b32 : Int := 4294967296
abbrev LX : Nat := 17592186044416
abbrev LY : Nat := 8796093022208
theorem RN.isNil {k : IntKind} {S S' : Nat → Prop} {W : World} {a : Option Addr} {n c : Nat} {xs : List Int} (h : RN k S W a n c xs) (ha : a.isNone = true) : RN k S' W none 0 0 xs := by
  have : n = 0 := by
    rcases Nat.eq_zero_or_pos n with h0 | h0
    · exact h0
    · obtain ⟨b, off, cs, T, fz, rfl, _⟩ := h.at_ h0; cases ha
  have hl := h.len
  have : xs = [] := List.eq_nil_of_length_eq_zero (by omega)
  subst this
  exact RN.nil _ _ _ _ _ (by omega)
theorem RN.dg32 {S : Nat → Prop} {W : World} {a : Option Addr} {n c : Nat} {xs : List Int} (h : RN .u32 S W a n c xs) : Dg b32 xs := fun x hx => by
  have := h.wf x hx
  simp only [kb] at this; unfold b32; omega
theorem tr_dg32 {xs : List Int} (h : Dg b32 xs) : dg b32 (vl b32 xs) = tr xs := dg_vl (by decide) h
theorem take_succ_wd (xs : List Int) (k : Nat) (hk : k < xs.length) : xs.take (k + 1) = xs.take k ++ [wd xs k] := by
  rw [List.take_succ_eq_append_getElem hk]; simp [wd, hk]
theorem wd_take {xs : List Int} {m : Nat} {i : Int} (h : i.toNat < m) : wd (xs.take m) i = wd xs i := by
  simp [wd, List.getElem?_take, h]
theorem trim_step {n : Nat} {xs : List Int} {i : Nat} (hi : 0 < i) (h : tr (xs.take i) = tr xs) (hn : i ≤ xs.length) (hz : wd (xs.take i) ((i : Int) - 1) = 0) : tr (xs.take (i - 1)) = tr xs := by
  obtain ⟨k, rfl⟩ : ∃ k, i = k + 1 := ⟨i - 1, by omega⟩
  have e : ((k + 1 : Nat) : Int) - 1 = (k : Int) := by omega
  rw [e, wd_take (by omega)] at hz
  rw [take_succ_wd xs k (by omega), hz, tr_snoc_zero] at h
  simpa using h
theorem trim_last {xs : List Int} {i : Nat} (hi : 0 < i) (h : tr (xs.take i) = tr xs) (hn : i ≤ xs.length) (hz : wd (xs.take i) ((i : Int) - 1) ≠ 0) : xs.take i = tr xs := by
  obtain ⟨k, rfl⟩ : ∃ k, i = k + 1 := ⟨i - 1, by omega⟩
  have e : ((k + 1 : Nat) : Int) - 1 = (k : Int) := by omega
  rw [e, wd_take (by omega)] at hz
  rw [take_succ_wd xs k (by omega), tr_snoc_ne _ hz] at h
  rw [take_succ_wd xs k (by omega), h]
/-- Reads as the integer z, in least form. -/
def ZC (S : Nat → Prop) (W : World) (neg : Bool) (a : Option Addr) (n c : Nat) (z : Int) : Prop :=
  RN .u32 S W a n c (dg b32 z.natAbs) ∧ neg = decide (z < 0)
/-- Reads as the integer z, in any form of at most L words. -/
def ZA (L : Nat) (S : Nat → Prop) (W : World) (neg : Bool) (a : Option Addr) (n c : Nat) (z : Int) : Prop :=
  ∃ xs, RN .u32 S W a n c xs ∧ n ≤ L ∧ z = if neg then -(vl b32 xs) else vl b32 xs
section
variable {L : Nat} {S : Nat → Prop} {W W' : World} {neg : Bool} {a : Option Addr} {n c : Nat} {z : Int}
theorem ZC.ck (h : ZC S W neg a n c z) (x : CK S W W') : ZC S W' neg a n c z := ⟨h.1.ck x, h.2⟩
theorem ZA.ck (h : ZA L S W neg a n c z) (x : CK S W W') : ZA L S W' neg a n c z := by
  obtain ⟨xs, h1, h2⟩ := h; exact ⟨xs, h1.ck x, h2⟩
theorem ZC.ext (h : ZC S W neg a n c z) (x : Ext W W') : ZC S W' neg a n c z := h.ck (x.ck S)
theorem ZA.ext (h : ZA L S W neg a n c z) (x : Ext W W') : ZA L S W' neg a n c z := h.ck (x.ck S)
theorem ZC.za (h : ZC S W neg a n c z) (hL : n ≤ L) : ZA L S W neg a n c z := by
  refine ⟨_, h.1, hL, ?_⟩
  rw [vl_dg (by decide) (by omega), h.2]
  by_cases hz : z < 0 <;> simp [hz] <;> omega
theorem ZC.zaH (h : ZC S W neg a n c z) (hz : (z.natAbs : Int) < b32 ^ L) : ZA L S W neg a n c z :=
  h.za (by rw [← h.1.len]; exact dg_length_le (by decide) hz)
theorem ZA.sub {S' : Nat → Prop} (h : ZA L S W neg a n c z) (hs : ∀ b, b < W.heap.size → S b → S' b) : ZA L S' W neg a n c z := by
  obtain ⟨xs, h1, h2⟩ := h; exact ⟨xs, h1.sub hs, h2⟩
theorem ZC.sub {S' : Nat → Prop} (h : ZC S W neg a n c z) (hs : ∀ b, b < W.heap.size → S b → S' b) : ZC S' W neg a n c z := ⟨h.1.sub hs, h.2⟩
theorem ZA.mono {L' : Nat} (h : ZA L S W neg a n c z) (hL : L ≤ L') : ZA L' S W neg a n c z := by
  obtain ⟨xs, h1, h2, h3⟩ := h; exact ⟨xs, h1, Nat.le_trans h2 hL, h3⟩
theorem ZA.ng (h : ZA L S W neg a n c z) : ZA L S W (!neg) a n c (-z) := by
  obtain ⟨xs, h1, h2, h3⟩ := h
  refine ⟨xs, h1, h2, ?_⟩
  cases neg <;> simp at h3 ⊢ <;> omega
theorem ZA.abs {xs : List Int} (h1 : RN .u32 S W a n c xs) (h3 : z = if neg then -(vl b32 xs) else vl b32 xs) : (z.natAbs : Int) = vl b32 xs := by
  have := vl_nonneg (B := b32) (by decide) h1.dg32
  cases neg <;> simp at h3 <;> omega
end
theorem dg_natAbs_len {v : Int} (hv : 0 ≤ v) {m : Nat} (h : (dg b32 v).length = m) : v = 0 ↔ m = 0 := by
  rw [← h, List.length_eq_zero_iff]; exact (dg_eq_nil (by decide) hv).symm
theorem sgn_abs (neg : Bool) {v : Int} (hv : 0 ≤ v) : ((if neg then -v else v).natAbs : Int) = v := by cases neg <;> simp <;> omega
/-- It returns the integer z, in least form. -/
def PZ (S : Nat → Prop) (z : Int) (w : World) (e : Ending) (w' : World) : Prop := ∃ neg a n c, e = .returned (.agg #[.bool neg, .slice a n c]) ∧ Ext w w' ∧ ZC S w' neg a n c z
/-- It returns these words. -/
def PW (S : Nat → Prop) (xs : List Int) (w : World) (e : Ending) (w' : World) : Prop := ∃ a n c, e = .returned (.slice a n c) ∧ Ext w w' ∧ RN .u32 S w' a n c xs
theorem RN.cast {k : IntKind} {S : Nat → Prop} {W : World} {a : Option Addr} {n c : Nat} {xs ys : List Int} (h : RN k S W a n c xs) (e : xs = ys) : RN k S W a n c ys := e ▸ h
theorem RN.un {k : IntKind} {S : Nat → Prop} {bs : List Nat} {W : World} {a : Option Addr} {n c : Nat} {xs : List Int} (h : RN k (SX S bs) W a n c xs) : RN k S W a n c xs := h.sub fun _ _ h => h.1
theorem ZC.un {S : Nat → Prop} {bs : List Nat} {W : World} {neg : Bool} {a : Option Addr} {n c : Nat} {z : Int} (h : ZC (SX S bs) W neg a n c z) : ZC S W neg a n c z := h.sub fun _ _ h => h.1
theorem ZA.un {L : Nat} {S : Nat → Prop} {bs : List Nat} {W : World} {neg : Bool} {a : Option Addr} {n c : Nat} {z : Int} (h : ZA L (SX S bs) W neg a n c z) : ZA L S W neg a n c z := h.sub fun _ _ h => h.1
theorem ZC.cast {S : Nat → Prop} {W : World} {neg : Bool} {a : Option Addr} {n c : Nat} {z z' : Int} (h : ZC S W neg a n c z) (e : z = z') : ZC S W neg a n c z' := e ▸ h
theorem ZC.mk' {S : Nat → Prop} {W : World} {a : Option Addr} {m c : Nat} {v : Int} {neg s : Bool} (hr : RN .u32 S W a m c (dg b32 v)) (hv : 0 ≤ v) (hs : s = (neg && decide (0 < (m : Int)))) : ZC S W s a m c (if neg then -v else v) := by
  have hd := dg_natAbs_len hv hr.len
  refine ⟨by rw [sgn_abs neg hv]; exact hr, ?_⟩
  subst hs
  cases neg
  · simp; omega
  · simp only [Bool.true_and, if_true, decide_eq_decide]; omega
def sg (z : Int) : Int := if z < 0 then -1 else if z = 0 then 0 else 1
theorem sg_of {neg : Bool} {v s : Int} {m : Nat} (hv : 0 ≤ v) (hd : v = 0 ↔ m = 0) (h : (m = 0 ∧ s = 0) ∨ (m ≠ 0 ∧ neg = true ∧ s = -1) ∨ (m ≠ 0 ∧ neg = false ∧ s = 1)) : s = sg (if neg then -v else v) := by
  unfold sg
  rcases h with ⟨h1, rfl⟩ | ⟨h1, rfl, rfl⟩ | ⟨h1, rfl, rfl⟩
  · have := hd.2 h1; subst this; cases neg <;> simp
  · simp only [if_true]; rw [if_pos (by omega)]
  · simp only [Bool.false_eq_true, if_false]; rw [if_neg (by omega), if_neg (by omega)]
section
variable {r : Option Nat} {P : Program} {ρ : Operand → Value} {W W' : World} {d : Option Tmp} {op : Op} {ty T e : TypeId} {pos : String} {af : Array Edge} {g : Option (Nat × Bool)} {x y : Operand} {v u : Value} {K : Value → World → Prop}
/-- append(v, ys...) -/
theorem xappN {k : IntKind} {S : Nat → Prop} {t1 : TypeId} {B m c : Nat} {a : Option Addr} {xs ys : List Int} {bytes : Nat} (hS : Sl P t1 e) (hi : ∃ i, P.info? e = some i ∧ i.size = 1 ∧ i.bytes = bytes ∧ i.zero = some (.int k 0)) (hO : OI k B W e v xs) (hx : ρ x = v) (hy : ρ y = .slice a m c) (hb : RN k S W a m c ys)
    (hlen : (xs.length + ys.length) * bytes ≤ 140737488355328) (hbp : 0 < bytes) (hB : B ≤ W.heap.size)
    (hk2 : ∀ v' W', OI k B W' e v' (xs ++ ys) → W.grownBy W' v.ownBlock → (v'.ownBlock = v.ownBlock ∨ v'.ownBlock = some W.heap.size) → K v' W') :
    OpF r P ρ ⟨d, .call ⟨.builtin .append, #[x, y], #[t1, t1]⟩, ty, pos, af, g⟩ W K := by
  obtain ⟨i, h1, h2, h3, h4⟩ := hi
  have hle : xs.length + ys.length ≤ 140737488355328 := Nat.le_trans (Nat.le_mul_of_pos_right _ hbp) hlen
  have hln := hb.len
  by_cases hm : 0 < m
  · obtain ⟨b, off, cs, T, fz, rfl, hs, hbb, hc⟩ := hb.at_ hm
    obtain ⟨v', W', hr, h5, h6, h7, h8⟩ := run_append_own_at (P := P) W B t1 ty e i (.int k 0) 1 bytes hS h1 h4 h2 h3 rfl (by omega) v xs.length _ hO.row ⟨b, off, none⟩ m c (ys.map (Value.int k)) (by simp [hln])
      (by intro j u hj
          have hj2 : j < m := by
            have := (List.getElem?_eq_some_iff.1 hj).1
            simpa [hln] using this
          rw [addO]
          simp only [World.cell?, hbb]
          have := hc j hj2
          rw [List.getElem?_map] at hj
          obtain ⟨q, hq, rfl⟩ := Option.map_eq_some_iff.1 hj
          simpa [wd, hq] using this) (by intro u hu; obtain ⟨q, _, rfl⟩ := List.mem_map.1 hu; rfl) (by simp only [maxLen]; omega) (by rw [← hln]; exact hlen) hB
    unfold OpF execOp
    simp only [resolve, invoke, builtin, Sem.run_bind, Sem.run_pure, Result.andThen_ok, List.map_toArray, List.map_cons, List.map_nil, hx, hy, hr]
    refine hk2 v' W' ⟨by simpa [hln] using h5, ?_⟩ h6 h8
    intro q hq
    rcases List.mem_append.1 hq with hq | hq
    · exact hO.wf q hq
    · exact hb.wf q hq
  · have hm0 : m = 0 := by omega
    subst hm0
    have hys : ys = [] := List.eq_nil_of_length_eq_zero hln
    subst hys
    have hr : (Builtin.append_ #[t1, t1] ty #[v, .slice a 0 c]).run P W = .ok v W := by
      obtain ⟨a', c', rfl⟩ := hO.form
      have hrn := hO.rn (S := fun _ => True) (fun _ _ _ => trivial)
      have hsrc : Src P i.size t1 (.slice a 0 c) 0 [] W := by
        cases a with
        | none => exact Src.ofNil W hS c
        | some ad => exact Src.ofSlice W hS ad 0 c [] (by simp) (by simp) (by simp)
      exact run_append_nothing W t1 t1 ty e i hS h1 a' xs.length c' hrn.cap _ hsrc
    unfold OpF execOp
    simp only [resolve, invoke, builtin, Sem.run_bind, Sem.run_pure, Result.andThen_ok, List.map_toArray, List.map_cons, List.map_nil, hx, hy, hr]
    exact hk2 v W (by simpa using hO) (World.grownBy.refl _ _) (.inl rfl)
end
/-! ### An array of whole numbers that was made at once -/
structure AR (k : IntKind) (W : World) (b : Nat) (e : TypeId) (n : Nat) (xs : List Int) : Prop where
  box : BoxAt W b (xs.map (Value.int k)) e
  wf : ∀ x ∈ xs, kb k x
  len : xs.length = n
  max : n ≤ 9223372036854775807
section
variable {r : Option Nat} {P : Program} {ρ : Operand → Value} {W W' : World} {d : Option Tmp} {op : Op} {ty T e : TypeId} {pos : String} {af : Array Edge} {g : Option (Nat × Bool)} {x y : Operand} {v u : Value} {K : Value → World → Prop} {k : IntKind} {b n : Nat} {xs : List Int}
theorem AR.ext (h : AR k W b e n xs) (x : Ext W W') : AR k W' b e n xs := ⟨h.box.ext x, h.wf, h.len, h.max⟩
theorem AR.ck {S : Nat → Prop} (h : AR k W b e n xs) (x : CK S W W') (hb : S b) : AR k W' b e n xs := ⟨h.box.ck x hb, h.wf, h.len, h.max⟩
theorem AR.wr {b' : Nat} (h : AR k W b e n xs) (x : Wr b' W W') (hb : b ≠ b') : AR k W' b e n xs := ⟨h.box.wr x hb, h.wf, h.len, h.max⟩
theorem AR.bl {B : Nat} (h : AR k W b e n xs) (x : Below B W W') (hb : b < B) : AR k W' b e n xs := ⟨h.box.bl x hb, h.wf, h.len, h.max⟩
theorem AR.rn {S : Nat → Prop} (h : AR k W b e n xs) (hS : S b) : RN k S W (some ⟨b, 0, none⟩) n n xs :=
  ⟨h.len, Nat.le_refl _, h.max, h.wf, fun hn => ⟨b, 0, _, e, (0,0), rfl, hS, h.box, fun j hj => by
    have hl := h.len
    have hj2 : j < xs.length := by omega
    simp [wd, hj2]⟩⟩
/-- make([]T, n) -/
theorem xmk {t1 : TypeId} {bytes : Nat} {z : Int} (n : Nat) (hS : Sl P t1 e) (hi : ∃ i, P.info? e = some i ∧ i.size = 1 ∧ i.bytes = bytes ∧ i.zero = some (.int k 0)) (hk : kb k 0) (hx : ρ x = .int .i64 z) (hy : ρ y = .int .i64 z) (hz : z = (n : Int)) (hn : bytes * n ≤ 281474976710656) (h63 : n ≤ 9223372036854775807)
    (hk2 : ∀ W', Ext W W' → AR k W' W.heap.size e n (List.replicate n 0) → W'.heap.size = W.heap.size + 1 → K (.slice (some ⟨W.heap.size, 0, none⟩) n n) W') :
    OpF r P ρ ⟨d, .makeSlice t1 x y, ty, pos, af, g⟩ W K := by
  subst hz
  obtain ⟨i, h1, h2, h3, h4⟩ := hi
  have hr := run_make (P := P) W t1 e i (.int k 0) hS h1 h4 .i64 .i64 n n (by omega) (Int.le_refl _) (by rw [h3, ← Int.natCast_mul]; omega) (by omega)
  unfold OpF execOp
  simp only [hx, hy, Sem.run_bind, hr, Result.andThen_ok, Sem.run_pure, Int.toNat_natCast]
  refine hk2 _ ((Ext.refl _).alloc _) ⟨?_, by simp; exact fun _ => hk, by simp, h63⟩ (by simp)
  have := toList_madeCells_one (.int k 0) n
  unfold BoxAt
  rw [heap_alloc_new]
  congr 2
  apply Array.ext'
  rw [h2, Nat.mul_one, show ((Value.int k 0).cells) = #[.int k 0] from rfl, toList_madeCells_one]
  simp
/-- a[i] = z -/
theorem xsti {i z : Int} (h : AR k W b e n xs) (hx : ρ x = .pointer (some (adr (some ⟨b, 0, none⟩) i 1))) (hy : ρ y = .int k z) (hT : Sz P T 1) (hk : kb k z) (h0 : 0 ≤ i) (h1 : i < n)
    (hk2 : ∀ W', Wr b W W' → AR k W' b e n (xs.set i.toNat z) → K undef W') : OpF r P ρ ⟨d, .store T x y, ty, pos, af, g⟩ W K := by
  have hl := h.len
  have hw := h.wf
  have hm := h.max
  have hlt : i.toNat < (xs.map (Value.int k)).length := by simp; omega
  refine st1 (o := i.toNat) (v := .int k z) (cs' := (xs.set i.toNat z).map (Value.int k)) h.box ?_ hy hT rfl rfl (Nat.ble_eq_true_of_le hlt) ?_ ?_
  · rw [hx]; simp [adr, addO]
  · rw [List.map_set, List.set_eq_take_append_cons_drop, if_pos hlt]; simp
  · intro W' y' hb
    exact hk2 W' y' ⟨hb, fun q hq => by
      rcases List.mem_or_eq_of_mem_set hq with h | h
      · exact hw q h
      · subst h; exact hk, by rw [List.length_set]; exact hl, hm⟩
end
end Go.Proofs.Ytknbjfefeeojlaa

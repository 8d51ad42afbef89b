/- Short steps. -/
import Derived.Test.YtknbjfefeeojlaaTy
namespace Go.Proofs.Ytknbjfefeeojlaa
open Go.RowKit
section
variable {r : Option Nat} {P : Program} {ops : Array Oper} {R : Env → World → Prop} {l : List Oper} {E : Env} {W W' : World} {t : Tmp} {d : Option Tmp} {ty T T' e : TypeId} {pos : String} {af : Array Edge} {g : Option (Nat × Bool)} {x y : Operand} {K : Value → World → Prop} {ρ : Operand → Value}

/-! ### Copies -/
theorem mvi {k : IntKind} {n : Int} (hx : ev E x = .int k n) (h : RV r P ops R l (up E t (.int k n)) W) : RV r P ops R (⟨some t, .move x, ty, pos, af, none⟩ :: l) E W := vv (rmv hx) h
theorem mvb {b : Bool} (hx : ev E x = .bool b) (h : RV r P ops R l (up E t (.bool b)) W) : RV r P ops R (⟨some t, .move x, ty, pos, af, none⟩ :: l) E W := vv (rmv hx) h
theorem mvs {a : Option Addr} {n c : Nat} (hx : ev E x = .slice a n c) (h : RV r P ops R l (up E t (.slice a n c)) W) : RV r P ops R (⟨some t, .move x, ty, pos, af, none⟩ :: l) E W := vv (rmv hx) h
theorem mvp {p : Option Addr} (hx : ev E x = .pointer p) (h : RV r P ops R l (up E t (.pointer p)) W) : RV r P ops R (⟨some t, .move x, ty, pos, af, none⟩ :: l) E W := vv (rmv hx) h
theorem mvf {f : Fn} {u c : Array Value} (hx : ev E x = .func f u c) (h : RV r P ops R l (up E t (.func f u c)) W) : RV r P ops R (⟨some t, .move x, ty, pos, af, none⟩ :: l) E W := vv (rmv hx) h
theorem mvt {u : Array Value} (hx : ev E x = .tuple u) (h : RV r P ops R l (up E t (.tuple u)) W) : RV r P ops R (⟨some t, .move x, ty, pos, af, none⟩ :: l) E W := vv (rmv hx) h
theorem mva {u : Array Value} (hx : ev E x = .agg u) (h : RV r P ops R l (up E t (.agg u)) W) : RV r P ops R (⟨some t, .move x, ty, pos, af, none⟩ :: l) E W := vv (rmv hx) h
theorem asi {k : IntKind} {n : Int} (hx : ev E x = .int k n) (h : RV r P ops R l (up E t (.int k n)) W) : RV r P ops R (⟨some t, .assign x, ty, pos, af, none⟩ :: l) E W := vv (ras hx) h
theorem asb {b : Bool} (hx : ev E x = .bool b) (h : RV r P ops R l (up E t (.bool b)) W) : RV r P ops R (⟨some t, .assign x, ty, pos, af, none⟩ :: l) E W := vv (ras hx) h
theorem ass {a : Option Addr} {n c : Nat} (hx : ev E x = .slice a n c) (h : RV r P ops R l (up E t (.slice a n c)) W) : RV r P ops R (⟨some t, .assign x, ty, pos, af, none⟩ :: l) E W := vv (ras hx) h
theorem asp {p : Option Addr} (hx : ev E x = .pointer p) (h : RV r P ops R l (up E t (.pointer p)) W) : RV r P ops R (⟨some t, .assign x, ty, pos, af, none⟩ :: l) E W := vv (ras hx) h
theorem asf {f : Fn} {u c : Array Value} (hx : ev E x = .func f u c) (h : RV r P ops R l (up E t (.func f u c)) W) : RV r P ops R (⟨some t, .assign x, ty, pos, af, none⟩ :: l) E W := vv (ras hx) h
theorem asn (hx : ev E x = .nilFunc) (h : RV r P ops R l (up E t .nilFunc) W) : RV r P ops R (⟨some t, .assign x, ty, pos, af, none⟩ :: l) E W := vv (ras hx) h
theorem asa {u : Array Value} (hx : ev E x = .agg u) (h : RV r P ops R l (up E t (.agg u)) W) : RV r P ops R (⟨some t, .assign x, ty, pos, af, none⟩ :: l) E W := vv (ras hx) h

/-! ### Comparisons: two ways -/
section
variable {k : IntKind} {m n : Int} {t1 t2 : TypeId}
theorem vlt (hx : ev E x = .int k m) (hy : ev E y = .int k n) (h1 : m < n → RV r P ops R l (up E t (.bool true)) W) (h2 : n ≤ m → RV r P ops R l (up E t (.bool false)) W) : RV r P ops R (⟨some t, .binOp .lss t1 x y t2, ty, pos, af, none⟩ :: l) E W := by
  by_cases h : m < n
  · exact vv (rcmp (cLt (decide_eq_true h)) rfl hx hy) (h1 h)
  · exact vv (rcmp (cLt (decide_eq_false h)) rfl hx hy) (h2 (by omega))
theorem vle (hx : ev E x = .int k m) (hy : ev E y = .int k n) (h1 : m ≤ n → RV r P ops R l (up E t (.bool true)) W) (h2 : n < m → RV r P ops R l (up E t (.bool false)) W) : RV r P ops R (⟨some t, .binOp .leq t1 x y t2, ty, pos, af, none⟩ :: l) E W := by
  by_cases h : m ≤ n
  · exact vv (rcmp (cLe (decide_eq_true h)) rfl hx hy) (h1 h)
  · exact vv (rcmp (cLe (decide_eq_false h)) rfl hx hy) (h2 (by omega))
theorem vgt (hx : ev E x = .int k m) (hy : ev E y = .int k n) (h1 : n < m → RV r P ops R l (up E t (.bool true)) W) (h2 : m ≤ n → RV r P ops R l (up E t (.bool false)) W) : RV r P ops R (⟨some t, .binOp .gtr t1 x y t2, ty, pos, af, none⟩ :: l) E W := by
  by_cases h : n < m
  · exact vv (rcmp (cGt (decide_eq_true h)) rfl hx hy) (h1 h)
  · exact vv (rcmp (cGt (decide_eq_false h)) rfl hx hy) (h2 (by omega))
theorem vge (hx : ev E x = .int k m) (hy : ev E y = .int k n) (h1 : n ≤ m → RV r P ops R l (up E t (.bool true)) W) (h2 : m < n → RV r P ops R l (up E t (.bool false)) W) : RV r P ops R (⟨some t, .binOp .geq t1 x y t2, ty, pos, af, none⟩ :: l) E W := by
  by_cases h : n ≤ m
  · exact vv (rcmp (cGe (decide_eq_true h)) rfl hx hy) (h1 h)
  · exact vv (rcmp (cGe (decide_eq_false h)) rfl hx hy) (h2 (by omega))
theorem veq (hx : ev E x = .int k m) (hy : ev E y = .int k n) (h1 : m = n → RV r P ops R l (up E t (.bool true)) W) (h2 : m ≠ n → RV r P ops R l (up E t (.bool false)) W) : RV r P ops R (⟨some t, .binOp .eql t1 x y t2, ty, pos, af, none⟩ :: l) E W := by
  by_cases h : m = n
  · exact vv (rcmp (cEq (decide_eq_true h)) rfl hx hy) (h1 h)
  · exact vv (rcmp (cEq (decide_eq_false h)) rfl hx hy) (h2 h)
theorem vne (hx : ev E x = .int k m) (hy : ev E y = .int k n) (h1 : m ≠ n → RV r P ops R l (up E t (.bool true)) W) (h2 : m = n → RV r P ops R l (up E t (.bool false)) W) : RV r P ops R (⟨some t, .binOp .neq t1 x y t2, ty, pos, af, none⟩ :: l) E W := by
  by_cases h : m = n
  · exact vv (rcmp (cNe (by simp [h])) rfl hx hy) (h2 h)
  · exact vv (rcmp (cNe (by simp [h])) rfl hx hy) (h1 h)
end

/-! ### Effects -/
theorem xal {cs : List Value} (hz : Zc P T cs) (h : ∀ W', Ext W W' → BoxAt W' W.heap.size cs T → W'.heap.size = W.heap.size + 1 → K (.pointer (some ⟨W.heap.size, 0, none⟩)) W') : OpF r P ρ ⟨d, .alloc T, ty, pos, af, g⟩ W K := by
  obtain ⟨z, h1, h2⟩ := hz; exact xv (ral h1 h2) (h _ ((Ext.refl _).alloc _) (BoxAt.new _ _ _) (by simp))
theorem xbx {v : Value} {cs : List Value} (hx : ρ x = v) (hc : v.cells = cs.toArray) (h : ∀ W', Ext W W' → BoxAt W' W.heap.size cs T → W'.heap.size = W.heap.size + 1 → K (.pointer (some ⟨W.heap.size, 0, none⟩)) W') : OpF r P ρ ⟨d, .box T x, ty, pos, af, g⟩ W K :=
  xv (rbx hx hc) (h _ ((Ext.refl _).alloc _) (BoxAt.new _ _ _) (by simp))
theorem bxa {cs : List Value} (hx : ρ x = .agg cs.toArray) (h : ∀ W', Ext W W' → BoxAt W' W.heap.size cs T → W'.heap.size = W.heap.size + 1 → K (.pointer (some ⟨W.heap.size, 0, none⟩)) W') : OpF r P ρ ⟨d, .box T x, ty, pos, af, g⟩ W K := xbx hx rfl h
theorem bxs {a : Option Addr} {n c : Nat} (hx : ρ x = .slice a n c) (h : ∀ W', Ext W W' → BoxAt W' W.heap.size [.slice a n c] T → W'.heap.size = W.heap.size + 1 → K (.pointer (some ⟨W.heap.size, 0, none⟩)) W') : OpF r P ρ ⟨d, .box T x, ty, pos, af, g⟩ W K := xbx hx rfl h
theorem bxi {k : IntKind} {n : Int} (hx : ρ x = .int k n) (h : ∀ W', Ext W W' → BoxAt W' W.heap.size [.int k n] T → W'.heap.size = W.heap.size + 1 → K (.pointer (some ⟨W.heap.size, 0, none⟩)) W') : OpF r P ρ ⟨d, .box T x, ty, pos, af, g⟩ W K := xbx hx rfl h
theorem bxf {f : Fn} {u c : Array Value} (hx : ρ x = .func f u c) (h : ∀ W', Ext W W' → BoxAt W' W.heap.size [.func f u c] T → W'.heap.size = W.heap.size + 1 → K (.pointer (some ⟨W.heap.size, 0, none⟩)) W') : OpF r P ρ ⟨d, .box T x, ty, pos, af, g⟩ W K := xbx hx rfl h
theorem bxp {p : Option Addr} (hx : ρ x = .pointer p) (h : ∀ W', Ext W W' → BoxAt W' W.heap.size [.pointer p] T → W'.heap.size = W.heap.size + 1 → K (.pointer (some ⟨W.heap.size, 0, none⟩)) W') : OpF r P ρ ⟨d, .box T x, ty, pos, af, g⟩ W K := xbx hx rfl h
/-- A store into a block of the call's own. -/
theorem xst {b o : Nat} {v : Value} {vs cs cs' : List Value} (hx : ρ x = .pointer (some ⟨b, o, none⟩)) (hy : ρ y = v) (hT : Sz P T vs.length) (hv : v.cells = vs.toArray) (h1 : (vs.all Value.oneCell') = true) (hb : BoxAt W b cs T') (hl : o + vs.length ≤ cs.length) (hc : cs.take o ++ vs ++ cs.drop (o + vs.length) = cs')
    (h : ∀ W', Wr b W W' → BoxAt W' b cs' T' → K undef W') : OpF r P ρ ⟨d, .store T x y, ty, pos, af, g⟩ W K := by
  subst hc
  exact xu (rstn hx hy hT hv (by simpa using h1) hb hl) (h _ (hb.setRow _).2 (hb.setRow _).1)
theorem sta {b o : Nat} {vs cs cs' : List Value} (hb : BoxAt W b cs T') (hx : ρ x = .pointer (some ⟨b, o, none⟩)) (hy : ρ y = .agg vs.toArray) (hT : Sz P T vs.length) (h1 : (vs.all Value.oneCell') = true) (hl : Nat.ble (o + vs.length) cs.length = true) (hc : cs.take o ++ vs ++ cs.drop (o + vs.length) = cs')
    (h : ∀ W', Wr b W W' → BoxAt W' b cs' T' → K undef W') : OpF r P ρ ⟨d, .store T x y, ty, pos, af, g⟩ W K := xst hx hy hT rfl h1 hb (Nat.le_of_ble_eq_true hl) hc h
theorem st1 {b o : Nat} {v : Value} {cs cs' : List Value} (hb : BoxAt W b cs T') (hx : ρ x = .pointer (some ⟨b, o, none⟩)) (hy : ρ y = v) (hT : Sz P T 1) (hv : v.cells = #[v]) (h1 : v.oneCell' = true) (hl : Nat.blt o cs.length = true) (hc : cs.take o ++ [v] ++ cs.drop (o + 1) = cs')
    (h : ∀ W', Wr b W W' → BoxAt W' b cs' T' → K undef W') : OpF r P ρ ⟨d, .store T x y, ty, pos, af, g⟩ W K := xst (vs := [v]) hx hy hT hv (by simp [h1]) hb (by have := Nat.le_of_ble_eq_true hl; simp; omega) hc h
theorem rep_cells (z : Array Value) (n : Nat) (h0 : 0 < z.size) : (Array.range (n * z.size)).map (fun i => z[i % z.size]!) = (List.replicate n z.toList).flatten.toArray := by
  apply Array.ext'
  simp only [Array.toList_map, Array.toList_range]
  induction n with
  | zero => simp
  | succ n ih =>
    rw [Nat.succ_mul, List.range_add, List.map_append, ih, List.replicate_succ', List.flatten_append]
    congr 1
    simp only [List.map_map, List.flatten_cons, List.flatten_nil, List.append_nil]
    apply List.ext_getElem
    · simp
    · intro i h1 h2
      have hi : i < z.size := by simpa using h1
      simp [Nat.mul_add_mod', Nat.add_mod, Nat.mod_eq_of_lt hi, hi]
/-- A slice literal. -/
theorem xbs {n s : Nat} {z : Value} {zs cs : List Value} {parts : Array (Nat × Operand)} {ps : List (Nat × Value)} (hS : Sl P T e) (hz : Zr P e z) (hs : Sz P e s) (hzs : z.cells = zs.toArray) (hss : Nat.beq zs.length s = true) (hs0 : Nat.blt 0 s = true) (hp : (parts.toList.map fun p => (p.1, ρ p.2)) = ps) (hn : Nat.ble (n * s) 16777216 = true)
    (hf : Instr.fill (fun i => some (i * s, s)) (List.replicate n zs).flatten.toArray ps = some cs.toArray)
    (h : ∀ W', Ext W W' → BoxAt W' W.heap.size cs e → W'.heap.size = W.heap.size + 1 → K (.slice (some ⟨W.heap.size, 0, none⟩) n n) W') : OpF r P ρ ⟨d, .buildSlice T n parts, ty, pos, af, g⟩ W K := by
  have hr : (execOp ρ ⟨d, .buildSlice T n parts, ty, pos, af, g⟩).run P W = .ok (.value (.slice (some ⟨W.heap.size, 0, none⟩) n n)) (W.alloc (.cells cs.toArray e)) := by
    have hp' : (parts.map fun (i, x) => (i, ρ x)).toList = ps := by rw [← hp]; simp
    have hle := Nat.le_of_ble_eq_true hn
    have hs1 : zs.length = s := Nat.eq_of_beq_eq_true hss
    have hs2 : 0 < s := by have := Nat.le_of_ble_eq_true hs0; omega
    unfold execOp
    simp only [Instr.buildSlice, Sem.run_bind, run_underlying hS, Result.andThen_ok, sizeOf_sz hs]
    rw [if_neg (show ¬ n * s > 2 ^ 24 by omega)]
    by_cases h0 : n * s = 0
    · have hn0 : n = 0 := by
        rcases Nat.mul_eq_zero.1 h0 with h | h
        · exact h
        · omega
      subst hn0
      simp only [List.replicate_zero, List.flatten_nil] at hf
      simp only [Nat.zero_mul, if_true] at hf ⊢
      simp only [Sem.run_bind, Sem.run_pure, Result.andThen_ok, hp', hf, show Array.range 0 = #[] from rfl, show ∀ f : Nat → Value, Array.map f #[] = #[] from fun _ => Array.map_empty]
      simp [newRow, go_sem]
    · have hsz : z.cells.size = s := by rw [hzs]; simpa using hs1
      have hrep := rep_cells z.cells n (by omega)
      rw [hsz] at hrep
      simp only [h0, if_false]
      simp only [Sem.run_bind, zero_zr hz, Sem.run_pure, Result.andThen_ok, hp', hsz, hrep]
      rw [hzs, List.toList_toArray, hf]
      simp [newRow, go_sem]
  exact xv hr (h _ ((Ext.refl _).alloc _) (BoxAt.new _ _ _) (by simp))

/-! ### The end of a function -/
section
variable {fn : Func} {Rr : Ending → World → Prop}
theorem lv0 {vs : List Value} (h1 : Res P E W fn.results.toList vs) (h2 : Rr (.returned (one vs)) W) : Lv P fn Rr E [] W := ⟨vs, h1, h2⟩
end
/-! ### Numbers that fit -/
theorem wi {z : Int} (h : -9223372036854775808 ≤ z ∧ z ≤ 9223372036854775807) : IntKind.i64.wrap z = z := by rw [IntKind.wrap_i64]; omega
end
end Go.Proofs.Ytknbjfefeeojlaa

/- A calculus for walks: a frame is a function from slots to values; a region that draws its order is walked in one order, the loads taken first. -/
import Derived.Test.YtknbjfefeeojlaaBase
import Derived.OrdersIn
import Derived.RangeFuncWrites
import Derived.RangeFuncLeaves
namespace Go.Proofs.Ytknbjfefeeojlaa
open Go.RowKit

abbrev Env := Nat → Value
def up (E : Env) (d : Nat) (v : Value) : Env := fun t => cond (Nat.beq t d) v (E t)
def ev (E : Env) : Operand → Value
  | .tmp t => E t
  | .const v => v
  | .global g => .pointer (some ⟨g, 0, none⟩)
  | .func f => .func (.func f) #[] #[]
theorem up_same (E : Env) (d : Nat) (v : Value) : up E d v d = v := by simp [up]
theorem up_ne (E : Env) {d t : Nat} (v : Value) (h : t ≠ d) : up E d v t = E t := by
  have : Nat.beq t d = false := by cases hb : Nat.beq t d with
    | false => rfl
    | true => exact absurd (Nat.eq_of_beq_eq_true hb) h
  simp [up, this]
theorem up_comm (E : Env) {d e : Nat} (v u : Value) (h : d ≠ e) : up (up E d v) e u = up (up E e u) d v := by
  funext t
  by_cases h1 : t = d
  · subst h1; rw [up_ne _ _ h, up_same, up_same]
  · by_cases h2 : t = e
    · subst h2; rw [up_same, up_ne _ _ h1, up_same]
    · rw [up_ne _ _ h2, up_ne _ _ h1, up_ne _ _ h1, up_ne _ _ h2]
theorem up_self {E : Env} {d : Nat} {v : Value} (h : E d = v) : up E d v = E := by
  funext t
  by_cases h1 : t = d
  · subst h1; rw [up_same, h]
  · rw [up_ne _ _ h1]
def ups (E : Env) : List (Nat × Value) → Env
  | [] => E
  | (d, v) :: r => up (ups E r) d v
def agree (E : Env) : List (Nat × Value) → Prop
  | [] => True
  | (d, v) :: r => E d = v ∧ agree E r
theorem ups_agree {E : Env} : ∀ {L : List (Nat × Value)}, agree E L → ups E L = E
  | [], _ => rfl
  | (d, v) :: r, ⟨h, hr⟩ => by rw [ups, ups_agree hr]; exact up_self h
def puto (E : Env) : Option Tmp → Value → Env
  | some d, v => up E d v
  | none, _ => E

structure Rep (N : Nat) (a : Act) (E : Env) : Prop where
  size : a.tmps.size = N
  get : ∀ t, a.tmps.getD t undef = E t
theorem Rep.eval {N : Nat} {a : Act} {E : Env} (h : Rep N a E) : a.eval = ev E := funext fun x => by
  cases x with
  | tmp t => exact h.get t
  | _ => rfl
theorem Rep.put {N : Nat} {a : Act} {E : Env} (h : Rep N a E) {d : Nat} (hd : Nat.blt d N = true) (v : Value) : Rep N (a.put (some d) v) (up E d v) := by
  refine ⟨by simp [Act.put, h.size], fun t => ?_⟩
  have hlt : d < N := by have := Nat.le_of_ble_eq_true hd; omega
  by_cases h1 : t = d
  · subst h1; rw [up_same]; simp [Act.put, h.size, hlt]
  · rw [up_ne _ _ h1, ← h.get]
    simp [Act.put, Array.getElem?_setIfInBounds_ne (Ne.symm h1)]
def dstOK (N : Nat) : Option Tmp → Bool
  | some d => Nat.blt d N
  | none => true
theorem Rep.puto {N : Nat} {a : Act} {E : Env} (h : Rep N a E) {d : Option Tmp} (hd : dstOK N d = true) (v : Value) : Rep N (a.put d v) (puto E d v) := by
  cases d with
  | none => exact h
  | some d => exact h.put hd v
def bit : Value → Option Bool
  | .bool b => some b
  | _ => none
def yE (ops : Array Oper) (E : Env) (j : Nat) : Option Bool := match (ops[j]?).bind (·.dst) with
  | some t => bit (E t)
  | none => none
theorem Rep.yielded {N : Nat} {a : Act} {E : Env} (h : Rep N a E) (ops : Array Oper) : Go.yielded ops a.tmps = yE ops E := funext fun j => by
  unfold Go.yielded yE
  cases (ops[j]?).bind (·.dst) with
  | none => rfl
  | some t =>
    have hg := h.get t
    simp only [Option.bind_some]
    rw [← hg]
    cases ht : a.tmps[t]? with
    | none => simp [Array.getD_eq_getD_getElem?, ht, undef, bit]
    | some v => simp only [Array.getD_eq_getD_getElem?, ht, Option.getD_some]; cases v <;> rfl
def wE (ops : Array Oper) (o : Oper) (E : Env) : Bool := Region.wanted o (yE ops E)

/-- The fence that shuts nothing out, in a round or in no round. -/
def fen (r : Option Nat) : Fence := { Fence.wide with round := r }
theorem fen_in (l : Nat) : Fence.wide.inRound l = fen (some l) := rfl
theorem callsIn_fen {r : Option Nat} {n : Nat} {P : Program} {f : FuncId} {args : Array Value} {w : World} {R : Ending → World → Prop} (h : Calls P f args w R) : CallsIn (fen r) n P f args w R := by
  have h2 := callsIn_wide (n := n).2 h
  cases r with
  | none => exact h2
  | some l => exact h2.inRound l

/-- An operation is run, through the call that it makes if it makes one. -/
def OpF (r : Option Nat) (P : Program) (ρ : Operand → Value) (o : Oper) (W : World) (R : Value → World → Prop) : Prop :=
  match (execOp ρ o).run P W with
  | .ok (.value v) W' => R v W'
  | .ok .skip W' => R undef W'
  | .ok (.enter f args) W' => Calls P f args W' fun e W'' => ∃ v, e = .returned v ∧ R v W''
  | .ok (.round l f tmps assign body) W' => RoundIn (fen r) 0 P l f tmps assign body W' fun e W'' => ∃ v, e = .returned v ∧ R v W''
  | _ => False
section
variable {r : Option Nat} {P : Program} {N : Nat} {ops : Array Oper}
theorem OpF.mono {ρ : Operand → Value} {o : Oper} {W : World} {R R' : Value → World → Prop} (h : OpF r P ρ o W R) (hr : ∀ v w, R v w → R' v w) : OpF r P ρ o W R' := by
  unfold OpF at *
  split at h
  · exact hr _ _ h
  · exact hr _ _ h
  · exact h.mono fun e w ⟨v, he, hv⟩ => ⟨v, he, hr _ _ hv⟩
  · exact h.mono fun e w ⟨v, he, hv⟩ => ⟨v, he, hr _ _ hv⟩
  · exact h.elim
theorem OpF.wpIn {a : Act} {E : Env} (hrep : Rep N a E) {o : Oper} {W : World} {K : Act → World → Prop} {Q : Exit → Act → World → Prop} (h : OpF r P (ev E) o W fun v W' => K (a.put o.dst v) W') : o.wpIn (fen r) 0 P a W K Q := by
  refine ⟨fun _ _ => trivial, ?_⟩
  by_cases hd : ∃ c, o.op = .defer c
  · obtain ⟨c, hc⟩ := hd
    unfold OpF execOp at h
    rw [hc] at h
    simp only [Sem.run_bind] at h
    cases hr : (resolve (ev E) c o.type).run P W <;> rw [hr] at h <;> simp [Result.andThen] at h
  · have hs : Oper.semAt (fen r).round a.eval o = execOp (ev E) o := by
      rw [← hrep.eval]; exact Oper.semAt_eq _ _ _ (fun c hc => hd ⟨c, hc⟩)
    rw [hs]
    unfold OpF at h
    generalize (execOp (ev E) o).run P W = x at h
    cases x with
    | halt x w => exact h.elim
    | ok x w =>
      cases x <;> simp only at h <;> try exact h.elim
      case value v => exact h
      case skip => exact h
      case enter f args => exact ⟨fun hx => by simp [fen, Fence.wide] at hx, callsIn_fen (h.mono fun e w ⟨v, he, hv⟩ => by subst he; exact hv)⟩
      case round l f tmps assign body => exact ⟨fun hx => by simp [fen, Fence.wide] at hx, h.mono fun e w ⟨v, he, hv⟩ => by subst he; exact hv⟩

/-! ### A region in the order of the text -/
def RV (r : Option Nat) (P : Program) (ops : Array Oper) (R : Env → World → Prop) : List Oper → Env → World → Prop
  | [], E, W => R E W
  | o :: l, E, W => if wE ops o E = true then OpF r P (ev E) o W (fun v W' => RV r P ops R l (puto E o.dst v) W') else RV r P ops R l (puto E o.dst undef) W
def dstsOK (N : Nat) (l : List Oper) : Bool := l.all fun o => dstOK N o.dst
theorem RV.wp {R : Env → World → Prop} {Q : Exit → Act → World → Prop} {ds : List Deferred} (hQ : ∀ a E W, Rep N a E → a.defers = ds → R E W → Q .normal a W) : ∀ (l : List Oper) (a : Act) (E : Env) (W : World), dstsOK N l = true → Rep N a E → a.defers = ds →
    RV r P ops R l E W → wpListIn (fen r) 0 P ops Q l a W
  | [], a, E, W, _, hrep, hd, h => hQ a E W hrep hd h
  | o :: l, a, E, W, hl, hrep, hd, h => by
    simp only [dstsOK, List.all_cons, Bool.and_eq_true] at hl
    unfold wpListIn
    unfold RV at h
    rw [hrep.yielded]
    have hdd : ∀ v, (a.put o.dst v).defers = ds := fun v => by cases o.dst <;> exact hd
    by_cases hw : wE ops o E = true
    · rw [if_pos hw] at h
      rw [if_pos (show Region.wanted o (yE ops E) = true from hw)]
      exact OpF.wpIn hrep (h.mono fun v W' hv => RV.wp hQ l _ _ _ hl.2 (hrep.puto hl.1 v) (hdd v) hv)
    · rw [if_neg hw] at h
      rw [if_neg (show ¬ Region.wanted o (yE ops E) = true from hw)]
      exact ⟨fun _ _ => trivial, RV.wp hQ l _ _ _ hl.2 (hrep.puto hl.1 _) (hdd _) h⟩

/-! ### A region that draws its order -/
def opI (r : Option Nat) (P : Program) (ops : Array Oper) (i : Nat) (K : Env → World → Prop) (E : Env) (W : World) : Prop :=
  match ops[i]? with
  | none => K E W
  | some o => if wE ops o E = true then OpF r P (ev E) o W (fun v W' => K (puto E o.dst v) W') else K (puto E o.dst undef) W
/-- All others come before it. -/
def lastOp (ops : Array Oper) (j : Nat) : Bool := match ops[j]? with
  | none => false
  | some o => (List.range ops.size).all fun k => k == j || o.after.any fun e => Region.binds .any e && e.on == k
def VA (r : Option Nat) (P : Program) (ops : Array Oper) (R : Env → World → Prop) : Nat → Array Bool → Env → World → Prop
  | 0, listed, E, W => Region.ready .any ops listed = [] ∧ R E W
  | fuel + 1, listed, E, W => (Region.ready .any ops listed = [] → R E W) ∧ ∀ i ∈ Region.ready .any ops listed, opI r P ops i (VA r P ops R fuel (listed.setIfInBounds i true)) E W
def VH (r : Option Nat) (P : Program) (ops : Array Oper) (S : World → Prop) (R : Env → World → Prop) : Nat → Array Bool → Env → World → Prop
  | 0, listed, E, W => Region.ready .any ops listed = [] ∧ R E W
  | fuel + 1, listed, E, W => (Region.ready .any ops listed = [] → R E W) ∧
      ∀ i ∈ Region.ready .any ops listed, opI r P ops i (fun E' W' => (lastOp ops i = false → S W') ∧ VH r P ops S R fuel (listed.setIfInBounds i true) E' W') E W
theorem opI.mono {i : Nat} {K K' : Env → World → Prop} {E : Env} {W : World} (h : opI r P ops i K E W) (hk : ∀ E W, K E W → K' E W) : opI r P ops i K' E W := by
  unfold opI at *
  split
  · rename_i ho; simp only [ho] at h; exact hk _ _ h
  · rename_i o ho
    simp only [ho] at h
    split
    · rename_i hw; rw [if_pos hw] at h; exact h.mono fun v w hv => hk _ _ hv
    · rename_i hw; rw [if_neg hw] at h; exact hk _ _ h
theorem VH.va {S : World → Prop} {R : Env → World → Prop} : ∀ (fuel : Nat) (listed : Array Bool) (E : Env) (W : World), VH r P ops S R fuel listed E W → VA r P ops R fuel listed E W
  | 0, _, _, _, h => h
  | fuel + 1, _, _, _, h => ⟨h.1, fun i hi => (h.2 i hi).mono fun E' W' h' => VH.va fuel _ E' W' h'.2⟩
theorem opI.wp {K : Act → World → Prop} {Q : Exit → Act → World → Prop} {ds : List Deferred} {KE : Env → World → Prop} (hK : ∀ a E W, Rep N a E → a.defers = ds → KE E W → K a W) {i : Nat} {a : Act} {E : Env} {W : World} (hl : dstsOK N ops.toList = true) (hrep : Rep N a E) (hd : a.defers = ds)
    (h : opI r P ops i KE E W) : wpOpIn (fen r) 0 P ops Q i K a W := by
  unfold opI at h
  unfold wpOpIn
  split
  · rename_i ho; simp only [ho] at h; exact hK a E W hrep hd h
  · rename_i o ho
    simp only [ho] at h
    have hdo : dstOK N o.dst = true := by
      simp only [dstsOK, List.all_eq_true] at hl
      exact hl o (by simpa using Array.mem_of_getElem? ho)
    have hdd : ∀ v, (a.put o.dst v).defers = ds := fun v => by cases o.dst <;> exact hd
    rw [hrep.yielded]
    by_cases hw : wE ops o E = true
    · rw [if_pos hw] at h
      rw [if_pos (show Region.wanted o (yE ops E) = true from hw)]
      exact OpF.wpIn hrep (h.mono fun v W' hv => hK _ _ _ (hrep.puto hdo v) (hdd v) hv)
    · rw [if_neg hw] at h
      rw [if_neg (show ¬ Region.wanted o (yE ops E) = true from hw)]
      exact ⟨fun _ _ => trivial, hK _ _ _ (hrep.puto hdo _) (hdd _) h⟩
theorem VA.wp {R : Env → World → Prop} {Q : Exit → Act → World → Prop} {ds : List Deferred} (hl : dstsOK N ops.toList = true) (hQ : ∀ a E W, Rep N a E → a.defers = ds → R E W → Q .normal a W) : ∀ (fuel : Nat) (listed : Array Bool) (a : Act) (E : Env) (W : World), Rep N a E → a.defers = ds →
    VA r P ops R fuel listed E W → wpAnyIn (fen r) 0 P .any ops Q fuel listed a W
  | 0, _, a, E, W, hrep, hd, h => ⟨h.1, hQ a E W hrep hd h.2⟩
  | fuel + 1, listed, a, E, W, hrep, hd, h => ⟨fun hr => hQ a E W hrep hd (h.1 hr), fun i hi => opI.wp (fun a' E' W' hrep' hd' h' => VA.wp hl hQ fuel _ a' E' W' hrep' hd' h') hl hrep hd (h.2 i hi)⟩

theorem ev_puto {E : Env} {d : Option Tmp} {v : Value} {x : Operand} (h : ∀ t, d = some t → x ≠ .tmp t) : ev (puto E d v) x = ev E x := by
  cases d with
  | none => rfl
  | some t =>
    cases x with
    | tmp u => exact up_ne _ _ (fun e => h t rfl (by rw [e]))
    | _ => rfl
theorem execOp_puto (o : Oper) (hs : ∀ cs b, o.op ≠ .select cs b) (E : Env) (d : Option Tmp) (v : Value) (h : ∀ t, d = some t → t ∉ o.looksAt ops) : execOp (ev (puto E d v)) o = execOp (ev E) o :=
  execOp_congr o hs fun x hx => ev_puto fun t ht hxt => h t ht (by
    subst hxt
    exact List.mem_append_left _ (List.mem_filterMap.2 ⟨.tmp t, by simpa using hx, rfl⟩))
theorem wE_puto (o : Oper) (E : Env) (d : Option Tmp) (v : Value) (h : ∀ t, d = some t → t ∉ o.looksAt ops) : wE ops o (puto E d v) = wE ops o E := by
  cases d with
  | none => rfl
  | some d =>
    unfold wE Region.wanted
    cases hg : o.guard with
    | none => rfl
    | some gw =>
      obtain ⟨g, want⟩ := gw
      have hy : yE ops (puto E (some d) v) g = yE ops E g := by
        unfold yE
        cases ht : (ops[g]?).bind (·.dst) with
        | none => rfl
        | some t =>
          have hne : t ≠ d := fun e => h d rfl (by subst e; simp [Oper.looksAt, hg, ht])
          simp only [puto, up_ne _ _ hne]
      simp only [hy]
theorem puto_comm (E : Env) {x y : Option Tmp} (v u : Value) (h : ∀ d, x = some d → y ≠ some d) : puto (puto E x v) y u = puto (puto E y u) x v := by
  cases x with
  | none => rfl
  | some d =>
    cases y with
    | none => rfl
    | some e => exact up_comm E v u (fun he => h d rfl (he ▸ rfl))
/-- It yields v, and does nothing else, in every world that meets S. -/
def PureIf (P : Program) (ops : Array Oper) (S : World → Prop) (o : Oper) (v : Value) (E : Env) : Prop :=
  (wE ops o E = true ∧ ∀ W, S W → (execOp (ev E) o).run P W = .ok (.value v) W) ∨ (wE ops o E = false ∧ v = undef)
theorem PureIf.opI {S : World → Prop} {i : Nat} {o : Oper} {v : Value} {E : Env} (hi : ops[i]? = some o) (hy : PureIf P ops S o v E) {K : Env → World → Prop} {W : World} (hS : S W) (h : K (puto E o.dst v) W) : opI r P ops i K E W := by
  unfold Go.Proofs.Ytknbjfefeeojlaa.opI
  simp only [hi]
  rcases hy with ⟨hw, hv⟩ | ⟨hw, rfl⟩
  · rw [if_pos hw]; unfold OpF; rw [hv W hS]; exact h
  · rw [if_neg (by simp [hw])]; exact h
theorem opI_put {S : World → Prop} {j : Nat} {oi oj : Oper} {v : Value} (hj : ops[j]? = some oj) (hap : oi.apart ops oj = true) (hsi : ∀ cs b, oi.op ≠ .select cs b) (hsj : ∀ cs b, oj.op ≠ .select cs b)
    {K : Env → World → Prop} {E : Env} {W : World} (hy : PureIf P ops S oi v E) (h : opI r P ops j K (puto E oi.dst v) W) :
    opI r P ops j (fun E' W' => PureIf P ops S oi v E' ∧ K (puto E' oi.dst v) W') E W := by
  obtain ⟨h1, h2, h3⟩ := Oper.apart_spec hap
  have keep : ∀ u, PureIf P ops S oi v (puto E oj.dst u) := fun u => by
    unfold PureIf at *
    rw [execOp_puto oi hsi E oj.dst u h3, wE_puto oi E oj.dst u h3]; exact hy
  unfold Go.Proofs.Ytknbjfefeeojlaa.opI at *
  simp only [hj] at *
  rw [wE_puto oj E oi.dst v h1] at h
  have hO : ∀ {R : Value → World → Prop}, OpF r P (ev (puto E oi.dst v)) oj W R → OpF r P (ev E) oj W R := fun {R} hx => by
    unfold OpF at *; rw [execOp_puto oj hsj E oi.dst v h1] at hx; exact hx
  split
  · rename_i hw
    rw [if_pos hw] at h
    exact (hO h).mono fun u W' hv => ⟨keep u, by rw [← puto_comm E v u h2]; exact hv⟩
  · rename_i hw
    rw [if_neg hw] at h
    exact ⟨keep _, by rw [← puto_comm E v undef h2]; exact h⟩
theorem lastOp_spec {j : Nat} (hl : lastOp ops j = true) {listed : Array Bool} (hj : j ∈ Region.ready .any ops listed) {i : Nat} (hi : i ∈ Region.ready .any ops listed) : i = j := by
  obtain ⟨hju, oj, hoj, hall⟩ := mem_ready.1 hj
  obtain ⟨hiu, oi, hoi, _⟩ := mem_ready.1 hi
  unfold lastOp at hl
  simp only [hoj, List.all_eq_true, List.mem_range] at hl
  have h1 := hl i (Array.getElem?_eq_some_iff.1 hoi).1
  simp only [Bool.or_eq_true, beq_iff_eq] at h1
  rcases h1 with h1 | h1
  · exact h1
  · obtain ⟨e, he, hb⟩ := Array.any_eq_true'.1 h1
    simp only [Bool.and_eq_true, beq_iff_eq] at hb
    have h2 := hall e he hb.1
    rw [hb.2] at h2
    exfalso
    rcases Nat.lt_or_ge i listed.size with h' | h'
    · simp [h'] at hiu h2; rw [hiu] at h2; cases h2
    · simp [Array.getElem?_eq_none h'] at h2
theorem VH.first {S : World → Prop} {R : Env → World → Prop} {i : Nat} {oi : Oper} {v : Value} (hi : ops[i]? = some oi) (hsel : ∀ (j : Nat) (o : Oper) cs b, ops[j]? = some o → o.op ≠ .select cs b) (hli : lastOp ops i = false ∨ True) :
    ∀ (fuel : Nat) (listed : Array Bool) (E : Env) (W : World),
      (∀ j oj, ops[j]? = some oj → j ≠ i → listed.getD j true = false → (∀ e ∈ oj.after, Region.binds .any e = true → e.on ≠ i) → oi.apart ops oj = true) →
      i ∈ Region.ready .any ops listed → PureIf P ops S oi v E → S W →
      VH r P ops S R fuel (listed.setIfInBounds i true) (puto E oi.dst v) W → VH r P ops S R (fuel + 1) listed E W := by
  intro fuel
  induction fuel with
  | zero =>
    intro listed E W _ hr hy hS H
    refine ⟨fun h => (by rw [h] at hr; cases hr), fun j hj => ?_⟩
    by_cases hji : j = i
    · subst hji; exact hy.opI hi hS ⟨fun _ => hS, H⟩
    · have := ready_mono hj hji
      rw [H.1] at this
      cases this
  | succ fuel ih =>
    intro listed E W hfree hr hy hS H
    refine ⟨fun h => (by rw [h] at hr; cases hr), fun j hj => ?_⟩
    by_cases hji : j = i
    · subst hji; exact hy.opI hi hS ⟨fun _ => hS, H⟩
    · have h1 := H.2 j (ready_mono hj hji)
      obtain ⟨hjun, oj, hoj, hall⟩ := mem_ready.1 hj
      have hnl : lastOp ops j = false := by
        cases hl : lastOp ops j with
        | false => rfl
        | true => exact absurd (lastOp_spec hl hj hr).symm hji
      have hnot : ∀ e ∈ oj.after, Region.binds .any e = true → e.on ≠ i := fun e he hb heq => by
        have h1 := hall e he hb
        have h0 := (mem_ready.1 hr).1
        rw [heq] at h1
        rcases Nat.lt_or_ge i listed.size with h' | h'
        · simp [h'] at h0 h1; rw [h0] at h1; cases h1
        · simp [Array.getElem?_eq_none h'] at h1
      have h2 := opI_put (r := r) hoj (hfree j oj hoj hji hjun hnot) (fun cs b => hsel i oi cs b hi) (fun cs b => hsel j oj cs b hoj) hy h1
      have hfree' : ∀ k ok, ops[k]? = some ok → k ≠ i → (listed.setIfInBounds j true).getD k true = false →
          (∀ e ∈ ok.after, Region.binds .any e = true → e.on ≠ i) → oi.apart ops ok = true := fun k ok hk hki hun hno => by
        refine hfree k ok hk hki ?_ hno
        by_cases hjk : j = k
        · subst hjk; exact hjun
        · rw [getD_set_ne true hjk] at hun; exact hun
      refine h2.mono fun E' W' h3 => ⟨fun _ => h3.2.1 hnl, ih (listed.setIfInBounds j true) E' W' hfree' (ready_mono hr (Ne.symm hji)) h3.1 (h3.2.1 hnl) ?_⟩
      rw [Array.setIfInBounds_comm _ _ hji]
      exact h3.2.2
end

/-! ### Code -/
section
variable {r : Option Nat} {P : Program} {N : Nat}
abbrev EQ := Exit → Env → List Deferred → World → Prop
def V (r : Option Nat) (P : Program) (N : Nat) (ds : List Deferred) (c : Code) (Q : EQ) (E : Env) (W : World) : Prop :=
  ∀ a, Rep N a E → a.defers = ds → c.wpIn (fen r) 0 P (fun x a' W' => ∃ E', Rep N a' E' ∧ Q x E' a'.defers W') a W
def thenV (K : Env → List Deferred → World → Prop) (Q : EQ) : EQ
  | .normal, E, ds, W => K E ds W
  | x, E, ds, W => Q x E ds W
def blkV (id : Nat) (Q : EQ) : EQ
  | .exit i, E, ds, W => cond (Nat.beq i id) (Q .normal E ds W) (Q (.exit i) E ds W)
  | x, E, ds, W => Q x E ds W
variable {ds : List Deferred} {Q : EQ} {E : Env} {W : World}
theorem V.mono {c : Code} {Q' : EQ} (h : V r P N ds c Q E W) (hq : ∀ x E ds W, Q x E ds W → Q' x E ds W) : V r P N ds c Q' E W :=
  fun a hrep hd => wpIn_mono (h a hrep hd) fun x a' W' ⟨E', h1, h2⟩ => ⟨E', h1, hq _ _ _ _ h2⟩
theorem V.skip (h : Q .normal E ds W) : V r P N ds .skip Q E W := fun a hrep hd => wpIn_skip ⟨E, hrep, by rw [hd]; exact h⟩
theorem V.ret (h : Q .ret E ds W) : V r P N ds .ret Q E W := fun a hrep hd => wpIn_ret ⟨E, hrep, by rw [hd]; exact h⟩
theorem V.exit {id : Nat} (h : Q (.exit id) E ds W) : V r P N ds (.exit id) Q E W := fun a hrep hd => wpIn_exit ⟨E, hrep, by rw [hd]; exact h⟩
theorem V.label {l : Nat} (h : Q .normal E ds W) : V r P N ds (.label l) Q E W := fun a hrep hd => wpIn_label ⟨E, hrep, by rw [hd]; exact h⟩
theorem V.seq {x y : Code} (h : V r P N ds x (thenV (fun E ds W => V r P N ds y Q E W) Q) E W) : V r P N ds (.seq x y) Q E W := fun a hrep hd =>
  wpIn_seq (wpIn_mono (h a hrep hd) fun e a' W' ⟨E', h1, h2⟩ => by cases e <;> first | exact h2 a' h1 rfl | exact ⟨E', h1, h2⟩)
theorem V.block {id : Nat} {c : Code} (h : V r P N ds c (blkV id Q) E W) : V r P N ds (.block id c) Q E W := fun a hrep hd =>
  wpIn_block (wpIn_mono (h a hrep hd) fun e a' W' ⟨E', h1, h2⟩ => by
    cases e with
    | exit i =>
      simp only [blkV] at h2
      simp only [Exit.inBlock]
      by_cases hi : i = id
      · subst hi; rw [Nat.beq_refl] at h2; rw [if_pos rfl]; exact ⟨E', h1, h2⟩
      · have : Nat.beq i id = false := by cases hb : Nat.beq i id with
          | false => rfl
          | true => exact absurd (Nat.eq_of_beq_eq_true hb) hi
        rw [this] at h2; rw [if_neg hi]; exact ⟨E', h1, h2⟩
    | _ => exact ⟨E', h1, h2⟩)
theorem V.cond {c : Operand} {x y : Code} {b : Bool} (hc : ev E c = .bool b) (h : V r P N ds (if b then x else y) Q E W) : V r P N ds (.cond c x y) Q E W := fun a hrep hd =>
  wpIn_cond (t := b) (by rw [hrep.eval]; exact hc) (h a hrep hd)
theorem V.condT {c : Operand} {x y : Code} (hc : ev E c = .bool true) (h : V r P N ds x Q E W) : V r P N ds (.cond c x y) Q E W := V.cond hc h
theorem V.condF {c : Operand} {x y : Code} (hc : ev E c = .bool false) (h : V r P N ds y Q E W) : V r P N ds (.cond c x y) Q E W := V.cond hc h
theorem least {p : Nat → Prop} (h : ∃ m, p m) : ∃ m, p m ∧ ∀ k, p k → m ≤ k := by
  obtain ⟨m, hm⟩ := h
  induction m using Nat.strongRecOn with
  | ind m ih =>
    by_cases hk : ∃ k, k < m ∧ p k
    · obtain ⟨k, hlt, hp⟩ := hk; exact ih k hlt hp
    · exact ⟨m, hm, fun k hp => Nat.le_of_not_lt fun hlt => hk ⟨k, hlt, hp⟩⟩
open Classical in
noncomputable def leastOf (p : Nat → Prop) : Nat := if h : ∃ m, p m then Classical.choose (least h) else 0
theorem leastOf_spec {p : Nat → Prop} {m : Nat} (hm : p m) : p (leastOf p) ∧ ∀ k, p k → leastOf p ≤ k := by
  have h : ∃ m, p m := ⟨m, hm⟩
  unfold leastOf
  rw [dif_pos h]; exact Classical.choose_spec (least h)
/-- A loop: its state i in ι, the slots that it names, what holds of the world. -/
theorem V.loop {c : Code} {ι : Type} (L : ι → List (Nat × Value)) (I : ι → World → Prop) (μ : ι → Nat) (i₀ : ι) (h₀ : agree E (L i₀)) (hI : I i₀ W)
    (round : ∀ i E0 W, I i W → V r P N ds c (thenV (fun E' ds' W' => ds' = ds ∧ ∃ j, agree E' (L j) ∧ I j W' ∧ μ j < μ i) Q) (ups E0 (L i)) W) : V r P N ds (.loop c) Q E W := fun a hrep hd => by
  let p : Act → World → Nat → Prop := fun a W m => a.defers = ds ∧ ∃ i E, Rep N a E ∧ agree E (L i) ∧ I i W ∧ μ i = m
  refine wpIn_loop (fun a W => ∃ m, p a W m) (fun a W => leastOf (p a W)) ⟨_, hd, i₀, E, hrep, h₀, hI, rfl⟩ ?_
  rintro a W ⟨m, hm⟩
  obtain ⟨hd, i, E, hrep, hag, hI, hmu⟩ := (leastOf_spec hm).1
  have hr := round i E W hI
  rw [ups_agree hag] at hr
  refine wpIn_mono (hr a hrep hd) fun x a' W' hx => ?_
  obtain ⟨E', h1, h2⟩ := hx
  cases x with
  | normal =>
    obtain ⟨hd', j, hj, hIj, hlt⟩ := h2
    have hp : p a' W' (μ j) := ⟨hd', j, E', h1, hj, hIj, rfl⟩
    exact ⟨⟨_, hp⟩, by have := (leastOf_spec hp).2 _ hp; omega⟩
  | _ => exact ⟨E', h1, h2⟩
/-- A region in the order of the text. -/
theorem V.reg {id : Nat} {l : List Oper} (hl : dstsOK N l = true) (h : RV r P l.toArray (fun E W => Q .normal E ds W) l E W) : V r P N ds (.region id l.toArray false) Q E W := fun a hrep hd =>
  wpIn_region_lit (RV.wp (ds := ds) (fun a E W hr hd h => ⟨E, hr, by rw [hd]; exact h⟩) l a E W hl hrep hd h)
/-- A region that draws its order. -/
theorem V.regD {id : Nat} {ops : Array Oper} (hm : P.follows .mixedOrders = true) (hl : dstsOK N ops.toList = true)
    (h : ∀ W1, Ext W W1 → VH r P ops (Ext W1) (fun E W => Q .normal E ds W) ops.size (Array.replicate ops.size false) E W1) : V r P N ds (.region id ops true) Q E W := fun a hrep hd =>
  wpIn_region_any hm (VA.wp (ds := ds) hl (fun a E W hr hd h => ⟨E, hr, by rw [hd]; exact h⟩) _ _ a E _ hrep hd (VH.va _ _ _ _ (h _ ((Ext.refl W).drew))))
end
end Go.Proofs.Ytknbjfefeeojlaa

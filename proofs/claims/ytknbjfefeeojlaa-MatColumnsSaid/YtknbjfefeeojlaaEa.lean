/- What an argument that reads as data is: slices, integers, structs. -/
import Derived.Test.YtknbjfefeeojlaaE0
import Derived.Test.YtknbjfefeeojlaaLy
namespace Go.Proofs.Ytknbjfefeeojlaa
open Go.ChangeShapes Go.WideShapes Go.ChangeAt Go.RowKit
attribute [local irreducible] RV VH V OpF Calls
theorem mapM_some {α β : Type} {f : α → Option β} : ∀ {xs : List α} {ys : List β}, xs.mapM f = some ys → All2 (fun x y => f x = some y) xs ys
  | [], ys, h => by simp at h; subst h; trivial
  | x :: xs, ys, h => by
    rw [List.mapM_cons] at h
    cases hx : f x with
    | none => rw [hx] at h; simp at h
    | some y =>
      cases hr : xs.mapM f with
      | none => rw [hx, hr] at h; simp at h
      | some zs =>
        rw [hx, hr] at h
        simp at h
        subst h
        exact ⟨hx, mapM_some hr⟩
theorem range_some {β : Type} {f : Nat → Option β} {n : Nat} {ys : List β} (h : (List.range n).mapM f = some ys) : ys.length = n ∧ ∀ i, i < n → f i = ys[i]? := by
  have h1 := mapM_some h
  have hl := h1.len
  simp at hl
  refine ⟨hl.symm, fun i hi => ?_⟩
  obtain ⟨y, hy, hf⟩ := h1.get (k := i) (x := i) (by simp [hi])
  rw [hf, hy]
section
variable {H : Type} {enc : TypeId × Value → H} {P : Program} {W : World} {t e : TypeId} {s fuel : Nat} {cs : List Value} {x : DataW H × List MemPlace}
theorem open_sl (ht : P.underlying t = some (.slice e)) (hc : P.cellsOf e = s) (hs : 0 < s) (h : DataW.trod enc P W 0 (fun _ => true) true fuel t cs = some x) :
    ∃ a n c fuel' ys qs, cs = [.slice a n c] ∧ RS s TT W a n c qs ∧ All2 (fun q (y : DataW H × List MemPlace) => DataW.trod enc P W 0 (fun _ => true) true fuel' e q = some y) qs ys ∧ ((x.1 = .nil ∧ ys = []) ∨ ∃ rest, x.1 = .slice (ys.map (·.1)) rest) := by
  cases fuel with
  | zero => simp [DataW.trod] at h
  | succ fuel =>
    unfold DataW.trod at h
    rw [ht] at h
    match cs, h with
    | [.slice none 0 0], h =>
      simp at h; subst h
      exact ⟨none, 0, 0, fuel, [], [], rfl, RS.nil _ _ _ _ _ (by omega), trivial, .inl ⟨rfl, rfl⟩⟩
    | [.slice (some ad) len cap], h =>
      simp only at h
      split at h
      · rename_i hb
        obtain ⟨_, hlc, hcm⟩ := hb
        cases he : (List.range len).mapM (fun i => (W.cells? 0 (ad.add (i * P.cellsOf e)) (P.cellsOf e)).bind (DataW.trod enc P W 0 (fun _ => true) true fuel e)) with
        | none => rw [he] at h; simp at h
        | some ys =>
          rw [he] at h
          simp only [Option.bind_some, if_true, Option.map_eq_some_iff] at h
          obtain ⟨rest, _, rfl⟩ := h
          obtain ⟨hl, hg⟩ := range_some he
          have hq : ∀ i, i < len → ∃ q, W.cells? 0 (ad.add (i * s)) s = some q ∧ ∃ y, ys[i]? = some y ∧ DataW.trod enc P W 0 (fun _ => true) true fuel e q = some y := fun i hi => by
            have := hg i hi
            rw [hc] at this
            have hlt : i < ys.length := by omega
            rw [List.getElem?_eq_getElem hlt, Option.bind_eq_some_iff] at this
            obtain ⟨q, h1, h2⟩ := this
            exact ⟨q, h1, _, List.getElem?_eq_getElem hlt, h2⟩
          have hcell : ∀ i q, W.cells? 0 (ad.add (i * s)) s = some q → q.length = s ∧ ∀ j u, q[j]? = some u → W.cell? ((ad.add (i * s)).add j) = some u := fun i q h1 => by
            unfold World.cells? at h1
            rw [if_pos (Nat.zero_le _)] at h1
            obtain ⟨h2, h3⟩ := range_some h1
            refine ⟨h2, fun j u hj => ?_⟩
            rw [h3 j (by have := (List.getElem?_eq_some_iff.1 hj).1; omega), hj]
          refine ⟨some ad, len, cap, fuel, ys, (List.range len).map (fun i => (W.cells? 0 (ad.add (i * s)) s).getD []), rfl, ?_, ?_, .inr ⟨_, rfl⟩⟩
          · refine ⟨by simp, hlc, by unfold maxLen at hcm; omega, ?_, fun hn => ?_⟩
            · intro q hq'
              obtain ⟨i, hi, rfl⟩ := List.mem_map.1 hq'
              obtain ⟨q, h1, _⟩ := hq i (by simpa using hi)
              rw [h1]; exact (hcell i q h1).1
            · obtain ⟨q0, h1, _⟩ := hq 0 hn
              obtain ⟨h2, h3⟩ := hcell 0 q0 h1
              have h4 : 0 < q0.length := by omega
              have h5 := h3 0 _ (List.getElem?_eq_getElem h4)
              rw [add_add] at h5
              have e0 : ad.add (0 * s + 0) = ad := by unfold Addr.add; simp
              rw [e0] at h5
              unfold World.cell? at h5
              cases hh : W.heap[ad.block]? with
              | none => rw [hh] at h5; simp at h5
              | some o =>
                rw [hh] at h5
                cases o with
                | cells c T fz =>
                  obtain ⟨bk, of, sp⟩ := ad
                  cases sp with
                  | some z => simp at h5
                  | none =>
                    refine ⟨bk, of, c, T, fz, rfl, trivial, hh, fun k q hk j u hj => ?_⟩
                    rw [List.getElem?_map] at hk
                    obtain ⟨i, hi, rfl⟩ := Option.map_eq_some_iff.1 hk
                    have hlt : k < len := by have := (List.getElem?_eq_some_iff.1 hi).1; simpa using this
                    rw [List.getElem?_range hlt] at hi
                    obtain rfl : k = i := by injection hi
                    obtain ⟨q, h6, _⟩ := hq k hlt
                    rw [h6] at hj
                    have h7 := (hcell k q h6).2 j u hj
                    rw [add_add, addO] at h7
                    unfold World.cell? at h7
                    rw [hh] at h7
                    simp only [Option.isSome_none, Bool.false_eq_true, if_false] at h7
                    rw [Nat.add_assoc]; exact h7
                | _ => simp at h5
          · have key : ∀ (l : List Nat) (zs : List (DataW H × List MemPlace)), l.length = zs.length → (∀ (k i : Nat), l[k]? = some i → ∃ q, W.cells? 0 (ad.add (i * s)) s = some q ∧ ∃ y, zs[k]? = some y ∧ DataW.trod enc P W 0 (fun _ => true) true fuel e q = some y) →
                All2 (fun q (y : DataW H × List MemPlace) => DataW.trod enc P W 0 (fun _ => true) true fuel e q = some y) (l.map (fun i => (W.cells? 0 (ad.add (i * s)) s).getD [])) zs := by
              intro l
              induction l with
              | nil => intro zs hz _; cases zs with
                | nil => trivial
                | cons _ _ => simp at hz
              | cons i l ih => intro zs hz hk; cases zs with
                | nil => simp at hz
                | cons z zs =>
                  obtain ⟨q, h1, y, h2, h3⟩ := hk 0 i rfl
                  simp at h2; subst h2
                  refine ⟨?_, ih zs (by simpa using hz) fun k i hi => hk (k + 1) i hi⟩
                  show DataW.trod _ _ _ _ _ _ _ _ ((W.cells? 0 (ad.add (i * s)) s).getD []) = _
                  rw [h1]; exact h3
            refine key _ _ (by simp [hl]) fun k i hk => ?_
            have h1 : k < len := by have := (List.getElem?_eq_some_iff.1 hk).1; simpa using this
            rw [List.getElem?_range h1] at hk
            obtain rfl : k = i := by injection hk
            exact hq k h1
      · cases h
theorem All2.ex {α β γ : Type} {p : α → β → Prop} {q : α → γ → Prop} (h : ∀ x y, p x y → ∃ z, q x z) : ∀ {xs : List α} {ys : List β}, All2 p xs ys → ∃ zs, All2 q xs zs
  | [], [], _ => ⟨[], trivial⟩
  | x :: xs, y :: ys, ⟨h1, h2⟩ => by
    obtain ⟨z, hz⟩ := h x y h1
    obtain ⟨zs, hzs⟩ := All2.ex h h2
    exact ⟨z :: zs, hz, hzs⟩
/-- A slice of whole numbers. -/
theorem RN.of_rs {k : IntKind} {a : Option Addr} {n c : Nat} {qs : List (List Value)} {xs : List Int} (h : RS 1 TT W a n c qs) (hq : All2 (fun q z => q = [.int k z] ∧ kb k z) qs xs) : RN k TT W a n c xs := by
  have hl := hq.len
  refine ⟨by rw [← hl]; exact h.len, h.cap, h.max, fun z hz => ?_, fun hn => ?_⟩
  · obtain ⟨i, hi⟩ := List.getElem?_of_mem hz
    have hlt : i < qs.length := by rw [hl]; exact (List.getElem?_eq_some_iff.1 hi).1
    obtain ⟨y, e, _, hk⟩ := hq.get (List.getElem?_eq_getElem hlt)
    rw [hi] at e; cases e; exact hk
  · obtain ⟨b, off, cs, T, fz, e, hs, hb, hc⟩ := h.at_ hn
    refine ⟨b, off, cs, T, fz, e, hs, hb, fun j hj => ?_⟩
    have hlt : j < qs.length := by rw [h.len]; exact hj
    obtain ⟨y, e2, e3, _⟩ := hq.get (List.getElem?_eq_getElem hlt)
    have := hc j _ (List.getElem?_eq_getElem hlt) 0 (.int k y) (by rw [e3]; rfl)
    rw [Nat.mul_one, Nat.add_zero] at this
    rw [this]
    unfold wd
    rw [List.getD_eq_getElem?_getD, Int.toNat_natCast, e2]; rfl
theorem open_num {k : IntKind} (ht : P.underlying t = some (.int k)) (h : DataW.trod enc P W 0 (fun _ => true) true fuel t cs = some x) (hw : ∀ z, (Lit.int k z).wf = true → kb k z) : ∃ z, cs = [.int k z] ∧ kb k z := by
  cases fuel with
  | zero => simp [DataW.trod] at h
  | succ fuel =>
    unfold DataW.trod at h
    rw [ht] at h
    match cs, h with
    | [.int k' z], h =>
      simp only at h
      split at h
      · rename_i hb; obtain ⟨rfl, hz⟩ := hb; exact ⟨z, rfl, hw z hz⟩
      · cases h
theorem open_boo (ht : P.underlying t = some .bool) (h : DataW.trod enc P W 0 (fun _ => true) true fuel t cs = some x) : ∃ b, cs = [.bool b] := by
  cases fuel with
  | zero => simp [DataW.trod] at h
  | succ fuel =>
    unfold DataW.trod at h
    rw [ht] at h
    match cs, h with
    | [.bool b], h => exact ⟨b, rfl⟩
theorem open_st {fs : Array Field} (ht : P.underlying t = some (.struct fs)) (h : DataW.trod enc P W 0 (fun _ => true) true fuel t cs = some x) :
    ∃ fuel' ys, cs.length = P.cellsOf t ∧ All2 (fun (f : Field) (y : DataW H × List MemPlace) => DataW.trod enc P W 0 (fun _ => true) true fuel' f.type ((cs.drop f.offset).take (P.cellsOf f.type)) = some y) fs.toList ys := by
  cases fuel with
  | zero => simp [DataW.trod] at h
  | succ fuel =>
    unfold DataW.trod at h
    rw [ht] at h
    simp only at h
    split at h
    · rename_i hl
      rw [Option.map_eq_some_iff] at h
      obtain ⟨ys, h1, _⟩ := h
      exact ⟨fuel, ys, hl, mapM_some h1⟩
    · cases h
theorem wf_u32 (z : Int) (h : (Lit.int .u32 z).wf = true) : kb .u32 z := by
  have h1 : IntKind.u32.min = 0 := rfl
  have h2 : IntKind.u32.max = 4294967295 := rfl
  simp only [Lit.wf, Bool.and_eq_true, decide_eq_true_eq] at h
  unfold kb; simp only; omega
theorem wf_i64 (z : Int) (h : (Lit.int .i64 z).wf = true) : kb .i64 z := by
  have h1 : IntKind.i64.min = -9223372036854775808 := rfl
  have h2 : IntKind.i64.max = 9223372036854775807 := rfl
  simp only [Lit.wf, Bool.and_eq_true, decide_eq_true_eq] at h
  unfold kb; simp only; omega
/-- A slice of whole numbers that came in. -/
theorem open_RN {k : IntKind} (ht : P.underlying t = some (.slice e)) (hc : P.cellsOf e = 1) (he : P.underlying e = some (.int k)) (hw : ∀ z, (Lit.int k z).wf = true → kb k z) (h : DataW.trod enc P W 0 (fun _ => true) true fuel t cs = some x) :
    ∃ a n c xs, cs = [.slice a n c] ∧ RN k TT W a n c xs ∧ ((x.1 = .nil ∧ xs = []) ∨ ∃ ds rest, x.1 = .slice ds rest ∧ ds.length = xs.length) := by
  obtain ⟨a, n, c, fuel', ys, qs, rfl, h1, h2, h3⟩ := open_sl ht hc (by omega) h
  obtain ⟨xs, h4⟩ := All2.ex (q := fun q z => q = [.int k z] ∧ kb k z) (fun q y hy => open_num he hy hw) h2
  refine ⟨a, n, c, xs, rfl, RN.of_rs h1 h4, ?_⟩
  have e1 := h2.len
  have e2 := h4.len
  rcases h3 with ⟨h5, rfl⟩ | ⟨rest, h5⟩
  · exact .inl ⟨h5, List.eq_nil_of_length_eq_zero (by rw [← e2, e1]; rfl)⟩
  · exact .inr ⟨_, rest, h5, by rw [List.length_map]; omega⟩
/-- A matrix of whole numbers that came in. -/
theorem open_MI {e2 : TypeId} (ht : P.underlying t = some (.slice e)) (hc : P.cellsOf e = 1) (he : P.underlying e = some (.slice e2)) (hc2 : P.cellsOf e2 = 1) (he2 : P.underlying e2 = some (.int .i64)) (h : DataW.trod enc P W 0 (fun _ => true) true fuel t cs = some x) :
    ∃ a n c zss, cs = [.slice a n c] ∧ MI TT W a n c zss ∧ ((x.1 = .nil ∧ zss = []) ∨ ∃ ds rest, x.1 = .slice ds rest ∧ All2 (fun (zs : List Int) (d : DataW H) => (d = .nil ∧ zs = []) ∨ ∃ ds rest, d = .slice ds rest ∧ ds.length = zs.length) zss ds) := by
  obtain ⟨a, n, c, fuel', ys, qs, rfl, h1, h2, h3⟩ := open_sl ht hc (by omega) h
  have key : ∀ {qs : List (List Value)} {ys : List (DataW H × List MemPlace)}, All2 (fun q y => DataW.trod enc P W 0 (fun _ => true) true fuel' e q = some y) qs ys →
      ∃ zss : List (List Int), All2 (RowOf (RN .i64) TT W) qs zss ∧ All2 (fun (zs : List Int) (d : DataW H) => (d = .nil ∧ zs = []) ∨ ∃ ds rest, d = .slice ds rest ∧ ds.length = zs.length) zss (ys.map (·.1)) := by
    intro qs
    induction qs with
    | nil => intro ys hy; cases ys with
      | nil => exact ⟨[], trivial, trivial⟩
      | cons _ _ => exact hy.elim
    | cons q qs ih => intro ys hy; cases ys with
      | nil => exact hy.elim
      | cons y ys =>
        obtain ⟨zss, i1, i2⟩ := ih hy.2
        obtain ⟨a', n', c', zs, rfl, j1, j2⟩ := open_RN he hc2 he2 wf_i64 hy.1
        exact ⟨zs :: zss, ⟨⟨_, _, _, rfl, j1⟩, i1⟩, ⟨j2, i2⟩⟩
  obtain ⟨zss, i1, i2⟩ := key h2
  refine ⟨a, n, c, zss, rfl, ⟨qs, h1, i1⟩, ?_⟩
  rcases h3 with ⟨h5, rfl⟩ | ⟨rest, h5⟩
  · refine .inl ⟨h5, ?_⟩
    cases zss with
    | nil => rfl
    | cons _ _ => exact i2.elim
  · exact .inr ⟨_, rest, h5, i2⟩
theorem two_fields {fs : Array Field} {f0 f1 : Field} (he : fs.toList = [f0, f1]) {R : Field → (DataW H × List MemPlace) → Prop} {ys : List (DataW H × List MemPlace)} (h : All2 R fs.toList ys) : ∃ y0 y1, R f0 y0 ∧ R f1 y1 := by
  rw [he] at h
  match ys, h with
  | [y0, y1], h => exact ⟨y0, y1, h.1, h.2.1⟩
/-- A rational that came in. -/
theorem open_QX {tz ts tu tb : TypeId} {fs fz : Array Field} {f0 f1 g0 g1 : Field} (ht : P.underlying t = some (.struct fs)) (hf : fs.toList = [f0, f1]) (hz : P.underlying tz = some (.struct fz)) (hg : fz.toList = [g0, g1])
    (h0 : f0.type = tz ∧ f0.offset = 0 ∧ f1.type = tz ∧ f1.offset = 2 ∧ g0.type = tb ∧ g0.offset = 0 ∧ g1.type = ts ∧ g1.offset = 1) (hcz : P.cellsOf tz = 2) (hct : P.cellsOf t = 4) (hcb : P.cellsOf tb = 1) (hcs : P.cellsOf ts = 1) (hcu : P.cellsOf tu = 1)
    (hb : P.underlying tb = some .bool) (hs : P.underlying ts = some (.slice tu)) (hu : P.underlying tu = some (.int .u32)) (h : DataW.trod enc P W 0 (fun _ => true) true fuel t cs = some x) : ∃ ρ, QX TT W cs ρ := by
  obtain ⟨a1, a2, a3, a4, a5, a6, a7, a8⟩ := h0
  have hZ : ∀ {fuel : Nat} {cs : List Value} {x : DataW H × List MemPlace}, DataW.trod enc P W 0 (fun _ => true) true fuel tz cs = some x → ∃ n a l c xs, cs = [.bool n, .slice a l c] ∧ RN .u32 TT W a l c xs := by
    intro fuel cs x h
    obtain ⟨fuel', ys, hl, hy⟩ := open_st hz h
    obtain ⟨y0, y1, h1, h2⟩ := two_fields hg hy
    rw [a5, a6, hcb] at h1
    rw [a7, a8, hcs] at h2
    rw [hcz] at hl
    match cs, hl with
    | [u, v], _ =>
      obtain ⟨n, e1⟩ := open_boo hb h1
      obtain ⟨a, l, c, xs, e2, h3, _⟩ := open_RN hs hcu hu wf_u32 h2
      simp at e1 e2
      subst e1 e2
      exact ⟨n, a, l, c, xs, rfl, h3⟩
  obtain ⟨fuel', ys, hl, hy⟩ := open_st ht h
  obtain ⟨y0, y1, h1, h2⟩ := two_fields hf hy
  rw [a1, a2, hcz] at h1
  rw [a3, a4, hcz] at h2
  rw [hct] at hl
  match cs, hl with
  | [u0, u1, u2, u3], _ =>
    obtain ⟨n1, b1, l1, c1, xs, e1, k1⟩ := hZ h1
    obtain ⟨n2, b2, l2, c2, ys', e2, k2⟩ := hZ h2
    simp at e1 e2
    obtain ⟨rfl, rfl⟩ := e1
    obtain ⟨rfl, rfl⟩ := e2
    exact ⟨⟨n1, xs, n2, ys'⟩, _, _, _, _, _, _, rfl, k1, k2⟩
theorem open_GX (ht : P.underlying t = some (.slice e)) (hc : P.cellsOf e = 4) (he : ∀ {fuel : Nat} {cs : List Value} {x : DataW H × List MemPlace}, DataW.trod enc P W 0 (fun _ => true) true fuel e cs = some x → ∃ ρ, QX TT W cs ρ) (h : DataW.trod enc P W 0 (fun _ => true) true fuel t cs = some x) :
    ∃ a n c ρs, cs = [.slice a n c] ∧ GX TT W a n c ρs := by
  obtain ⟨a, n, c, fuel', ys, qs, rfl, h1, h2, h3⟩ := open_sl ht hc (by omega) h
  obtain ⟨ρs, h4⟩ := All2.ex (q := QX TT W) (fun q y hy => he hy) h2
  exact ⟨a, n, c, ρs, rfl, qs, h1, h4⟩
theorem open_MX (ht : P.underlying t = some (.slice e)) (hc : P.cellsOf e = 1) (he : ∀ {fuel : Nat} {cs : List Value} {x : DataW H × List MemPlace}, DataW.trod enc P W 0 (fun _ => true) true fuel e cs = some x → ∃ a n c ρs, cs = [.slice a n c] ∧ GX TT W a n c ρs) (h : DataW.trod enc P W 0 (fun _ => true) true fuel t cs = some x) :
    ∃ a n c ρss, cs = [.slice a n c] ∧ MX TT W a n c ρss := by
  obtain ⟨a, n, c, fuel', ys, qs, rfl, h1, h2, h3⟩ := open_sl ht hc (by omega) h
  obtain ⟨ρs, h4⟩ := All2.ex (q := RowOf GX TT W) (fun q y hy => by obtain ⟨a, n, c, ρs, e1, h5⟩ := he hy; exact ⟨ρs, a, n, c, e1, h5⟩) h2
  exact ⟨a, n, c, ρs, rfl, qs, h1, h4⟩
end
/-! ### In this program -/
section
variable {H : Type} {enc : TypeId × Value → H} {W : World} {fuel : Nat} {cs : List Value} {x : DataW H × List MemPlace}
theorem in_Q (h : DataW.trod enc Try.prog W 0 (fun _ => true) true fuel 43 cs = some x) : ∃ ρ, QX TT W cs ρ :=
  open_QX (tz := 41) (tb := 4) (tu := 124) Try.underlying43 rfl Try.underlying41 rfl ⟨rfl, rfl, rfl, rfl, rfl, rfl, rfl, rfl⟩ (by kernel_rfl) (by kernel_rfl) (by kernel_rfl) (by kernel_rfl) (by kernel_rfl) (by kernel_rfl) (by kernel_rfl) (by kernel_rfl) h
theorem in_GX (h : DataW.trod enc Try.prog W 0 (fun _ => true) true fuel 30 cs = some x) : ∃ a n c ρs, cs = [.slice a n c] ∧ GX TT W a n c ρs :=
  open_GX (e := 43) (by kernel_rfl) (by kernel_rfl) in_Q h
theorem in_MX (h : DataW.trod enc Try.prog W 0 (fun _ => true) true fuel 25 cs = some x) : ∃ a n c ρss, cs = [.slice a n c] ∧ MX TT W a n c ρss :=
  open_MX (e := 30) (by kernel_rfl) (by kernel_rfl) in_GX h
end
end Go.Proofs.Ytknbjfefeeojlaa

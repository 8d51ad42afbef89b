/- The state of a tableau in the store. -/
import Derived.Laws.Pointers
import Derived.Laws.IdiomCopy
import Derived.Test.YtknbjfefeeojlaaMgqlm4
namespace Go.Proofs.Ytknbjfefeeojlaa
open Go.RowKit
attribute [local irreducible] RV VH V OpF Calls
/-- A tableau at block bw: its basis pv and its rows v are own slices; the goals are read only. -/
structure TS (B bw : Nat) (N : Int) (ag : Option Addr) (ng cg : Nat) (goals : List (List Rat)) (v pv : Value) (rows : List (List Rat)) (piv : List Int) (W : World) : Prop where
  x : BoxAt W bw [.int .i64 N, .slice ag ng cg, pv, v] 96
  g : GO 1 (RowOf GC) (XS B bw pv) B W 30 v rows
  p : OI .i64 B W 3 pv piv
  m : MC (KQ bw v pv) W ag ng cg goals
  hB : B ≤ bw
section
variable {B bw n c ng cg : Nat} {N : Int} {v pv : Value} {goals rows : List (List Rat)} {piv : List Int} {W W' : World} {a ag : Option Addr}
theorem TS.ext (h : TS B bw N ag ng cg goals v pv rows piv W) (y : Ext W W') : TS B bw N ag ng cg goals v pv rows piv W' :=
  ⟨h.x.ext y, h.g.ext okRowC y, h.p.ext y, MG.ck okRowC h.m (y.ck _), h.hB⟩
theorem TS.vb (h : TS B bw N ag ng cg goals v pv rows piv W) : v.ownBlock ≠ some bw := by
  obtain ⟨qs, h1, _⟩ := h.g; exact h1.neBox h.x (by decide)
theorem TS.pb (h : TS B bw N ag ng cg goals v pv rows piv W) : pv.ownBlock ≠ some bw := h.p.neBox h.x (by decide)
theorem TS.vp (h : TS B bw N ag ng cg goals v pv rows piv W) {b : Nat} (e : v.ownBlock = some b) : pv.ownBlock ≠ some b := by
  obtain ⟨qs, h1, _⟩ := h.g
  obtain ⟨cur, hb⟩ := h1.obox e
  exact h.p.neBox hb (by decide)
theorem TS.vlow (h : TS B bw N ag ng cg goals v pv rows piv W) : ∀ b, v.ownBlock = some b → B ≤ b ∧ b < W.heap.size := by
  obtain ⟨qs, h1, _⟩ := h.g; exact h1.low
theorem TS.up (h : TS B bw N ag ng cg goals v pv rows piv W) : Up (SO (XS B bw pv) v) W := fun b hb => by
  have := h.x.lt; have := h.hB
  exact ⟨⟨by omega, by omega, fun e => by have := (h.p.low b e).2; omega⟩, fun e => by have := (h.vlow b e).2; omega⟩
theorem TS.upq (h : TS B bw N ag ng cg goals v pv rows piv W) : Up (KQ bw v pv) W := fun b hb => by
  have := h.x.lt
  exact ⟨by omega, fun e => by have := (h.vlow b e).2; omega, fun e => by have := (h.p.low b e).2; omega⟩
theorem TS.mc (h : TS B bw N ag ng cg goals v pv rows piv W) (hv : v = .slice a n c) : MC TT W a n c rows := by
  subst hv; exact GO.rd okRowC h.g
theorem TS.pn (h : TS B bw N ag ng cg goals v pv rows piv W) (hv : pv = .slice a n c) : RN .i64 TT W a n c piv := by
  subst hv; exact h.p.rn fun _ _ _ => trivial
/-- One column more in the basis, and the new list is stored. -/
theorem TS.push {pv' : Value} {W1 W2 : World} {z : Int} (h : TS B bw N ag ng cg goals v pv rows piv W) (hO : OI .i64 B W1 3 pv' (piv ++ [z])) (hg : W.grownBy W1 pv.ownBlock) (ho : pv'.ownBlock = pv.ownBlock ∨ pv'.ownBlock = some W.heap.size) (hos : Below 0 W W1) (y : Wr bw W1 W2) (hb : BoxAt W2 bw [.int .i64 N, .slice ag ng cg, pv', v] 96) :
    TS B bw N ag ng cg goals v pv' rows (piv ++ [z]) W2 ∧ KD (KQ bw v pv) W W2 := by
  have nb : ∀ b, b < W.heap.size → pv.ownBlock ≠ some b → pv'.ownBlock ≠ some b := fun b hb hp e => by
    rcases ho with h' | h'
    · exact hp (h' ▸ e)
    · rw [h'] at e; injection e with e; omega
  have kg : CK (fun b => pv.ownBlock ≠ some b) W W1 := grown_ck hg fun b e h => h e
  have kd : KD (KQ bw v pv) W W2 := (grown_kd hg (fun b e hd => hd.2.2 e) hos).trans (y.kd fun hd => hd.1 rfl)
  refine ⟨⟨hb, ?_, ?_, ?_, h.hB⟩, kd⟩
  · obtain ⟨qs, h1, h2⟩ := h.g
    have o1 : OS 1 B W1 30 v qs := h1.ck kg fun b e => h.vp e
    refine ⟨qs, o1.ck (y.ck (S := fun b => b ≠ bw) fun hh => hh rfl) (fun b e => fun hh => h.vb (hh ▸ e)), h2.imp fun _ _ hq => ?_⟩
    have h3 := okRowC.sub (S' := fun b => SO (XS B bw pv) v b ∧ pv'.ownBlock ≠ some b) hq fun b hb hs => ⟨hs, nb b hb hs.1.2.2⟩
    have h4 := okRowC.ck h3 (kg.sub fun b hs => hs.1.1.2.2)
    have h5 := okRowC.ck h4 (y.ck (fun hh => hh.1.1.2.1 rfl))
    exact okRowC.sub h5 fun b _ hs => ⟨⟨hs.1.1.1, hs.1.1.2.1, hs.2⟩, hs.1.2⟩
  · refine hO.ck (y.ck (S := fun b => b ≠ bw) fun hh => hh rfl) (fun b e hh => ?_)
    subst hh
    rcases ho with h' | h'
    · exact h.pb (h' ▸ e)
    · rw [h'] at e; injection e with e; have := h.x.lt; omega
  · have m1 := MG.sub okRowC h.m (S' := fun b => KQ bw v pv b ∧ pv'.ownBlock ≠ some b) fun b hb hs => ⟨hs, nb b hb hs.2.2⟩
    have m2 := MG.ck okRowC m1 (kd.ck.sub fun b hs => hs.1)
    exact MG.sub okRowC m2 fun b _ hs => ⟨hs.1.1, hs.1.2.1, hs.2⟩
/-- One row more, and the new list is stored. -/
theorem TS.pushR {v' : Value} {W1 W2 : World} {rr : List Rat} (h : TS B bw N ag ng cg goals v pv rows piv W) (hG : GO 1 (RowOf GC) (XS B bw pv) B W1 30 v' (rows ++ [rr])) (hg : W.grownBy W1 v.ownBlock) (ho : v'.ownBlock = v.ownBlock ∨ v'.ownBlock = some W.heap.size) (hos : Below 0 W W1) (y : Wr bw W1 W2) (hb : BoxAt W2 bw [.int .i64 N, .slice ag ng cg, pv, v'] 96) :
    TS B bw N ag ng cg goals v' pv (rows ++ [rr]) piv W2 ∧ KD (KQ bw v pv) W W2 := by
  have nb : ∀ b, b < W.heap.size → v.ownBlock ≠ some b → v'.ownBlock ≠ some b := fun b hb hp e => by
    rcases ho with h' | h'
    · exact hp (h' ▸ e)
    · rw [h'] at e; injection e with e; omega
  have kg : CK (fun b => v.ownBlock ≠ some b) W W1 := grown_ck hg fun b e h => h e
  have kd : KD (KQ bw v pv) W W2 := (grown_kd hg (fun b e hd => hd.2.1 e) hos).trans (y.kd fun hd => hd.1 rfl)
  refine ⟨⟨hb, ?_, ?_, ?_, h.hB⟩, kd⟩
  · obtain ⟨qs, h1, h2⟩ := hG
    refine ⟨qs, h1.ck (y.ck (S := fun b => b ≠ bw) fun hh => hh rfl) (fun b e hh => ?_), h2.imp fun _ _ hq => okRowC.ck hq (y.ck (fun hh => hh.1.2.1 rfl))⟩
    subst hh
    exact nb _ h.x.lt h.vb e
  · exact (h.p.ck kg fun b e e2 => h.vp e2 e).ck (y.ck (S := fun b => b ≠ bw) fun hh => hh rfl) (fun b e hh => h.pb (hh ▸ e))
  · have m1 := MG.sub okRowC h.m (S' := fun b => KQ bw v pv b ∧ v'.ownBlock ≠ some b) fun b hb hs => ⟨hs, nb b hb hs.2.1⟩
    have m2 := MG.ck okRowC m1 (kd.ck.sub fun b hs => hs.1)
    exact MG.sub okRowC m2 fun b _ hs => ⟨hs.1.1, hs.2, hs.1.2.2⟩
end
section
variable {B bw n c n' c' ng cg : Nat} {N : Int} {v pv : Value} {goals rows : List (List Rat)} {piv : List Int} {W W' : World} {a a' ag : Option Addr} {ρ : Operand → Value} {d : Option Tmp} {ty T : TypeId} {pos : String} {af : Array Edge} {gd : Option (Nat × Bool)} {x y : Operand} {K : Value → World → Prop} {rr : List Rat}
/-- t.rows[i] = u -/
theorem xstT {r : Option Nat} {i : Int} (h : TS B bw N ag ng cg goals v pv rows piv W) (hv : v = .slice a n c) (hx : ρ x = .pointer (some (adr a i 1))) (hy : ρ y = .slice a' n' c') (hT : Sz Try.prog T 1) (h0 : 0 ≤ i) (h1 : i < n) (hel : GC (SO (XS B bw pv) v) W a' n' c' rr)
    (hk2 : ∀ W', TS B bw N ag ng cg goals v pv (rows.set i.toNat rr) piv W' → KD (KQ bw v pv) W W' → K undef W') : OpF r Try.prog ρ ⟨d, .store T x y, ty, pos, af, gd⟩ W K := by
  refine xstG (q := [.slice a' n' c']) okRowC h.g hv hx hy rfl hT rfl rfl h0 h1 ⟨_, _, _, rfl, hel⟩ ?_
  intro b W' hb y' hG
  have kd : KD (KQ bw v pv) W W' := y'.kd fun hd => hd.2.1 hb
  exact hk2 W' ⟨h.x.wr y' (fun e => h.vb (e ▸ hb)), hG, h.p.ck (y'.ck (S := fun q => q ≠ b) fun hh => hh rfl) (fun q e hh => h.vp hb (hh ▸ e)), MG.ck okRowC h.m kd.ck, h.hB⟩ kd
end
end Go.Proofs.Ytknbjfefeeojlaa
/- Package tableau: cols, Basis. -/
namespace Go.Proofs.Ytknbjfefeeojlaa
open Go.RowKit
attribute [local irreducible] RV VH V OpF Calls
theorem rpnil {P : Program} {ρ : Operand → Value} {W : World} {d : Option Tmp} {ty t1 t2 : TypeId} {pos : String} {af : Array Edge} {g : Option (Nat × Bool)} {x y : Operand} {p : Option Addr} {q : Bool} (hu : P.underlying t1 = some (.pointer (P.pointee t1))) (hx : ρ x = .pointer p) (hy : ρ y = .pointer none) (hq : p.isNone = q) :
    (execOp ρ ⟨d, .binOp .eql t1 x y t2, ty, pos, af, g⟩).run P W = .ok (.value (.bool q)) W := by
  subst hq
  unfold execOp
  have h := run_eql_pointer_nil (P := P) (w := W) t1 p hu
  have h2 : (eqGuard .eql t1 x y (.pointer p) (.pointer none)).run P W = .ok () W := by simp [eqGuard]
  simp [hx, hy, h, h2]
theorem rpnn {P : Program} {ρ : Operand → Value} {W : World} {d : Option Tmp} {ty t1 t2 : TypeId} {pos : String} {af : Array Edge} {g : Option (Nat × Bool)} {x y : Operand} {p : Option Addr} {q : Bool} (hu : P.underlying t1 = some (.pointer (P.pointee t1))) (hx : ρ x = .pointer p) (hy : ρ y = .pointer none) (hq : (!p.isNone) = q) :
    (execOp ρ ⟨d, .binOp .neq t1 x y t2, ty, pos, af, g⟩).run P W = .ok (.value (.bool q)) W := by
  subst hq
  unfold execOp
  have h := run_neq_pointer_nil (P := P) (w := W) t1 p hu
  have h2 : (eqGuard .neq t1 x y (.pointer p) (.pointer none)).run P W = .ok () W := by simp [eqGuard]
  simp [hx, hy, h, h2]

set_option maxHeartbeats 400000 in
theorem cols_ok (bw : Nat) (N : Int) (ag ap a : Option Addr) (ng cg np cp n c : Nat) (w : World) (hb : BoxAt w bw [.int .i64 N, .slice ag ng cg, .slice ap np cp, .slice a n c] 96) (hN : 0 ≤ N ∧ N ≤ 64) (hn : n ≤ 1000) :
    Calls Try.prog 70 #[.pointer (some ⟨bw, 0, none⟩)] w (fun e w' => e = .returned (.int .i64 (N + (n : Int))) ∧ Ext w w') := by
 have z0 := Ext.refl w; have hLX : LX = 17592186044416 := rfl; have hLY : LY = 8796093022208 := rfl
 refine enter (args := [.pointer (some ⟨bw, 0, none⟩)]) Try.func70 rfl rfl (Nat.le_of_ble_eq_true rfl) ?_
 refine V.seq (V.reg rfl ?_)
 refine asi rfl ?_
 refine vnil ?_
 refine V.seq (V.regD mixed rfl ?_)
 intro W1 x2
 have s3 := x2.sz
 have z4 := x2
 replace hb := hb.ext x2
 have q5 := Ext.refl W1
 have r6 := hb
 refine tk 0 rfl (by kernel_rfl) q5 (pv (fun _ y7 => rmv (v := .pointer (some ⟨_, _, none⟩)) rfl)) ?_
 refine tk 1 rfl (by kernel_rfl) q5 (pv (fun _ y8 => rnc (v := .pointer (some ⟨_, _, none⟩)) rfl rfl)) ?_
 refine tk 2 rfl (by kernel_rfl) q5 (pv (fun _ y9 => rfa rfl fd96_0)) ?_
 refine tk 3 rfl (by kernel_rfl) q5 (pv (fun _ y10 => rldb (v := .int _ _) rfl sc3 (r6.ext y10) rfl)) ?_
 refine tk 4 rfl (by kernel_rfl) q5 (pv (fun _ y11 => rmv (v := .pointer (some ⟨_, _, none⟩)) rfl)) ?_
 refine tk 5 rfl (by kernel_rfl) q5 (pv (fun _ y12 => rnc (v := .pointer (some ⟨_, _, none⟩)) rfl rfl)) ?_
 refine tk 6 rfl (by kernel_rfl) q5 (pv (fun _ y13 => rfa rfl fd96_3)) ?_
 refine tk 7 rfl (by kernel_rfl) q5 (pv (fun _ y14 => rldb (v := .slice _ _ _) rfl sc25 (r6.ext y14) rfl)) ?_
 refine tk 8 rfl (by kernel_rfl) q5 (pv (fun _ y15 => rlen sl25 rfl)) ?_
 refine tk 9 rfl (by kernel_rfl) q5 (pv (fun _ y16 => rbin (bAdd (wi (by omega))) rfl rfl)) ?_
 refine tk 10 rfl (by kernel_rfl) q5 (pv (fun _ y17 => ras (v := .int _ _) rfl)) ?_
 refine dn (by kernel_rfl) ?_
 refine V.ret ?_
 refine ⟨[.int _ _], ⟨rfl, trivial⟩, ?_⟩
 exact ⟨rfl, z4⟩

theorem row_mem {rows : List (List Rat)} {i : Nat} (h : i < rows.length) : rowat rows i ∈ rows := by
  unfold rowat; rw [List.getD_eq_getElem?_getD, List.getElem?_eq_getElem h]; exact List.getElem_mem h

set_option maxHeartbeats 400000 in
theorem tRHS_ok (bw : Nat) (N : Int) (ag ap a : Option Addr) (ng cg np cp n c : Nat) (w : World) (hb : BoxAt w bw [.int .i64 N, .slice ag ng cg, .slice ap np cp, .slice a n c] 96) (M L1 : Nat) (rows : List (List Rat)) (S S1 : Nat → Prop) (hr : MA L1 S1 w a n c rows) (hN : 0 ≤ N ∧ N ≤ 64) (hn : n ≤ 1000) (hM : N + (n : Int) = (M : Int)) (hrr : ∀ r ∈ rows, r.length = M + 1) (hL : L1 < LY) (hl1 : 1 ≤ L1) (hu : Up S w) :
    Calls Try.prog 46 #[.pointer (some ⟨bw, 0, none⟩)] w (fun e w' => ∃ ra rk rc, e = .returned (.slice ra rk rc) ∧ Ext w w' ∧ GC S w' ra rk rc (rows.map fun r => vat r M)) := by
 have z0 := Ext.refl w; have hLX : LX = 17592186044416 := rfl; have hLY : LY = 8796093022208 := rfl
 have hLV : LV = 1099511627776 := rfl
 have l1 := hr.len; have l2 := hr.max
 refine enter (args := [.pointer (some ⟨bw, 0, none⟩)]) Try.func46 rfl rfl (Nat.le_of_ble_eq_true rfl) ?_
 refine V.seq (V.reg rfl ?_)
 refine ass rfl ?_
 refine vnil ?_
 refine V.seq ?_
 refine V.seq (V.reg rfl ?_)
 refine mvp rfl ?_
 refine vv (rpnil (q := false) (by kernel_rfl) rfl rfl rfl) ?_
 refine vnil ?_
 refine V.condF rfl ?_
 refine V.skip ?_
 refine V.seq ?_
 refine V.seq (V.reg rfl ?_)
 refine mvp rfl ?_
 refine vv (rnc (v := .pointer (some ⟨_, _, none⟩)) rfl rfl) ?_
 refine vv (rfa rfl fd96_3) ?_
 refine vv (rldb (v := .slice _ _ _) rfl sc25 hb rfl) ?_
 refine vv (rlen sl25 rfl) ?_
 refine mvi rfl ?_
 refine vnil ?_
 refine V.block ?_
 refine V.loopK (ι := Nat × Value) [(0, .pointer (some ⟨_, _, none⟩)), (10, .slice _ _ _), (11, .int _ _)] (fun ⟨k, v⟩ => [(12, .int .i64 (k : Int)), (2, v)]) (fun ⟨k, v⟩ W => Ext w W ∧ k ≤ n ∧ GO 4 QC S w.heap.size W 43 v ((rows.take k).map fun r => vat r M)) (fun ⟨k, v⟩ => n - k) ((0, _)) ⟨rfl, rfl, rfl, trivial⟩ ⟨rfl, rfl, trivial⟩ ⟨Ext.refl _, Nat.zero_le _, GO.nil _ _⟩ ?_
 intro i2 E3 W1 h4
 obtain ⟨k, v⟩ := i2
 simp only at h4
 show V _ _ _ _ _ _ (ups (ups _ _) [(12, .int .i64 (k : Int)), (2, v)]) _
 obtain ⟨x5, hk, hO⟩ := h4
 have s6 := x5.sz
 have z7 := x5
 replace hb := hb.ext x5
 refine V.seq (V.reg rfl ?_)
 refine vlt rfl rfl ?_ ?_
 ·intro c8
  have hrw : (rowat rows ((k : Int)).toNat).length = M + 1 := hrr _ (row_mem (by omega))
  refine vnil ?_
  refine V.seq ?_
  refine V.condT rfl ?_
  refine V.skip ?_
  refine V.seq ?_
  refine V.block ?_
  refine V.seq (V.reg rfl ?_)
  refine vv (rix sl25 sz30 rfl rfl (by omega) (by omega) ((hr.ext z7).isS (i := 0) (by omega) (by omega))) ?_
  refine vldRow (hr.ext z7) rfl sc30 (by omega) (by omega) ?_
  intro a9 n10 c11 hg12
  have hg12l := hg12.len; have hg12m := hg12.max
  refine ass rfl ?_
  refine vnil ?_
  refine V.reg rfl ?_
  refine vv (rmv (v := v) rfl) ?_
  refine mvs rfl ?_
  refine mvp rfl ?_
  refine vo ?_
  refine xcall e70 (cols_ok _ N _ _ _ _ _ _ _ n _ _ hb hN hn) rfl rfl ?_
  rintro _ W13 ⟨rfl, x14⟩
  have s15 := x14.sz
  have z16 := z7.trans x14
  replace hb := hb.ext x14
  replace hO := hO.ext okQC x14
  refine ⟨_, rfl, ?_⟩
  refine vv (rix sl30 sz43 rfl rfl (by omega) (by omega) ((hg12.ext x14).isS (i := 0) (by omega) (by omega))) ?_
  refine vldQ (hg12.ext x14) rfl ag43 (by omega) (by omega) ?_
  intro n17 a18 l19 c20 n21 a22 l23 c24 hq25
  refine vo ?_
  refine xcall e39 (fCanon_ok _ _ _ _ _ _ hq25 (by omega) (by omega) (GO.up hO hu (by omega))) rfl rfl ?_
  rintro _ W27 ⟨_, rfl, x28, hq26⟩
  have s29 := x28.sz
  have z30 := z16.trans x28
  replace hb := hb.ext x28
  replace hO := hO.ext okQC x28
  obtain ⟨_, _, _, _, _, _, _, _, rfl⟩ := hq26.form
  refine ⟨_, rfl, ?_⟩
  refine vo ?_
  refine xbs (zs := [.bool false, .slice _ _ _, .bool false, .slice _ _ _]) (ps := [(0, .agg #[_, _, _, _])]) (cs := [.bool _, .slice _ _ _, .bool _, .slice _ _ _]) sl30 zr43 sz43 rfl rfl rfl rfl rfl rfl ?_
  intro W31 x32 b33 nn34
  have s35 := x32.sz
  have z36 := z30.trans x32
  replace hb := hb.ext x32
  replace hO := hO.ext okQC x32
  refine vo ?_
  refine xappG okQC sl30 in43 rfl rfl hO rfl rfl b33 rfl rfl ((QC.cast (r' := vat (rowat rows ((k : Int)).toNat) M) (hq26.ext x32) (by rw [hM]; rfl))) (by simp; omega) (by decide) (by omega) ?_
  intro v37 W38 hO39 hg40
  have y41 := hg40.below; have s42 := y41.size
  have z43 := z36.below (y41.mono (by omega))
  refine vv (ras (v := v37) rfl) ?_
  refine vnil ?_
  refine V.reg rfl ?_
  refine vv (rbin (bAdd (wi (by omega))) rfl rfl) ?_
  refine mvi rfl ?_
  refine vnil ?_
  refine ⟨rfl, (k + 1, _), ⟨rfl, rfl, rfl, trivial⟩, ⟨rfl, rfl, trivial⟩, ⟨z43, by omega, by rw [take_row _ rows k (by omega)]; exact hO39⟩, ?_⟩
  show n - (k + 1) < n - k
  omega
 ·intro c8
  refine vnil ?_
  refine V.seq ?_
  refine V.condF rfl ?_
  refine V.exit ?_
  refine V.seq (V.reg rfl ?_)
  refine vv (rmv (v := v) rfl) ?_
  refine vv (ras (v := v) rfl) ?_
  refine vnil ?_
  refine V.ret ?_
  refine ⟨[v], ⟨rfl, trivial⟩, ?_⟩
  obtain ⟨a', c', rfl⟩ := hO.form
  have hf := hO.fin okQC (fun b hb _ => hu b (by omega))
  refine ⟨_, _, _, rfl, z7, ?_⟩
  rw [List.take_of_length_le (by omega)] at hf ⊢
  exact hf
set_option maxHeartbeats 400000 in
theorem tFeas_ok (bw : Nat) (N : Int) (ag ap a : Option Addr) (ng cg np cp n c : Nat) (w : World) (hb : BoxAt w bw [.int .i64 N, .slice ag ng cg, .slice ap np cp, .slice a n c] 96) (M L1 : Nat) (rows : List (List Rat)) (S1 : Nat → Prop) (hr : MA L1 S1 w a n c rows) (hN : 0 ≤ N ∧ N ≤ 64) (hn : n ≤ 1000) (hM : N + (n : Int) = (M : Int)) (hrr : ∀ r ∈ rows, r.length = M + 1) (hL : L1 + 1 < LY) (hl1 : 1 ≤ L1) :
    Calls Try.prog 52 #[.pointer (some ⟨bw, 0, none⟩)] w (fun e w' => ∃ q, e = .returned (.bool q) ∧ Ext w w' ∧ (q = true ↔ nonneg (rows.map fun r => vat r M))) := by
 have z0 := Ext.refl w; have hLX : LX = 17592186044416 := rfl; have hLY : LY = 8796093022208 := rfl
 have hLV : LV = 1099511627776 := rfl
 have l1 := hr.len; have l2 := hr.max; have hrs := hr.rowsz hl1
 refine enter (args := [.pointer (some ⟨bw, 0, none⟩)]) Try.func52 rfl rfl (Nat.le_of_ble_eq_true rfl) ?_
 refine V.seq (V.reg rfl ?_)
 refine asb rfl ?_
 refine vnil ?_
 refine V.seq (V.reg rfl ?_)
 refine mvp rfl ?_
 refine vo ?_
 refine xcall e46 (tRHS_ok _ N _ _ _ _ _ _ _ n _ _ hb M L1 rows TT S1 hr hN hn hM hrr (by omega) hl1 (TT.up _)) rfl rfl ?_
 rintro _ W1 ⟨_, kr, cr, rfl, x2, hrv⟩
 have s3 := x2.sz
 have z4 := x2
 replace hb := hb.ext x2
 have hra := hrv.va (L := L1) (fun x hx => by obtain ⟨r, hr9, rfl⟩ := List.mem_map.1 hx; exact szV_at (hrs r hr9) hl1 _)
 have hrl := hrv.len; have hrl2 := hrl; rw [List.length_map] at hrl2
 refine ⟨_, rfl, ?_⟩
 refine vo ?_
 refine xcall e81 (vFirst_ok _ _ _ _ _ _ 1 L1 [] _ TT _ _ (GA.nil _ _ _) hra (by omega) (by omega) (by omega) (by omega) (by omega)) rfl rfl ?_
 rintro _ Wf ⟨sf, qf, rfl, xf, hqf⟩
 refine ⟨_, rfl, ?_⟩
 replace hqf := fg_neg hrl hqf
 cases qf
 ·skip
  have s5 := xf.sz
  have z6 := z4.trans xf
  replace hb := hb.ext xf
  refine mvt rfl ?_
  refine vv (rext (v := .int _ _) rfl rfl) ?_
  refine vv (rext (v := .bool false) rfl rfl) ?_
  refine asi rfl ?_
  refine asb rfl ?_
  refine vnil ?_
  refine V.seq (V.reg rfl ?_)
  refine mvp rfl ?_
  refine vv (rpnn (q := true) (by kernel_rfl) rfl rfl rfl) ?_
  refine mvb rfl ?_
  refine vg rfl ?_
  refine mvb rfl ?_
  refine vg rfl ?_
  refine vv (rnot (q := true) rfl rfl) ?_
  refine vv (rpk (v := .bool true) rfl rfl) ?_
  refine asb rfl ?_
  refine vnil ?_
  refine V.ret ?_
  refine ⟨[.bool true], ⟨rfl, trivial⟩, ?_⟩
  exact ⟨_, rfl, z6, fun _ => (by false_or_by_contra; rename_i h9; exact absurd (hqf.2 h9) (by decide)), fun _ => rfl⟩
 ·skip
  have s7 := xf.sz
  have z8 := z4.trans xf
  replace hb := hb.ext xf
  refine mvt rfl ?_
  refine vv (rext (v := .int _ _) rfl rfl) ?_
  refine vv (rext (v := .bool true) rfl rfl) ?_
  refine asi rfl ?_
  refine asb rfl ?_
  refine vnil ?_
  refine V.seq (V.reg rfl ?_)
  refine mvp rfl ?_
  refine vv (rpnn (q := true) (by kernel_rfl) rfl rfl rfl) ?_
  refine mvb rfl ?_
  refine vg rfl ?_
  refine mvb rfl ?_
  refine vg rfl ?_
  refine vv (rnot (q := false) rfl rfl) ?_
  refine vv (rpk (v := .bool false) rfl rfl) ?_
  refine asb rfl ?_
  refine vnil ?_
  refine V.ret ?_
  refine ⟨[.bool false], ⟨rfl, trivial⟩, ?_⟩
  exact ⟨_, rfl, z8, fun h => (by cases h), fun h => absurd h (hqf.1 rfl)⟩
end Go.Proofs.Ytknbjfefeeojlaa
/- Determinants: plain mathematics. -/
namespace Go.Proofs.Ytknbjfefeeojlaa
/-! ### Sums -/
theorem sumk_add (f g : Nat → Rat) : ∀ k, sumk (fun i => f i + g i) k = sumk f k + sumk g k
  | 0 => (Rat.add_zero 0).symm
  | k + 1 => by simp only [sumk]; rw [sumk_add f g k]; grind
theorem sumk_mul (c : Rat) (f : Nat → Rat) : ∀ k, sumk (fun i => c * f i) k = c * sumk f k
  | 0 => by simp [sumk]
  | k + 1 => by simp only [sumk]; rw [sumk_mul c f k]; grind
theorem sumk_mulr (c : Rat) (f : Nat → Rat) (k : Nat) : sumk (fun i => f i * c) k = sumk f k * c := by
  rw [Rat.mul_comm, ← sumk_mul]; exact sumk_ext fun i _ => Rat.mul_comm _ _
theorem sumk_comm (f : Nat → Nat → Rat) (m : Nat) : ∀ n, sumk (fun i => sumk (fun j => f i j) m) n = sumk (fun j => sumk (fun i => f i j) n) m
  | 0 => by simp only [sumk]; exact (sumk_zero fun _ _ => rfl).symm
  | n + 1 => by simp only [sumk]; rw [sumk_comm f m n, ← sumk_add]
theorem sumk_only {f : Nat → Rat} {a : Nat} : ∀ {k : Nat}, a < k → (∀ i, i < k → i ≠ a → f i = 0) → sumk f k = f a
  | 0, h, _ => by omega
  | k + 1, h, hz => by
    simp only [sumk]
    by_cases e : k = a
    · subst e; rw [sumk_zero fun i hi => hz i (by omega) (by omega), Rat.zero_add]
    · rw [sumk_only (by omega) (fun i hi => hz i (by omega)), hz k (by omega) e, Rat.add_zero]
/-! ### Determinants -/
abbrev MF := Nat → Nat → Rat
def setc (A : MF) (c : Nat) (u : Nat → Rat) : MF := fun i j => if j = c then u i else A i j
def swapc (A : MF) (a b : Nat) : MF := fun i j => A i (if j = a then b else if j = b then a else j)
/-- A function of the columns that reckons as a determinant does. -/
structure ColP (n : Nat) (g : MF → Rat) : Prop where
  congr : ∀ A B : MF, (∀ i j, i < n → j < n → A i j = B i j) → g A = g B
  swap : ∀ (A : MF) (a b : Nat), a < n → b < n → a ≠ b → g (swapc A a b) = - g A
  mul : ∀ (A : MF) (a : Nat) (s : Rat), a < n → g (setc A a fun i => s * A i a) = s * g A
  add : ∀ (A : MF) (a b : Nat) (s : Rat), a < n → b < n → a ≠ b → g (setc A a fun i => A i a + s * A i b) = g A
def idf : MF := fun i j => if i = j then 1 else 0
end Go.Proofs.Ytknbjfefeeojlaa
/- The reduced row echelon form: plain mathematics. -/
namespace Go.Proofs.Ytknbjfefeeojlaa
/-! ### Entries -/
def sw (p d i : Nat) : Nat := if i = d then p else if i = p then d else i
theorem mat_swapR {rows : List (List Rat)} {p d i k : Nat} (hp : p < rows.length) (hd : d < rows.length) (hi : i < rows.length) : mat (swapR rows p d) i k = mat rows (sw p d i) k := by
  unfold mat swapR sw
  rw [rowat_set (by simpa using hd)]
  by_cases e : i = d
  · rw [if_pos e, if_pos e]
  · rw [if_neg e, if_neg e, rowat_set hp]
    by_cases e2 : i = p
    · rw [if_pos e2, if_pos e2]
    · rw [if_neg e2, if_neg e2]
theorem vat_sclR (r : Rat) (xs : List Rat) (k : Nat) : vat (sclR r xs) k = r * vat xs k := by
  unfold sclR
  rcases Nat.lt_or_ge k (max xs.length 0) with h | h
  · rw [vat_zipf _ _ _ h, show vat [] k = 0 from rfl, Rat.add_zero]
  · rw [vat_ge (by rw [zipf_len]; omega), vat_ge (rs := xs) (by omega), Rat.mul_zero]
theorem vat_axR (r : Rat) (xs ys : List Rat) (k : Nat) : vat (axR r xs ys) k = r * vat xs k + vat ys k := by
  unfold axR
  rcases Nat.lt_or_ge k (max xs.length ys.length) with h | h
  · rw [vat_zipf _ _ _ h]
  · rw [vat_ge (by rw [zipf_len]; omega), vat_ge (rs := xs) (by omega), vat_ge (rs := ys) (by omega), Rat.mul_zero, Rat.add_zero]
theorem mat_divR {rows : List (List Rat)} {d k i c : Nat} (hd : d < rows.length) : mat (divR rows d k) i c = if i = d then 1 / mat rows d k * mat rows d c else mat rows i c := by
  unfold mat divR
  rw [rowat_set hd]
  split
  · rw [vat_sclR]; rfl
  · rfl
theorem mat_elimS {rows : List (List Rat)} {d k i j c : Nat} (hj : j < rows.length) : mat (elimS rows d k i) j c = if j < i ∧ j ≠ d then mat rows j c - mat rows j k * mat rows d c else mat rows j c := by
  unfold mat
  rw [elimS_row hj]
  by_cases h1 : j < i
  · rw [if_pos h1]
    unfold elimT
    by_cases h2 : j = d
    · rw [if_pos (Or.inl h2), if_neg (fun h => h.2 h2)]
    · by_cases h3 : mat rows j k = 0
      · rw [if_pos (Or.inr h3), if_pos ⟨h1, h2⟩]
        have h4 : vat (rowat rows j) k = 0 := h3
        rw [h4]; grind
      · rw [if_neg (fun h => h.elim h2 h3), if_pos ⟨h1, h2⟩, vat_axR]
        show -(vat (rowat rows j) k) * _ + _ = _
        grind
  · rw [if_neg h1, if_neg (fun h => h1 h.1)]
theorem mat_colR {rows : List (List Rat)} {d k p i c : Nat} (hp : p < rows.length) (hd : d < rows.length) (hi : i < rows.length) :
    mat (colR rows d k p) i c = if i = d then mat rows p c / mat rows p k else mat rows (sw p d i) c - mat rows (sw p d i) k * (mat rows p c / mat rows p k) := by
  have e : ∀ c, mat (divR (swapR rows p d) d k) d c = mat rows p c / mat rows p k := fun c => by
    rw [mat_divR (by rw [swapR_len]; exact hd), if_pos rfl, mat_swapR hp hd hd, mat_swapR hp hd hd]
    unfold sw; rw [if_pos rfl, Rat.div_def, Rat.div_def]; grind
  unfold colR
  rw [mat_elimS (by rw [divR_len, swapR_len]; exact hi)]
  by_cases h : i = d
  · rw [if_pos h, if_neg (by omega), h, e]
  · rw [if_neg h, if_pos ⟨hi, h⟩, e, mat_divR (by rw [swapR_len]; exact hd), if_neg h, mat_divR (by rw [swapR_len]; exact hd), if_neg h, mat_swapR hp hd hi, mat_swapR hp hd hi]
/-! ### Rows that are combinations of rows -/
theorem choose_fn {α : Type} [Inhabited α] {m : Nat} {p : Nat → α → Prop} (h : ∀ t, t < m → ∃ c, p t c) : ∃ D : Nat → α, ∀ t, t < m → p t (D t) := by
  induction m with
  | zero => exact ⟨fun _ => default, fun t ht => absurd ht (Nat.not_lt_zero _)⟩
  | succ m ih =>
    obtain ⟨D, hD⟩ := ih fun t ht => h t (by omega)
    obtain ⟨c, hc⟩ := h m (by omega)
    refine ⟨fun t => if t = m then c else D t, fun t ht => ?_⟩
    by_cases e : t = m
    · subst e; simpa using hc
    · simp only [if_neg e]; exact hD t (by omega)
def Sub (A B : List (List Rat)) : Prop := ∀ i, i < A.length → ∃ c : Nat → Rat, ∀ k, mat A i k = sumk (fun t => c t * mat B t k) B.length
theorem Sub.trans {A B C : List (List Rat)} (h1 : Sub A B) (h2 : Sub B C) : Sub A C := fun i hi => by
  obtain ⟨c, hc⟩ := h1 i hi
  have hD : ∃ D : Nat → Nat → Rat, ∀ t, t < B.length → ∀ k, mat B t k = sumk (fun s => D t s * mat C s k) C.length :=
    choose_fn fun t ht => h2 t ht
  obtain ⟨D, hD⟩ := hD
  refine ⟨fun s => sumk (fun t => c t * D t s) B.length, fun k => ?_⟩
  rw [hc k, sumk_ext (g := fun t => sumk (fun s => c t * D t s * mat C s k) C.length) fun t ht => by
    rw [hD t ht k, ← sumk_mul]; exact sumk_ext fun s _ => by grind]
  rw [sumk_comm]
  exact sumk_ext fun s _ => sumk_mulr _ _ _
theorem Sub.two {A B : List (List Rat)} (h : ∀ i, i < A.length → ∃ p q x y, p < B.length ∧ q < B.length ∧ ∀ k, mat A i k = x * mat B p k + y * mat B q k) : Sub A B := fun i hi => by
  obtain ⟨p, q, x, y, hp, hq, h⟩ := h i hi
  refine ⟨fun t => (if t = p then x else 0) + (if t = q then y else 0), fun k => ?_⟩
  rw [h k, sumk_ext (g := fun t => (if t = p then x else 0) * mat B t k + (if t = q then y else 0) * mat B t k) fun t _ => by grind, sumk_add]
  rw [sumk_only hp fun t _ ht => by rw [if_neg ht, Rat.zero_mul], sumk_only hq fun t _ ht => by rw [if_neg ht, Rat.zero_mul], if_pos rfl, if_pos rfl]
theorem Sub.refl (A : List (List Rat)) : Sub A A := Sub.two fun i hi => ⟨i, i, 1, 0, hi, hi, fun k => by grind⟩
theorem Sub.swap {rows : List (List Rat)} {p d : Nat} (hp : p < rows.length) (hd : d < rows.length) : Sub (swapR rows p d) rows ∧ Sub rows (swapR rows p d) := by
  have hs : ∀ i, i < rows.length → sw p d i < rows.length := fun i hi => by unfold sw; split; exact hp; split; exact hd; exact hi
  have hss : ∀ i, sw p d (sw p d i) = i := fun i => by unfold sw; split <;> split <;> (try split) <;> omega
  refine ⟨Sub.two fun i hi => ?_, Sub.two fun i hi => ?_⟩
  · rw [swapR_len] at hi
    exact ⟨_, _, 1, 0, hs i hi, hs i hi, fun k => by rw [mat_swapR hp hd hi]; grind⟩
  · exact ⟨sw p d i, sw p d i, 1, 0, by rw [swapR_len]; exact hs i hi, by rw [swapR_len]; exact hs i hi, fun k => by rw [mat_swapR hp hd (hs i hi), hss]; grind⟩
theorem Sub.div {rows : List (List Rat)} {d k : Nat} (hd : d < rows.length) (hk : mat rows d k ≠ 0) : Sub (divR rows d k) rows ∧ Sub rows (divR rows d k) := by
  refine ⟨Sub.two fun i hi => ?_, Sub.two fun i hi => ?_⟩
  · rw [divR_len] at hi
    by_cases e : i = d
    · exact ⟨d, d, 1 / mat rows d k, 0, hd, hd, fun c => by rw [mat_divR hd, if_pos e]; grind⟩
    · exact ⟨i, i, 1, 0, hi, hi, fun c => by rw [mat_divR hd, if_neg e]; grind⟩
  · by_cases e : i = d
    · subst e
      refine ⟨i, i, mat rows i k, 0, by rw [divR_len]; exact hd, by rw [divR_len]; exact hd, fun c => ?_⟩
      rw [mat_divR hd, if_pos rfl, Rat.div_def, Rat.one_mul, ← Rat.mul_assoc, Rat.mul_inv_cancel _ hk]; grind
    · exact ⟨i, i, 1, 0, by rw [divR_len]; exact hi, by rw [divR_len]; exact hi, fun c => by rw [mat_divR hd, if_neg e]; grind⟩
theorem Sub.elim {rows : List (List Rat)} {d k i : Nat} (hd : d < rows.length) : Sub (elimS rows d k i) rows ∧ Sub rows (elimS rows d k i) := by
  refine ⟨Sub.two fun j hj => ?_, Sub.two fun j hj => ?_⟩
  · rw [elimS_len] at hj
    by_cases h : j < i ∧ j ≠ d
    · exact ⟨j, d, 1, -(mat rows j k), hj, hd, fun c => by rw [mat_elimS hj, if_pos h]; grind⟩
    · exact ⟨j, j, 1, 0, hj, hj, fun c => by rw [mat_elimS hj, if_neg h]; grind⟩
  · have hj' : j < (elimS rows d k i).length := by rw [elimS_len]; exact hj
    have hd' : d < (elimS rows d k i).length := by rw [elimS_len]; exact hd
    have ed : ∀ c, mat (elimS rows d k i) d c = mat rows d c := fun c => by rw [mat_elimS hd, if_neg (by omega)]
    by_cases h : j < i ∧ j ≠ d
    · exact ⟨j, d, 1, mat rows j k, hj', hd', fun c => by rw [mat_elimS hj, if_pos h, ed]; grind⟩
    · exact ⟨j, j, 1, 0, hj', hj', fun c => by rw [mat_elimS hj, if_neg h]; grind⟩
theorem Sub.col {rows : List (List Rat)} {d k p : Nat} (hp : p < rows.length) (hd : d < rows.length) (hk : mat rows p k ≠ 0) : Sub (colR rows d k p) rows ∧ Sub rows (colR rows d k p) := by
  have h1 := Sub.swap hp hd
  have h2 := Sub.div (rows := swapR rows p d) (d := d) (k := k) (by rw [swapR_len]; exact hd) (by rw [mat_swapR hp hd hd]; unfold sw; rw [if_pos rfl]; exact hk)
  have h3 := Sub.elim (rows := divR (swapR rows p d) d k) (d := d) (k := k) (i := rows.length) (by rw [divR_len, swapR_len]; exact hd)
  exact ⟨(h3.1.trans h2.1).trans h1.1, (h1.2.trans h2.2).trans h3.2⟩
/-! ### The state after n columns -/
def pvt (piv : List Int) (j : Nat) : Nat := (wd piv j).toNat
structure RI (rows0 rows : List (List Rat)) (piv : List Int) (n : Nat) : Prop where
  len : rows.length = rows0.length
  pl : piv.length ≤ rows.length
  nn : ∀ j, j < piv.length → wd piv j = (pvt piv j : Int)
  lt : ∀ j, j < piv.length → pvt piv j < n
  inc : ∀ i j, i < j → j < piv.length → pvt piv i < pvt piv j
  one : ∀ i j, i < rows.length → j < piv.length → mat rows i (pvt piv j) = if i = j then 1 else 0
  low : ∀ i k, piv.length ≤ i → k < n → mat rows i k = 0
  lead : ∀ i k, i < piv.length → k < pvt piv i → mat rows i k = 0
  fwd : Sub rows rows0
  bwd : Sub rows0 rows
theorem pf_nz {rows : List (List Rat)} {k d : Nat} (hd : d ≤ rows.length) (h : pf rows k d < rows.length) : d ≤ pf rows k d ∧ mat rows (pf rows k d) k ≠ 0 := ⟨(pf_is hd).1, (pf_is hd).2.2.2 h⟩
theorem RI.step {rows0 rows : List (List Rat)} {piv : List Int} {δ : Rat} {n : Nat} (h : RI rows0 rows piv n) : RI rows0 (colS (rows, piv, δ) n).1 (colS (rows, piv, δ) n).2.1 (n + 1) := by
  unfold colS
  split
  · rename_i hp
    simp only at hp
    obtain ⟨hdp, hnz⟩ := pf_nz h.pl hp
    generalize hP : pf rows n piv.length = p at *
    simp only [hP]
    have hd : piv.length < rows.length := by omega
    have e1 : ∀ j, j < piv.length → pvt (piv ++ [(n : Int)]) j = pvt piv j := fun j hj => by simp [pvt, wd, hj, List.getElem?_append_left hj]
    have e2 : pvt (piv ++ [(n : Int)]) piv.length = n := by simp [pvt, wd]
    have hm : ∀ i c, i < rows.length → mat (colR rows piv.length n p) i c = if i = piv.length then mat rows p c / mat rows p n else mat rows (sw p piv.length i) c - mat rows (sw p piv.length i) n * (mat rows p c / mat rows p n) := fun i c hi => mat_colR hp hd hi
    have hz : ∀ c, c < n → mat rows p c = 0 := fun c hc => h.low p c (by omega) hc
    have hz2 : ∀ c, c < n → mat rows p c / mat rows p n = 0 := fun c hc => by rw [hz c hc, Rat.div_def, Rat.zero_mul]
    have hlow : ∀ i k, piv.length + 1 ≤ i → k < n + 1 → mat (colR rows piv.length n p) i k = 0 := fun i k hi hk => by
      rcases Nat.lt_or_ge i rows.length with hl | hl
      · rw [hm i k hl, if_neg (by omega)]
        rcases Nat.lt_succ_iff_lt_or_eq.1 hk with hk | rfl
        · rw [hz2 k hk, Rat.mul_zero, h.low _ k (by unfold sw; split; omega; split <;> omega) hk]; grind
        · rw [Rat.div_def, Rat.mul_inv_cancel _ hnz]; grind
      · exact mat_ge1 (by rw [colR_len]; exact hl)
    have hc := Sub.col (d := piv.length) (k := n) hp hd hnz
    refine ⟨by rw [colR_len]; exact h.len, by simp only [List.length_append, List.length_singleton, colR_len]; omega, ?_, ?_, ?_, ?_, ?_, ?_, hc.1.trans h.fwd, h.bwd.trans hc.2⟩
    · intro j hj
      simp only [List.length_append, List.length_singleton] at hj
      rcases Nat.lt_succ_iff_lt_or_eq.1 hj with hj | rfl
      · rw [e1 j hj, ← h.nn j hj]; simp [wd, hj, List.getElem?_append_left hj]
      · rw [e2]; simp [wd]
    · intro j hj
      simp only [List.length_append, List.length_singleton] at hj
      rcases Nat.lt_succ_iff_lt_or_eq.1 hj with hj | rfl
      · rw [e1 j hj]; have := h.lt j hj; omega
      · rw [e2]; omega
    · intro i j hij hj
      simp only [List.length_append, List.length_singleton] at hj
      rcases Nat.lt_succ_iff_lt_or_eq.1 hj with hj | rfl
      · rw [e1 j hj, e1 i (by omega)]; exact h.inc i j hij hj
      · rw [e2, e1 i hij]; exact h.lt i hij
    · intro i j hi hj
      rw [colR_len] at hi
      simp only [List.length_append, List.length_singleton] at hj
      rcases Nat.lt_succ_iff_lt_or_eq.1 hj with hj | rfl
      · have hjn := h.lt j hj
        rw [e1 j hj, hm i _ hi, hz2 _ hjn]
        by_cases e : i = piv.length
        · rw [if_pos e, if_neg (by omega)]
        · rw [if_neg e]
          by_cases e3 : i = p
          · rw [show sw p piv.length i = piv.length by unfold sw; rw [if_neg e, if_pos e3], h.one _ j hd hj, if_neg (by omega), if_neg (by omega)]; grind
          · rw [show sw p piv.length i = i by unfold sw; rw [if_neg e, if_neg e3], h.one _ j hi hj]; grind
      · rw [e2, hm i _ hi]
        by_cases e : i = piv.length
        · rw [if_pos e, if_pos e, Rat.div_def, Rat.mul_inv_cancel _ hnz]
        · rw [if_neg e, if_neg e, Rat.div_def, Rat.mul_inv_cancel _ hnz]; grind
    · intro i k hi hk
      simp only [List.length_append, List.length_singleton] at hi
      exact hlow i k hi hk
    · intro i k hi hk
      simp only [List.length_append, List.length_singleton] at hi
      rcases Nat.lt_succ_iff_lt_or_eq.1 hi with hi | rfl
      · rw [e1 i hi] at hk
        have hin := h.lt i hi
        rw [hm i k (by omega), if_neg (by omega), hz2 k (by omega), show sw p piv.length i = i by unfold sw; rw [if_neg (by omega), if_neg (by omega)], h.lead i k hi hk]; grind
      · rw [e2] at hk
        rw [hm _ k hd, if_pos rfl, hz2 k hk]
  · rename_i hp
    simp only at hp
    have hp2 := pf_is (rows := rows) (k := n) h.pl
    refine ⟨h.len, h.pl, h.nn, fun j hj => Nat.lt_succ_of_lt (h.lt j hj), h.inc, h.one, fun i k hi hk => ?_, h.lead, h.fwd, h.bwd⟩
    rcases Nat.lt_succ_iff_lt_or_eq.1 hk with hk | rfl
    · exact h.low i k hi hk
    · rcases Nat.lt_or_ge i rows.length with hl | hl
      · exact hp2.2.2.1 i hi (by have := hp2.2.1; omega)
      · exact mat_ge1 hl
theorem redS_RI (rows : List (List Rat)) : ∀ n, RI rows (redS rows n).1 (redS rows n).2.1 n
  | 0 => ⟨rfl, Nat.zero_le _, fun _ h => absurd h (Nat.not_lt_zero _), fun _ h => absurd h (Nat.not_lt_zero _), fun _ _ _ h => absurd h (Nat.not_lt_zero _), fun _ _ _ h => absurd h (Nat.not_lt_zero _), fun _ _ _ h => absurd h (Nat.not_lt_zero _), fun _ _ h => absurd h (Nat.not_lt_zero _), Sub.refl _, Sub.refl _⟩
  | n + 1 => (redS_RI rows n).step (δ := (redS rows n).2.2)
theorem rect_ge {N : Nat} {rows : List (List Rat)} (h : rect N rows) {i k : Nat} (hk : N ≤ k) : mat rows i k = 0 := by
  rcases Nat.lt_or_ge i rows.length with hl | hl
  · exact mat_ge2 (by rw [h.row hl]; exact hk)
  · exact mat_ge1 hl
section
variable {rows0 rows : List (List Rat)} {piv : List Int} {n : Nat}
theorem RI.zero {N : Nat} (h : RI rows0 rows piv n) (hr : rect N rows) (hN : N ≤ n) (t k : Nat) (ht : piv.length ≤ t) : mat rows t k = 0 := by
  rcases Nat.lt_or_ge k n with hk | hk
  · exact h.low t k ht hk
  · exact rect_ge hr (by omega)
end
def rank (rows : List (List Rat)) (n : Nat) : Nat := (redS rows n).2.1.length
end Go.Proofs.Ytknbjfefeeojlaa
/- The determinant is what the elimination reckons; products, transposes, operations on rows: plain mathematics. -/
namespace Go.Proofs.Ytknbjfefeeojlaa
/-- Rows as columns. -/
def trA (rows : List (List Rat)) : MF := fun i j => mat rows j i
def detR (rows : List (List Rat)) (n : Nat) : Rat := if rank rows n < n then 0 else (redS rows n).2.2
section
variable {n : Nat} {g : MF → Rat}
theorem ColP.swapR (hg : ColP n g) {rows : List (List Rat)} (hl : rows.length = n) {p d : Nat} (hp : p < n) (hd : d < n) : g (trA (swapR rows p d)) = if p = d then g (trA rows) else - g (trA rows) := by
  split
  · rename_i h; subst h; rw [swapR_self]
  · rename_i h
    rw [← hg.swap _ d p hd hp (Ne.symm h)]
    refine hg.congr _ _ fun i j _ hj => ?_
    unfold trA swapc
    rw [mat_swapR (by omega) (by omega) (by omega)]; rfl
theorem ColP.divR (hg : ColP n g) {rows : List (List Rat)} (hl : rows.length = n) {d k : Nat} (hd : d < n) (hk : mat rows d k ≠ 0) : g (trA rows) = mat rows d k * g (trA (divR rows d k)) := by
  have h := hg.mul (trA rows) d (1 / mat rows d k) hd
  rw [show g (trA (Proofs.Ytknbjfefeeojlaa.divR rows d k)) = g (setc (trA rows) d fun i => 1 / mat rows d k * trA rows i d) from hg.congr _ _ fun i j _ hj => by
    unfold trA setc; rw [mat_divR (by omega)], h, Rat.div_def, Rat.one_mul, ← Rat.mul_assoc, Rat.mul_inv_cancel _ hk, Rat.one_mul]
theorem ColP.elim (hg : ColP n g) {rows : List (List Rat)} (hl : rows.length = n) {d k : Nat} (hd : d < n) : ∀ i, i ≤ n → g (trA (elimS rows d k i)) = g (trA rows)
  | 0, _ => by rw [elimS_zero]
  | i + 1, hi => by
    rw [← ColP.elim hg hl hd i (by omega)]
    by_cases e : i = d
    · rw [elimS_keep (by omega) (.inl e)]
    · rw [← hg.add (trA (elimS rows d k i)) i d (-(mat rows i k)) (by omega) hd e]
      refine hg.congr _ _ fun a j _ hj => ?_
      show mat (elimS rows d k (i + 1)) j a = if j = i then mat (elimS rows d k i) i a + -(mat rows i k) * mat (elimS rows d k i) d a else mat (elimS rows d k i) j a
      rw [mat_elimS (j := j) (by omega), mat_elimS (j := i) (by omega), mat_elimS (j := d) (by omega), mat_elimS (j := j) (by omega)]
      by_cases e2 : j = i
      · subst e2
        rw [if_pos ⟨by omega, e⟩, if_pos rfl, if_neg (by omega), if_neg (by omega)]; grind
      · rw [if_neg e2]
        by_cases e3 : j < i ∧ j ≠ d
        · rw [if_pos e3, if_pos ⟨by omega, e3.2⟩]
        · rw [if_neg e3, if_neg (by omega)]
theorem ColP.red (hg : ColP n g) {rows : List (List Rat)} (hl : rows.length = n) : ∀ k, g (trA rows) = (redS rows k).2.2 * g (trA (redS rows k).1)
  | 0 => by simp [redS]
  | k + 1 => by
    have ih := ColP.red hg hl k
    have hR := redS_RI rows k
    rw [redS, show redS rows k = ((redS rows k).1, (redS rows k).2.1, (redS rows k).2.2) from rfl]
    generalize (redS rows k).1 = R at *
    generalize (redS rows k).2.1 = p at *
    generalize (redS rows k).2.2 = δ at *
    have hRl : R.length = n := by rw [hR.len, hl]
    unfold colS
    split
    · rename_i hp
      simp only at hp
      obtain ⟨h1, h2⟩ := pf_nz hR.pl hp
      have hid : pf R k p.length < R.length := hp
      generalize pf R k p.length = q at *
      have hd : p.length < n := by omega
      have hq : q < n := by omega
      show _ = ((if q = p.length then δ else -δ) * mat (Proofs.Ytknbjfefeeojlaa.swapR R q p.length) p.length k) * g (trA (colR R p.length k q))
      have hs := hg.swapR hRl hq hd
      have hsl : (Proofs.Ytknbjfefeeojlaa.swapR R q p.length).length = n := by rw [swapR_len, hRl]
      have hnz : mat (Proofs.Ytknbjfefeeojlaa.swapR R q p.length) p.length k ≠ 0 := by
        rw [mat_swapR hp (by omega) (by omega)]; unfold sw; rw [if_pos rfl]; exact h2
      have hv := hg.divR hsl hd hnz
      have he := hg.elim (rows := Proofs.Ytknbjfefeeojlaa.divR (Proofs.Ytknbjfefeeojlaa.swapR R q p.length) p.length k) (by rw [divR_len, hsl]) hd (k := k) n (Nat.le_refl _)
      unfold colR
      rw [show R.length = n from hRl, he, ih]
      have e : g (trA R) = (if q = p.length then 1 else -1) * g (trA (Proofs.Ytknbjfefeeojlaa.swapR R q p.length)) := by
        rw [hs]; split <;> grind
      rw [e, hv]
      split <;> grind
    · exact ih
end
theorem gap (piv : List Int) (n : Nat) (h1 : ∀ i j, i < j → j < piv.length → pvt piv i < pvt piv j) (h2 : ∀ j, j < piv.length → pvt piv j < n) (hl : piv.length = n) : ∀ j, j < n → pvt piv j = j := by
  have lo : ∀ j, j < n → j ≤ pvt piv j := by
    intro j
    induction j with
    | zero => intro _; omega
    | succ j ih => intro hj; have := ih (by omega); have := h1 j (j + 1) (by omega) (by omega); omega
  have hi : ∀ d j, j < n → n - 1 - j = d → pvt piv j ≤ j := by
    intro d
    induction d with
    | zero => intro j hj he; have := h2 j (by omega); omega
    | succ d ih => intro j hj he; have := ih (j + 1) (by omega) (by omega); have := h1 j (j + 1) (by omega) (by omega); omega
  exact fun j hj => by have := lo j hj; have := hi _ j hj rfl; omega
/-- All columns bear pivots: the first n columns are those of the identity. -/
theorem RI.full {rows0 rows : List (List Rat)} {piv : List Int} {n : Nat} (h : RI rows0 rows piv n) (hp : piv.length = n) {i j : Nat} (hi : i < rows.length) (hj : j < n) : mat rows i j = if i = j then 1 else 0 := by
  have := h.one i j hi (by omega)
  rwa [gap piv n h.inc h.lt hp j hj] at this
theorem rank_le (rows : List (List Rat)) (n : Nat) : rank rows n ≤ n := by
  have hR := redS_RI rows n
  unfold rank
  generalize (redS rows n).2.1 = p at *
  have lo : ∀ j, j < p.length → j ≤ pvt p j := by
    intro j
    induction j with
    | zero => intro _; omega
    | succ j ih => intro hj; have := ih (by omega); have := hR.inc j (j + 1) (by omega) (by omega); omega
  rcases Nat.eq_zero_or_pos p.length with h | h
  · omega
  · have := lo (p.length - 1) (by omega); have := hR.lt (p.length - 1) (by omega); omega
/-- What the elimination reckons is what every such function is, up to its value at the identity. -/
theorem ColP.eq {n : Nat} {g : MF → Rat} (hg : ColP n g) {rows : List (List Rat)} (hl : rows.length = n) : g (trA rows) = detR rows n * g idf := by
  have hR := redS_RI rows n
  have h := hg.red hl n
  have hle := rank_le rows n
  unfold detR
  rw [h]
  unfold rank at *
  generalize (redS rows n).1 = R at *
  generalize (redS rows n).2.1 = p at *
  generalize (redS rows n).2.2 = δ at *
  split
  · rename_i hlt
    have h0 : g (trA R) = 0 := by
      have := hg.mul (trA R) (n - 1) 0 (by omega)
      rw [Rat.zero_mul] at this
      rw [← this]
      refine hg.congr _ _ fun i j hi hj => ?_
      unfold trA setc
      by_cases e : j = n - 1
      · rw [if_pos e, e, hR.low (n - 1) i (by omega) hi]; grind
      · rw [if_neg e]
    rw [h0, Rat.mul_zero, Rat.zero_mul]
  · rename_i hge
    rw [hg.congr (trA R) idf fun i j hi hj => by
      unfold trA idf
      rw [hR.full (by omega) (by rw [hR.len]; omega) hi]
      by_cases e : j = i
      · rw [if_pos e, if_pos e.symm]
      · rw [if_neg e, if_neg (Ne.symm e)]]
end Go.Proofs.Ytknbjfefeeojlaa
/- Systems of equations and the reduced form: plain mathematics for the laws of layer 5. -/
namespace Go.Proofs.Ytknbjfefeeojlaa
theorem vat_set (l : List Rat) (a : Nat) (x : Rat) (j : Nat) : vat (l.set a x) j = if j = a ∧ a < l.length then x else vat l j := by
  unfold vat
  rw [List.getD_eq_getElem?_getD, List.getElem?_set]
  by_cases e : a = j
  · subst e
    rw [if_pos rfl]
    by_cases h : a < l.length
    · rw [if_pos h, if_pos ⟨rfl, h⟩]; rfl
    · rw [if_neg h, if_neg (by omega), List.getD_eq_getElem?_getD, List.getElem?_eq_none (by omega)]
  · rw [if_neg e, if_neg (fun h => e h.1.symm), List.getD_eq_getElem?_getD]
section
variable {rows0 rows : List (List Rat)} {piv : List Int} {n N : Nat}
end
end Go.Proofs.Ytknbjfefeeojlaa
/- What the laws of layer 5 ask of package solve's functions: the reduced form of a matrix, sizes. -/
namespace Go.Proofs.Ytknbjfefeeojlaa
open Go.RowKit
attribute [local irreducible] RV VH V OpF Calls
theorem szV.set {L : Nat} {xs : List Rat} (h : szV L xs) {i : Nat} {r : Rat} (hr : sz L r) : szV L (xs.set i r) := fun x hx => by
  rcases List.mem_or_eq_of_mem_set hx with h' | rfl
  · exact h x h'
  · exact hr
section
variable {L : Nat} {S S1 S2 : Nat → Prop} {a1 a2 : Option Addr} {n c m d : Nat} {rss : List (List Rat)} {bs : List Rat}
theorem MA.mono {L' : Nat} {S : Nat → Prop} {W : World} (h : MA L S W a1 n c rss) (hL : L ≤ L') : MA L' S W a1 n c rss := by
  obtain ⟨qs, h1, h2⟩ := h
  exact ⟨qs, h1, h2.imp fun _ _ ⟨a, n, c, e, hr⟩ => ⟨a, n, c, e, hr.mono hL⟩⟩
end
end Go.Proofs.Ytknbjfefeeojlaa
/- Tableaus: what is reckoned, in plain mathematics. -/
namespace Go.Proofs.Ytknbjfefeeojlaa
open Go.RowKit
theorem vat_map (f : Nat → Rat) {k j : Nat} : vat ((List.range k).map f) j = if j < k then f j else 0 := by
  unfold vat; rw [List.getD_eq_getElem?_getD, List.getElem?_map]
  by_cases h : j < k
  · rw [List.getElem?_range h, if_pos h]; rfl
  · rw [List.getElem?_eq_none (by simp; omega), if_neg h]; rfl
theorem vec_ext {xs ys : List Rat} (hl : xs.length = ys.length) (h : ∀ j, j < xs.length → vat xs j = vat ys j) : xs = ys := by
  refine List.ext_getElem hl fun j h1 h2 => ?_
  have := h j h1
  rwa [vat_lt h1, vat_lt h2] at this
/-- The value vector of column k: its objective coefficients and minus its unit vector; 0 behind the variables. -/
def gcol (goals : List (List Rat)) (ng N k j : Nat) : Rat := if k < N then (if j < ng then mat goals j k else if j = ng + k then -1 else 0) else 0
def addV (u : Rat) (g : Nat → Rat) (xs : List Rat) : List Rat := (List.range xs.length).map fun j => vat xs j + u * g j
theorem addV_len (u : Rat) (g : Nat → Rat) (xs : List Rat) : (addV u g xs).length = xs.length := by simp [addV]
theorem vat_addV (u : Rat) (g : Nat → Rat) (xs : List Rat) (j : Nat) : vat (addV u g xs) j = if j < xs.length then vat xs j + u * g j else 0 := vat_map _
def addK (goals : List (List Rat)) (k : Nat) (u : Rat) (xs : List Rat) (i : Nat) : List Rat := (List.range xs.length).map fun j => if j < i then vat xs j + u * mat goals j k else vat xs j
theorem addK_len (goals : List (List Rat)) (k : Nat) (u : Rat) (xs : List Rat) (i : Nat) : (addK goals k u xs i).length = xs.length := by simp [addK]
theorem vat_addK (goals : List (List Rat)) (k : Nat) (u : Rat) (xs : List Rat) (i : Nat) {j : Nat} (h : j < xs.length) : vat (addK goals k u xs i) j = if j < i then vat xs j + u * mat goals j k else vat xs j := by unfold addK; rw [vat_map, if_pos h]
theorem addK_zero (goals : List (List Rat)) (k : Nat) (u : Rat) (xs : List Rat) : addK goals k u xs 0 = xs := vec_ext (addK_len _ _ _ _ _) fun j hj => by rw [addK_len] at hj; rw [vat_addK _ _ _ _ _ hj, if_neg (by omega)]
theorem addK_succ {goals : List (List Rat)} {k : Nat} {u : Rat} {xs : List Rat} {i : Nat} (h : i < xs.length) : (addK goals k u xs i).set i (vat (addK goals k u xs i) i + u * mat goals i k) = addK goals k u xs (i + 1) := by
  refine vec_ext (by simp [addK_len]) fun j hj => ?_
  rw [List.length_set, addK_len] at hj
  rw [vat_set, addK_len, vat_addK goals k u xs (i + 1) hj]
  by_cases e : j = i
  · subst e
    rw [if_pos ⟨rfl, h⟩, vat_addK goals k u xs j h, if_neg (by omega), if_pos (by omega)]
  · rw [if_neg (fun h => e h.1), vat_addK goals k u xs i hj]
    by_cases h2 : j < i
    · rw [if_pos h2, if_pos (by omega)]
    · rw [if_neg h2, if_neg (by omega)]
theorem addK_done {goals : List (List Rat)} {ng N k : Nat} {u : Rat} {xs : List Rat} (hl : xs.length = ng + N) (hk : k < N) : (addK goals k u xs ng).set (ng + k) (vat (addK goals k u xs ng) (ng + k) - u) = addV u (gcol goals ng N k) xs := by
  refine vec_ext (by simp [addK_len, addV_len]) fun j hj => ?_
  rw [List.length_set, addK_len] at hj
  rw [vat_set, addK_len, vat_addV, if_pos hj, gcol, if_pos hk]
  by_cases e : j = ng + k
  · subst e
    rw [if_pos ⟨rfl, by omega⟩, vat_addK _ _ _ _ _ (by omega), if_neg (by omega), if_neg (by omega), if_pos rfl]; grind
  · rw [if_neg (fun h => e h.1), vat_addK _ _ _ _ _ hj]
    by_cases h2 : j < ng
    · rw [if_pos h2, if_pos h2]
    · rw [if_neg h2, if_neg h2, if_neg e]; grind
theorem addV_no {goals : List (List Rat)} {ng N k : Nat} {u : Rat} (xs : List Rat) (h : N ≤ k ∨ u = 0) : addV u (gcol goals ng N k) xs = xs := by
  refine vec_ext (addV_len _ _ _) fun j hj => ?_
  rw [addV_len] at hj
  rw [vat_addV, if_pos hj]
  rcases h with h | h
  · rw [gcol, if_neg (by omega)]; grind
  · rw [h]; grind
/-- A sum of value vectors of the basic columns. -/
def combS (goals : List (List Rat)) (ng N : Nat) (f : Nat → Rat) (piv : List Int) (i : Nat) : List Rat := (List.range (ng + N)).map fun j => sumk (fun t => f t * gcol goals ng N (pvt piv t) j) i
theorem combS_len (goals : List (List Rat)) (ng N : Nat) (f : Nat → Rat) (piv : List Int) (i : Nat) : (combS goals ng N f piv i).length = ng + N := by simp [combS]
theorem vat_combS (goals : List (List Rat)) (ng N : Nat) (f : Nat → Rat) (piv : List Int) (i j : Nat) : vat (combS goals ng N f piv i) j = if j < ng + N then sumk (fun t => f t * gcol goals ng N (pvt piv t) j) i else 0 := vat_map _
theorem combS_zero (goals : List (List Rat)) (ng N : Nat) (f : Nat → Rat) (piv : List Int) : combS goals ng N f piv 0 = List.replicate (ng + N) 0 := by
  refine vec_ext (by simp [combS]) fun j hj => ?_
  rw [vat_combS, vat_rep]; simp [sumk]
theorem combS_succ (goals : List (List Rat)) (ng N : Nat) (f : Nat → Rat) (piv : List Int) (i : Nat) : addV (f i) (gcol goals ng N (pvt piv i)) (combS goals ng N f piv i) = combS goals ng N f piv (i + 1) := by
  refine vec_ext (by simp [addV_len, combS_len]) fun j hj => ?_
  rw [addV_len, combS_len] at hj
  rw [vat_addV, combS_len, if_pos hj, vat_combS, if_pos hj, vat_combS, if_pos hj]; rfl
/-- The reduced cost of column k. -/
def rcost (goals : List (List Rat)) (ng N : Nat) (rows : List (List Rat)) (piv : List Int) (k : Nat) : List Rat := addV (-1) (gcol goals ng N k) (combS goals ng N (fun t => mat rows t k) piv piv.length)
def tval (goals : List (List Rat)) (ng N : Nat) (rows : List (List Rat)) (piv : List Int) (M : Nat) : List Rat := combS goals ng N (fun t => mat rows t M) piv piv.length
theorem rcost_len (goals : List (List Rat)) (ng N : Nat) (rows : List (List Rat)) (piv : List Int) (k : Nat) : (rcost goals ng N rows piv k).length = ng + N := by simp [rcost, addV_len, combS_len]
/-- The basic solution. -/
def solT (rows : List (List Rat)) (piv : List Int) (N M : Nat) : Nat → List Rat
  | 0 => List.replicate N 0
  | i + 1 => if wd piv i < N then (solT rows piv N M i).set (pvt piv i) (mat rows i M) else solT rows piv N M i
/-! ### Sizes -/
theorem gcol_sz {L ng N : Nat} {goals : List (List Rat)} (h : szR L goals) (hL : 1 ≤ L) (k j : Nat) : sz L (gcol goals ng N k j) := by
  unfold gcol
  split
  · split
    · exact h.at hL _ _
    · split
      · exact (sz_neg sz_one).mono hL
      · exact sz_zero' L hL
  · exact sz_zero' L hL
theorem sumk_sz {L : Nat} {f : Nat → Rat} : ∀ n, (∀ t, t < n → sz L (f t)) → sz ((L + 1) * n + 1) (sumk f n)
  | 0, _ => by simpa [sumk] using sz_zero
  | n + 1, h => by
    have h1 := sumk_sz n fun t ht => h t (by omega)
    have h2 := sz_add h1 (h n (by omega))
    exact h2.mono (by rw [Nat.mul_add]; omega)
theorem combS_sz {L0 L ng N : Nat} {goals : List (List Rat)} {f : Nat → Rat} {piv : List Int} {i : Nat} (hg : szR L0 goals) (h0 : 1 ≤ L0) (hf : ∀ t, t < i → sz L (f t)) : szV ((L + L0 + 1) * i + 1) (combS goals ng N f piv i) := by
  intro r hr
  obtain ⟨j, _, rfl⟩ := List.mem_map.1 hr
  exact sumk_sz i fun t ht => sz_mul (hf t ht) (gcol_sz hg h0 _ _)
theorem addV_sz {L0 L L1 ng N k : Nat} {goals : List (List Rat)} {u : Rat} {xs : List Rat} (hg : szR L0 goals) (h0 : 1 ≤ L0) (hu : sz L u) (hx : szV L1 xs) (h1 : 1 ≤ L1) : szV (L1 + (L + L0) + 1) (addV u (gcol goals ng N k) xs) := by
  intro r hr
  obtain ⟨j, _, rfl⟩ := List.mem_map.1 hr
  exact sz_add (szV_at hx h1 _) (sz_mul hu (gcol_sz hg h0 _ _))
theorem addK_sz {L0 L L1 k i : Nat} {goals : List (List Rat)} {u : Rat} {xs : List Rat} (hg : szR L0 goals) (h0 : 1 ≤ L0) (hu : sz L u) (hx : szV L1 xs) (h1 : 1 ≤ L1) : szV (L1 + (L + L0) + 1) (addK goals k u xs i) := by
  intro r hr
  obtain ⟨j, _, rfl⟩ := List.mem_map.1 hr
  split
  · exact sz_add (szV_at hx h1 _) (sz_mul hu (hg.at h0 _ _))
  · exact (szV_at hx h1 _).mono (by omega)
theorem rcost_sz {L0 L ng N k : Nat} {goals rows : List (List Rat)} {piv : List Int} (hg : szR L0 goals) (h0 : 1 ≤ L0) (hr : szR L rows) (hL : 1 ≤ L) : szV ((L + L0 + 1) * (piv.length + 1) + 2) (rcost goals ng N rows piv k) := by
  have h := addV_sz (ng := ng) (N := N) (k := k) hg h0 (sz_neg sz_one) (combS_sz (ng := ng) (N := N) (f := fun t => mat rows t k) (piv := piv) (i := piv.length) hg h0 fun t _ => hr.at hL t k) (by omega)
  intro r hq
  exact (h r hq).mono (by rw [Nat.mul_add]; omega)
/-! ### Pivots -/
def pivOK (rows : List (List Rat)) (piv : List Int) (M : Nat) (r c : Int) : Prop := 0 ≤ r ∧ r < rows.length ∧ 0 ≤ c ∧ c < M ∧ c ∉ piv ∧ mat rows r.toNat c.toNat ≠ 0
instance (rows : List (List Rat)) (piv : List Int) (M : Nat) (r c : Int) : Decidable (pivOK rows piv M r c) := by unfold pivOK; exact inferInstance
/-- The rows after a pivot, ahead of row i. -/
def pivS (rows : List (List Rat)) (r c i : Nat) : List (List Rat) := (List.range rows.length).map fun j => if j < i then elimT (divR rows r c) r c j else rowat rows j
def pivR (rows : List (List Rat)) (piv : List Int) (M : Nat) (r c : Int) : List (List Rat) := if pivOK rows piv M r c then elimS (divR rows r.toNat c.toNat) r.toNat c.toNat rows.length else rows
def pivP (rows : List (List Rat)) (piv : List Int) (M : Nat) (r c : Int) : List Int := if pivOK rows piv M r c then piv.set r.toNat c else piv
theorem pivS_len (rows : List (List Rat)) (r c i : Nat) : (pivS rows r c i).length = rows.length := by simp [pivS]
theorem pivS_row {rows : List (List Rat)} {r c i j : Nat} (h : j < rows.length) : rowat (pivS rows r c i) j = if j < i then elimT (divR rows r c) r c j else rowat rows j := by
  unfold pivS; rw [rowat, List.getD_eq_getElem?_getD, List.getElem?_map, List.getElem?_range h]; simp
theorem pivS_zero (rows : List (List Rat)) (r c : Nat) : pivS rows r c 0 = rows := rows_ext (pivS_len _ _ _ _) fun j hj => by rw [pivS_len] at hj; rw [pivS_row hj, if_neg (by omega)]
theorem pivS_succ {rows : List (List Rat)} {r c i : Nat} (h : i < rows.length) : pivS rows r c (i + 1) = (pivS rows r c i).set i (elimT (divR rows r c) r c i) := by
  refine rows_ext (by simp [pivS_len]) fun j hj => ?_
  rw [pivS_len] at hj
  rw [rowat_set (by rw [pivS_len]; exact h), pivS_row hj, pivS_row hj]
  by_cases e : j = i
  · subst e; rw [if_pos (by omega), if_pos rfl]
  · rw [if_neg e]
    by_cases h2 : j < i
    · rw [if_pos h2, if_pos (by omega)]
    · rw [if_neg h2, if_neg (by omega)]
theorem pivS_done (rows : List (List Rat)) (r c : Nat) : pivS rows r c rows.length = elimS (divR rows r c) r c rows.length := by
  refine rows_ext (by rw [pivS_len, elimS_len, divR_len]) fun j hj => ?_
  rw [pivS_len] at hj
  rw [pivS_row hj, if_pos hj, elimS_row (by rw [divR_len]; exact hj), if_pos hj]
theorem elimT_at {rows : List (List Rat)} {r c : Nat} (hr : r < rows.length) : elimT (divR rows r c) r c r = sclR (1 / mat rows r c) (rowat rows r) := by
  rw [elimT, if_pos (.inl rfl)]; unfold divR; rw [rowat_set hr, if_pos rfl]
theorem divR_ne {rows : List (List Rat)} {r c j : Nat} (hr : r < rows.length) (h : j ≠ r) : rowat (divR rows r c) j = rowat rows j := by unfold divR; rw [rowat_set hr, if_neg h]
theorem elimT_zero {rows : List (List Rat)} {r c j : Nat} (hr : r < rows.length) (h : j ≠ r) (h0 : mat rows j c = 0) : elimT (divR rows r c) r c j = rowat rows j := by
  rw [elimT, if_pos (.inr (by rw [mat, divR_ne hr h]; exact h0)), divR_ne hr h]
theorem elimT_ne {rows : List (List Rat)} {r c j : Nat} (hr : r < rows.length) (h : j ≠ r) (h0 : mat rows j c ≠ 0) : elimT (divR rows r c) r c j = axR (-(mat rows j c)) (sclR (1 / mat rows r c) (rowat rows r)) (rowat rows j) := by
  have e : mat (divR rows r c) j c = mat rows j c := by rw [mat, divR_ne hr h, mat]
  rw [elimT, if_neg (by rw [e]; rintro (h' | h'); exact h h'; exact h0 h'), e, divR_ne hr h]
  unfold divR; rw [rowat_set hr, if_pos rfl]
def lexnn (v : List Rat) : Prop := ∀ i, (∀ j, j < i → vat v j = 0) → 0 ≤ vat v i
theorem cq_lt {a b : Rat} : cq a b < 0 ↔ a < b := by
  unfold cq
  split
  · rename_i h; exact ⟨fun _ => h, fun _ => by decide⟩
  · rename_i h
    split
    · exact ⟨fun h' => absurd h' (by decide), fun h' => absurd h' h⟩
    · exact ⟨fun h' => absurd h' (by decide), fun h' => absurd h' h⟩
theorem sign_nn {v : List Rat} {M : Nat} {s : Int} (h : LexP v [] M s) (hl : v.length ≤ M) : s < 0 ↔ ¬ lexnn v := by
  have e0 : ∀ j, vat [] j = 0 := fun j => vat_ge (Nat.zero_le _)
  rcases h with ⟨i, hi, e, hne, hj⟩ | ⟨e, hj⟩
  · simp only [e0] at e hj
    constructor
    · intro hs h2
      have h3 := h2 i hj
      rw [e] at hs; have := cq_lt.1 hs; grind
    · intro h2
      false_or_by_contra; rename_i hs
      apply h2
      intro k hk
      rcases Nat.lt_trichotomy k i with h3 | h3 | h3
      · rw [hj k h3]; exact Rat.le_refl
      · subst h3
        false_or_by_contra; rename_i h4
        exact hs (by rw [e]; exact cq_lt.2 (by grind))
      · have := hk i h3
        rw [this] at e; exact absurd e (by rw [show cq 0 0 = 0 from rfl]; exact hne)
  · simp only [e0] at hj
    subst e
    refine ⟨fun h => absurd h (by decide), fun h => absurd (fun k _ => ?_) h⟩
    rcases Nat.lt_or_ge k M with h3 | h3
    · rw [hj k h3]; exact Rat.le_refl
    · rw [vat_ge (by omega)]; exact Rat.le_refl
/-! ### The first tableau: what is made -/
def wideB (rss : List (List Rat)) (N m : Nat) : List (List Rat) := gridm (catI (gridm (matI rss) m N) (identm m) (colsN (gridm (matI rss) m N))) (max m m) (colsN (gridm (matI rss) m N) + colsN (identm m))
def sideB (bs : List Rat) (m : Nat) : List (List Rat) := gridm (fun i k => matI [resz bs m] k i) (colsN [resz bs m]) 1
def allB (rss : List (List Rat)) (bs : List Rat) (N m : Nat) : List (List Rat) := gridm (catI (wideB rss N m) (sideB bs m) (colsN (wideB rss N m))) (max (max m m) (colsN [resz bs m])) (colsN (wideB rss N m) + colsN (sideB bs m))
def newR (rss : List (List Rat)) (bs : List Rat) (N m i : Nat) : List (List Rat) := (List.range i).map fun t => resz (rowat (allB rss bs N m) t) (N + m + 1)
def newP (N i : Nat) : List Int := (List.range i).map fun t : Nat => (N : Int) + (t : Int)
theorem newR_succ (rss : List (List Rat)) (bs : List Rat) (N m i : Nat) : newR rss bs N m (i + 1) = newR rss bs N m i ++ [resz (rowat (allB rss bs N m) i) (N + m + 1)] := by simp [newR, List.range_succ]
theorem newP_succ (N i : Nat) : newP N (i + 1) = newP N i ++ [(N : Int) + (i : Int)] := by simp [newP, List.range_succ]
theorem newR_len (rss : List (List Rat)) (bs : List Rat) (N m i : Nat) : (newR rss bs N m i).length = i := by simp [newR]
theorem newP_len (N i : Nat) : (newP N i).length = i := by simp [newP]
theorem catI_sz {L : Nat} {rss mss : List (List Rat)} (h1 : szR L rss) (h2 : szR L mss) (hL : 1 ≤ L) (N : Nat) (i k : Int) : sz L (catI rss mss N i k) := by
  unfold catI; split
  · exact h1.matI hL _ _
  · exact h2.matI hL _ _
theorem wideB_sz {L : Nat} {rss : List (List Rat)} (h : szR L rss) (hL : 1 ≤ L) (N m : Nat) : szR L (wideB rss N m) := gridm_sz fun i k => catI_sz (gridm_sz fun i k => h.matI hL _ _) ((identm_sz m).mono hL) hL _ _ _
theorem sideB_sz {L : Nat} {bs : List Rat} (h : szV L bs) (hL : 1 ≤ L) (m : Nat) : szR L (sideB bs m) := gridm_sz fun i k => szR.matI (rows := [resz bs m]) (fun r hr => by simp at hr; subst hr; exact resz_sz h hL m) hL _ _
theorem allB_sz {L : Nat} {rss : List (List Rat)} {bs : List Rat} (h : szR L rss) (hb : szV L bs) (hL : 1 ≤ L) (N m : Nat) : szR L (allB rss bs N m) := gridm_sz fun i k => catI_sz (wideB_sz h hL N m) (sideB_sz hb hL m) hL _ _ _
end Go.Proofs.Ytknbjfefeeojlaa
/- Package tableau: value, ReducedCost, Value, Solution. -/
namespace Go.Proofs.Ytknbjfefeeojlaa
open Go.RowKit
attribute [local irreducible] RV VH V OpF Calls
/-- An array of rationals, made at once. -/
def VQ (S : Nat → Prop) (W : World) (b n : Nat) (xs : List Rat) : Prop := ∃ qs, AQ 4 W b 43 n qs ∧ All2 (QC (SX S [b]) W) qs xs
section
variable {S : Nat → Prop} {W W' : World} {b n : Nat} {xs : List Rat}
theorem VQ.ext (h : VQ S W b n xs) (x : Ext W W') : VQ S W' b n xs := by obtain ⟨qs, h1, h2⟩ := h; exact ⟨qs, h1.ext x, h2.imp fun _ _ h => h.ext x⟩
theorem VQ.len (h : VQ S W b n xs) : xs.length = n := by obtain ⟨qs, h1, h2⟩ := h; rw [← h2.len, h1.len]
theorem VQ.lt (h : VQ S W b n xs) : b < W.heap.size := by obtain ⟨qs, h1, h2⟩ := h; exact h1.box.lt
theorem VQ.gc (h : VQ S W b n xs) (hS : S b) : GC S W (some ⟨b, 0, none⟩) n n xs := by obtain ⟨qs, h1, h2⟩ := h; exact ⟨qs, h1.rs hS, h2.imp fun _ _ h => h.sub fun _ _ h => h.1⟩
theorem VQ.top (h : VQ S W b n xs) : GC TT W (some ⟨b, 0, none⟩) n n xs := by obtain ⟨qs, h1, h2⟩ := h; exact ⟨qs, h1.rs trivial, h2.imp fun _ _ h => h.sub fun _ _ _ => trivial⟩
theorem VQ.cast {ys : List Rat} (h : VQ S W b n xs) (e : xs = ys) : VQ S W b n ys := e ▸ h
theorem VQ.made {n0 : Nat} (h : AQ 4 W b 43 n (List.replicate n [.bool false, .slice none 0 0, .bool false, .slice none 0 0])) (hn : n0 = n) : VQ S W b n (List.replicate n0 0) := ⟨_, h, by subst hn; exact All2.rep (QC.zero _ _) _⟩
theorem xstV {P : Program} {ρ : Operand → Value} {d : Option Tmp} {ty T : TypeId} {pos : String} {af : Array Edge} {g : Option (Nat × Bool)} {x y : Operand} {K : Value → World → Prop} {r : Option Nat} {i : Int} {u : Rat} {n1 n2 : Bool} {a1 a2 : Option Addr} {l1 c1 l2 c2 : Nat} (h : VQ S W b n xs) (hx : ρ x = .pointer (some (adr (some ⟨b, 0, none⟩) i 4))) (hy : ρ y = .agg #[.bool n1, .slice a1 l1 c1, .bool n2, .slice a2 l2 c2]) (hT : Sz P T 4) (h0 : 0 ≤ i) (h1 : i < n)
    (hq : QC (SX S [b]) W [.bool n1, .slice a1 l1 c1, .bool n2, .slice a2 l2 c2] u) (hk2 : ∀ W', Wr b W W' → VQ S W' b n (xs.set i.toNat u) → K undef W') : OpF r P ρ ⟨d, .store T x y, ty, pos, af, g⟩ W K := by
  obtain ⟨qs, hA, hQ⟩ := h
  refine xstq (q := [.bool n1, .slice a1 l1 c1, .bool n2, .slice a2 l2 c2]) hA hx hy rfl hT rfl rfl h0 h1 ?_
  intro W' y' hA'
  exact hk2 W' y' ⟨_, hA', (hQ.set hq).imp fun _ _ h => h.ck (y'.ck (fun hh => hh.2 (by simp)))⟩
/-- Cells that lie in a block of a set. -/
def CB (D : Nat → Prop) (W : World) (ad : Addr) (l : List Value) : Prop := ∃ b off cs T fz, ad = ⟨b, off, none⟩ ∧ D b ∧ W.heap[b]? = some (.cells cs T fz) ∧ ∀ j u, l[j]? = some u → cs[off + j]? = some u
theorem CB.ck {D : Nat → Prop} {ad : Addr} {l : List Value} (h : CB D W ad l) (x : CK D W W') : CB D W' ad l := by
  obtain ⟨b, off, cs, T, fz, e, h1, h2, h3⟩ := h; exact ⟨b, off, cs, T, fz, e, h1, x.2 b cs T fz h1 h2, h3⟩
theorem CB.ext {D : Nat → Prop} {ad : Addr} {l : List Value} (h : CB D W ad l) (x : Ext W W') : CB D W' ad l := h.ck (x.ck _)
theorem CB.ce {D : Nat → Prop} {ad : Addr} {l : List Value} (h : CB D W ad l) : CE W ad l := by
  obtain ⟨b, off, cs, T, fz, rfl, h1, h2, h3⟩ := h
  intro j u hj; rw [addO]; simp [World.cell?, h2, h3 j u hj]
theorem CB.c1 {D : Nat → Prop} {ad : Addr} {v : Value} (h : CB D W ad [v]) : C1 W ad v := by
  obtain ⟨b, off, cs, T, fz, rfl, h1, h2, h3⟩ := h
  have := h3 0 v rfl
  unfold C1; simp only [World.cell?, h2]; simpa using this
theorem RS.elB {s : Nat} {a : Option Addr} {n c : Nat} {qs : List (List Value)} (h : RS s S W a n c qs) {i : Int} (hi : 0 ≤ i) (hn : i < n) : ∃ q, qs[i.toNat]? = some q ∧ q.length = s ∧ CB S W (adr a i s) q := by
  have hlt : i.toNat < qs.length := by rw [h.len]; omega
  obtain ⟨b, off, cs, T, fz, rfl, h1, h2, h3⟩ := h.at_ (by omega)
  refine ⟨qs[i.toNat], List.getElem?_eq_getElem hlt, h.wd _ (List.getElem_mem hlt), b, off + i.toNat * s, cs, T, fz, by simp [adr, addO], h1, h2, fun j u hj => ?_⟩
  have := h3 _ _ (List.getElem?_eq_getElem hlt) j u hj
  exact this
theorem MG.elB {ρt : Type} {G : (Nat → Prop) → World → Option Addr → Nat → Nat → List ρt → Prop} {a : Option Addr} {n c : Nat} {rss : List (List ρt)} (h : MG G S W a n c rss) {i : Int} (hi : 0 ≤ i) (hn : i < n) : ∃ a' n' c', CB S W (adr a i 1) [.slice a' n' c'] ∧ G S W a' n' c' (rowat rss i.toNat) := by
  obtain ⟨qs, h1, h2⟩ := h
  obtain ⟨q, h3, h4, h5⟩ := h1.elB hi hn
  obtain ⟨r, h6, a', n', c', rfl, h8⟩ := h2.get h3
  have e : rowat rss i.toNat = r := by unfold rowat; rw [List.getD_eq_getElem?_getD, h6]; rfl
  exact ⟨a', n', c', h5, e ▸ h8⟩
theorem GA.elB {L : Nat} {a : Option Addr} {n c : Nat} {rs : List Rat} (h : GA L S W a n c rs) {i : Int} (hi : 0 ≤ i) (hn : i < n) : ∃ n1 a1 l1 c1 n2 a2 l2 c2, QA L S W [.bool n1, .slice a1 l1 c1, .bool n2, .slice a2 l2 c2] (vat rs i.toNat) ∧ CB S W (adr a i 4) [.bool n1, .slice a1 l1 c1, .bool n2, .slice a2 l2 c2] := by
  obtain ⟨qs, h1, h2⟩ := h
  obtain ⟨q, h3, h4, h5⟩ := h1.elB hi hn
  obtain ⟨r, h6, h7⟩ := h2.get h3
  obtain ⟨n1, a1, l1, c1, n2, a2, l2, c2, rfl⟩ := h7.form
  have : vat rs i.toNat = r := by unfold vat; rw [List.getD_eq_getElem?_getD, h6]; rfl
  exact ⟨n1, a1, l1, c1, n2, a2, l2, c2, this ▸ h7, h5⟩
/-- copy(x, y) into an array of the call's own. -/
theorem xcpy {P : Program} {ρ : Operand → Value} {d : Option Tmp} {ty T1 T2 e e' : TypeId} {pos : String} {af : Array Edge} {g : Option (Nat × Bool)} {x y : Operand} {K : Value → World → Prop} {r : Option Nat} {k : IntKind} {m c : Nat} {a : Option Addr} {zs ys : List Int} (h : AR k W b e' n zs) (hs : RN k S W a m c ys) (hm : m = n) (hx : ρ x = .slice (some ⟨b, 0, none⟩) n n) (hy : ρ y = .slice a m c) (hT : Sl P T1 e) (hi : Sz P e 1)
    (hk2 : ∀ v W', Wr b W W' → AR k W' b e' n ys → K v W') : OpF r P ρ ⟨d, .call ⟨.builtin .copy, #[x, y], #[T1, T2]⟩, ty, pos, af, g⟩ W K := by
  subst hm
  have hsz : (P.info? e).map (·.size) = some 1 := by obtain ⟨i, h1, h2⟩ := hi; rw [h1]; simp [h2]
  have hl := h.len
  have hl2 := hs.len
  rcases Nat.eq_zero_or_pos m with h0 | h0
  · subst h0
    have hr := run_copy_none (P := P) W T1 T2 ty e (some ⟨b, 0, none⟩) a 0 0 0 c hT hsz rfl
    unfold OpF execOp
    simp only [resolve, invoke, builtin, Sem.run_bind, Sem.run_pure, Result.andThen_ok, List.map_toArray, List.map_cons, List.map_nil, hx, hy, hr]
    refine hk2 _ W ⟨rfl, rfl, rfl, rfl, fun _ _ => rfl⟩ ?_
    have e1 : zs = [] := List.eq_nil_of_length_eq_zero hl
    have e2 : ys = [] := List.eq_nil_of_length_eq_zero hl2
    subst e1 e2; exact h
  · obtain ⟨b2, off, e1, h1, h2, h3⟩ := hs.cells h0
    subst e1
    have hr := run_copy_row (P := P) W T1 T2 ty e b 0 m m ⟨b2, off, none⟩ m c (zs.map (Value.int k)).toArray e' (ys.map (Value.int k)) hT hsz h.box (by simp [hl2]) (fun j v hj => by
      rw [List.getElem?_map] at hj
      obtain ⟨z, hz, rfl⟩ := Option.map_eq_some_iff.1 hj
      have hj2 : j < m := by rw [← hl2]; exact (List.getElem?_eq_some_iff.1 hz).1
      rw [addO, h3 j hj2]
      unfold wd
      rw [List.getD_eq_getElem?_getD, Int.toNat_natCast, hz]; rfl) (by simp [hl, hl2]) (by simp [Value.oneCell'])
    unfold OpF execOp
    simp only [resolve, invoke, builtin, Sem.run_bind, Sem.run_pure, Result.andThen_ok, List.map_toArray, List.map_cons, List.map_nil, hx, hy, hr]
    have hb := h.box.setRow (ys.map (Value.int k))
    have e3 : (((zs.map (Value.int k)).toArray.toList.take 0 ++ ys.map (Value.int k) ++ (zs.map (Value.int k)).toArray.toList.drop (0 + (ys.map (Value.int k)).length)).toArray) = (ys.map (Value.int k)).toArray := by
      simp [hl, hl2]
    rw [e3]
    exact hk2 _ _ hb.2 ⟨hb.1, hs.wf, hl2, h.max⟩
theorem KD.ex {D : Nat → Prop} {X Y : World} (k : KD D X Y) (hD : ∀ q, q < X.heap.size → D q) : Ext X Y := k.below hD (Nat.le_refl _)
end

set_option maxHeartbeats 1000000 in
theorem tValue1_ok (bw bt : Nat) (N : Int) (ag ap a : Option Addr) (ng cg np cp n c Nn : Nat) (kc : Int) (L0 Lq Lx : Nat) (goals : List (List Rat)) (u : Rat) (xs : List Rat) (q : List Value) (S : Nat → Prop) (w : World) (hb : BoxAt w bw [.int .i64 N, .slice ag ng cg, .slice ap np cp, .slice a n c] 96) (hm : MA L0 (fun b => b ≠ bt) w ag ng cg goals) (hq : QA Lq (fun b => b ≠ bt) w q u) (hv : VQ S w bt (ng + Nn) xs) (hbt : bw ≠ bt) (hN : N = (Nn : Int)) (hNb : Nn ≤ 64) (hng : ng ≤ 64) (hk0 : 0 ≤ kc) (hgr : ∀ r ∈ goals, r.length = Nn) (hgs : szR L0 goals) (hx : szV Lx xs) (h0 : 1 ≤ L0) (h1 : 1 ≤ Lq) (h2 : 1 ≤ Lx) (hL : 2 * Lx + 4 * L0 + 4 * Lq + 4 < LY) (hu : Up S w) :
    Calls Try.prog 71 #[.pointer (some ⟨bw, 0, none⟩), .agg q.toArray, .int .i64 kc, .slice (some ⟨bt, 0, none⟩) (ng + Nn) (ng + Nn)] w (fun e w' => e = .returned (.slice (some ⟨bt, 0, none⟩) (ng + Nn) (ng + Nn)) ∧ KD (fun b => b ≠ bt) w w' ∧ VQ S w' bt (ng + Nn) (addV u (gcol goals ng Nn kc.toNat) xs)) := by
 have z0 := Ext.refl w; have hLX : LX = 17592186044416 := rfl; have hLY : LY = 8796093022208 := rfl
 obtain ⟨n1, a1, l1, c1, n2, a2, l2, c2, rfl⟩ := hq.form
 have lvt := hv.lt; have lbw := hb.lt; have hbw0 := hb
 refine enter (args := [.pointer (some ⟨bw, 0, none⟩), .agg #[.bool n1, .slice a1 l1 c1, .bool n2, .slice a2 l2 c2], .int .i64 kc, .slice (some ⟨bt, 0, none⟩) (ng + Nn) (ng + Nn)]) Try.func71 rfl rfl (Nat.le_of_ble_eq_true rfl) ?_
 refine V.seq (V.reg rfl ?_)
 refine vo ?_
 refine bxa rfl ?_
 intro W1 x2 b3 nn4
 have s5 := x2.sz
 have z6 := x2
 replace hb := hb.ext x2
 refine ass rfl ?_
 refine vnil ?_
 refine V.seq ?_
 refine V.seq (V.reg rfl ?_)
 refine mvi rfl ?_
 refine mvp rfl ?_
 refine vv (rnc (v := .pointer (some ⟨_, _, none⟩)) rfl rfl) ?_
 refine vv (rfa rfl fd96_0) ?_
 refine vv (rldb (v := .int _ _) rfl sc3 hb rfl) ?_
 refine vge rfl rfl ?_ ?_
 ·intro c15
  refine mvb rfl ?_
  refine vgn (b := true) rfl rfl ?_
  refine vgn (b := true) rfl rfl ?_
  refine vgn (b := true) rfl rfl ?_
  refine vv (rpk (v := .bool true) rfl rfl) ?_
  refine vnil ?_
  refine V.condT rfl ?_
  refine V.seq (V.reg rfl ?_)
  refine mvs rfl ?_
  refine ass rfl ?_
  refine vnil ?_
  refine V.ret ?_
  refine ⟨[.slice _ _ _], ⟨rfl, trivial⟩, ?_⟩
  exact ⟨rfl, Ext.kd z6, (hv.ext z6).cast (addV_no xs (.inl (by omega))).symm⟩
 ·intro c15
  refine mvb rfl ?_
  refine vg rfl ?_
  refine vv (rldb4 rfl ag43 b3 rfl rfl rfl rfl ) ?_
  refine vg rfl ?_
  refine vo ?_
  refine xcall e77 (fSign_ok _ _ _ _ _ (hq.ext z6) (by omega) (by omega)) rfl rfl ?_
  rintro _ W7 ⟨rfl, x8⟩
  have s9 := x8.sz
  have z10 := z6.trans x8
  replace hb := hb.ext x8
  replace b3 := b3.ext x8
  refine ⟨_, rfl, ?_⟩
  refine vg rfl ?_
  refine veq rfl rfl ?_ ?_
  ·intro c19
   refine vv (rpk (v := .bool true) rfl rfl) ?_
   refine vnil ?_
   refine V.condT rfl ?_
   refine V.seq (V.reg rfl ?_)
   refine mvs rfl ?_
   refine ass rfl ?_
   refine vnil ?_
   refine V.ret ?_
   refine ⟨[.slice _ _ _], ⟨rfl, trivial⟩, ?_⟩
   exact ⟨rfl, Ext.kd z10, (hv.ext z10).cast (addV_no xs (.inr (cq_eq.1 c19))).symm⟩
  ·intro c19
   refine vv (rpk (v := .bool false) rfl rfl) ?_
   refine vnil ?_
   refine V.condF rfl ?_
   refine V.skip ?_
   refine V.seq (V.reg rfl ?_)
   refine mvp rfl ?_
   refine vv (rnc (v := .pointer (some ⟨_, _, none⟩)) rfl rfl) ?_
   refine vv (rfa rfl fd96_1) ?_
   refine vv (rldb (v := .slice _ _ _) rfl sc25 hb rfl) ?_
   refine vv (rlen sl25 rfl) ?_
   refine asi rfl ?_
   refine vnil ?_
   refine V.seq ?_
   refine V.seq (V.reg rfl ?_)
   refine mvi rfl ?_
   refine mvi rfl ?_
   refine vnil ?_
   refine V.block ?_
   refine V.loopK (ι := Nat) [(0, .pointer (some ⟨_, _, none⟩)), (2, .int _ _), (3, .slice _ _ _), (5, .pointer (some ⟨_, _, none⟩)), (9, .int _ _), (28, .int _ _)] (fun i => [(29, .int .i64 (i : Int))]) (fun i W => i ≤ ng ∧ VQ S W bt (ng + Nn) (addK goals kc.toNat u xs i) ∧ KD (fun b => b ≠ bt) w W ∧ BoxAt W w.heap.size [.bool n1, .slice a1 l1 c1, .bool n2, .slice a2 l2 c2] 43) (fun i => ng - i) (0) ⟨rfl, rfl, rfl, rfl, rfl, rfl, trivial⟩ ⟨rfl, trivial⟩ ⟨Nat.zero_le _, (by rw [addK_zero]; exact hv.ext z10), Ext.kd z10, b3⟩ ?_
   intro i E12 W11 h13
   obtain ⟨hi, hV, hkd, h5⟩ := h13
   have hbk := hbw0.kd (D := fun b => b ≠ bt) hkd hbt; have hmk : MA L0 (fun b => b ≠ bt) W11 ag ng cg goals := MG.ck (okRowA L0) hm hkd.ck; have hqk := hq.ck hkd.ck; have zz := Ext.refl W11; have szk := hkd.size; have hgV := hV.top.va (addK_sz hgs h0 (hqk.sz' h1) hx h2 (i := i)); have l5 := h5.lt; have lV := hV.lt; have hml := hmk.len; have lbk := hbk.lt
   refine V.seq (V.reg rfl ?_)
   refine vlt rfl rfl ?_ ?_
   ·intro c14
    obtain ⟨ra0, rk0, rc0, hc0, hg0⟩ := hmk.el (i := (i : Int)) (by omega) (by omega)
    have ce0 : C1 W11 _ _ := hc0; have hgl0 := hg0.len; have hgr0 : (rowat goals ((i : Int)).toNat).length = Nn := hgr _ (row_mem (by omega))
    obtain ⟨en1, ea1, el1, ec1, em1, eb1, ek1, ed1, hq1, hc1⟩ := (hg0).el (i := kc) (by omega) (by omega)
    have ce1 : CE W11 _ _ := hc1
    obtain ⟨en2, ea2, el2, ec2, em2, eb2, ek2, ed2, hq2, hc2⟩ := (hgV).el (i := (i : Int)) (by omega) (by omega)
    have ce2 : CE W11 _ _ := hc2
    refine vnil ?_
    refine V.seq ?_
    refine V.condT rfl ?_
    refine V.skip ?_
    refine V.seq ?_
    refine V.block ?_
    refine V.seq (V.reg rfl ?_)
    refine mvi rfl ?_
    refine asi rfl ?_
    refine vnil ?_
    refine V.regD mixed rfl ?_
    intro W15 x16
    have s17 := x16.sz
    have z18 := x16
    replace hbk := hbk.ext x16
    replace h5 := h5.ext x16
    have q19 := Ext.refl W15
    have r20 := hbk
    have r21 := h5
    refine tk 0 rfl (by kernel_rfl) q19 (pv (fun _ y22 => rmv (v := .slice _ _ _) rfl)) ?_
    refine tk 1 rfl (by kernel_rfl) q19 (pv (fun _ y23 => rmv (v := .int _ _) rfl)) ?_
    refine tk 2 rfl (by kernel_rfl) q19 (pv (fun _ y24 => rmv (v := .slice _ _ _) rfl)) ?_
    refine tk 3 rfl (by kernel_rfl) q19 (pv (fun _ y25 => rmv (v := .int _ _) rfl)) ?_
    refine tk 4 rfl (by kernel_rfl) q19 (pv (fun _ y26 => rix sl30 sz43 rfl rfl (by omega) (by omega) (((hgV.ext z18).ext y26).isS (i := 0) (by omega) (by omega)))) ?_
    refine tk 5 rfl (by kernel_rfl) q19 (pv (fun _ y27 => rldn (l := [.bool _, .slice _ _ _, .bool _, .slice _ _ _]) rfl ag43 rfl ((ce2.ext z18).ext y27))) ?_
    refine tk 6 rfl (by kernel_rfl) q19 (pv (fun _ y28 => rldb4 rfl ag43 (r21.ext y28) rfl rfl rfl rfl )) ?_
    refine tk 7 rfl (by kernel_rfl) q19 (pv (fun _ y29 => rmv (v := .pointer (some ⟨_, _, none⟩)) rfl)) ?_
    refine tk 8 rfl (by kernel_rfl) q19 (pv (fun _ y30 => rnc (v := .pointer (some ⟨_, _, none⟩)) rfl rfl)) ?_
    refine tk 9 rfl (by kernel_rfl) q19 (pv (fun _ y31 => rfa rfl fd96_1)) ?_
    refine tk 10 rfl (by kernel_rfl) q19 (pv (fun _ y32 => rldb (v := .slice _ _ _) rfl sc25 (r20.ext y32) rfl)) ?_
    refine tk 11 rfl (by kernel_rfl) q19 (pv (fun _ y33 => rmv (v := .int _ _) rfl)) ?_
    refine tk 12 rfl (by kernel_rfl) q19 (pv (fun _ y34 => rix sl25 sz30 rfl rfl (by omega) (by omega) (((hmk.ext z18).ext y34).isS (i := 0) (by omega) (by omega)))) ?_
    refine tk 13 rfl (by kernel_rfl) q19 (pv (fun _ y35 => rld1 (v := .slice _ _ _) rfl sc30 ((ce0.ext z18).ext y35))) ?_
    refine tk 14 rfl (by kernel_rfl) q19 (pv (fun _ y36 => rmv (v := .int _ _) rfl)) ?_
    refine tk 15 rfl (by kernel_rfl) q19 (pv (fun _ y37 => rix sl30 sz43 rfl rfl (by omega) (by omega) (((hg0.ext z18).ext y37).isS (i := 0) (by omega) (by omega)))) ?_
    refine tk 16 rfl (by kernel_rfl) q19 (pv (fun _ y38 => rldn (l := [.bool _, .slice _ _ _, .bool _, .slice _ _ _]) rfl ag43 rfl ((ce1.ext z18).ext y38))) ?_
    refine ef 17 (by kernel_rfl) rfl ?_
    refine xcall e60 (fMul_ok [_, _, _, _] [_, _, _, _] _ _ _ _ (SX S [bt]) _ _ _ (hqk.ext z18) (hq1.ext z18) (by omega) (by omega) (by omega) (SX.up (hu.mono (by omega)) (by simp; omega))) rfl rfl ?_
    rintro _ W40 ⟨_, rfl, x41, hq39⟩
    have s42 := x41.sz
    have z43 := z18.trans x41
    replace hbk := hbk.ext x41
    replace h5 := h5.ext x41
    have q44 := q19.trans x41
    obtain ⟨_, _, _, _, _, _, _, _, rfl⟩ := hq39.form
    refine ⟨_, rfl, ?_⟩
    refine ⟨fun _ => q44, ?_⟩
    refine ef 18 (by kernel_rfl) rfl ?_
    refine xcall e86 (fAdd_ok [_, _, _, _] [_, _, _, _] _ _ _ (Lq + L0) (SX S [bt]) _ _ _ (hq2.ext z43) ((hq39).qa (sz_mul (hqk.sz' h1) (hq1.sz' h0))) (by omega) (by omega) (by omega) (SX.up (hu.mono (by omega)) (by simp; omega))) rfl rfl ?_
    rintro _ W46 ⟨_, rfl, x47, hq45⟩
    have s48 := x47.sz
    have z49 := z43.trans x47
    replace hbk := hbk.ext x47
    replace h5 := h5.ext x47
    have q50 := q44.trans x47
    obtain ⟨_, _, _, _, _, _, _, _, rfl⟩ := hq45.form
    refine ⟨_, rfl, ?_⟩
    refine ⟨fun _ => q50, ?_⟩
    refine tk 19 rfl (by kernel_rfl) q50 (pv (fun _ y51 => rix sl30 sz43 rfl rfl (by omega) (by omega) (((hgV.ext z18).ext y51).isS (i := 0) (by omega) (by omega)))) ?_
    refine ef 20 (by kernel_rfl) rfl ?_
    refine xstV (hV.ext z49) rfl rfl sz43 (by omega) (by omega) hq45 ?_
    intro Wa ya hVa
    refine lastT (by kernel_rfl) ?_
    refine dn (by kernel_rfl) ?_
    refine V.reg rfl ?_
    refine vv (rbin (bAdd (wi (by omega))) rfl rfl) ?_
    refine mvi rfl ?_
    refine vnil ?_
    refine ⟨rfl, i + 1, ⟨rfl, rfl, rfl, rfl, rfl, rfl, trivial⟩, ⟨rfl, trivial⟩, ⟨by omega, (by rw [← addK_succ (by rw [hv.len]; omega)]; exact hVa), (hkd.trans (Ext.kd z49)).trans (ya.kd fun h => h rfl), h5.wr ya (by omega)⟩, ?_⟩
    show ng - (i + 1) < ng - i
    omega
   ·intro c14
    obtain ⟨en3, ea3, el3, ec3, em3, eb3, ek3, ed3, hq3, hc3⟩ := (hgV).el (i := ((ng : Int) + kc)) (by omega) (by omega)
    have ce3 : CE W11 _ _ := hc3
    refine vnil ?_
    refine V.seq ?_
    refine V.condF rfl ?_
    refine V.exit ?_
    refine V.seq (V.regD mixed rfl ?_)
    intro W52 x53
    have s54 := x53.sz
    have z55 := x53
    replace hbk := hbk.ext x53
    replace h5 := h5.ext x53
    have q56 := Ext.refl W52
    have r57 := hbk
    have r58 := h5
    refine tk 0 rfl (by kernel_rfl) q56 (pv (fun _ y59 => rmv (v := .slice _ _ _) rfl)) ?_
    refine tk 1 rfl (by kernel_rfl) q56 (pv (fun _ y60 => rmv (v := .int _ _) rfl)) ?_
    refine tk 2 rfl (by kernel_rfl) q56 (pv (fun _ y61 => rmv (v := .int _ _) rfl)) ?_
    refine tk 3 rfl (by kernel_rfl) q56 (pv (fun _ y62 => rbin (bAdd (wi (by omega))) rfl rfl)) ?_
    refine tk 4 rfl (by kernel_rfl) q56 (pv (fun _ y63 => rmv (v := .slice _ _ _) rfl)) ?_
    refine tk 5 rfl (by kernel_rfl) q56 (pv (fun _ y64 => rmv (v := .int _ _) rfl)) ?_
    refine tk 6 rfl (by kernel_rfl) q56 (pv (fun _ y65 => rmv (v := .int _ _) rfl)) ?_
    refine tk 7 rfl (by kernel_rfl) q56 (pv (fun _ y66 => rbin (bAdd (wi (by omega))) rfl rfl)) ?_
    refine tk 8 rfl (by kernel_rfl) q56 (pv (fun _ y67 => rix sl30 sz43 rfl rfl (by omega) (by omega) (((hgV.ext z55).ext y67).isS (i := 0) (by omega) (by omega)))) ?_
    refine tk 9 rfl (by kernel_rfl) q56 (pv (fun _ y68 => rldn (l := [.bool _, .slice _ _ _, .bool _, .slice _ _ _]) rfl ag43 rfl ((ce3.ext z55).ext y68))) ?_
    refine tk 10 rfl (by kernel_rfl) q56 (pv (fun _ y69 => rldb4 rfl ag43 (r58.ext y69) rfl rfl rfl rfl )) ?_
    refine ef 11 (by kernel_rfl) rfl ?_
    refine xcall e101 (fSub_ok [_, _, _, _] [_, _, _, _] _ _ _ _ (SX S [bt]) _ _ _ (hq3.ext z55) (hqk.ext z55) (by omega) (by omega) (by omega) (SX.up (hu.mono (by omega)) (by simp; omega))) rfl rfl ?_
    rintro _ W71 ⟨_, rfl, x72, hq70⟩
    have s73 := x72.sz
    have z74 := z55.trans x72
    replace hbk := hbk.ext x72
    replace h5 := h5.ext x72
    have q75 := q56.trans x72
    obtain ⟨_, _, _, _, _, _, _, _, rfl⟩ := hq70.form
    refine ⟨_, rfl, ?_⟩
    refine ⟨fun _ => q75, ?_⟩
    refine tk 12 rfl (by kernel_rfl) q75 (pv (fun _ y76 => rix sl30 sz43 rfl rfl (by omega) (by omega) (((hgV.ext z55).ext y76).isS (i := 0) (by omega) (by omega)))) ?_
    refine ef 13 (by kernel_rfl) rfl ?_
    refine xstV (hV.ext z74) rfl rfl sz43 (by omega) (by omega) hq70 ?_
    intro Wb yb hVb
    refine lastT (by kernel_rfl) ?_
    refine dn (by kernel_rfl) ?_
    refine V.seq (V.reg rfl ?_)
    refine mvs rfl ?_
    refine ass rfl ?_
    refine vnil ?_
    refine V.ret ?_
    refine ⟨[.slice _ _ _], ⟨rfl, trivial⟩, ?_⟩
    have ei : i = ng := by omega
    subst ei
    have e9 : ((i : Int) + kc).toNat = i + kc.toNat := by omega
    rw [e9] at hVb
    exact ⟨rfl, (hkd.trans (Ext.kd z74)).trans (yb.kd fun h => h rfl), hVb.cast (addK_done hv.len (by omega))⟩
set_option maxHeartbeats 1000000 in
theorem tCost_ok (bw : Nat) (N : Int) (ag ap a : Option Addr) (ng cg np cp n c Nn M : Nat) (L0 L1 : Nat) (goals rows : List (List Rat)) (piv : List Int) (S S0 S1 S2 : Nat → Prop) (w : World) (hb : BoxAt w bw [.int .i64 N, .slice ag ng cg, .slice ap np cp, .slice a n c] 96) (hm : MA L0 S0 w ag ng cg goals) (hr : MA L1 S1 w a n c rows) (hp : RN .i64 S2 w ap np cp piv) (hN : N = (Nn : Int)) (hNb : Nn ≤ 64) (hng : ng ≤ 64) (hn : n ≤ 64) (hnp : np = n) (hM : Nn + n = M) (hgr : ∀ r ∈ goals, r.length = Nn) (hrr : ∀ r ∈ rows, r.length = M + 1) (hpn : ∀ t : Nat, t < np → 0 ≤ wd piv t) (h0 : 1 ≤ L0) (h1 : 1 ≤ L1) (hL : (L1 + L0 + 1) * 200 + 100 < LY) (hu : Up S w) (kc : Int) (hk0 : 0 ≤ kc) (hk1 : kc < M) :
    Calls Try.prog 47 #[.pointer (some ⟨bw, 0, none⟩), .int .i64 kc] w (fun e w' => ∃ ra rk rc, e = .returned (.slice ra rk rc) ∧ Ext w w' ∧ GC S w' ra rk rc (rcost goals ng Nn rows piv kc.toNat)) := by
 have z0 := Ext.refl w; have hLX : LX = 17592186044416 := rfl; have hLY : LY = 8796093022208 := rfl
 have hbw0 := hb; have lbw := hb.lt; have l1 := hm.len; have l2 := hr.len; have l3 := hp.len; have hgs : szR L0 goals := hm.rowsz h0; have hrs : szR L1 rows := hr.rowsz h1; have hLV : LV = 1099511627776 := rfl
 refine enter (args := [.pointer (some ⟨bw, 0, none⟩), .int .i64 kc]) Try.func47 rfl rfl (Nat.le_of_ble_eq_true rfl) ?_
 refine V.seq (V.reg rfl ?_)
 refine ass rfl ?_
 refine vnil ?_
 refine V.seq ?_
 refine V.seq (V.reg rfl ?_)
 refine mvp rfl ?_
 refine vv (rpnil (q := false) (by kernel_rfl) rfl rfl rfl) ?_
 refine mvb rfl ?_
 refine vg rfl ?_
 refine mvi rfl ?_
 refine vg rfl ?_
 refine vlt rfl rfl ?_ ?_
 ·intro c1
  omega
 ·intro c1
  refine vv (rpk (v := .bool false) rfl rfl) ?_
  refine mvb rfl ?_
  refine vg rfl ?_
  refine mvi rfl ?_
  refine vg rfl ?_
  refine mvp rfl ?_
  refine vg rfl ?_
  refine vo ?_
  refine xcall e70 (cols_ok _ N _ _ _ _ _ _ _ n _ _ hb (by omega) (by omega)) rfl rfl ?_
  rintro _ W2 ⟨rfl, x3⟩
  have s4 := x3.sz
  have z5 := x3
  replace hb := hb.ext x3
  refine ⟨_, rfl, ?_⟩
  refine vg rfl ?_
  refine vge rfl rfl ?_ ?_
  ·intro c6
   omega
  ·intro c6
   refine vv (rpk (v := .bool false) rfl rfl) ?_
   refine vnil ?_
   refine V.condF rfl ?_
   refine V.skip ?_
   refine V.seq (V.regD mixed rfl ?_)
   intro W7 x8
   have s9 := x8.sz
   have z10 := z5.trans x8
   replace hb := hb.ext x8
   have q11 := Ext.refl W7
   have r12 := hb
   refine tk 0 rfl (by kernel_rfl) q11 (pv (fun _ y13 => rmv (v := .pointer (some ⟨_, _, none⟩)) rfl)) ?_
   refine tk 1 rfl (by kernel_rfl) q11 (pv (fun _ y14 => rnc (v := .pointer (some ⟨_, _, none⟩)) rfl rfl)) ?_
   refine tk 2 rfl (by kernel_rfl) q11 (pv (fun _ y15 => rfa rfl fd96_1)) ?_
   refine tk 3 rfl (by kernel_rfl) q11 (pv (fun _ y16 => rldb (v := .slice _ _ _) rfl sc25 (r12.ext y16) rfl)) ?_
   refine tk 4 rfl (by kernel_rfl) q11 (pv (fun _ y17 => rlen sl25 rfl)) ?_
   refine tk 5 rfl (by kernel_rfl) q11 (pv (fun _ y18 => rmv (v := .pointer (some ⟨_, _, none⟩)) rfl)) ?_
   refine tk 6 rfl (by kernel_rfl) q11 (pv (fun _ y19 => rnc (v := .pointer (some ⟨_, _, none⟩)) rfl rfl)) ?_
   refine tk 7 rfl (by kernel_rfl) q11 (pv (fun _ y20 => rfa rfl fd96_0)) ?_
   refine tk 8 rfl (by kernel_rfl) q11 (pv (fun _ y21 => rldb (v := .int _ _) rfl sc3 (r12.ext y21) rfl)) ?_
   refine tk 9 rfl (by kernel_rfl) q11 (pv (fun _ y22 => rbin (bAdd (wi (by omega))) rfl rfl)) ?_
   refine ef 10 (by kernel_rfl) rfl ?_
   refine xmkS (zs := [.bool false, .slice _ _ _, .bool false, .slice _ _ _]) ((ng + Nn)) sl30 in43 rfl rfl rfl rfl rfl (by omega) (by omega) (by omega) ?_
   intro W23 x24 out n25
   have s26 := x24.sz
   have z27 := z10.trans x24
   replace hb := hb.ext x24
   have q28 := q11.trans x24
   refine ⟨fun _ => q28, ?_⟩
   refine tk 11 rfl (by kernel_rfl) q28 (pv (fun _ y29 => ras (v := .slice _ _ _) rfl)) ?_
   refine dn (by kernel_rfl) ?_
   refine V.seq ?_
   refine V.seq (V.reg rfl ?_)
   refine mvp rfl ?_
   refine vv (rnc (v := .pointer (some ⟨_, _, none⟩)) rfl rfl) ?_
   refine vv (rfa rfl fd96_2) ?_
   refine vv (rldb (v := .slice _ _ _) rfl sc74 hb rfl) ?_
   refine vv (rlen sl74 rfl) ?_
   refine mvi rfl ?_
   refine vnil ?_
   refine V.block ?_
   have hV0 := VQ.made (S := S) (n0 := (ng + Nn)) out rfl; have z3 := z27; have s3 := z3.sz
   have hmD : MA L0 (fun b => b ≠ W7.heap.size) w ag ng cg goals := MG.sub (okRowA L0) hm fun b hb _ => by omega
   have hrD : MA L1 (fun b => b ≠ W7.heap.size) w a n c rows := MG.sub (okRowA L1) hr fun b hb _ => by omega
   have hpD : RN .i64 (fun b => b ≠ W7.heap.size) w ap np cp piv := hp.sub fun b hb _ => by omega
   refine V.loopK (ι := Nat) [(0, .pointer (some ⟨_, _, none⟩)), (1, .int _ _), (34, .slice _ _ _), (35, .int _ _)] (fun i => [(36, .int .i64 (i : Int)), (5, .slice (some ⟨W7.heap.size, 0, none⟩) (ng + Nn) (ng + Nn))]) (fun i W => i ≤ np ∧ VQ S W (W7.heap.size) (ng + Nn) (combS goals ng Nn (fun t => mat rows t kc.toNat) piv i) ∧ KD (fun b => b ≠ W7.heap.size) w W) (fun i => np - i) (0) ⟨rfl, rfl, rfl, rfl, trivial⟩ ⟨rfl, rfl, trivial⟩ ⟨Nat.zero_le _, hV0.cast (combS_zero _ _ _ _ _).symm, Ext.kd z27⟩ ?_
   intro i E31 W30 h32
   obtain ⟨hi, hV, hkd⟩ := h32
   have hbk := hbw0.kd (D := fun b => b ≠ W7.heap.size) hkd (show bw ≠ W7.heap.size by omega); have hmk : MA L0 (fun b => b ≠ W7.heap.size) W30 ag ng cg goals := MG.ck (okRowA L0) hmD hkd.ck; have hrk : MA L1 (fun b => b ≠ W7.heap.size) W30 a n c rows := MG.ck (okRowA L1) hrD hkd.ck; have hpk := hpD.ck hkd.ck; have zz := Ext.refl W30; have szk := hkd.size; have lV := hV.lt; have hrl := hrk.len; have lbk := hbk.lt; have hLi : (L1 + L0 + 1) * i ≤ (L1 + L0 + 1) * 64 := Nat.mul_le_mul_left _ (by omega)
   refine V.seq (V.reg rfl ?_)
   refine vlt rfl rfl ?_ ?_
   ·intro c33
    have hrw : (rowat rows ((i : Int)).toNat).length = M + 1 := hrr _ (row_mem (by omega))
    refine vnil ?_
    refine V.seq ?_
    refine V.condT rfl ?_
    refine V.skip ?_
    refine V.seq ?_
    refine V.block ?_
    refine V.seq (V.reg rfl ?_)
    refine mvi rfl ?_
    refine vv (rixn hpk sl74 sz3 rfl rfl (by omega) (by omega)) ?_
    refine vldN hpk rfl sc3 (by omega) (by omega) ?_
    intro q34 hq34 hk35
    simp only [kb] at hk35
    refine asi rfl ?_
    refine asi rfl ?_
    refine vnil ?_
    refine V.reg rfl ?_
    refine mvp rfl ?_
    refine mvp rfl ?_
    refine vv (rnc (v := .pointer (some ⟨_, _, none⟩)) rfl rfl) ?_
    refine vv (rfa rfl fd96_3) ?_
    refine vv (rldb (v := .slice _ _ _) rfl sc25 hbk rfl) ?_
    refine mvi rfl ?_
    refine vv (rix sl25 sz30 rfl rfl (by omega) (by omega) (hrk.isS (i := 0) (by omega) (by omega))) ?_
    refine vldRow hrk rfl sc30 (by omega) (by omega) ?_
    intro a36 n37 c38 hg39
    have hg39l := hg39.len; have hg39m := hg39.max
    refine mvi rfl ?_
    refine vv (rix sl30 sz43 rfl rfl (by omega) (by omega) (hg39.isS (i := 0) (by omega) (by omega))) ?_
    refine vldQ hg39 rfl ag43 (by omega) (by omega) ?_
    intro n40 a41 l42 c43 n44 a45 l46 c47 hq48
    refine mvi rfl ?_
    refine mvs rfl ?_
    refine vo ?_
    refine xcall e71 (tValue1_ok bw (W7.heap.size) N ag ap a ng cg np cp n c Nn _ L0 L1 (((L1 + L0 + 1) * i + 1)) goals _ (combS goals ng Nn (fun t => mat rows t kc.toNat) piv i) [_, _, _, _] S _ hbk hmk hq48 (hV.ext zz) (by omega) hN hNb hng (by rw [hq34]; exact hpn i (by omega)) hgr hgs (combS_sz hgs h0 fun t _ => hrs.at h1 t _) h0 h1 (by omega) (by omega) (hu.mono (by omega))) rfl rfl ?_
    rintro _ Va ⟨rfl, kda, hVa⟩
    refine ⟨_, rfl, ?_⟩
    refine ass rfl ?_
    refine vnil ?_
    refine V.reg rfl ?_
    refine vv (rbin (bAdd (wi (by omega))) rfl rfl) ?_
    refine mvi rfl ?_
    refine vnil ?_
    refine ⟨rfl, i + 1, ⟨rfl, rfl, rfl, rfl, trivial⟩, ⟨rfl, rfl, trivial⟩, ⟨by omega, hVa.cast (by rw [hq34]; exact combS_succ goals ng Nn (fun t => mat rows t kc.toNat) piv i), (hkd.trans (Ext.kd zz)).trans kda⟩, ?_⟩
    show np - (i + 1) < np - i
    omega
   ·intro c33
    refine vnil ?_
    refine V.seq ?_
    refine V.condF rfl ?_
    refine V.exit ?_
    refine V.seq (V.reg rfl ?_)
    refine mvp rfl ?_
    refine vo ?_
    refine xcall e37 (fFrom_ok (-1) (fun b => b ≠ W7.heap.size) _ (by omega) (fun b hb => by omega)) rfl rfl ?_
    rintro _ W50 ⟨_, rfl, x51, hq49⟩
    have s52 := x51.sz
    have z53 := x51
    replace hbk := hbk.ext x51
    obtain ⟨_, _, _, _, _, _, _, _, rfl⟩ := hq49.form
    refine ⟨_, rfl, ?_⟩
    refine mvi rfl ?_
    refine mvs rfl ?_
    refine vo ?_
    refine xcall e71 (tValue1_ok bw (W7.heap.size) N ag ap a ng cg np cp n c Nn _ L0 1 (((L1 + L0 + 1) * i + 1)) goals _ (combS goals ng Nn (fun t => mat rows t kc.toNat) piv i) [_, _, _, _] S _ hbk (hmk.ext z53) ((hq49).qa (L := 1) (szB_sz (by decide +kernel))) (hV.ext z53) (by omega) hN hNb hng (hk0) hgr hgs (combS_sz hgs h0 fun t _ => hrs.at h1 t _) h0 (by omega) (by omega) (by omega) (hu.mono (by omega))) rfl rfl ?_
    rintro _ Vb ⟨rfl, kdb, hVb⟩
    refine ⟨_, rfl, ?_⟩
    refine ass rfl ?_
    refine vnil ?_
    refine V.ret ?_
    refine ⟨[.slice _ _ _], ⟨rfl, trivial⟩, ?_⟩
    have ei : i = piv.length := by omega
    have kx := (hkd.trans (Ext.kd z53)).trans kdb
    have sx := kx.size
    refine ⟨_, _, _, rfl, KD.ex kx (fun q hq => by omega), (VQ.gc hVb (hu _ (by omega))).cast ?_⟩
    rw [ei]; rfl
set_option maxHeartbeats 1000000 in
theorem tVal_ok (bw : Nat) (N : Int) (ag ap a : Option Addr) (ng cg np cp n c Nn M : Nat) (L0 L1 : Nat) (goals rows : List (List Rat)) (piv : List Int) (S S0 S1 S2 : Nat → Prop) (w : World) (hb : BoxAt w bw [.int .i64 N, .slice ag ng cg, .slice ap np cp, .slice a n c] 96) (hm : MA L0 S0 w ag ng cg goals) (hr : MA L1 S1 w a n c rows) (hp : RN .i64 S2 w ap np cp piv) (hN : N = (Nn : Int)) (hNb : Nn ≤ 64) (hng : ng ≤ 64) (hn : n ≤ 64) (hnp : np = n) (hM : Nn + n = M) (hgr : ∀ r ∈ goals, r.length = Nn) (hrr : ∀ r ∈ rows, r.length = M + 1) (hpn : ∀ t : Nat, t < np → 0 ≤ wd piv t) (h0 : 1 ≤ L0) (h1 : 1 ≤ L1) (hL : (L1 + L0 + 1) * 200 + 100 < LY) (hu : Up S w) :
    Calls Try.prog 49 #[.pointer (some ⟨bw, 0, none⟩)] w (fun e w' => ∃ ra rk rc, e = .returned (.slice ra rk rc) ∧ Ext w w' ∧ GC S w' ra rk rc (tval goals ng Nn rows piv M)) := by
 have z0 := Ext.refl w; have hLX : LX = 17592186044416 := rfl; have hLY : LY = 8796093022208 := rfl
 have hbw0 := hb; have lbw := hb.lt; have l1 := hm.len; have l2 := hr.len; have l3 := hp.len; have hgs : szR L0 goals := hm.rowsz h0; have hrs : szR L1 rows := hr.rowsz h1; have hLV : LV = 1099511627776 := rfl
 refine enter (args := [.pointer (some ⟨bw, 0, none⟩)]) Try.func49 rfl rfl (Nat.le_of_ble_eq_true rfl) ?_
 refine V.seq (V.reg rfl ?_)
 refine ass rfl ?_
 refine vnil ?_
 refine V.seq ?_
 refine V.seq (V.reg rfl ?_)
 refine mvp rfl ?_
 refine vv (rpnil (q := false) (by kernel_rfl) rfl rfl rfl) ?_
 refine vnil ?_
 refine V.condF rfl ?_
 refine V.skip ?_
 refine V.seq (V.regD mixed rfl ?_)
 intro W1 x2
 have s3 := x2.sz
 have z4 := x2
 replace hb := hb.ext x2
 have q5 := Ext.refl W1
 have r6 := hb
 refine tk 0 rfl (by kernel_rfl) q5 (pv (fun _ y7 => rmv (v := .pointer (some ⟨_, _, none⟩)) rfl)) ?_
 refine tk 1 rfl (by kernel_rfl) q5 (pv (fun _ y8 => rnc (v := .pointer (some ⟨_, _, none⟩)) rfl rfl)) ?_
 refine tk 2 rfl (by kernel_rfl) q5 (pv (fun _ y9 => rfa rfl fd96_1)) ?_
 refine tk 3 rfl (by kernel_rfl) q5 (pv (fun _ y10 => rldb (v := .slice _ _ _) rfl sc25 (r6.ext y10) rfl)) ?_
 refine tk 4 rfl (by kernel_rfl) q5 (pv (fun _ y11 => rlen sl25 rfl)) ?_
 refine tk 5 rfl (by kernel_rfl) q5 (pv (fun _ y12 => rmv (v := .pointer (some ⟨_, _, none⟩)) rfl)) ?_
 refine tk 6 rfl (by kernel_rfl) q5 (pv (fun _ y13 => rnc (v := .pointer (some ⟨_, _, none⟩)) rfl rfl)) ?_
 refine tk 7 rfl (by kernel_rfl) q5 (pv (fun _ y14 => rfa rfl fd96_0)) ?_
 refine tk 8 rfl (by kernel_rfl) q5 (pv (fun _ y15 => rldb (v := .int _ _) rfl sc3 (r6.ext y15) rfl)) ?_
 refine tk 9 rfl (by kernel_rfl) q5 (pv (fun _ y16 => rbin (bAdd (wi (by omega))) rfl rfl)) ?_
 refine ef 10 (by kernel_rfl) rfl ?_
 refine xmkS (zs := [.bool false, .slice _ _ _, .bool false, .slice _ _ _]) ((ng + Nn)) sl30 in43 rfl rfl rfl rfl rfl (by omega) (by omega) (by omega) ?_
 intro W17 x18 out n19
 have s20 := x18.sz
 have z21 := z4.trans x18
 replace hb := hb.ext x18
 have q22 := q5.trans x18
 refine ⟨fun _ => q22, ?_⟩
 refine tk 11 rfl (by kernel_rfl) q22 (pv (fun _ y23 => ras (v := .slice _ _ _) rfl)) ?_
 refine dn (by kernel_rfl) ?_
 refine V.seq ?_
 refine V.seq (V.reg rfl ?_)
 refine mvp rfl ?_
 refine vv (rnc (v := .pointer (some ⟨_, _, none⟩)) rfl rfl) ?_
 refine vv (rfa rfl fd96_2) ?_
 refine vv (rldb (v := .slice _ _ _) rfl sc74 hb rfl) ?_
 refine vv (rlen sl74 rfl) ?_
 refine mvi rfl ?_
 refine vnil ?_
 refine V.block ?_
 have hV0 := VQ.made (S := S) (n0 := (ng + Nn)) out rfl; have z3 := z21; have s3 := z3.sz
 have hmD : MA L0 (fun b => b ≠ W1.heap.size) w ag ng cg goals := MG.sub (okRowA L0) hm fun b hb _ => by omega
 have hrD : MA L1 (fun b => b ≠ W1.heap.size) w a n c rows := MG.sub (okRowA L1) hr fun b hb _ => by omega
 have hpD : RN .i64 (fun b => b ≠ W1.heap.size) w ap np cp piv := hp.sub fun b hb _ => by omega
 refine V.loopK (ι := Nat) [(0, .pointer (some ⟨_, _, none⟩)), (22, .slice _ _ _), (23, .int _ _)] (fun i => [(24, .int .i64 (i : Int)), (3, .slice (some ⟨W1.heap.size, 0, none⟩) (ng + Nn) (ng + Nn))]) (fun i W => i ≤ np ∧ VQ S W (W1.heap.size) (ng + Nn) (combS goals ng Nn (fun t => mat rows t M) piv i) ∧ KD (fun b => b ≠ W1.heap.size) w W) (fun i => np - i) (0) ⟨rfl, rfl, rfl, trivial⟩ ⟨rfl, rfl, trivial⟩ ⟨Nat.zero_le _, hV0.cast (combS_zero _ _ _ _ _).symm, Ext.kd z21⟩ ?_
 intro i E25 W24 h26
 obtain ⟨hi, hV, hkd⟩ := h26
 have hbk := hbw0.kd (D := fun b => b ≠ W1.heap.size) hkd (show bw ≠ W1.heap.size by omega); have hmk : MA L0 (fun b => b ≠ W1.heap.size) W24 ag ng cg goals := MG.ck (okRowA L0) hmD hkd.ck; have hrk : MA L1 (fun b => b ≠ W1.heap.size) W24 a n c rows := MG.ck (okRowA L1) hrD hkd.ck; have hpk := hpD.ck hkd.ck; have zz := Ext.refl W24; have szk := hkd.size; have lV := hV.lt; have hrl := hrk.len; have lbk := hbk.lt; have hLi : (L1 + L0 + 1) * i ≤ (L1 + L0 + 1) * 64 := Nat.mul_le_mul_left _ (by omega)
 refine V.seq (V.reg rfl ?_)
 refine vlt rfl rfl ?_ ?_
 ·intro c27
  have hrw : (rowat rows ((i : Int)).toNat).length = M + 1 := hrr _ (row_mem (by omega))
  obtain ⟨ra0, rk0, rc0, cb0, hg0⟩ := MG.elB hrk (i := (i : Int)) (by omega) (by omega)
  have hgl0 := hg0.len
  obtain ⟨en1, ea1, el1, ec1, em1, eb1, ek1, ed1, hq1, cb1⟩ := GA.elB hg0 (i := (N + (n : Int))) (by omega) (by omega)
  refine vnil ?_
  refine V.seq ?_
  refine V.condT rfl ?_
  refine V.skip ?_
  refine V.seq ?_
  refine V.block ?_
  refine V.seq (V.reg rfl ?_)
  refine mvi rfl ?_
  refine vv (rixn hpk sl74 sz3 rfl rfl (by omega) (by omega)) ?_
  refine vldN hpk rfl sc3 (by omega) (by omega) ?_
  intro q28 hq28 hk29
  simp only [kb] at hk29
  refine asi rfl ?_
  refine asi rfl ?_
  refine vnil ?_
  refine V.regS (fun W => KD (fun b => b ≠ W1.heap.size) W) mixed rfl ?_
  intro W30 x31
  have s32 := x31.sz
  have z33 := x31
  replace hbk := hbk.ext x31
  have q35 := KD.refl (fun b => b ≠ W1.heap.size) W30
  have r36 := hbk
  refine tk 0 rfl (by kernel_rfl) q35 (pv (fun _ y37 => rmv (v := .pointer (some ⟨_, _, none⟩)) rfl)) ?_
  refine tk 1 rfl (by kernel_rfl) q35 (pv (fun _ y38 => rmv (v := .pointer (some ⟨_, _, none⟩)) rfl)) ?_
  refine tk 2 rfl (by kernel_rfl) q35 (pv (fun _ y39 => rnc (v := .pointer (some ⟨_, _, none⟩)) rfl rfl)) ?_
  refine tk 3 rfl (by kernel_rfl) q35 (pv (fun _ y40 => rfa rfl fd96_3)) ?_
  refine tk 4 rfl (by kernel_rfl) q35 (pv (fun _ y41 => rldb (v := .slice _ _ _) rfl sc25 (r36.kd y41 (show bw ≠ W1.heap.size by omega)) rfl)) ?_
  refine tk 5 rfl (by kernel_rfl) q35 (pv (fun _ y42 => rmv (v := .int _ _) rfl)) ?_
  refine tk 6 rfl (by kernel_rfl) q35 (pv (fun _ y43 => rix sl25 sz30 rfl rfl (by omega) (by omega) (((hrk.ext z33).ck (y43).ck).isS (i := 0) (by omega) (by omega)))) ?_
  refine tk 7 rfl (by kernel_rfl) q35 (pv (fun _ y44 => rld1 (v := .slice _ _ _) rfl sc30 (CB.c1 ((cb0.ext z33).ck (y44).ck)))) ?_
  refine tk 8 rfl (by kernel_rfl) q35 (pv (fun _ y45 => rmv (v := .pointer (some ⟨_, _, none⟩)) rfl)) ?_
  refine tk 12 rfl (by kernel_rfl) q35 (pv (fun _ y46 => rmv (v := .int _ _) rfl)) ?_
  refine tk 13 rfl (by kernel_rfl) q35 (pv (fun _ y47 => rmv (v := .slice _ _ _) rfl)) ?_
  refine ef 9 (by kernel_rfl) rfl ?_
  refine xcall e70 (cols_ok _ N _ _ _ _ _ _ _ n _ _ hbk (by omega) (by omega)) rfl rfl ?_
  rintro _ W48 ⟨rfl, x49⟩
  have s50 := x49.sz
  have z51 := z33.trans x49
  replace hbk := hbk.ext x49
  have q52 := q35.trans x49.kd
  refine ⟨_, rfl, ?_⟩
  refine ⟨fun _ => q52, ?_⟩
  refine tk 10 rfl (by kernel_rfl) q52 (pv (fun _ y53 => rix sl30 sz43 rfl rfl (by omega) (by omega) (((hg0.ext z33).ck (y53).ck).isS (i := 0) (by omega) (by omega)))) ?_
  refine tk 11 rfl (by kernel_rfl) q52 (pv (fun _ y54 => rldn (l := [.bool _, .slice _ _ _, .bool _, .slice _ _ _]) rfl ag43 rfl (CB.ce ((cb1.ext z33).ck (y54).ck)))) ?_
  refine ef 14 (by kernel_rfl) rfl ?_
  refine xcall e71 (tValue1_ok bw (W1.heap.size) N ag ap a ng cg np cp n c Nn _ L0 L1 (((L1 + L0 + 1) * i + 1)) goals _ (combS goals ng Nn (fun t => mat rows t M) piv i) [_, _, _, _] S _ hbk (hmk.ext z51) (QA.cast (r' := mat rows i M) (hq1.ext z51) (by rw [show (N + (n : Int)).toNat = M by omega]; rfl)) (hV.ext z51) (by omega) hN hNb hng (by rw [hq28]; exact hpn i (by omega)) hgr hgs (combS_sz hgs h0 fun t _ => hrs.at h1 t _) h0 h1 (by omega) (by omega) (hu.mono (by omega))) rfl rfl ?_
  rintro _ Va ⟨rfl, kda, hVa⟩
  refine ⟨_, rfl, ?_⟩
  refine ⟨fun _ => (q52.trans kda), ?_⟩
  refine tk 15 rfl (by kernel_rfl) (q52.trans kda) (pv (fun _ y55 => ras (v := .slice _ _ _) rfl)) ?_
  refine dn (by kernel_rfl) ?_
  refine V.reg rfl ?_
  refine vv (rbin (bAdd (wi (by omega))) rfl rfl) ?_
  refine mvi rfl ?_
  refine vnil ?_
  refine ⟨rfl, i + 1, ⟨rfl, rfl, rfl, trivial⟩, ⟨rfl, rfl, trivial⟩, ⟨by omega, hVa.cast (by rw [hq28]; exact combS_succ goals ng Nn (fun t => mat rows t M) piv i), (hkd.trans (Ext.kd z51)).trans kda⟩, ?_⟩
  show np - (i + 1) < np - i
  omega
 ·intro c27
  refine vnil ?_
  refine V.seq ?_
  refine V.condF rfl ?_
  refine V.exit ?_
  refine V.seq (V.reg rfl ?_)
  refine mvs rfl ?_
  refine ass rfl ?_
  refine vnil ?_
  refine V.ret ?_
  refine ⟨[.slice _ _ _], ⟨rfl, trivial⟩, ?_⟩
  have ei : i = piv.length := by omega
  have kx := hkd.trans (Ext.kd zz)
  have sx := kx.size
  refine ⟨_, _, _, rfl, KD.ex kx (fun q hq => by omega), (VQ.gc (hV.ext zz) (hu _ (by omega))).cast ?_⟩
  rw [ei]; rfl
set_option maxHeartbeats 1000000 in
theorem tSol_ok (bw : Nat) (N : Int) (ag ap a : Option Addr) (ng cg np cp n c Nn M : Nat) (L0 L1 : Nat) (goals rows : List (List Rat)) (piv : List Int) (S S0 S1 S2 : Nat → Prop) (w : World) (hb : BoxAt w bw [.int .i64 N, .slice ag ng cg, .slice ap np cp, .slice a n c] 96) (hm : MA L0 S0 w ag ng cg goals) (hr : MA L1 S1 w a n c rows) (hp : RN .i64 S2 w ap np cp piv) (hN : N = (Nn : Int)) (hNb : Nn ≤ 64) (hng : ng ≤ 64) (hn : n ≤ 64) (hnp : np = n) (hM : Nn + n = M) (hgr : ∀ r ∈ goals, r.length = Nn) (hrr : ∀ r ∈ rows, r.length = M + 1) (hpn : ∀ t : Nat, t < np → 0 ≤ wd piv t) (h0 : 1 ≤ L0) (h1 : 1 ≤ L1) (hL : (L1 + L0 + 1) * 200 + 100 < LY) (hu : Up S w) :
    Calls Try.prog 51 #[.pointer (some ⟨bw, 0, none⟩)] w (fun e w' => ∃ ra rk rc, e = .returned (.slice ra rk rc) ∧ Ext w w' ∧ GC S w' ra rk rc (solT rows piv Nn M np)) := by
 have z0 := Ext.refl w; have hLX : LX = 17592186044416 := rfl; have hLY : LY = 8796093022208 := rfl
 have hbw0 := hb; have lbw := hb.lt; have l1 := hm.len; have l2 := hr.len; have l3 := hp.len; have hgs : szR L0 goals := hm.rowsz h0; have hrs : szR L1 rows := hr.rowsz h1; have hLV : LV = 1099511627776 := rfl
 refine enter (args := [.pointer (some ⟨bw, 0, none⟩)]) Try.func51 rfl rfl (Nat.le_of_ble_eq_true rfl) ?_
 refine V.seq (V.reg rfl ?_)
 refine ass rfl ?_
 refine vnil ?_
 refine V.seq ?_
 refine V.seq (V.reg rfl ?_)
 refine mvp rfl ?_
 refine vv (rpnil (q := false) (by kernel_rfl) rfl rfl rfl) ?_
 refine vnil ?_
 refine V.condF rfl ?_
 refine V.skip ?_
 refine V.seq (V.reg rfl ?_)
 refine mvp rfl ?_
 refine vv (rnc (v := .pointer (some ⟨_, _, none⟩)) rfl rfl) ?_
 refine vv (rfa rfl fd96_0) ?_
 refine vv (rldb (v := .int _ _) rfl sc3 hb rfl) ?_
 refine vo ?_
 refine xmkS (zs := [.bool false, .slice _ _ _, .bool false, .slice _ _ _]) (Nn) sl30 in43 rfl rfl rfl rfl rfl (by omega) (by omega) (by omega) ?_
 intro W1 x2 out n3
 have s4 := x2.sz
 have z5 := x2
 replace hb := hb.ext x2
 refine ass rfl ?_
 refine vnil ?_
 refine V.seq ?_
 refine V.seq (V.reg rfl ?_)
 refine mvp rfl ?_
 refine vv (rnc (v := .pointer (some ⟨_, _, none⟩)) rfl rfl) ?_
 refine vv (rfa rfl fd96_2) ?_
 refine vv (rldb (v := .slice _ _ _) rfl sc74 hb rfl) ?_
 refine vv (rlen sl74 rfl) ?_
 refine mvi rfl ?_
 refine vnil ?_
 refine V.block ?_
 have hV0 := VQ.made (S := S) (n0 := Nn) out rfl; have z3 := z5; have s3 := z3.sz
 have hmD : MA L0 (fun b => b ≠ w.heap.size) w ag ng cg goals := MG.sub (okRowA L0) hm fun b hb _ => by omega
 have hrD : MA L1 (fun b => b ≠ w.heap.size) w a n c rows := MG.sub (okRowA L1) hr fun b hb _ => by omega
 have hpD : RN .i64 (fun b => b ≠ w.heap.size) w ap np cp piv := hp.sub fun b hb _ => by omega
 refine V.loopK (ι := Nat) [(0, .pointer (some ⟨_, _, none⟩)), (3, .slice _ _ _), (16, .slice _ _ _), (17, .int _ _)] (fun i => [(18, .int .i64 (i : Int))]) (fun i W => i ≤ np ∧ VQ S W (w.heap.size) Nn (solT rows piv Nn M i) ∧ KD (fun b => b ≠ w.heap.size) w W) (fun i => np - i) (0) ⟨rfl, rfl, rfl, rfl, trivial⟩ ⟨rfl, trivial⟩ ⟨Nat.zero_le _, hV0, Ext.kd z5⟩ ?_
 intro i E7 W6 h8
 obtain ⟨hi, hV, hkd⟩ := h8
 have hbk := hbw0.kd (D := fun b => b ≠ w.heap.size) hkd (show bw ≠ w.heap.size by omega); have hmk : MA L0 (fun b => b ≠ w.heap.size) W6 ag ng cg goals := MG.ck (okRowA L0) hmD hkd.ck; have hrk : MA L1 (fun b => b ≠ w.heap.size) W6 a n c rows := MG.ck (okRowA L1) hrD hkd.ck; have hpk := hpD.ck hkd.ck; have zz := Ext.refl W6; have szk := hkd.size; have lV := hV.lt; have hrl := hrk.len; have lbk := hbk.lt; have hLi : (L1 + L0 + 1) * i ≤ (L1 + L0 + 1) * 64 := Nat.mul_le_mul_left _ (by omega)
 refine V.seq (V.reg rfl ?_)
 refine vlt rfl rfl ?_ ?_
 ·intro c9
  have hrw : (rowat rows ((i : Int)).toNat).length = M + 1 := hrr _ (row_mem (by omega))
  obtain ⟨ra0, rk0, rc0, hc0, hg0⟩ := hrk.el (i := (i : Int)) (by omega) (by omega)
  have ce0 : C1 W6 _ _ := hc0; have hgl0 := hg0.len
  obtain ⟨en1, ea1, el1, ec1, em1, eb1, ek1, ed1, hq1, hc1⟩ := (hg0).el (i := (N + (n : Int))) (by omega) (by omega)
  have ce1 : CE W6 _ _ := hc1
  refine vnil ?_
  refine V.seq ?_
  refine V.condT rfl ?_
  refine V.skip ?_
  refine V.seq ?_
  refine V.block ?_
  refine V.seq (V.reg rfl ?_)
  refine mvi rfl ?_
  refine vv (rixn hpk sl74 sz3 rfl rfl (by omega) (by omega)) ?_
  refine vldN hpk rfl sc3 (by omega) (by omega) ?_
  intro q10 hq10 hk11
  simp only [kb] at hk11
  refine asi rfl ?_
  refine asi rfl ?_
  refine vnil ?_
  refine V.seq (V.reg rfl ?_)
  refine mvi rfl ?_
  refine mvp rfl ?_
  refine vv (rnc (v := .pointer (some ⟨_, _, none⟩)) rfl rfl) ?_
  refine vv (rfa rfl fd96_0) ?_
  refine vv (rldb (v := .int _ _) rfl sc3 hbk rfl) ?_
  refine vlt rfl rfl ?_ ?_
  ·intro c7
   have hwp := hpn i (by omega)
   refine vnil ?_
   refine V.condT rfl ?_
   refine V.regD mixed rfl ?_
   intro W12 x13
   have s14 := x13.sz
   have z15 := x13
   replace hbk := hbk.ext x13
   have q16 := Ext.refl W12
   have r17 := hbk
   refine tk 0 rfl (by kernel_rfl) q16 (pv (fun _ y18 => rmv (v := .slice _ _ _) rfl)) ?_
   refine tk 1 rfl (by kernel_rfl) q16 (pv (fun _ y19 => rmv (v := .int _ _) rfl)) ?_
   refine tk 2 rfl (by kernel_rfl) q16 (pv (fun _ y20 => rmv (v := .pointer (some ⟨_, _, none⟩)) rfl)) ?_
   refine tk 3 rfl (by kernel_rfl) q16 (pv (fun _ y21 => rnc (v := .pointer (some ⟨_, _, none⟩)) rfl rfl)) ?_
   refine tk 4 rfl (by kernel_rfl) q16 (pv (fun _ y22 => rfa rfl fd96_3)) ?_
   refine tk 5 rfl (by kernel_rfl) q16 (pv (fun _ y23 => rldb (v := .slice _ _ _) rfl sc25 (r17.ext y23) rfl)) ?_
   refine tk 6 rfl (by kernel_rfl) q16 (pv (fun _ y24 => rmv (v := .int _ _) rfl)) ?_
   refine tk 7 rfl (by kernel_rfl) q16 (pv (fun _ y25 => rix sl25 sz30 rfl rfl (by omega) (by omega) (((hrk.ext z15).ext y25).isS (i := 0) (by omega) (by omega)))) ?_
   refine tk 8 rfl (by kernel_rfl) q16 (pv (fun _ y26 => rld1 (v := .slice _ _ _) rfl sc30 ((ce0.ext z15).ext y26))) ?_
   refine tk 9 rfl (by kernel_rfl) q16 (pv (fun _ y27 => rmv (v := .pointer (some ⟨_, _, none⟩)) rfl)) ?_
   refine ef 10 (by kernel_rfl) rfl ?_
   refine xcall e70 (cols_ok _ N _ _ _ _ _ _ _ n _ _ hbk (by omega) (by omega)) rfl rfl ?_
   rintro _ W28 ⟨rfl, x29⟩
   have s30 := x29.sz
   have z31 := z15.trans x29
   replace hbk := hbk.ext x29
   have q32 := q16.trans x29
   refine ⟨_, rfl, ?_⟩
   refine ⟨fun _ => q32, ?_⟩
   refine tk 11 rfl (by kernel_rfl) q32 (pv (fun _ y33 => rix sl30 sz43 rfl rfl (by omega) (by omega) (((hg0.ext z15).ext y33).isS (i := 0) (by omega) (by omega)))) ?_
   refine tk 12 rfl (by kernel_rfl) q32 (pv (fun _ y34 => rldn (l := [.bool _, .slice _ _ _, .bool _, .slice _ _ _]) rfl ag43 rfl ((ce1.ext z15).ext y34))) ?_
   refine ef 13 (by kernel_rfl) rfl ?_
   refine xcall e39 (fCanon_ok [_, _, _, _] _ L1 (SX S [w.heap.size]) _ _ (hq1.ext z31) (by omega) h1 (SX.up (hu.mono (by omega)) (by simp; omega))) rfl rfl ?_
   rintro _ W36 ⟨_, rfl, x37, hq35⟩
   have s38 := x37.sz
   have z39 := z31.trans x37
   replace hbk := hbk.ext x37
   have q40 := q32.trans x37
   obtain ⟨_, _, _, _, _, _, _, _, rfl⟩ := hq35.form
   refine ⟨_, rfl, ?_⟩
   refine ⟨fun _ => q40, ?_⟩
   refine tk 14 rfl (by kernel_rfl) q40 (pv (fun _ y41 => rix sl30 sz43 rfl rfl (by omega) (by omega) rfl)) ?_
   refine ef 15 (by kernel_rfl) rfl ?_
   refine xstV (hV.ext z39) rfl rfl sz43 (by omega) (by omega) hq35 ?_
   intro Wa ya hVa
   refine lastT (by kernel_rfl) ?_
   refine dn (by kernel_rfl) ?_
   refine V.reg rfl ?_
   refine vv (rbin (bAdd (wi (by omega))) rfl rfl) ?_
   refine mvi rfl ?_
   refine vnil ?_
   refine ⟨rfl, i + 1, ⟨rfl, rfl, rfl, rfl, trivial⟩, ⟨rfl, trivial⟩, ⟨by omega, hVa.cast (by rw [solT, if_pos (by omega)]; rw [show (N + (n : Int)).toNat = M by omega]; rw [hq10]; rfl), (hkd.trans (Ext.kd z39)).trans (ya.kd fun h => h rfl)⟩, ?_⟩
   show np - (i + 1) < np - i
   omega
  ·intro c7
   refine vnil ?_
   refine V.condF rfl ?_
   refine V.skip ?_
   refine V.reg rfl ?_
   refine vv (rbin (bAdd (wi (by omega))) rfl rfl) ?_
   refine mvi rfl ?_
   refine vnil ?_
   refine ⟨rfl, i + 1, ⟨rfl, rfl, rfl, rfl, trivial⟩, ⟨rfl, trivial⟩, ⟨by omega, (hV.ext zz).cast (by rw [solT, if_neg (by omega)]), hkd.trans (Ext.kd zz)⟩, ?_⟩
   show np - (i + 1) < np - i
   omega
 ·intro c9
  refine vnil ?_
  refine V.seq ?_
  refine V.condF rfl ?_
  refine V.exit ?_
  refine V.seq (V.reg rfl ?_)
  refine mvs rfl ?_
  refine ass rfl ?_
  refine vnil ?_
  refine V.ret ?_
  refine ⟨[.slice _ _ _], ⟨rfl, trivial⟩, ?_⟩
  have ei : i = np := by omega
  have kx := hkd.trans (Ext.kd zz)
  have sx := kx.size
  refine ⟨_, _, _, rfl, KD.ex kx (fun q hq => by omega), (VQ.gc (hV.ext zz) (hu _ (by omega))).cast ?_⟩
  rw [ei]
set_option maxHeartbeats 400000 in
theorem tBasis_ok (bw : Nat) (N : Int) (ag ap a : Option Addr) (ng cg np cp n c : Nat) (piv : List Int) (S S2 : Nat → Prop) (w : World) (hb : BoxAt w bw [.int .i64 N, .slice ag ng cg, .slice ap np cp, .slice a n c] 96) (hp : RN .i64 S2 w ap np cp piv) (hnp : np ≤ 64) (hu : Up S w) :
    Calls Try.prog 45 #[.pointer (some ⟨bw, 0, none⟩)] w (fun e w' => ∃ k cc, e = .returned (.slice k np cc) ∧ Ext w w' ∧ RN .i64 S w' k np cc piv) := by
 have z0 := Ext.refl w; have hLX : LX = 17592186044416 := rfl; have hLY : LY = 8796093022208 := rfl
 have l3 := hp.len
 refine enter (args := [.pointer (some ⟨bw, 0, none⟩)]) Try.func45 rfl rfl (Nat.le_of_ble_eq_true rfl) ?_
 refine V.seq (V.reg rfl ?_)
 refine ass rfl ?_
 refine vnil ?_
 refine V.seq ?_
 refine V.seq (V.reg rfl ?_)
 refine mvp rfl ?_
 refine vv (rpnil (q := false) (by kernel_rfl) rfl rfl rfl) ?_
 refine vnil ?_
 refine V.condF rfl ?_
 refine V.skip ?_
 refine V.seq (V.reg rfl ?_)
 refine mvp rfl ?_
 refine vv (rnc (v := .pointer (some ⟨_, _, none⟩)) rfl rfl) ?_
 refine vv (rfa rfl fd96_2) ?_
 refine vv (rldb (v := .slice _ _ _) rfl sc74 hb rfl) ?_
 refine vv (rlen sl74 rfl) ?_
 refine vo ?_
 refine xmk (np) sl74 in3 (by simp [kb]) rfl rfl (by omega) (by omega) (by omega) ?_
 intro W1 x2 out n3
 have s4 := x2.sz
 have z5 := x2
 replace hb := hb.ext x2
 refine ass rfl ?_
 refine vnil ?_
 refine V.seq (V.reg rfl ?_)
 refine mvs rfl ?_
 refine mvp rfl ?_
 refine vv (rnc (v := .pointer (some ⟨_, _, none⟩)) rfl rfl) ?_
 refine vv (rfa rfl fd96_2) ?_
 refine vv (rldb (v := .slice _ _ _) rfl sc74 hb rfl) ?_
 refine vo ?_
 refine xcpy out (hp.ext z5) rfl rfl rfl sl74 (by exact sz3) ?_
 intro vc Wc yc hAc
 refine vnil ?_
 refine V.seq (V.reg rfl ?_)
 refine mvs rfl ?_
 refine ass rfl ?_
 refine vnil ?_
 refine V.ret ?_
 refine ⟨[.slice _ _ _], ⟨rfl, trivial⟩, ?_⟩
 have sz1 := (z5).sz
 exact ⟨_, _, rfl, (z5).below (yc.below (by omega)), hAc.rn (hu _ (by omega))⟩
end Go.Proofs.Ytknbjfefeeojlaa
/- A range over a function whose values are made anew in each round. -/
namespace Go.Proofs.Ytknbjfefeeojlaa
open Go.RowKit
/-- The iterator calls yield M times, with values of which Yv speaks, as long as each round goes on. -/
def IterG (P : Program) (gf : Nat) (lb : Array Value) (Yv : Nat → Value → Value → Nat → World → Prop) (D : Nat → Prop) (M : Nat) (w : World) : Prop :=
  ∀ (l : Nat) (J Jx : Nat → World → Prop) (X : World), Ext w X → (∀ i A B, J i A → Ext A B → J i B) → (∀ i A B, Jx i A → Ext A B → Jx i B) →
    (∀ i A0 A u1 u2, J i A0 → i < M → KD D w A0 → Ext A0 A → Yv i u1 u2 A0.heap.size A → YieldAt Fence.wide 0 P l #[u1, u2] A fun e B =>
      (e = .returned (.bool true) ∧ J (i + 1) B ∧ KD D A B) ∨ (e = .returned (.bool false) ∧ Jx i B ∧ KD D A B)) → J 0 X →
    Calls P gf (#[.func (.yield l) #[] #[]] ++ lb) X fun e B => (∃ v, e = .returned v) ∧ (J M B ∨ ∃ i, i < M ∧ Jx i B)
section
variable {P : Program} {N : Nat} {E : Env} {W W' : World} {Rr : Ending → World → Prop} {fn : Func}
theorem V.rfG {g : Operand} {p1 p2 : Tmp} {assign body : Code} {ds : List Deferred} {Q : EQ} {gf : Nat} {lb : Array Value} (hg : ev E g = .func (.func gf) #[] lb) (eg : Ent P gf) {Yv : Nat → Value → Value → Nat → World → Prop} {D : Nat → Prop} {M : Nat} {w0 : World}
    (hseq : IterG P gf lb Yv D M w0) (hb0 : Ext w0 W) (hD : ∀ k, D k → k < W.heap.size) (hp : (Nat.blt p1 N && Nat.blt p2 N) = true)
    (I : Nat → World → Prop) (Ix : Code → Nat → World → Prop)
    (hI : ∀ i X Y, I i X → Tn W.heap.size X Y → I i Y) (hIx : ∀ c i X Y, Ix c i X → Tn W.heap.size X Y → Ix c i Y) (h0 : I 0 W)
    (hround : ∀ l i X0 X u1 u2, I i X0 → i < M → KD D w0 X0 → W.heap.size ≤ X0.heap.size → Ext X0 X → Yv i u1 u2 X0.heap.size X → V (some l) P N [] assign (thenV (fun E' ds' Y => ds' = [] ∧ Kf W.heap.size D X Y ∧ ∀ Z, Tn W.heap.size Y Z → V (some l) P N [] body (rndQ W.heap.size D I Ix i Z) E' Z) badQ) (up (up E p1 u1) p2 u2) X)
    (hdone : ∀ D X, W.heap.size ≤ D → I M X → X.heap[D]? = some (.deferred (some [])) → W.heap.size ≤ X.heap.size → Q .normal E (mark D :: ds) X)
    (hstop : ∀ D c i X, W.heap.size ≤ D → i < M → Ix c i X → X.heap[D]? = some (.deferred (some [])) → W.heap.size ≤ X.heap.size → V none P N (mark D :: ds) c Q E X) :
    V none P N ds (.rangeFunc g #[p1, p2] assign body) Q E W := by
  intro a hrep hd
  simp only [Bool.and_eq_true] at hp
  refine wpIn_rangeFunc fun fn hfn => ?_
  obtain ⟨rec, hrec⟩ : ∃ rec : LoopState → Option Code → Loop, rec = fun st pe => { state := st, pending := pe, fn, tmps := a.tmps, params := #[p1, p2], assign, body, defers := W.heap.size } := ⟨_, rfl⟩
  obtain ⟨W1, hW1⟩ : ∃ W1, (W.alloc (.deferred (some []))).alloc (.loop (rec .ready none)) = W1 := ⟨_, rfl⟩
  have x1 : Ext W W1 := by rw [← hW1]; exact ((Ext.refl _).alloc _).alloc _
  have hL1 : W1.heap[W.heap.size + 1]? = some (.loop (rec .ready none)) := by
    rw [← hW1]; have := World.alloc_heap_new (W.alloc (.deferred (some []))) (.loop (rec .ready none)); rwa [World.size_alloc] at this
  have hK1 : W1.heap[W.heap.size]? = some (.deferred (some [])) := by
    rw [← hW1]; exact (Below.heap_alloc _ _ _ (by simp)).trans (World.alloc_heap_new W _)
  have keepL : ∀ {A B : World} {k : Nat} {o : Obj}, Ext A B → A.heap[k]? = some o → B.heap[k]? = some o := fun h hk => (h.block _ (Array.getElem?_eq_some_iff.1 hk).1).trans hk
  refine ⟨W.heap.size + 1, [mark W.heap.size], W1, { target := .fn (.func gf) lb, args := #[.func (.yield (W.heap.size + 1)) #[] #[]] }, W1, gf, #[.func (.yield (W.heap.size + 1)) #[] #[]] ++ lb, W1, ?_, ?_, fun _ _ => trivial, ?_, fun hx => by simp [fen, Fence.wide] at hx, ?_⟩
  · rw [← hW1, hrec]; exact run_enterLoop_outer _ _ _ _ _
  · rw [hrep.eval]
    simp only [resolve, hg]
    simp [go_sem]
    simp [ev]
  · simp [invoke, go_sem, eg _ _]
  refine callsIn_fen ((hseq (W.heap.size + 1)
    (fun i X => I i X ∧ W1.heap.size ≤ X.heap.size ∧ X.heap[W.heap.size + 1]? = some (.loop (rec .ready none)) ∧ X.heap[W.heap.size]? = some (.deferred (some [])))
    (fun i X => ∃ c, Ix c i X ∧ W1.heap.size ≤ X.heap.size ∧ X.heap[W.heap.size + 1]? = some (.loop (rec .done (some c))) ∧ X.heap[W.heap.size]? = some (.deferred (some [])))
    W1 (hb0.trans x1)
    (fun i A B h hx => ⟨hI i A B h.1 (Tn.of_ext hx _), Nat.le_trans h.2.1 hx.size, keepL hx h.2.2.1, keepL hx h.2.2.2⟩)
    (fun i A B h hx => by obtain ⟨c, h1, h2, h3, h4⟩ := h; exact ⟨c, hIx c i A B h1 (Tn.of_ext hx _), Nat.le_trans h2 hx.size, keepL hx h3, keepL hx h4⟩)
    ?_ ⟨hI _ _ _ h0 (Tn.of_ext x1 _), Nat.le_refl _, hL1, hK1⟩).mono ?_)
  · rintro i X0 X u1 u2 ⟨hi, hsz0, hl0, hk0⟩ hiM hkd hx0 hyv
    have hsz := Nat.le_trans hsz0 hx0.size; have hl := keepL hx0 hl0; have hk := keepL hx0 hk0; have hWX0 := Nat.le_trans x1.size hsz0
    have hWX : W.heap.size ≤ X.heap.size := Nat.le_trans x1.size hsz
    have hy := run_yield (P := P) (args := #[u1, u2]) hl (by rw [hrec]; rfl)
    rw [hrec] at hy
    refine ⟨fn, _, assign, body, hy, roundIn_of_wpIn hfn ?_⟩
    have hrep2 : Rep N { tmps := ((#[p1, p2] : Array Tmp).zip #[u1, u2]).foldl (fun tmps (t, a) => tmps.setIfInBounds t a) a.tmps, defers := [] } (up (up E p1 u1) p2 u2) := by
      have h1 := (hrep.put hp.1 u1).put hp.2 u2
      exact ⟨by have := h1.size; simpa [Act.put] using this, fun t => by have := h1.get t; simpa [Act.put] using this⟩
    refine wpIn_mono (hround (W.heap.size + 1) i X0 X u1 u2 hi hiM hkd hWX0 hx0 hyv _ hrep2 rfl) ?_
    rintro e a1 Y ⟨E', hr1, hq⟩
    cases e with
    | normal =>
      obtain ⟨hd1, hkf, hcont⟩ := hq
      have hlY := hkf.1.same _ _ (by omega) hl rfl
      have hkY := hkf.1.same _ _ (Nat.le_refl _) hk rfl
      have hltY : W.heap.size + 1 < Y.heap.size := (Array.getElem?_eq_some_iff.1 hlY).1
      refine ⟨_, run_beginRound hlY (by rw [hrec]), ?_⟩
      have tY := Tn.putObj (B := W.heap.size) (.loop { rec .ready none with state := .busy }) hlY (by omega) rfl
      have hl2 : (Y.putObj (W.heap.size + 1) (.loop { rec .ready none with state := .busy })).heap[W.heap.size + 1]? = some (.loop { rec .ready none with state := .busy }) := World.putObj_heap_same hltY
      have hk2 : (Y.putObj (W.heap.size + 1) (.loop { rec .ready none with state := .busy })).heap[W.heap.size]? = some (.deferred (some [])) := (World.putObj_heap_other (by omega)).trans hkY
      refine wpIn_mono (hcont _ tY a1 hr1 hd1) ?_
      have hbXY : KD D X (Y.putObj (W.heap.size + 1) (.loop { rec .ready none with state := .busy })) := hkf.2.trans (tY.kd hD)
      have fin : ∀ (jump : Option Code) (Z : World), Kf W.heap.size D (Y.putObj (W.heap.size + 1) (.loop { rec .ready none with state := .busy })) Z →
          (Instr.endRound (W.heap.size + 1) jump).run P Z = .ok (.bool jump.isNone) (Z.putObj (W.heap.size + 1) (.loop (rec (if jump.isNone then .ready else .done) jump))) ∧
          Tn W.heap.size Z (Z.putObj (W.heap.size + 1) (.loop (rec (if jump.isNone then .ready else .done) jump))) ∧ W1.heap.size ≤ (Z.putObj (W.heap.size + 1) (.loop (rec (if jump.isNone then .ready else .done) jump))).heap.size ∧
          (Z.putObj (W.heap.size + 1) (.loop (rec (if jump.isNone then .ready else .done) jump))).heap[W.heap.size + 1]? = some (.loop (rec (if jump.isNone then .ready else .done) jump)) ∧
          (Z.putObj (W.heap.size + 1) (.loop (rec (if jump.isNone then .ready else .done) jump))).heap[W.heap.size]? = some (.deferred (some [])) := fun jump Z hkZ => by
        have hl3 := hkZ.1.same _ _ (by omega) hl2 rfl
        have := run_endRound (P := P) jump hl3
        have hs1 := hkf.1.size
        have hs2 := hkZ.1.size
        simp only [World.putObj_size] at hs2
        rw [hrec] at this ⊢
        refine ⟨this, Tn.putObj _ hl3 (by omega) rfl, by simp; omega, World.putObj_heap_same (Array.getElem?_eq_some_iff.1 hl3).1, (World.putObj_heap_other (by omega)).trans (hkZ.1.same _ _ (Nat.le_refl _) hk2 rfl)⟩
      rintro e a3 Z ⟨E3, _, hp3⟩
      cases e with
      | normal =>
        obtain ⟨hkZ, hiZ⟩ := hp3
        obtain ⟨hr, t3, hs3, hl4, hk4⟩ := fin none Z hkZ
        exact ⟨_, _, hr, .inl ⟨rfl, ⟨hI _ _ _ hiZ t3, hs3, hl4, hk4⟩, hbXY.trans (hkZ.2.trans (t3.kd hD))⟩⟩
      | ret =>
        obtain ⟨hkZ, hiZ⟩ := hp3
        obtain ⟨hr, t3, hs3, hl4, hk4⟩ := fin (some .ret) Z hkZ
        exact ⟨_, _, hr, .inr ⟨rfl, ⟨.ret, hIx _ _ _ _ hiZ t3, hs3, hl4, hk4⟩, hbXY.trans (hkZ.2.trans (t3.kd hD))⟩⟩
      | exit id =>
        obtain ⟨hkZ, hiZ⟩ := hp3
        obtain ⟨hr, t3, hs3, hl4, hk4⟩ := fin (some (.exit id)) Z hkZ
        exact ⟨_, _, hr, .inr ⟨rfl, ⟨.exit id, hIx _ _ _ _ hiZ t3, hs3, hl4, hk4⟩, hbXY.trans (hkZ.2.trans (t3.kd hD))⟩⟩
      | goto t => exact hp3.elim
      | panic ch => exact hp3.elim
      | outgrown => exact hp3.elim
    | _ => exact hq.elim
  · rintro e X ⟨⟨v, rfl⟩, (⟨hi, hsz, hl, hk⟩ | ⟨i, hiM, c, hi, hsz, hl, hk⟩)⟩
    · have he := run_endLoop (P := P) hl (by rw [hrec]; simp)
      rw [hrec] at he
      have t := Tn.putObj (B := W.heap.size) (.loop { rec .ready none with state := .exhausted }) hl (by omega) rfl
      rw [hrec] at t
      refine ⟨none, _, he, E, ⟨hrep.size, hrep.get⟩, ?_⟩
      show Q .normal E (mark W.heap.size :: a.defers) _
      rw [hd]
      exact hdone _ _ (Nat.le_refl _) (hI _ _ _ hi t) ((World.putObj_heap_other (by omega)).trans hk) (by have := x1.size; simp; omega)
    · have he := run_endLoop (P := P) hl (by rw [hrec]; simp)
      rw [hrec] at he
      have t := Tn.putObj (B := W.heap.size) (.loop { rec .done (some c) with state := .exhausted }) hl (by omega) rfl
      rw [hrec] at t
      refine ⟨some c, _, he, ?_⟩
      refine wpIn_depth rfl (hstop _ c i _ (Nat.le_refl _) hiM (hIx _ _ _ _ hi t) ((World.putObj_heap_other (by omega)).trans hk) (by have := x1.size; simp; omega) { a with defers := [mark W.heap.size] ++ a.defers } ⟨hrep.size, hrep.get⟩ (by rw [← hd]; rfl))
end
end Go.Proofs.Ytknbjfefeeojlaa
/- Package tableau: columns, ReducedCosts, Optimal. -/
namespace Go.Proofs.Ytknbjfefeeojlaa
open Go.RowKit
attribute [local irreducible] RV VH V OpF Calls
theorem GO.low {ρt : Type} {El : (Nat → Prop) → World → List Value → ρt → Prop} {S : Nat → Prop} {s B : Nat} {W : World} {e : TypeId} {v : Value} {rs : List ρt} (h : GO s El S B W e v rs) : ∀ b, v.ownBlock = some b → B ≤ b ∧ b < W.heap.size := by
  obtain ⟨qs, h1, h2⟩ := h; exact h1.low
set_option maxHeartbeats 400000 in
theorem columns_iter {D : Nat → Prop} {w : World} {bw b1 : Nat} {N : Int} {ag ap a : Option Addr} {ng cg np cp n c Nn M : Nat} {L0 L1 : Nat} {goals rows : List (List Rat)} {piv : List Int} (hb1 : BoxAt w b1 [.pointer (some ⟨bw, 0, none⟩)] 66) (hb : BoxAt w bw [.int .i64 N, .slice ag ng cg, .slice ap np cp, .slice a n c] 96) (hm : MA L0 D w ag ng cg goals) (hr : MA L1 D w a n c rows) (hp : RN .i64 D w ap np cp piv) (hN : N = (Nn : Int)) (hNb : Nn ≤ 64) (hng : ng ≤ 64) (hn : n ≤ 64) (hnp : np = n) (hM : Nn + n = M) (hgr : ∀ r ∈ goals, r.length = Nn) (hrr : ∀ r ∈ rows, r.length = M + 1) (hpn : ∀ t : Nat, t < np → 0 ≤ wd piv t) (h0 : 1 ≤ L0) (h1 : 1 ≤ L1) (hL : (L1 + L0 + 1) * 200 + 100 < LY) (h9 : D b1) (h8 : D bw) :
    IterG Try.prog 103 #[.pointer (some ⟨b1, 0, none⟩)] (fun i u v lo X => u = .int .i64 (i : Int) ∧ ∃ ra rk rc, v = .slice ra rk rc ∧ GC (fun b => lo ≤ b) X ra rk rc (rcost goals ng Nn rows piv i)) D M w := by
 have z0 := Ext.refl w; have hLX : LX = 17592186044416 := rfl; have hLY : LY = 8796093022208 := rfl
 intro l J Jx X hX hJs hJxs hY hJ0
 have hm0 : MA L0 D X ag ng cg goals := MG.ck (okRowA L0) hm (hX.ck _); have hr0 : MA L1 D X a n c rows := MG.ck (okRowA L1) hr (hX.ck _); have hp0 := hp.ext hX; have b10 := hb1.ext hX; have bw0 := hb.ext hX; have zX0 := Ext.refl X
 have l1 := hm.len; have l2 := hr.len; have l3 := hp.len
 refine enter (args := [.func (.yield l) #[] #[], .pointer (some ⟨b1, 0, none⟩)]) Try.func103 rfl rfl (Nat.le_of_ble_eq_true rfl) ?_
 refine V.seq (V.reg rfl ?_)
 refine vv (rldb (v := .pointer (some ⟨_, _, none⟩)) rfl sc66 b10 rfl) ?_
 refine vo ?_
 refine xcall e70 (cols_ok _ N _ _ _ _ _ _ _ n _ _ bw0 (by omega) (by omega)) rfl rfl ?_
 rintro _ W1 ⟨rfl, x2⟩
 have s3 := x2.sz
 have z4 := x2
 refine ⟨_, rfl, ?_⟩
 refine mvi rfl ?_
 refine vnil ?_
 refine V.block ?_
 refine V.loopK (ι := Nat) [(0, .func _ _ _), (1, .pointer (some ⟨_, _, none⟩)), (5, .int _ _)] (fun i => [(6, .int .i64 (i : Int))]) (fun i W => J i W ∧ KD D w W ∧ i ≤ M) (fun i => M - i) (0) ⟨rfl, rfl, rfl, trivial⟩ ⟨rfl, trivial⟩ ⟨(hJs _ _ _ hJ0 z4), (hX.trans z4).kd, Nat.zero_le _⟩ ?_
 intro i E6 W5 h7
 obtain ⟨hJ, hkd, hk⟩ := h7
 have b1k := hb1.kd hkd h9; have bwk := hb.kd hkd h8; have hmk : MA L0 D W5 ag ng cg goals := MG.ck (okRowA L0) hm hkd.ck; have hrk : MA L1 D W5 a n c rows := MG.ck (okRowA L1) hr hkd.ck; have hpk := hp.ck hkd.ck; have zz := Ext.refl W5; have szk := hkd.size; have lb1k := b1k.lt
 refine V.seq (V.reg rfl ?_)
 refine vlt rfl rfl ?_ ?_
 ·intro c8
  refine vnil ?_
  refine V.seq ?_
  refine V.condT rfl ?_
  refine V.skip ?_
  refine V.seq ?_
  refine V.block ?_
  refine V.seq (V.reg rfl ?_)
  refine mvi rfl ?_
  refine asi rfl ?_
  refine vnil ?_
  refine V.seq (V.reg rfl ?_)
  refine mvf rfl ?_
  refine mvi rfl ?_
  refine vv (rldb (v := .pointer (some ⟨_, _, none⟩)) rfl sc66 b1k rfl) ?_
  refine mvi rfl ?_
  refine vo ?_
  refine xcall e47 (tCost_ok bw N ag ap a ng cg np cp n c Nn M L0 L1 goals rows piv (fun b => W5.heap.size ≤ b) D D D _ bwk hmk hrk hpk hN hNb hng hn hnp hM hgr hrr hpn h0 h1 hL (fun b hb => by omega) (i : Int) (by omega) (by omega)) rfl rfl ?_
  rintro _ W9 ⟨_, _, _, rfl, x10, hrc⟩
  have s11 := x10.sz
  have z12 := x10
  refine ⟨_, rfl, ?_⟩
  refine vo ?_
  refine xyield (vs := [.int _ _, .slice _ _ _]) rfl rfl (hY i _ _ _ _ hJ (by omega) hkd z12 ⟨rfl, _, _, _, rfl, hrc⟩) ?_
  rintro _ W' (⟨rfl, hJ', hkd'⟩ | ⟨rfl, hJx, hkd'⟩) <;> refine ⟨_, rfl, ?_⟩
  ·skip
   refine vv (rnot (q := false) rfl rfl) ?_
   refine vnil ?_
   refine V.condF rfl ?_
   refine V.skip ?_
   refine V.reg rfl ?_
   refine vv (rbin (bAdd (wi (by omega))) rfl rfl) ?_
   refine mvi rfl ?_
   refine vnil ?_
   refine ⟨rfl, i + 1, ⟨rfl, rfl, rfl, trivial⟩, ⟨rfl, trivial⟩, ⟨hJ', (hkd.trans (Ext.kd z12)).trans hkd', by omega⟩, ?_⟩
   show M - (i + 1) < M - i
   omega
  ·skip
   refine vv (rnot (q := true) rfl rfl) ?_
   refine vnil ?_
   refine V.condT rfl ?_
   refine V.ret ?_
   refine ⟨[], trivial, ?_⟩
   exact ⟨⟨_, rfl⟩, .inr ⟨i, by omega, hJx⟩⟩
 ·intro c8
  refine vnil ?_
  refine V.seq ?_
  refine V.condF rfl ?_
  refine V.exit ?_
  refine ⟨[], trivial, ?_⟩
  exact ⟨⟨_, rfl⟩, .inl (by rw [show M = i by omega]; exact hJ)⟩
set_option maxHeartbeats 400000 in
theorem columns_ok (bw : Nat) (w : World) :
    Calls Try.prog 79 #[.pointer (some ⟨bw, 0, none⟩)] w (fun e w' => ∃ b1, b1 = w.heap.size ∧ e = .returned (.func (.func 103) #[] #[.pointer (some ⟨b1, 0, none⟩)]) ∧ Ext w w' ∧ BoxAt w' b1 [.pointer (some ⟨bw, 0, none⟩)] 66) := by
 have z0 := Ext.refl w; have hLX : LX = 17592186044416 := rfl; have hLY : LY = 8796093022208 := rfl
 refine enter (args := [.pointer (some ⟨bw, 0, none⟩)]) Try.func79 rfl rfl (Nat.le_of_ble_eq_true rfl) ?_
 refine V.seq (V.reg rfl ?_)
 refine vo ?_
 refine bxp rfl ?_
 intro W1 x2 b3 nn4
 have s5 := x2.sz
 have z6 := x2
 refine asn rfl ?_
 refine vnil ?_
 refine V.seq (V.reg rfl ?_)
 refine vv (rmk1 (v := .pointer (some ⟨_, _, none⟩)) rfl) ?_
 refine asf rfl ?_
 refine vnil ?_
 refine V.ret ?_
 refine ⟨[.func _ _ _], ⟨rfl, trivial⟩, ?_⟩
 exact ⟨_, rfl, rfl, z6, b3⟩
set_option maxHeartbeats 1000000 in
theorem tOpt_ok (bw : Nat) (N : Int) (ag ap a : Option Addr) (ng cg np cp n c Nn M : Nat) (L0 L1 : Nat) (goals rows : List (List Rat)) (piv : List Int) (S0 S1 S2 : Nat → Prop) (w : World) (hb : BoxAt w bw [.int .i64 N, .slice ag ng cg, .slice ap np cp, .slice a n c] 96) (hm : MA L0 S0 w ag ng cg goals) (hr : MA L1 S1 w a n c rows) (hp : RN .i64 S2 w ap np cp piv) (hN : N = (Nn : Int)) (hNb : Nn ≤ 64) (hng : ng ≤ 64) (hn : n ≤ 64) (hnp : np = n) (hM : Nn + n = M) (hgr : ∀ r ∈ goals, r.length = Nn) (hrr : ∀ r ∈ rows, r.length = M + 1) (hpn : ∀ t : Nat, t < np → 0 ≤ wd piv t) (h0 : 1 ≤ L0) (h1 : 1 ≤ L1) (hL : (L1 + L0 + 1) * 200 + 100 < LY) :
    Calls Try.prog 50 #[.pointer (some ⟨bw, 0, none⟩)] w (fun e w' => ∃ q, e = .returned (.bool q) ∧ Ext w w' ∧ (q = true ↔ ∀ k, k < M → lexnn (rcost goals ng Nn rows piv k))) := by
 have z0 := Ext.refl w; have hLX : LX = 17592186044416 := rfl; have hLY : LY = 8796093022208 := rfl
 have hbw0 := hb; have lbw := hb.lt; have l1 := hm.len; have l2 := hr.len; have l3 := hp.len; have hgs : szR L0 goals := hm.rowsz h0; have hrs : szR L1 rows := hr.rowsz h1; have hLV : LV = 1099511627776 := rfl
 obtain ⟨LC, hLC⟩ : ∃ L, L = (L1 + L0 + 1) * 65 + 2 := ⟨_, rfl⟩
 have hcs : ∀ k, szV LC (rcost goals ng Nn rows piv k) := fun k r hr => (rcost_sz hgs h0 hrs h1 r hr).mono (by rw [hLC]; have := Nat.mul_le_mul_left (L1 + L0 + 1) (show piv.length + 1 ≤ 65 by omega); omega)
 refine enter (args := [.pointer (some ⟨bw, 0, none⟩)]) Try.func50 rfl rfl (Nat.le_of_ble_eq_true rfl) ?_
 refine V.seq (V.reg rfl ?_)
 refine vo ?_
 refine xal zc4 ?_
 intro W1 x2 b3 nn4
 have s5 := x2.sz
 have z6 := x2
 replace hb := hb.ext x2
 refine vnil ?_
 refine V.seq ?_
 refine V.seq (V.reg rfl ?_)
 refine mvp rfl ?_
 refine vv (rpnil (q := false) (by kernel_rfl) rfl rfl rfl) ?_
 refine vnil ?_
 refine V.condF rfl ?_
 refine V.skip ?_
 refine V.seq ?_
 refine V.seq (V.reg rfl ?_)
 refine mvp rfl ?_
 refine vo ?_
 refine xcall e79 (columns_ok bw _) rfl rfl ?_
 rintro _ W7 ⟨b1, eb1, rfl, x8, hb1⟩
 have s9 := x8.sz
 have z10 := z6.trans x8
 replace hb := hb.ext x8
 replace b3 := b3.ext x8
 have lb1 := hb1.lt
 refine ⟨_, rfl, ?_⟩
 refine vnil ?_
 refine V.block ?_
 have l2b := b3.lt; have zR := z10; have sR := zR.sz; have hbR := hb
 have hmR : MA L0 (fun q => q < W7.heap.size ∧ q ≠ w.heap.size) W7 ag ng cg goals := MG.sub (okRowA L0) (S' := (fun q => q < W7.heap.size ∧ q ≠ w.heap.size)) (MG.ck (okRowA L0) (MG.sub (okRowA L0) (S' := (fun q => q < W7.heap.size ∧ q ≠ w.heap.size)) hm fun b hb _ => ⟨by omega, by omega⟩) (zR.ck _)) (fun _ _ h => h); have hrR : MA L1 (fun q => q < W7.heap.size ∧ q ≠ w.heap.size) W7 a n c rows := MG.ck (okRowA L1) (MG.sub (okRowA L1) hr fun b hb _ => ⟨by omega, by omega⟩) (zR.ck _); have hpR : RN .i64 (fun q => q < W7.heap.size ∧ q ≠ w.heap.size) W7 ap np cp piv := (hp.sub fun b hb _ => ⟨by omega, by omega⟩).ext zR
 refine V.rfG (gf := 103) rfl e103 (columns_iter (D := (fun q => q < W7.heap.size ∧ q ≠ w.heap.size)) (hb1) hb hmR hrR hpR hN hNb hng hn hnp hM hgr hrr hpn h0 h1 hL ⟨by omega, by omega⟩ ⟨by omega, by omega⟩) (Ext.refl _) (by rintro k ⟨h, _⟩; exact h) rfl (fun i X => Ext w X ∧ BoxAt X (w.heap.size) [.bool false] 4 ∧ ∀ k, k < i → lexnn (rcost goals ng Nn rows piv k)) (fun cd i X => cd = .ret ∧ Ext w X ∧ BoxAt X (w.heap.size) [.bool false] 4 ∧ ¬ lexnn (rcost goals ng Nn rows piv i)) (fun i X Y ⟨h1, h2, h3⟩ t => ⟨t.ext h1 (by omega), h2.tn t, h3⟩) (fun cd i X Y ⟨h0, h1, h2, h3⟩ t => ⟨h0, t.ext h1 (by omega), h2.tn t, h3⟩) (⟨zR, b3, fun k hk => absurd hk (Nat.not_lt_zero _)⟩) ?_ ?_ ?_
 ·intro l11 i12 X0 X13 u1 u2 hi14 hM15 hk16 hs17 hx0 hyv
  obtain ⟨rfl, ra9, rk9, rc9, rfl, hg9⟩ := hyv
  have s09 := hx0.sz
  refine V.reg rfl ?_
  refine ass rfl ?_
  refine vnil ?_
  refine ⟨rfl, Kf.refl _ _ _, ?_⟩
  intro Z18 t19
  obtain ⟨hX0, h2, hall⟩ := hi14
  have zX := t19.ext (hX0.trans hx0) (by omega); have h2z := (h2.ext hx0).tn t19; have hg9z := (hg9.ck (t19.ck _)).va (L := LC) (hcs i12); have zz := Ext.refl Z18; have sZ := zX.sz; have lg9 := hg9z.len; rw [rcost_len] at lg9; have l2z := h2z.lt
  refine V.block ?_
  refine V.seq (V.reg rfl ?_)
  refine mvs rfl ?_
  refine vo ?_
  refine xcall e80 (vSign_ok _ _ _ LC _ _ _ hg9z (by omega) (by omega) (by omega)) rfl rfl ?_
  rintro _ Ws ⟨sg, rfl, xs, hls⟩
  refine ⟨_, rfl, ?_⟩
  have hsg := sign_nn hls (by rw [rcost_len]; omega)
  have s20 := xs.sz
  have z21 := xs
  replace h2z := h2z.ext xs
  refine vlt rfl rfl ?_ ?_
  ·intro c52
   refine vnil ?_
   refine V.condT rfl ?_
   refine V.seq (V.reg rfl ?_)
   have b29 := h2z
   refine vo ?_
   refine st1 (v := .bool false) (cs' := [_]) h2z rfl rfl sz4 rfl rfl rfl rfl ?_
   intro W22 y23 h2z
   have s24 := y23.size
   refine vnil ?_
   refine V.ret ?_
   exact ⟨(Kf.ext z21).trans (Kf.wr y23 b29 fun h => h.2 rfl), rfl, (zX.trans z21).below (y23.below (by omega)), h2z, hsg.1 c52⟩
  ·intro c52
   refine vnil ?_
   refine V.condF rfl ?_
   refine V.skip ?_
   exact ⟨Kf.ext z21, zX.trans z21, h2z, fun k hk => by
    rcases Nat.lt_succ_iff_lt_or_eq.1 hk with h | rfl
    ·exact hall k h
    ·exact Classical.byContradiction fun h => by have h7 := hsg.2 h; omega⟩
 ·intro D25 X26 hD27 hI28 hdf29 hs30
  obtain ⟨hX0, h2, hall⟩ := hI28
  have l2x := h2.lt
  refine V.seq (V.reg rfl ?_)
  refine vo ?_
  refine st1 (v := .bool true) (cs' := [_]) h2 rfl rfl sz4 rfl rfl rfl rfl ?_
  intro W31 y32 h2
  have z33 := hX0.below (y32.below (by omega))
  have hd34 := y32.obj hdf29 (by omega)
  have s35 := y32.size
  refine vnil ?_
  refine V.ret ?_
  refine ⟨D25, rfl, hd34, ?_⟩
  have tp := Tn.putObj (B := w.heap.size) (.deferred none) hd34 (by omega) rfl
  have h2 := h2.tn tp
  have z36 := tp.ext z33 (Nat.le_refl _)
  refine ⟨[.bool true], ⟨⟨_, rfl, lv1 sc4 h2 rfl⟩, trivial⟩, ?_⟩
  exact ⟨_, rfl, z36, fun _ => hall, fun _ => rfl⟩
 ·rintro D' cd i X hD' hi ⟨rfl, hX0, h2, hne⟩ hdf hs
  have l2x := h2.lt
  refine V.ret ?_
  refine ⟨D', rfl, hdf, ?_⟩
  have tp := Tn.putObj (B := w.heap.size) (.deferred none) hdf (by omega) rfl
  have h2 := h2.tn tp
  have z37 := tp.ext hX0 (Nat.le_refl _)
  refine ⟨[.bool false], ⟨⟨_, rfl, lv1 sc4 h2 rfl⟩, trivial⟩, ?_⟩
  exact ⟨_, rfl, z37, fun h => (by cases h), fun h => absurd (h i (by omega)) hne⟩
end Go.Proofs.Ytknbjfefeeojlaa
/- Package tableau: all, and what a pivot does to one row. -/
namespace Go.Proofs.Ytknbjfefeeojlaa
open Go.RowKit
attribute [local irreducible] RV VH V OpF Calls
section
variable {B bw n c ng cg : Nat} {N : Int} {v pv : Value} {goals rows : List (List Rat)} {piv : List Int} {W W' : World} {a ag : Option Addr}
theorem TS.row (h : TS B bw N ag ng cg goals v pv rows piv W) (hv : v = .slice a n c) {i : Int} (h0 : 0 ≤ i) (h1 : i < n) : ∃ a' n' c', W.cell? (adr a i 1) = some (.slice a' n' c') ∧ GC (SO (XS B bw pv) v) W a' n' c' (rowat rows i.toNat) := by
  obtain ⟨qs, h2, h3⟩ := h.g
  have h2' := h2
  rw [hv] at h2'
  have hr : RS 1 TT W a n c qs := h2'.rs fun _ _ _ => trivial
  obtain ⟨q, h4, h5, h6⟩ := hr.el h0 h1
  obtain ⟨r, h7, a', n', c', rfl, h8⟩ := h3.get h4
  have e : rowat rows i.toNat = r := by unfold rowat; rw [List.getD_eq_getElem?_getD, h7]; rfl
  refine ⟨a', n', c', ?_, e ▸ h8⟩
  have := h6 0 _ rfl
  rwa [add0] at this
theorem OI.os {k : IntKind} {e : TypeId} {xs : List Int} (h : OI k B W e v xs) : OS 1 B W e v (xs.map fun x => [Value.int k x]) := by
  have e1 : ∀ xs : List Int, (xs.map fun x => [Value.int k x]).flatten = xs.map (Value.int k) := fun xs => by induction xs <;> simp_all
  exact ⟨by rw [e1, List.length_map]; exact h.row, fun q hq => by obtain ⟨x, _, rfl⟩ := List.mem_map.1 hq; rfl⟩
theorem OS.oi {k : IntKind} {e : TypeId} {xs : List Int} (h : OS 1 B W e v (xs.map fun x => [Value.int k x])) (hw : ∀ x ∈ xs, kb k x) : OI k B W e v xs := by
  have e1 : ∀ xs : List Int, (xs.map fun x => [Value.int k x]).flatten = xs.map (Value.int k) := fun xs => by induction xs <;> simp_all
  have h1 := h.row
  rw [e1, List.length_map] at h1
  exact ⟨h1, hw⟩
end
section
variable {B bw n c n' c' ng cg : Nat} {N : Int} {v pv : Value} {goals rows : List (List Rat)} {piv : List Int} {W W' : World} {a a' ag : Option Addr} {ρ : Operand → Value} {d : Option Tmp} {ty T : TypeId} {pos : String} {af : Array Edge} {gd : Option (Nat × Bool)} {x y : Operand} {K : Value → World → Prop}
/-- t.basis[i] = z -/
theorem xstP {r : Option Nat} {i z : Int} (h : TS B bw N ag ng cg goals v pv rows piv W) (hv : pv = .slice a n c) (hx : ρ x = .pointer (some (adr a i 1))) (hy : ρ y = .int .i64 z) (hz : kb .i64 z) (hT : Sz Try.prog T 1) (h0 : 0 ≤ i) (h1 : i < n)
    (hk2 : ∀ W', TS B bw N ag ng cg goals v pv rows (piv.set i.toNat z) W' → KD (KQ bw v pv) W W' → K undef W') : OpF r Try.prog ρ ⟨d, .store T x y, ty, pos, af, gd⟩ W K := by
  refine xstS (q := [.int .i64 z]) h.p.os hv hx hy rfl hT rfl rfl h0 h1 ?_
  intro b W' hb y' hO
  have kd : KD (KQ bw v pv) W W' := y'.kd fun hd => hd.2.2 hb
  have hvb : ∀ q, v.ownBlock = some q → q ≠ b := fun q e hh => h.vp e (hh ▸ hb)
  refine hk2 W' ⟨h.x.wr y' (fun e => h.pb (e ▸ hb)), ?_, OS.oi (by rw [List.map_set]; exact hO) fun x hx => ?_, MG.ck okRowC h.m kd.ck, h.hB⟩ kd
  · obtain ⟨qs, h2, h3⟩ := h.g
    exact ⟨qs, h2.ck (y'.ck (S := fun q => q ≠ b) fun hh => hh rfl) hvb, h3.imp fun _ _ hq => okRowC.ck hq (y'.ck fun hh => hh.1.2.2 hb)⟩
  · rcases List.mem_or_eq_of_mem_set hx with h' | h'
    · exact h.p.wf x h'
    · exact h' ▸ hz
end
/-- What a pivot makes of a row. -/
def pivRow (rows : List (List Rat)) (r c : Nat) (i : Nat) : List Rat := if i = r then sclR (1 / mat rows r c) (rowat rows r) else if vat (rowat rows i) c = 0 then rowat rows i else axR (-(vat (rowat rows i) c)) (sclR (1 / mat rows r c) (rowat rows r)) (rowat rows i)
theorem pivRow_eq {rows : List (List Rat)} {r c i : Nat} (hr : r < rows.length) : pivRow rows r c i = elimT (divR rows r c) r c i := by
  unfold pivRow
  by_cases h : i = r
  · subst h; rw [if_pos rfl, elimT_at hr]
  · rw [if_neg h]
    by_cases h0 : vat (rowat rows i) c = 0
    · rw [if_pos h0, elimT_zero hr h h0]
    · rw [if_neg h0, elimT_ne hr h h0]; rfl

set_option maxHeartbeats 1000000 in
theorem tPiv1_ok (i r kc : Int) (br bp bc : Nat) (ax ap : Option Addr) (nx cx np cp L : Nat) (xs ps : List Rat) (S : Nat → Prop) (w : World) (hbr : BoxAt w br [.int .i64 r] 3) (hbp : BoxAt w bp [.slice ap np cp] 30) (hbc : BoxAt w bc [.int .i64 kc] 3) (hx : GC S w ax nx cx xs) (hp : GC S w ap np cp ps) (hxs : szV L xs) (hps : szV (2 * L) ps) (h0 : 0 ≤ kc) (h1 : kc < nx) (hn : nx ≤ LV) (hnp : np ≤ LV) (hl1 : 1 ≤ L) (hL : 15 * L + 10 < LY) (hu : Up S w) :
    Calls Try.prog 76 #[.int .i64 i, .slice ax nx cx, .pointer (some ⟨br, 0, none⟩), .pointer (some ⟨bp, 0, none⟩), .pointer (some ⟨bc, 0, none⟩)] w (fun e w' => ∃ ra rk rc, e = .returned (.slice ra rk rc) ∧ Ext w w' ∧ GC S w' ra rk rc (if i = r then ps else if vat xs kc.toNat = 0 then xs else axR (-(vat xs kc.toNat)) ps xs)) := by
 have z0 := Ext.refl w; have hLX : LX = 17592186044416 := rfl; have hLY : LY = 8796093022208 := rfl
 have hxa := hx.va hxs; have hpa := hp.va hps; have lx := hx.len; have lp := hp.len
 refine enter (args := [.int .i64 i, .slice ax nx cx, .pointer (some ⟨br, 0, none⟩), .pointer (some ⟨bp, 0, none⟩), .pointer (some ⟨bc, 0, none⟩)]) Try.func76 rfl rfl (Nat.le_of_ble_eq_true rfl) ?_
 refine V.seq (V.reg rfl ?_)
 refine ass rfl ?_
 refine vnil ?_
 refine V.seq ?_
 refine V.seq (V.reg rfl ?_)
 refine mvi rfl ?_
 refine vv (rldb (v := .int _ _) rfl sc3 hbr rfl) ?_
 refine veq rfl rfl ?_ ?_
 ·intro c1
  refine vnil ?_
  refine V.condT rfl ?_
  refine V.seq (V.reg rfl ?_)
  refine vv (rldb (v := .slice _ _ _) rfl sc30 hbp rfl) ?_
  refine ass rfl ?_
  refine vnil ?_
  refine V.ret ?_
  refine ⟨[.slice _ _ _], ⟨rfl, trivial⟩, ?_⟩
  exact ⟨_, _, _, rfl, (Ext.refl w), (hp).cast (by rw [if_pos c1])⟩
 ·intro c1
  refine vnil ?_
  refine V.condF rfl ?_
  refine V.skip ?_
  refine V.seq ?_
  refine V.seq (V.reg rfl ?_)
  refine mvs rfl ?_
  refine vv (rldb (v := .int _ _) rfl sc3 hbc rfl) ?_
  refine vv (rix sl30 sz43 rfl rfl (by omega) (by omega) (hxa.isS (i := 0) (by omega) (by omega))) ?_
  refine vldQ hxa rfl ag43 (by omega) (by omega) ?_
  intro n1 a2 l3 c4 n5 a6 l7 c8 hq9
  refine vo ?_
  refine xcall e77 (fSign_ok _ _ _ _ _ hq9 (by omega) (by omega)) rfl rfl ?_
  rintro _ W10 ⟨rfl, x11⟩
  have s12 := x11.sz
  have z13 := x11
  replace hbr := hbr.ext x11
  replace hbp := hbp.ext x11
  replace hbc := hbc.ext x11
  refine ⟨_, rfl, ?_⟩
  refine veq rfl rfl ?_ ?_
  ·intro c3
   refine vnil ?_
   refine V.condT rfl ?_
   refine V.seq (V.reg rfl ?_)
   refine mvs rfl ?_
   refine ass rfl ?_
   refine vnil ?_
   refine V.ret ?_
   refine ⟨[.slice _ _ _], ⟨rfl, trivial⟩, ?_⟩
   exact ⟨_, _, _, rfl, z13, ((hx.ext z13)).cast (by rw [if_neg c1, if_pos (cq_eq.1 c3)])⟩
  ·intro c3
   obtain ⟨en1, ea1, el1, ec1, em1, eb1, ek1, ed1, hq1, hc1⟩ := ((hxa.ext z13)).el (i := kc) (by omega) (by omega)
   have ce1 : CE W10 _ _ := hc1
   refine vnil ?_
   refine V.condF rfl ?_
   refine V.skip ?_
   refine V.seq (V.regD mixed rfl ?_)
   intro W14 x15
   have s16 := x15.sz
   have z17 := z13.trans x15
   replace hbr := hbr.ext x15
   replace hbp := hbp.ext x15
   replace hbc := hbc.ext x15
   have q18 := Ext.refl W14
   have r19 := hbr
   have r20 := hbp
   have r21 := hbc
   refine tk 0 rfl (by kernel_rfl) q18 (pv (fun _ y22 => rmv (v := .slice _ _ _) rfl)) ?_
   refine tk 1 rfl (by kernel_rfl) q18 (pv (fun _ y23 => rldb (v := .int _ _) rfl sc3 (r21.ext y23) rfl)) ?_
   refine tk 2 rfl (by kernel_rfl) q18 (pv (fun _ y24 => rix sl30 sz43 rfl rfl (by omega) (by omega) (((hxa.ext z17).ext y24).isS (i := 0) (by omega) (by omega)))) ?_
   refine tk 3 rfl (by kernel_rfl) q18 (pv (fun _ y25 => rldn (l := [.bool _, .slice _ _ _, .bool _, .slice _ _ _]) rfl ag43 rfl ((ce1.ext x15).ext y25))) ?_
   refine tk 5 rfl (by kernel_rfl) q18 (pv (fun _ y26 => rldb (v := .slice _ _ _) rfl sc30 (r20.ext y26) rfl)) ?_
   refine tk 6 rfl (by kernel_rfl) q18 (pv (fun _ y27 => rmv (v := .slice _ _ _) rfl)) ?_
   refine ef 4 (by kernel_rfl) rfl ?_
   refine xcall e78 (fNeg_ok [_, _, _, _] _ L TT _ _ (hq1.ext x15) (by omega) (by omega) (TT.up _)) rfl rfl ?_
   rintro _ W29 ⟨_, rfl, x30, hq28⟩
   have s31 := x30.sz
   have z32 := z17.trans x30
   replace hbr := hbr.ext x30
   replace hbp := hbp.ext x30
   replace hbc := hbc.ext x30
   have q33 := q18.trans x30
   obtain ⟨_, _, _, _, _, _, _, _, rfl⟩ := hq28.form
   refine ⟨_, rfl, ?_⟩
   refine ⟨fun _ => q33, ?_⟩
   refine ef 7 (by kernel_rfl) rfl ?_
   refine xcall e55 (vScl_ok [_, _, _, _] _ L TT _ _ _ _ _ _ (2 * L) L _ _ S _ _ _ (hpa.ext z32) (hxa.ext z32) ((hq28).qa (sz_neg (hq1.sz' hl1))) (by omega) (by omega) (by omega) (by omega) (by omega) (by omega) (hu.mono (by omega))) rfl rfl ?_
   rintro _ W34 ⟨_, _, _, rfl, x35, hsc⟩
   have s36 := x35.sz
   have z37 := z32.trans x35
   replace hbr := hbr.ext x35
   replace hbp := hbp.ext x35
   replace hbc := hbc.ext x35
   have q38 := q33.trans x35
   refine ⟨_, rfl, ?_⟩
   refine ⟨fun _ => q38, ?_⟩
   refine tk 8 rfl (by kernel_rfl) q38 (pv (fun _ y39 => ras (v := .slice _ _ _) rfl)) ?_
   refine dn (by kernel_rfl) ?_
   refine V.ret ?_
   refine ⟨[.slice _ _ _], ⟨rfl, trivial⟩, ?_⟩
   exact ⟨_, _, _, rfl, z37, (hsc).cast (by rw [if_neg c1, if_neg (fun h => c3 (cq_eq.2 h)), axR, lp, lx])⟩
set_option maxHeartbeats 1000000 in
theorem tAll_ok (B bw : Nat) (N : Int) (ag av : Option Addr) (ng cg cv : Nat) (goals : List (List Rat)) (pw : Value) (rows : List (List Rat)) (piv : List Int) (w : World) (hS : TS B bw N ag ng cg goals (Value.slice av rows.length cv) pw rows piv w) (row kc : Int) (br bp bc : Nat) (ap : Option Addr) (np cp L M : Nat) (hbr : BoxAt w br [.int .i64 row] 3) (hbp : BoxAt w bp [.slice ap np cp] 30) (hbc : BoxAt w bc [.int .i64 kc] 3) (hkr : KQ bw (Value.slice av rows.length cv) pw br) (hkp : KQ bw (Value.slice av rows.length cv) pw bp) (hkc : KQ bw (Value.slice av rows.length cv) pw bc) (hp : GC (SO (XS B bw pw) (Value.slice av rows.length cv)) w ap np cp (sclR (1 / mat rows row.toNat kc.toNat) (rowat rows row.toNat))) (hr : rect (M + 1) rows) (hr0 : 0 ≤ row) (hr1 : row < rows.length) (hc0' : 0 ≤ kc) (hc1 : kc < M) (hMb : M ≤ 1000) (hsz : szR L rows) (hl1 : 1 ≤ L) (hL : 15 * L + 10 < LY) :
    Calls Try.prog 75 #[.pointer (some ⟨bw, 0, none⟩), .agg #[.func (.func 76) #[] #[.pointer (some ⟨br, 0, none⟩), .pointer (some ⟨bp, 0, none⟩), .pointer (some ⟨bc, 0, none⟩)]]] w (fun e w' => e = .returned (.tuple #[]) ∧ KD (KQ bw (Value.slice av rows.length cv) pw) w w' ∧ TS B bw N ag ng cg goals (Value.slice av rows.length cv) pw (pivS rows row.toNat kc.toNat rows.length) piv w') := by
 have z0 := Ext.refl w; have hLX : LX = 17592186044416 := rfl; have hLY : LY = 8796093022208 := rfl
 have hLV : LV = 1099511627776 := rfl
 have hxt := hS.x; have lxt := hxt.lt; have hM0 : MC TT w av rows.length cv rows := hS.mc rfl; have lM := hM0.max; have hps : szV (2 * L) (sclR (1 / mat rows row.toNat kc.toNat) (rowat rows row.toNat)) := sclR_sz (sz_inv (hsz.at hl1 _ _) hl1) (hsz.row _) hl1 (by omega); have lp := hp.len; rw [sclR_len, hr.row (by omega)] at lp; have hkw : KQ bw (Value.slice av rows.length cv) pw w.heap.size := hS.upq _ (Nat.le_refl _)
 refine enter (args := [.pointer (some ⟨bw, 0, none⟩), .agg #[.func (.func 76) #[] #[.pointer (some ⟨br, 0, none⟩), .pointer (some ⟨bp, 0, none⟩), .pointer (some ⟨bc, 0, none⟩)]]]) Try.func75 rfl rfl (Nat.le_of_ble_eq_true rfl) ?_
 refine V.seq (V.reg rfl ?_)
 refine vo ?_
 refine bxa rfl ?_
 intro W1 x2 b3 nn4
 have s5 := x2.sz
 have z6 := x2
 replace hxt := hxt.ext x2
 refine vnil ?_
 refine V.seq (V.reg rfl ?_)
 refine mvp rfl ?_
 refine vv (rnc (v := .pointer (some ⟨_, _, none⟩)) rfl rfl) ?_
 refine vv (rfa rfl fd96_3) ?_
 refine vv (rldb (v := .slice _ _ _) rfl sc25 hxt rfl) ?_
 refine vv (rlen sl25 rfl) ?_
 refine mvi rfl ?_
 refine vnil ?_
 refine V.block ?_
 refine V.loopK (ι := Nat) [(0, .pointer (some ⟨_, _, none⟩)), (3, .pointer (some ⟨_, _, none⟩)), (9, .slice _ _ _), (10, .int _ _)] (fun i => [(11, .int .i64 (i : Int))]) (fun i W => i ≤ rows.length ∧ TS B bw N ag ng cg goals (Value.slice av rows.length cv) pw (pivS rows row.toNat kc.toNat i) piv W ∧ KD (KQ bw (Value.slice av rows.length cv) pw) w W ∧ BoxAt W w.heap.size [.func (.func 76) #[] #[.pointer (some ⟨br, 0, none⟩), .pointer (some ⟨bp, 0, none⟩), .pointer (some ⟨bc, 0, none⟩)]] 109) (fun i => rows.length - i) (0) ⟨rfl, rfl, rfl, rfl, trivial⟩ ⟨rfl, trivial⟩ ⟨Nat.zero_le _, (by rw [pivS_zero]; exact hS.ext z6), Ext.kd z6, b3⟩ ?_
 intro i E8 W7 h9
 obtain ⟨hi, hK, hkd, h3⟩ := h9
 have hM : MC TT W7 av rows.length cv (pivS rows row.toNat kc.toNat i) := hK.mc rfl; have hbrk := hbr.kd hkd hkr; have hbpk := hbp.kd hkd hkp; have hbck := hbc.kd hkd hkc; have hpk := hp.ck (hkd.ck.sub fun b h => so_kq h); have hxK := hK.x; have zz := Ext.refl W7; have szk := hkd.size; have l3 := h3.lt
 refine V.seq (V.reg rfl ?_)
 refine vlt rfl rfl ?_ ?_
 ·intro c10
  have hrw : rowat (pivS rows row.toNat kc.toNat i) i = rowat rows i := by rw [pivS_row (by omega), if_neg (by omega)]
  obtain ⟨ra0, rk0, rc0, hc0, hg0⟩ := hK.row rfl (i := (i : Int)) (by omega) (by omega)
  have ce0 : C1 W7 _ _ := hc0; replace hg0 := hg0.cast hrw; have hgl0 := hg0.len; have hrl0 := hr.row (i := i) (by omega)
  refine vnil ?_
  refine V.seq ?_
  refine V.condT rfl ?_
  refine V.skip ?_
  refine V.seq ?_
  refine V.block ?_
  refine V.seq (V.reg rfl ?_)
  refine mvi rfl ?_
  refine vv (rix sl25 sz30 rfl rfl (by omega) (by omega) (hM.isS (i := 0) (by omega) (by omega))) ?_
  refine vv (rld1 (v := .slice _ _ _) rfl sc30 ce0) ?_
  refine asi rfl ?_
  refine ass rfl ?_
  refine vnil ?_
  refine V.regD mixed rfl ?_
  intro W11 x12
  have s13 := x12.sz
  have z14 := x12
  replace hxK := hxK.ext x12
  replace h3 := h3.ext x12
  have q15 := Ext.refl W11
  have r16 := hxK
  have r17 := h3
  refine tk 0 rfl (by kernel_rfl) q15 (pv (fun _ y18 => rmv (v := .pointer (some ⟨_, _, none⟩)) rfl)) ?_
  refine tk 1 rfl (by kernel_rfl) q15 (pv (fun _ y19 => rnc (v := .pointer (some ⟨_, _, none⟩)) rfl rfl)) ?_
  refine tk 2 rfl (by kernel_rfl) q15 (pv (fun _ y20 => rfa rfl fd96_3)) ?_
  refine tk 3 rfl (by kernel_rfl) q15 (pv (fun _ y21 => rldb (v := .slice _ _ _) rfl sc25 (r16.ext y21) rfl)) ?_
  refine tk 4 rfl (by kernel_rfl) q15 (pv (fun _ y22 => rmv (v := .int _ _) rfl)) ?_
  refine tk 5 rfl (by kernel_rfl) q15 (pv (fun _ y23 => rfa rfl fd109_0)) ?_
  refine tk 6 rfl (by kernel_rfl) q15 (pv (fun _ y24 => rldb (v := .func _ _ _) rfl sc107 (r17.ext y24) rfl)) ?_
  refine tk 7 rfl (by kernel_rfl) q15 (pv (fun _ y25 => rmv (v := .int _ _) rfl)) ?_
  refine tk 8 rfl (by kernel_rfl) q15 (pv (fun _ y26 => rmv (v := .slice _ _ _) rfl)) ?_
  refine ef 9 (by kernel_rfl) rfl ?_
  refine xcall e76 (tPiv1_ok (i : Int) row kc br bp bc ra0 ap rk0 rc0 np cp L _ _ (SO (XS B bw pw) (Value.slice av rows.length cv)) _ (hbrk.ext z14) (hbpk.ext z14) (hbck.ext z14) (hg0.ext z14) (hpk.ext z14) (hsz.row i) hps hc0' (by omega) (by omega) (by omega) hl1 hL (hK.ext z14).up) rfl rfl ?_
  rintro _ Wp ⟨ra1, rk1, rc1, rfl, xp, hrr⟩
  refine ⟨_, rfl, ?_⟩
  replace hrr := hrr.cast (rs' := pivRow rows row.toNat kc.toNat i) (by
    unfold pivRow
    by_cases h : (i : Int) = row
    ·rw [if_pos h, if_pos (show i = row.toNat by omega)]
    ·rw [if_neg h, if_neg (show ¬ i = row.toNat by omega)])
  have s27 := xp.sz
  have z28 := z14.trans xp
  replace hxK := hxK.ext xp
  replace h3 := h3.ext xp
  have q29 := q15.trans xp
  refine ⟨fun _ => q29, ?_⟩
  refine tk 10 rfl (by kernel_rfl) q29 (pv (fun _ y30 => rix sl25 sz30 rfl rfl (by omega) (by omega) (((hM.ext z14).ext y30).isS (i := 0) (by omega) (by omega)))) ?_
  refine ef 11 (by kernel_rfl) rfl ?_
  refine xstT (hK.ext z28) rfl rfl rfl sz30 (by omega) (by omega) hrr ?_
  intro Wq hS9 kd9
  refine lastT (by kernel_rfl) ?_
  refine dn (by kernel_rfl) ?_
  refine V.reg rfl ?_
  refine vv (rbin (bAdd (wi (by omega))) rfl rfl) ?_
  refine mvi rfl ?_
  refine vnil ?_
  refine ⟨rfl, i + 1, ⟨rfl, rfl, rfl, rfl, trivial⟩, ⟨rfl, trivial⟩, ⟨by omega, (by rw [pivS_succ (by omega), ← pivRow_eq (by omega)]; exact hS9), (hkd.trans (Ext.kd z28)).trans kd9, h3.kd kd9 hkw⟩, ?_⟩
  show rows.length - (i + 1) < rows.length - i
  omega
 ·intro c10
  refine vnil ?_
  refine V.seq ?_
  refine V.condF rfl ?_
  refine V.exit ?_
  refine ⟨[], trivial, ?_⟩
  have ei : i = rows.length := by omega
  subst ei
  exact ⟨rfl, hkd.trans (Ext.kd zz), hK.ext zz⟩
end Go.Proofs.Ytknbjfefeeojlaa
/- A region that draws its order, where the operations that break a load rest on it through others. -/
namespace Go.Proofs.Ytknbjfefeeojlaa
open Go.RowKit
section
variable {r : Option Nat} {P : Program} {N : Nat} {ops : Array Oper} {S S' : World → Prop} {R : Env → World → Prop} {fuel i : Nat} {listed : Array Bool} {E : Env} {W : World} {d : Option Tmp} {op : Op} {t : Tmp} {ty : TypeId} {pos : String} {af : Array Edge} {ds : List Deferred} {Q : EQ} {v : Value} {bs : List Nat} {oi : Oper}
def depZ (ops : Array Oper) (bs Z : List Nat) (i : Nat) : Bool := bs.all (fun b => Z.contains b) && Z.all fun z => match ops[z]? with
  | none => false
  | some o => o.after.any fun e => Region.binds .any e && (e.on == i || Z.contains e.on)
/-- None of them was done. -/
def unl (Z : List Nat) (listed : Array Bool) : Bool := Z.all fun z => !(listed.getD z true)
theorem unl_at {Z : List Nat} {z : Nat} (h : unl Z listed = true) (hz : z ∈ Z) : listed.getD z true = false := by
  have := List.all_eq_true.1 h z hz
  simpa using this
theorem unl_set {Z : List Nat} {j : Nat} (h : unl Z listed = true) (hj : j ∉ Z) : unl Z (listed.setIfInBounds j true) = true := by
  unfold unl
  rw [List.all_eq_true]
  intro z hz
  have hne : j ≠ z := fun e => hj (e ▸ hz)
  rw [getD_set_ne true hne, unl_at h hz]; rfl
theorem VB.firstZ (Z : List Nat) (hi : ops[i]? = some oi) (hbi : bs.contains i = false) (hsel : ∀ (j : Nat) (o : Oper) cs b, ops[j]? = some o → o.op ≠ .select cs b) (hk : depZ ops bs Z i = true) :
    ∀ (fuel : Nat) (listed : Array Bool) (E : Env) (W : World),
      (∀ j oj, ops[j]? = some oj → j ≠ i → listed.getD j true = false → (∀ e ∈ oj.after, Region.binds .any e = true → e.on ≠ i) → oi.apart ops oj = true) →
      i ∈ Region.ready .any ops listed → PureIf P ops S oi v E → whole bs listed = true → unl Z listed = true → S W →
      VB bs r P ops S R fuel (listed.setIfInBounds i true) (puto E oi.dst v) W → VB bs r P ops S R (fuel + 1) listed E W := by
  unfold depZ at hk
  rw [Bool.and_eq_true, List.all_eq_true, List.all_eq_true] at hk
  intro fuel
  induction fuel with
  | zero =>
    intro listed E W _ hr hy hw hu hS H
    refine ⟨fun h => (by rw [h] at hr; cases hr), fun j hj => ?_⟩
    by_cases hji : j = i
    · subst hji
      exact hy.opI hi hS ⟨fun _ => hS, H⟩
    · have := ready_mono hj hji
      rw [H.1] at this
      cases this
  | succ fuel ih =>
    intro listed E W hfree hr hy hw hu hS H
    refine ⟨fun h => (by rw [h] at hr; cases hr), fun j hj => ?_⟩
    by_cases hji : j = i
    · subst hji
      exact hy.opI hi hS ⟨fun _ => hS, H⟩
    · have h1 := H.2 j (ready_mono hj hji)
      obtain ⟨hjun, oj, hoj, hall⟩ := mem_ready.1 hj
      have hun : ∀ k, listed.getD k true = false → ∀ e ∈ oj.after, Region.binds .any e = true → e.on ≠ k := fun k h0 e he hb heq => by
        have h1 := hall e he hb
        rw [heq] at h1
        rcases Nat.lt_or_ge k listed.size with h' | h'
        · simp [h'] at h0 h1; rw [h0] at h1; cases h1
        · simp [Array.getElem?_eq_none h'] at h1
      have hnot := hun i (mem_ready.1 hr).1
      have hjZ : j ∉ Z := fun hz => by
        have h5 := hk.2 j hz
        simp only [hoj] at h5
        obtain ⟨e, he, hb⟩ := Array.any_eq_true'.1 h5
        simp only [Bool.and_eq_true, Bool.or_eq_true, beq_iff_eq] at hb
        rcases hb.2 with h6 | h6
        · exact hnot e he hb.1 h6
        · exact hun e.on (unl_at hu (by simpa using h6)) e he hb.1 rfl
      have h2 := opI_put (r := r) hoj (hfree j oj hoj hji hjun hnot) (fun cs b => hsel i oi cs b hi) (fun cs b => hsel j oj cs b hoj) hy h1
      have hfree' : ∀ k ok, ops[k]? = some ok → k ≠ i → (listed.setIfInBounds j true).getD k true = false →
          (∀ e ∈ ok.after, Region.binds .any e = true → e.on ≠ i) → oi.apart ops ok = true := fun k ok hk hki hun hno => by
        refine hfree k ok hk hki ?_ hno
        by_cases hjk : j = k
        · subst hjk; exact hjun
        · rw [getD_set_ne true hjk] at hun; exact hun
      have hnb : bs.contains j = false := by
        cases hc : bs.contains j with
        | false => rfl
        | true => exact absurd (by simpa using hk.1 j (by simpa using hc)) hjZ
      refine h2.mono fun E' W' h3 => ⟨fun hb => ?_, ih (listed.setIfInBounds j true) E' W' hfree' (ready_mono hr (Ne.symm hji)) h3.1 (whole_set hw hnb) (unl_set hu hjZ) (h3.2.1 ?_) ?_⟩
      · refine h3.2.1 ?_
        rw [Array.setIfInBounds_comm _ _ (Ne.symm hji)]; exact whole_set hb hbi
      · rw [Array.setIfInBounds_comm _ _ (Ne.symm hji)]; exact whole_set (whole_set hw hnb) hbi
      · rw [Array.setIfInBounds_comm _ _ hji]
        exact h3.2.2
/-- A load that stands ahead of all that break, through others. -/
theorem tkZ {g : Option (Nat × Bool)} (Z : List Nat) (i : Nat) (hi : ops[i]? = some ⟨some t, op, ty, pos, af, g⟩) (hf : (Region.noSelect ops && Region.free .any ops listed i && (Region.ready .any ops listed).contains i && !(bs.contains i) && depZ ops bs Z i && unl Z listed && whole bs listed) = true) (hS : S W) (hy : PureIf P ops S ⟨some t, op, ty, pos, af, g⟩ v E)
    (k : VB bs r P ops S R fuel (listed.setIfInBounds i true) (up E t v) W) : VB bs r P ops S R (fuel + 1) listed E W := by
  simp only [Bool.and_eq_true, Bool.not_eq_true'] at hf
  obtain ⟨⟨⟨⟨⟨⟨h1, h2⟩, h3⟩, h4⟩, h5⟩, h6⟩, h7⟩ := hf
  exact VB.firstZ Z hi h4 (Region.noSelect_spec h1) h5 fuel listed E W (Region.free_spec hi h2) (by simpa using h3) hy h7 h6 hS k
end
end Go.Proofs.Ytknbjfefeeojlaa

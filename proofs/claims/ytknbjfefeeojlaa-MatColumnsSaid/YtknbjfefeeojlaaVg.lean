/- Package vec: adder. -/
import Derived.Test.YtknbjfefeeojlaaVf
namespace Go.Proofs.Ytknbjfefeeojlaa
open Go.RowKit
attribute [local irreducible] RV VH V OpF Calls

set_option maxHeartbeats 400000 in
theorem adder_ok (w : World) :
    Calls Try.prog 58 #[] w (fun e w' => ∃ b, b = w.heap.size ∧ e = .returned (.func (.func 87) #[] #[.pointer (some ⟨b, 0, none⟩)]) ∧ Ext w w' ∧ BoxAt w' b zq 43) := by
  have z0 := Ext.refl w; have hLX : LX = 17592186044416 := rfl; have hLY : LY = 8796093022208 := rfl
  refine enter (args := []) Try.func58 rfl rfl (Nat.le_of_ble_eq_true rfl) ?_
  refine V.seq (V.reg rfl ?_)
  refine asn rfl ?_
  refine vnil ?_
  refine V.seq (V.reg rfl ?_)
  refine vv (rbd (ps := []) (cs := [.bool false, .slice _ _ _, .bool false, .slice _ _ _]) pl43 rfl rfl) ?_
  refine vo ?_
  refine xal zc43 ?_
  intro W1 x2 b3 nn4
  have s5 := x2.sz
  have z6 := x2
  refine vo ?_
  refine sta (cs' := [_, _, _, _]) b3 rfl rfl sz43 rfl rfl rfl ?_
  intro W7 y8 b3
  have z9 := z6.below (y8.below (by omega))
  have s10 := y8.size
  refine vnil ?_
  refine V.seq (V.reg rfl ?_)
  refine vv (rmk1 (v := .pointer (some ⟨_, _, none⟩)) rfl) ?_
  refine asf rfl ?_
  refine vnil ?_
  refine V.ret ?_
  refine ⟨[.func _ _ _], ⟨rfl, trivial⟩, ?_⟩
  exact ⟨_, rfl, rfl, z9, b3⟩
set_option maxHeartbeats 400000 in
theorem add1_ok (q1 q2 : List Value) (r1 r2 : Rat) (L1 L2 : Nat) (S S1 S2 : Nat → Prop) (w : World) (b : Nat) (hb : BoxAt w b q2 43) (h1 : QA L1 S1 w q1 r1) (h2 : QA L2 S2 w q2 r2) (hL : L1 + L2 < LY) (hl1 : 1 ≤ L1) (hl2 : 1 ≤ L2) (hu : Up S w) :
    Calls Try.prog 87 #[.agg q1.toArray, .pointer (some ⟨b, 0, none⟩)] w (fun e w' => ∃ q, e = .returned (.agg q.toArray) ∧ KD (fun k => k ≠ b) w w' ∧ (∀ (k : Nat) (o : Obj), w.heap[k]? = some o → o.isCells = false → w'.heap[k]? = some o) ∧ BoxAt w' b q 43 ∧ QC (fun x => S x ∧ x ≠ b) w' q (r2 + r1)) := by
  have z0 := Ext.refl w; have hLX : LX = 17592186044416 := rfl; have hLY : LY = 8796093022208 := rfl
  obtain ⟨n1, a1, l1, c1, n2, a2, l2, c2, rfl⟩ := h1.form; obtain ⟨n3, a3, l3, c3, n4, a4, l4, c4, rfl⟩ := h2.form
  have lb := hb.lt; have kb0 := hb
  have hu2 : ∀ W : World, w.heap.size + 2 ≤ W.heap.size → Up (SX S [b, w.heap.size + 1]) W := fun W hW => SX.up (hu.mono (by omega)) (by simp <;> omega)
  refine enter (args := [.agg #[.bool n1, .slice a1 l1 c1, .bool n2, .slice a2 l2 c2], .pointer (some ⟨b, 0, none⟩)]) Try.func87 rfl rfl (Nat.le_of_ble_eq_true rfl) ?_
  refine V.seq (V.reg rfl ?_)
  refine vo ?_
  refine bxa rfl ?_
  intro W1 x2 b3 nn4
  have s5 := x2.sz
  have z6 := x2
  replace kb0 := kb0.ext x2
  refine vo ?_
  refine xal zc43 ?_
  intro W7 x8 b9 nn10
  have s11 := x8.sz
  have z12 := z6.trans x8
  replace kb0 := kb0.ext x8
  replace b3 := b3.ext x8
  refine vnil ?_
  refine V.seq (V.reg rfl ?_)
  refine vv (rldb4 rfl ag43 kb0 rfl rfl rfl rfl ) ?_
  refine vv (rldb4 rfl ag43 b3 rfl rfl rfl rfl ) ?_
  refine vo ?_
  refine xcall e86 (fAdd_ok _ _ _ _ _ _ _ _ _ _ (h2.ext z12) (h1.ext z12) (by omega) (by omega) (by omega) (hu2 _ (by omega))) rfl rfl ?_
  rintro _ W14 ⟨_, rfl, x15, hq13⟩
  have s16 := x15.sz
  have z17 := z12.trans x15
  replace kb0 := kb0.ext x15
  replace b3 := b3.ext x15
  replace b9 := b9.ext x15
  obtain ⟨_, _, _, _, _, _, _, _, rfl⟩ := hq13.form
  refine ⟨_, rfl, ?_⟩
  refine vo ?_
  have bo18 := kb0
  refine sta (cs' := [_, _, _, _]) kb0 rfl rfl sz43 rfl rfl rfl ?_
  intro W19 y20 kb0
  replace b3 := b3.wr y20 (by omega)
  replace b9 := b9.wr y20 (by omega)
  have s21 := y20.size
  refine vnil ?_
  refine V.seq (V.reg rfl ?_)
  refine vv (rldb4 rfl ag43 kb0 rfl rfl rfl rfl ) ?_
  refine vo ?_
  have bo22 := b9
  refine sta (cs' := [_, _, _, _]) b9 rfl rfl sz43 rfl rfl rfl ?_
  intro W23 y24 b9
  replace kb0 := kb0.wr y24 (by omega)
  replace b3 := b3.wr y24 (by omega)
  have s25 := y24.size
  refine vnil ?_
  refine V.ret ?_
  refine ⟨[_], ⟨⟨_, rfl, lvb ag43 b9 rfl⟩, trivial⟩, ?_⟩
  have hkd : KD (fun k => k < w.heap.size ∧ k ≠ b) w W23 := ((Ext.kd x2).trans ((Ext.kd x8).trans ((Ext.kd x15).trans ((y20.kd (fun hh => by omega)).trans (y24.kd (fun hh => by omega))))))
  have hkb : KB 0 w W23 := ((KB.ext x2 (Nat.zero_le _)).trans ((KB.ext x8 (Nat.zero_le _)).trans ((KB.ext x15 (Nat.zero_le _)).trans ((KB.wr y20 bo18 (Nat.zero_le _)).trans (KB.wr y24 bo22 (Nat.zero_le _))))))
  refine ⟨_, rfl, ⟨hkd.os, hkd.tape, hkd.output, hkd.size, fun k hk hl => hkd.block k ⟨hl, hk⟩ hl⟩, hkb.recs, kb0, ?_⟩
  exact ((hq13.ck ((y20.ck (by intro hh; simp [SX] at hh <;> omega)).trans (y24.ck (by intro hh; simp [SX] at hh <;> omega))))).sub (fun q _ hq => by have h1 := hq; simp only [SX] at h1; exact ⟨h1.1, by intro e; subst e; simp_all⟩)
end Go.Proofs.Ytknbjfefeeojlaa

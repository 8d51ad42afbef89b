/- Package vec: Unit, Dot. -/
import Derived.Test.YtknbjfefeeojlaaVe
namespace Go.Proofs.Ytknbjfefeeojlaa
open Go.RowKit
attribute [local irreducible] RV VH V OpF Calls
def unitv (N : Nat) (k : Int) : List Rat := if 0 ≤ k ∧ k < N then (List.replicate N 0).set k.toNat 1 else List.replicate N 0

set_option maxHeartbeats 400000 in
theorem vUnit_ok (z k : Int) (N : Nat) (S : Nat → Prop) (w : World) (hN : min (max z 0) 65536 = (N : Int)) (hu : Up S w) :
    Calls Try.prog 19 #[.int .i64 z, .int .i64 k] w (fun e w' => ∃ ra rk rc, e = .returned (.slice ra rk rc) ∧ Ext w w' ∧ GC S w' ra rk rc (unitv N k)) := by
  have z0 := Ext.refl w; have hLX : LX = 17592186044416 := rfl; have hLY : LY = 8796093022208 := rfl
  have hNN : N ≤ 65536 := by omega
  have hu2 : ∀ W : World, w.heap.size + 1 ≤ W.heap.size → Up (SX S [w.heap.size]) W := fun W hW => SX.up (hu.mono (by omega)) (by simp <;> omega)
  refine enter (args := [.int .i64 z, .int .i64 k]) Try.func19 rfl rfl (Nat.le_of_ble_eq_true rfl) ?_
  refine V.seq (V.reg rfl ?_)
  refine ass rfl ?_
  refine vnil ?_
  refine V.seq (V.reg rfl ?_)
  refine mvi rfl ?_
  refine vv (rmax rfl rfl rfl) ?_
  refine vv (rmin rfl rfl hN) ?_
  refine vo ?_
  refine xmkS (zs := [.bool false, .slice _ _ _, .bool false, .slice _ _ _]) (N) sl30 in43 rfl rfl rfl rfl rfl (by omega) (by omega) (by omega) ?_
  intro W1 x2 out n3
  have s4 := x2.sz
  have z5 := x2
  refine ass rfl ?_
  refine vnil ?_
  refine V.seq ?_
  refine V.seq (V.reg rfl ?_)
  refine mvi rfl ?_
  refine vge rfl rfl ?_ ?_
  · intro c6
    refine mvb rfl ?_
    refine vg rfl ?_
    refine mvi rfl ?_
    refine vg rfl ?_
    refine mvs rfl ?_
    refine vg rfl ?_
    refine vv (rlen sl30 rfl) ?_
    refine vg rfl ?_
    refine vlt rfl rfl ?_ ?_
    · intro c7
      refine vv (rpk (v := .bool true) rfl rfl) ?_
      refine vnil ?_
      refine V.condT rfl ?_
      refine V.reg rfl ?_
      refine mvs rfl ?_
      refine mvi rfl ?_
      refine vo ?_
      refine xcall e37 (fFrom_ok _ _ _ (by omega) (hu2 _ (by omega))) rfl rfl ?_
      rintro _ W9 ⟨_, rfl, x10, hq8⟩
      have s11 := x10.sz
      have z12 := z5.trans x10
      replace out := out.ext x10
      obtain ⟨_, _, _, _, _, _, _, _, rfl⟩ := hq8.form
      refine ⟨_, rfl, ?_⟩
      refine vv (rix sl30 sz43 rfl rfl (by omega) (by omega) rfl) ?_
      refine vo ?_
      refine xstq (q := [.bool _, .slice _ _ _, .bool _, .slice _ _ _]) out rfl rfl rfl sz43 rfl rfl (by omega) (by omega) ?_
      intro W13 y14 out
      have z15 := z12.below (y14.below (by omega))
      have s16 := y14.size
      refine vnil ?_
      refine V.seq (V.reg rfl ?_)
      refine mvs rfl ?_
      refine ass rfl ?_
      refine vnil ?_
      refine V.ret ?_
      refine ⟨[.slice _ _ _], ⟨rfl, trivial⟩, ?_⟩
      refine ⟨_, _, _, rfl, z15, _, out.rs (hu _ (by omega)), ?_⟩
      rw [unitv, if_pos (show 0 ≤ k ∧ k < (N : Int) from ⟨by omega, by omega⟩)]
      exact (All2.rep (QC.zero S _) N).set ((hq8.ck (y14.ck (by intro hh; simp [SX] at hh <;> omega)))).un
    · intro c7
      refine vv (rpk (v := .bool false) rfl rfl) ?_
      refine vnil ?_
      refine V.condF rfl ?_
      refine V.skip ?_
      refine V.seq (V.reg rfl ?_)
      refine mvs rfl ?_
      refine ass rfl ?_
      refine vnil ?_
      refine V.ret ?_
      refine ⟨[.slice _ _ _], ⟨rfl, trivial⟩, ?_⟩
      refine ⟨_, _, _, rfl, z5, _, out.rs (hu _ (by omega)), ?_⟩
      rw [unitv, if_neg (show ¬ (0 ≤ k ∧ k < (N : Int)) from by omega)]
      exact All2.rep (QC.zero S _) N
  · intro c6
    refine mvb rfl ?_
    refine vgn (b := false) rfl rfl ?_
    refine vgn (b := false) rfl rfl ?_
    refine vgn (b := false) rfl rfl ?_
    refine vgn (b := false) rfl rfl ?_
    refine vv (rpk (v := .bool false) rfl rfl) ?_
    refine vnil ?_
    refine V.condF rfl ?_
    refine V.skip ?_
    refine V.seq (V.reg rfl ?_)
    refine mvs rfl ?_
    refine ass rfl ?_
    refine vnil ?_
    refine V.ret ?_
    refine ⟨[.slice _ _ _], ⟨rfl, trivial⟩, ?_⟩
    refine ⟨_, _, _, rfl, z5, _, out.rs (hu _ (by omega)), ?_⟩
    rw [unitv, if_neg (show ¬ (0 ≤ k ∧ k < (N : Int)) from by omega)]
    exact All2.rep (QC.zero S _) N
end Go.Proofs.Ytknbjfefeeojlaa

/- Package mat: cut, the closures of grid. -/
import Derived.Test.YtknbjfefeeojlaaMb
namespace Go.Proofs.Ytknbjfefeeojlaa
open Go.RowKit
attribute [local irreducible] RV VH V OpF Calls

set_option maxHeartbeats 400000 in
theorem mcut_ok (z : Int) (w : World) :
    Calls Try.prog 31 #[.int .i64 z] w (fun e w' => e = .returned (.int .i64 (min (max z 0) 1024)) ∧ w = w') := by
  have z0 := Ext.refl w; have hLX : LX = 17592186044416 := rfl; have hLY : LY = 8796093022208 := rfl
  refine enter (args := [.int .i64 z]) Try.func31 rfl rfl (Nat.le_of_ble_eq_true rfl) ?_
  refine V.seq (V.reg rfl ?_)
  refine asi rfl ?_
  refine vnil ?_
  refine V.seq (V.reg rfl ?_)
  refine mvi rfl ?_
  refine vv (rmax rfl rfl rfl) ?_
  refine vv (rmin rfl rfl rfl) ?_
  refine asi rfl ?_
  refine vnil ?_
  refine V.ret ?_
  refine ⟨[.int _ _], ⟨rfl, trivial⟩, ?_⟩
  exact ⟨rfl, rfl⟩
set_option maxHeartbeats 400000 in
theorem mRes1_ok (a1 : Option Addr) (n c : Nat) (i k : Int) (b : Nat) (L1 : Nat) (rss : List (List Rat)) (S S1 : Nat → Prop) (w : World) (hb : BoxAt w b [.slice a1 n c] 25) (hx : MA L1 S1 w a1 n c rss) (hL : L1 < LY) (hl1 : 1 ≤ L1) (hu : Up S w) :
    Calls Try.prog 32 #[.int .i64 i, .int .i64 k, .pointer (some ⟨b, 0, none⟩)] w (PQ S (matI rss i k) w) := by
  have z0 := Ext.refl w; have hLX : LX = 17592186044416 := rfl; have hLY : LY = 8796093022208 := rfl
  have lb := hb.lt
  have hu2 : ∀ W : World, w.heap.size + 1 ≤ W.heap.size → Up (SX S [w.heap.size]) W := fun W hW => SX.up (hu.mono (by omega)) (by simp <;> omega)
  refine enter (args := [.int .i64 i, .int .i64 k, .pointer (some ⟨b, 0, none⟩)]) Try.func32 rfl rfl (Nat.le_of_ble_eq_true rfl) ?_
  refine V.seq (V.reg rfl ?_)
  refine vo ?_
  refine xal zc43 ?_
  intro W1 x2 b3 nn4
  have s5 := x2.sz
  have z6 := x2
  replace hb := hb.ext x2
  refine vnil ?_
  refine V.seq (V.reg rfl ?_)
  refine vv (rldb (v := .slice _ _ _) rfl sc25 hb rfl) ?_
  refine mvi rfl ?_
  refine mvi rfl ?_
  refine vo ?_
  refine xcall e21 (mAt_ok _ _ _ _ _ _ _ _ _ _ (hx.ext z6) (by omega) (by omega) (hu2 _ (by omega))) rfl rfl ?_
  rintro _ W8 ⟨_, rfl, x9, hq7⟩
  have s10 := x9.sz
  have z11 := z6.trans x9
  replace hb := hb.ext x9
  replace b3 := b3.ext x9
  obtain ⟨_, _, _, _, _, _, _, _, rfl⟩ := hq7.form
  refine ⟨_, rfl, ?_⟩
  refine vo ?_
  refine sta (cs' := [_, _, _, _]) b3 rfl rfl sz43 rfl rfl rfl ?_
  intro W12 y13 b3
  have z14 := z11.below (y13.below (by omega))
  replace hb := hb.wr y13 (by omega)
  have s15 := y13.size
  refine vnil ?_
  refine V.ret ?_
  refine ⟨[_], ⟨⟨_, rfl, lvb ag43 b3 rfl⟩, trivial⟩, ?_⟩
  exact ⟨_, rfl, z14, ((hq7.ck (y13.ck (by intro hh; simp [SX] at hh <;> omega)))).un⟩

abbrev HG (fF : Nat) (cap : List Value) (atf : Int → Int → Rat) (R C : Nat) (w : World) : Prop :=
  ∀ (W : World) (i k : Nat) (S' : Nat → Prop), Ext w W → Up S' W → i < R → k < C → Calls Try.prog fF (([.int .i64 (i : Int), .int .i64 (k : Int)] : List Value) ++ cap).toArray W (PQ S' (atf i k) W)
def rowg (atf : Int → Int → Rat) (i : Int) (C k : Nat) : List Rat := (List.range C).map fun j : Nat => if j < k then atf i (j : Int) else 0
def gridm (atf : Int → Int → Rat) (R C : Nat) : List (List Rat) := (List.range R).map fun i : Nat => (List.range C).map fun j : Nat => atf (i : Int) (j : Int)
theorem rowg_zero (atf : Int → Int → Rat) (i : Int) (C : Nat) : rowg atf i C 0 = List.replicate C 0 := by
  apply List.ext_getElem <;> simp [rowg]
theorem rowg_succ (atf : Int → Int → Rat) (i : Int) (C k : Nat) : (rowg atf i C k).set k (atf i k) = rowg atf i C (k + 1) := by
  apply List.ext_getElem
  · simp [rowg]
  · intro j h1 h2
    simp only [rowg, List.getElem_set, List.getElem_map, List.getElem_range]
    by_cases h : k = j
    · subst h; simp
    · rw [if_neg h]
      by_cases h3 : j < k
      · rw [if_pos h3, if_pos (by omega)]
      · rw [if_neg h3, if_neg (by omega)]
theorem rowg_full (atf : Int → Int → Rat) (i : Int) (C : Nat) : rowg atf i C C = (List.range C).map fun j : Nat => atf i (j : Int) := by
  apply List.ext_getElem
  · simp [rowg]
  · intro j h1 h2
    simp [rowg] at h1 ⊢
    intro h; omega
theorem gridm_succ (atf : Int → Int → Rat) (R C : Nat) : gridm atf (R + 1) C = gridm atf R C ++ [(List.range C).map fun j : Nat => atf (R : Int) (j : Int)] := by simp [gridm, List.range_succ]

end Go.Proofs.Ytknbjfefeeojlaa

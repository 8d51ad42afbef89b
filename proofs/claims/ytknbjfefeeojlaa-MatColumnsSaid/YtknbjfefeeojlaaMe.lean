/- Package mat: Resize, Transpose. -/
import Derived.Test.YtknbjfefeeojlaaMd
namespace Go.Proofs.Ytknbjfefeeojlaa
open Go.RowKit
attribute [local irreducible] RV VH V OpF Calls
theorem mcut_ok' (z : Int) (N : Nat) (w : World) (h : min (max z 0) 1024 = (N : Int)) : Calls Try.prog 31 #[.int .i64 z] w fun e w' => e = .returned (.int .i64 (N : Int)) ∧ w = w' := by rw [← h]; exact mcut_ok z w

set_option maxHeartbeats 400000 in
theorem mResize_ok (a1 : Option Addr) (n c : Nat) (y z : Int) (R C : Nat) (L1 : Nat) (rss : List (List Rat)) (S S1 : Nat → Prop) (w : World) (hx : MA L1 S1 w a1 n c rss) (hR : min (max y 0) 1024 = (R : Int)) (hC : min (max z 0) 1024 = (C : Int)) (hL : L1 < LY) (hl1 : 1 ≤ L1) (hsz : ∀ i k : Nat, sz L1 (matI rss i k)) (hu : Up S w) :
    Calls Try.prog 11 #[.slice a1 n c, .int .i64 y, .int .i64 z] w (fun e w' => ∃ ra rk rc, e = .returned (.slice ra rk rc) ∧ Ext w w' ∧ MC S w' ra rk rc (gridm (matI rss) R C)) := by
  have z0 := Ext.refl w; have hLX : LX = 17592186044416 := rfl; have hLY : LY = 8796093022208 := rfl
  have hLV : LV = 1099511627776 := rfl
  refine enter (args := [.slice a1 n c, .int .i64 y, .int .i64 z]) Try.func11 rfl rfl (Nat.le_of_ble_eq_true rfl) ?_
  refine V.seq (V.reg rfl ?_)
  refine vo ?_
  refine bxs rfl ?_
  intro W1 x2 b3 nn4
  have s5 := x2.sz
  have z6 := x2
  refine ass rfl ?_
  refine vnil ?_
  refine V.seq (V.reg rfl ?_)
  refine mvi rfl ?_
  refine vo ?_
  refine xcall e31 (mcut_ok' _ R _ hR) rfl rfl ?_
  rintro _ _ ⟨rfl, rfl⟩
  refine ⟨_, rfl, ?_⟩
  refine mvi rfl ?_
  refine vo ?_
  refine xcall e31 (mcut_ok' _ C _ hC) rfl rfl ?_
  rintro _ _ ⟨rfl, rfl⟩
  refine ⟨_, rfl, ?_⟩
  refine vv (rmk1 (v := .pointer (some ⟨_, _, none⟩)) rfl) ?_
  refine vv (rbd (ps := [(0, .int _ _), (1, .int _ _), (2, .func _ _ _)]) (cs := [.int _ _, .int _ _, .func _ _ _]) pl55 rfl rfl) ?_
  refine vo ?_
  refine xcall e33 (gmade_ok R C 32 [.pointer (some ⟨w.heap.size, 0, none⟩)] (matI rss) L1 S _ e32 (fun W i k S' x u _ _ => mRes1_ok _ _ _ i k _ L1 rss S' S1 W (b3.ext x) ((hx.ext z6).ext x) hL hl1 u) hsz hL hl1 (by omega) (by omega) (hu.mono (by omega))) rfl rfl ?_
  rintro _ W9 ⟨_, _, _, rfl, x10, hv⟩
  have s11 := x10.sz
  have z12 := z6.trans x10
  replace b3 := b3.ext x10
  refine ⟨_, rfl, ?_⟩
  refine ass rfl ?_
  refine vnil ?_
  refine V.ret ?_
  refine ⟨[.slice _ _ _], ⟨rfl, trivial⟩, ?_⟩
  exact ⟨_, _, _, rfl, z12, hv⟩

def catI (rss mss : List (List Rat)) (N : Nat) (i k : Int) : Rat := if k < N then matI rss i k else matI mss i (k - N)

set_option maxHeartbeats 400000 in
theorem mCat1_ok (a1 a2 : Option Addr) (n c m d : Nat) (i k : Nat) (N : Nat) (b1 b2 b3 : Nat) (L1 L2 : Nat) (rss mss : List (List Rat)) (S S1 S2 : Nat → Prop) (w : World) (h1 : BoxAt w b1 [.int .i64 (N : Int)] 3) (h2 : BoxAt w b2 [.slice a1 n c] 25) (h3 : BoxAt w b3 [.slice a2 m d] 25) (hx : MA L1 S1 w a1 n c rss) (hy : MA L2 S2 w a2 m d mss) (hL : L1 < LY) (hl1 : 1 ≤ L1) (hL2 : L2 < LY) (hl2 : 1 ≤ L2) (hk : (k : Int) ≤ 9223372036854775807) (hu : Up S w) :
    Calls Try.prog 40 #[.int .i64 (i : Int), .int .i64 (k : Int), .pointer (some ⟨b1, 0, none⟩), .pointer (some ⟨b2, 0, none⟩), .pointer (some ⟨b3, 0, none⟩)] w (PQ S (catI rss mss N i k) w) := by
  have z0 := Ext.refl w; have hLX : LX = 17592186044416 := rfl; have hLY : LY = 8796093022208 := rfl
  have lb1 := h1.lt; have lb2 := h2.lt; have lb3 := h3.lt
  have hu2 : ∀ W : World, w.heap.size + 1 ≤ W.heap.size → Up (SX S [w.heap.size]) W := fun W hW => SX.up (hu.mono (by omega)) (by simp <;> omega)
  refine enter (args := [.int .i64 (i : Int), .int .i64 (k : Int), .pointer (some ⟨b1, 0, none⟩), .pointer (some ⟨b2, 0, none⟩), .pointer (some ⟨b3, 0, none⟩)]) Try.func40 rfl rfl (Nat.le_of_ble_eq_true rfl) ?_
  refine V.seq (V.reg rfl ?_)
  refine vo ?_
  refine xal zc43 ?_
  intro W1 x2 b3 nn4
  have s5 := x2.sz
  have z6 := x2
  replace h1 := h1.ext x2
  replace h2 := h2.ext x2
  replace h3 := h3.ext x2
  refine vnil ?_
  refine V.seq ?_
  refine V.seq (V.reg rfl ?_)
  refine mvi rfl ?_
  refine vv (rldb (v := .int _ _) rfl sc3 h1 rfl) ?_
  refine vlt rfl rfl ?_ ?_
  · intro c1
    refine vnil ?_
    refine V.condT rfl ?_
    refine V.seq (V.reg rfl ?_)
    refine vv (rldb (v := .slice _ _ _) rfl sc25 h2 rfl) ?_
    refine mvi rfl ?_
    refine mvi rfl ?_
    refine vo ?_
    refine xcall e21 (mAt_ok _ _ _ _ _ _ _ _ _ _ (hx.ext z6) (by omega) (by omega) (hu2 _ (by omega))) rfl rfl ?_
    rintro _ W8 ⟨_, rfl, x9, hq7⟩
    have s10 := x9.sz
    have z11 := z6.trans x9
    replace h1 := h1.ext x9
    replace h2 := h2.ext x9
    replace h3 := h3.ext x9
    replace b3 := b3.ext x9
    obtain ⟨_, _, _, _, _, _, _, _, rfl⟩ := hq7.form
    refine ⟨_, rfl, ?_⟩
    refine vo ?_
    refine sta (cs' := [_, _, _, _]) b3 rfl rfl sz43 rfl rfl rfl ?_
    intro W12 y13 b3
    have z14 := z11.below (y13.below (by omega))
    replace h1 := h1.wr y13 (by omega)
    replace h2 := h2.wr y13 (by omega)
    replace h3 := h3.wr y13 (by omega)
    have s15 := y13.size
    refine vnil ?_
    refine V.ret ?_
    refine ⟨[_], ⟨⟨_, rfl, lvb ag43 b3 rfl⟩, trivial⟩, ?_⟩
    exact ⟨_, rfl, z14, ((hq7.ck (y13.ck (by intro hh; simp [SX] at hh <;> omega)))).un.cast (by rw [catI, if_pos c1])⟩
  · intro c1
    refine vnil ?_
    refine V.condF rfl ?_
    refine V.skip ?_
    refine V.seq (V.reg rfl ?_)
    refine vv (rldb (v := .slice _ _ _) rfl sc25 h3 rfl) ?_
    refine mvi rfl ?_
    refine mvi rfl ?_
    refine vv (rldb (v := .int _ _) rfl sc3 h1 rfl) ?_
    refine vv (rbin (bSub (wi (by omega))) rfl rfl) ?_
    refine vo ?_
    refine xcall e21 (mAt_ok _ _ _ _ _ _ _ _ _ _ (hy.ext z6) (by omega) (by omega) (hu2 _ (by omega))) rfl rfl ?_
    rintro _ W17 ⟨_, rfl, x18, hq16⟩
    have s19 := x18.sz
    have z20 := z6.trans x18
    replace h1 := h1.ext x18
    replace h2 := h2.ext x18
    replace h3 := h3.ext x18
    replace b3 := b3.ext x18
    obtain ⟨_, _, _, _, _, _, _, _, rfl⟩ := hq16.form
    refine ⟨_, rfl, ?_⟩
    refine vo ?_
    refine sta (cs' := [_, _, _, _]) b3 rfl rfl sz43 rfl rfl rfl ?_
    intro W21 y22 b3
    have z23 := z20.below (y22.below (by omega))
    replace h1 := h1.wr y22 (by omega)
    replace h2 := h2.wr y22 (by omega)
    replace h3 := h3.wr y22 (by omega)
    have s24 := y22.size
    refine vnil ?_
    refine V.ret ?_
    refine ⟨[_], ⟨⟨_, rfl, lvb ag43 b3 rfl⟩, trivial⟩, ?_⟩
    exact ⟨_, rfl, z23, ((hq16.ck (y22.ck (by intro hh; simp [SX] at hh <;> omega)))).un.cast (by rw [catI, if_neg (by omega)])⟩
end Go.Proofs.Ytknbjfefeeojlaa

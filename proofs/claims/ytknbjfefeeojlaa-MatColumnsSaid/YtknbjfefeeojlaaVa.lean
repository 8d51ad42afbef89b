/- Package vec: at, both. -/
import Derived.Test.YtknbjfefeeojlaaVq
namespace Go.Proofs.Ytknbjfefeeojlaa
open Go.RowKit
attribute [local irreducible] RV VH V OpF Calls
theorem qat_ge {qs : List (List Value)} {i : Nat} (h : qs.length ≤ i) : qat qs i = zq := by unfold qat; rw [List.getD_eq_getElem?_getD, List.getElem?_eq_none h]; rfl

set_option maxHeartbeats 400000 in
theorem at_ok (a : Option Addr) (n c : Nat) (k : Int) (qs : List (List Value)) (S : Nat → Prop) (w : World) (h : RS 4 S w a n c qs) (hf : ∀ q ∈ qs, form4 q) (hk : 0 ≤ k) :
    Calls Try.prog 89 #[.slice a n c, .int .i64 k] w (fun e w' => ∃ n1 a1 l1 c1 n2 a2 l2 c2, e = .returned (.agg #[.bool n1, .slice a1 l1 c1, .bool n2, .slice a2 l2 c2]) ∧ Ext w w' ∧ qat qs k.toNat = [.bool n1, .slice a1 l1 c1, .bool n2, .slice a2 l2 c2]) := by
  have z0 := Ext.refl w; have hLX : LX = 17592186044416 := rfl; have hLY : LY = 8796093022208 := rfl
  have hl := h.len
  refine enter (args := [.slice a n c, .int .i64 k]) Try.func89 rfl rfl (Nat.le_of_ble_eq_true rfl) ?_
  refine V.seq (V.reg rfl ?_)
  refine vo ?_
  refine xal zc43 ?_
  intro W1 x2 b3 nn4
  have s5 := x2.sz
  have z6 := x2
  refine vnil ?_
  refine V.seq ?_
  refine V.seq (V.reg rfl ?_)
  refine mvi rfl ?_
  refine mvs rfl ?_
  refine vv (rlen sl30 rfl) ?_
  refine vlt rfl rfl ?_ ?_
  · intro c7
    refine vnil ?_
    refine V.condT rfl ?_
    refine V.seq (V.reg rfl ?_)
    refine mvs rfl ?_
    refine mvi rfl ?_
    refine vv (rix sl30 sz43 rfl rfl (by omega) (by omega) ((h.ext z6).isS (by omega) (by omega))) ?_
    refine vldR (h.ext z6) hf rfl ag43 (by omega) (by omega) ?_
    intro n8 a9 l10 c11 n12 a13 l14 c15 hq16
    refine vo ?_
    refine sta (cs' := [_, _, _, _]) b3 rfl rfl sz43 rfl rfl rfl ?_
    intro W17 y18 b3
    have z19 := z6.below (y18.below (by omega))
    have s20 := y18.size
    refine vnil ?_
    refine V.ret ?_
    refine ⟨[_], ⟨⟨_, rfl, lvb ag43 b3 rfl⟩, trivial⟩, ?_⟩
    exact ⟨_, _, _, _, _, _, _, _, rfl, z19, hq16⟩
  · intro c7
    refine vnil ?_
    refine V.condF rfl ?_
    refine V.skip ?_
    refine V.seq (V.reg rfl ?_)
    refine vv (rbd (ps := []) (cs := [.bool false, .slice _ _ _, .bool false, .slice _ _ _]) pl43 rfl rfl) ?_
    refine vo ?_
    refine sta (cs' := [_, _, _, _]) b3 rfl rfl sz43 rfl rfl rfl ?_
    intro W21 y22 b3
    have z23 := z6.below (y22.below (by omega))
    have s24 := y22.size
    refine vnil ?_
    refine V.ret ?_
    refine ⟨[_], ⟨⟨_, rfl, lvb ag43 b3 rfl⟩, trivial⟩, ?_⟩
    exact ⟨_, _, _, _, _, _, _, _, rfl, z23, qat_ge (by omega)⟩
set_option maxHeartbeats 400000 in
theorem both_iter {D : Nat → Prop} {w : World} {a1 a2 : Option Addr} {n c m d : Nat} {qs1 qs2 : List (List Value)} {b1 b2 : Nat} (hb1 : BoxAt w b1 [.slice a1 n c] 30) (hb2 : BoxAt w b2 [.slice a2 m d] 30) (hx : RS 4 D w a1 n c qs1) (hy : RS 4 D w a2 m d qs2) (f1 : ∀ q ∈ qs1, form4 q) (f2 : ∀ q ∈ qs2, form4 q) (h1 : D b1) (h2 : D b2) :
    Iter Try.prog 88 #[.pointer (some ⟨b1, 0, none⟩), .pointer (some ⟨b2, 0, none⟩)] (fun i => .int .i64 (i : Int)) (fun i => .agg (qat qs1 i ++ qat qs2 i).toArray) D (max n m) w := by
  have z0 := Ext.refl w; have hLX : LX = 17592186044416 := rfl; have hLY : LY = 8796093022208 := rfl
  intro l J Jx X hX hJs hJxs hY hJ0
  have hx0 := hx.ext hX; have hy0 := hy.ext hX; have b10 := hb1.ext hX; have b20 := hb2.ext hX
  have l1 := hx.len; have l2 := hy.len; have q1 := hx.cap; have q2 := hy.cap; have q3 := hx.max; have q4 := hy.max
  refine enter (args := [.func (.yield l) #[] #[], .pointer (some ⟨b1, 0, none⟩), .pointer (some ⟨b2, 0, none⟩)]) Try.func88 rfl rfl (Nat.le_of_ble_eq_true rfl) ?_
  refine V.seq (V.reg rfl ?_)
  refine vv (rldb (v := .slice _ _ _) rfl sc30 b10 rfl) ?_
  refine vv (rlen sl30 rfl) ?_
  refine vv (rldb (v := .slice _ _ _) rfl sc30 b20 rfl) ?_
  refine vv (rlen sl30 rfl) ?_
  refine vv (rmax rfl rfl rfl) ?_
  refine mvi rfl ?_
  refine vnil ?_
  refine V.block ?_
  refine V.loopK (ι := Nat) [(0, .func _ _ _), (1, .pointer (some ⟨_, _, none⟩)), (2, .pointer (some ⟨_, _, none⟩)), (9, .int _ _)] (fun k => [(10, .int .i64 (k : Int))]) (fun k W => J k W ∧ KD D w W ∧ k ≤ max n m) (fun k => max n m - k) (0) ⟨rfl, rfl, rfl, rfl, trivial⟩ ⟨rfl, trivial⟩ ⟨hJ0, hX.kd, Nat.zero_le _⟩ ?_
  intro k E2 W1 h3
  obtain ⟨hJ, hkd, hk⟩ := h3
  have hx1 := hx.kd hkd
  have hy1 := hy.kd hkd
  have b1' := hb1.kd hkd h1; have b2' := hb2.kd hkd h2
  refine V.seq (V.reg rfl ?_)
  refine vlt rfl rfl ?_ ?_
  · intro c4
    refine vnil ?_
    refine V.seq ?_
    refine V.condT rfl ?_
    refine V.skip ?_
    refine V.seq ?_
    refine V.block ?_
    refine V.seq (V.reg rfl ?_)
    refine mvi rfl ?_
    refine asi rfl ?_
    refine vnil ?_
    refine V.seq (V.regS (fun W => KD D W) mixed rfl ?_)
    intro W5 x6
    have s7 := x6.sz
    replace b1' := b1'.ext x6
    replace b2' := b2'.ext x6
    have q8 := Ext.refl W5
    have q9 := KD.refl D W5
    have r10 := b1'
    have r11 := b2'
    refine tk 0 rfl (by kernel_rfl) q9 (pv (fun _ y12 => rmv (v := .func _ _ _) rfl)) ?_
    refine tk 1 rfl (by kernel_rfl) q9 (pv (fun _ y13 => rmv (v := .int _ _) rfl)) ?_
    refine tk 2 rfl (by kernel_rfl) q9 (pv (fun _ y14 => rldb (v := .slice _ _ _) rfl sc30 (r10.kd y14 h1) rfl)) ?_
    refine tk 3 rfl (by kernel_rfl) q9 (pv (fun _ y15 => rmv (v := .int _ _) rfl)) ?_
    refine tk 5 rfl (by kernel_rfl) q9 (pv (fun _ y16 => rldb (v := .slice _ _ _) rfl sc30 (r11.kd y16 h2) rfl)) ?_
    refine tk 6 rfl (by kernel_rfl) q9 (pv (fun _ y17 => rmv (v := .int _ _) rfl)) ?_
    refine ef 4 (by kernel_rfl) rfl ?_
    refine xcall e89 (at_ok _ _ _ _ _ _ _ (hx1.ext x6) f1 (by omega)) rfl rfl ?_
    rintro _ W19 ⟨_, _, _, _, _, _, _, _, rfl, x20, eq18⟩
    have s21 := x20.sz
    replace b1' := b1'.ext x20
    replace b2' := b2'.ext x20
    have q22 := q9.trans x20.kd
    refine ⟨_, rfl, ?_⟩
    refine ⟨fun _ => q22, ?_⟩
    refine ef 7 (by kernel_rfl) rfl ?_
    refine xcall e89 (at_ok _ _ _ _ _ _ _ (hy1.ext (x6.trans x20)) f2 (by omega)) rfl rfl ?_
    rintro _ W24 ⟨_, _, _, _, _, _, _, _, rfl, x25, eq23⟩
    have s26 := x25.sz
    replace b1' := b1'.ext x25
    replace b2' := b2'.ext x25
    have q27 := q22.trans x25.kd
    refine ⟨_, rfl, ?_⟩
    refine ⟨fun _ => q27, ?_⟩
    refine tk 8 rfl (by kernel_rfl) q27 (pv (fun _ y28 => rba (ps := [(0, .agg #[_, _, _, _]), (1, .agg #[_, _, _, _])]) (cs := [.bool _, .slice _ _ _, .bool _, .slice _ _ _, .bool _, .slice _ _ _, .bool _, .slice _ _ _]) Try.underlying85 sz43 zc85 rfl (fill24 _ _ _ _ _ _ _ _ _ _ _ _ _ _ _ _))) ?_
    refine ef 9 (by kernel_rfl) rfl ?_
    have hYk : ∀ u : List Value, u = qat qs1 k ++ qat qs2 k → YieldAt Fence.wide 0 Try.prog l #[.int .i64 (k : Int), .agg u.toArray] W24 (fun e B => (e = .returned (.bool true) ∧ J (k + 1) B ∧ KD D W24 B) ∨ (e = .returned (.bool false) ∧ Jx k B ∧ KD D W24 B)) := by intro u eu; subst eu; exact hY k _ (hJs _ _ _ hJ ((x6.trans x20).trans x25)) (by omega) (hkd.trans (Ext.kd ((x6.trans x20).trans x25)))
    refine xyield (vs := [.int _ _, .agg #[_, _, _, _, _, _, _, _]]) rfl rfl (hYk [_, _, _, _, _, _, _, _] (by rw [show ((k : Int)).toNat = k by omega] at eq18 eq23; rw [eq18, eq23]; rfl)) ?_
    rintro _ W' (⟨rfl, hJ', hkd'⟩ | ⟨rfl, hJx, hkd'⟩) <;> refine ⟨_, rfl, ?_⟩
    · skip
      refine ⟨fun _ => (q27.trans hkd'), ?_⟩
      refine tk 10 rfl (by kernel_rfl) (q27.trans hkd') (pv (fun _ y29 => rnot (q := false) rfl rfl)) ?_
      refine dn (by kernel_rfl) ?_
      refine V.condF rfl ?_
      refine V.skip ?_
      refine V.reg rfl ?_
      refine vv (rbin (bAdd (wi (by omega))) rfl rfl) ?_
      refine mvi rfl ?_
      refine vnil ?_
      refine ⟨rfl, k + 1, ⟨rfl, rfl, rfl, rfl, trivial⟩, ⟨rfl, trivial⟩, ⟨hJ', (hkd.trans (Ext.kd ((x6.trans x20).trans x25))).trans hkd', by omega⟩, ?_⟩
      show max n m - (k + 1) < max n m - k
      omega
    · skip
      refine ⟨fun _ => (q27.trans hkd'), ?_⟩
      refine tk 10 rfl (by kernel_rfl) (q27.trans hkd') (pv (fun _ y30 => rnot (q := true) rfl rfl)) ?_
      refine dn (by kernel_rfl) ?_
      refine V.condT rfl ?_
      refine V.ret ?_
      refine ⟨[], trivial, ?_⟩
      exact ⟨⟨_, rfl⟩, .inr ⟨k, by omega, hJx⟩⟩
  · intro c4
    refine vnil ?_
    refine V.seq ?_
    refine V.condF rfl ?_
    refine V.exit ?_
    refine ⟨[], trivial, ?_⟩
    exact ⟨⟨_, rfl⟩, .inl (by rw [show max n m = k by omega]; exact hJ)⟩
set_option maxHeartbeats 400000 in
theorem both_ok (a1 a2 : Option Addr) (n c m d : Nat) (w : World) :
    Calls Try.prog 59 #[.slice a1 n c, .slice a2 m d] w (fun e w' => ∃ b1 b2, b1 = w.heap.size ∧ b2 = w.heap.size + 1 ∧ e = .returned (.func (.func 88) #[] #[.pointer (some ⟨b1, 0, none⟩), .pointer (some ⟨b2, 0, none⟩)]) ∧ Ext w w' ∧ BoxAt w' b1 [.slice a1 n c] 30 ∧ BoxAt w' b2 [.slice a2 m d] 30) := by
  have z0 := Ext.refl w; have hLX : LX = 17592186044416 := rfl; have hLY : LY = 8796093022208 := rfl
  refine enter (args := [.slice a1 n c, .slice a2 m d]) Try.func59 rfl rfl (Nat.le_of_ble_eq_true rfl) ?_
  refine V.seq (V.reg rfl ?_)
  refine vo ?_
  refine bxs rfl ?_
  intro W1 x2 b3 nn4
  have s5 := x2.sz
  have z6 := x2
  refine vo ?_
  refine bxs rfl ?_
  intro W7 x8 b9 nn10
  have s11 := x8.sz
  have z12 := z6.trans x8
  replace b3 := b3.ext x8
  refine asn rfl ?_
  refine vnil ?_
  refine V.seq (V.reg rfl ?_)
  refine vv (rmk2 (v := .pointer (some ⟨_, _, none⟩)) (u := .pointer (some ⟨_, _, none⟩)) rfl rfl) ?_
  refine asf rfl ?_
  refine vnil ?_
  refine V.ret ?_
  refine ⟨[.func _ _ _], ⟨rfl, trivial⟩, ?_⟩
  exact ⟨_, _, rfl, by omega, rfl, z12, b3, b9⟩
end Go.Proofs.Ytknbjfefeeojlaa

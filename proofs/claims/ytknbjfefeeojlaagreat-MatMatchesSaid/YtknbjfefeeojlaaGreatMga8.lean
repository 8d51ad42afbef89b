/- Package pylonref02: Add. -/
import Derived.Test.YtknbjfefeeojlaaGreatMga7
namespace Go.Proofs.YtknbjfefeeojlaaGreat
open Go.RowKit
attribute [local irreducible] RV VH V OpF Calls
theorem RN.nbox {k : IntKind} {S : Nat → Prop} {W : World} {a : Option Addr} {n c b : Nat} {xs : List Int} {cs : List Value} {T : TypeId} (h : RN k S W a n c xs) (hb : BoxAt W b cs T) (hc : ∀ v ∈ cs, ∀ k z, v ≠ .int k z) : RN k (SX S [b]) W a n c xs :=
  ⟨h.len, h.cap, h.max, h.wf, fun hn => by
    obtain ⟨b', off, cs', T', fz, e, hs, hh, hj⟩ := h.at_ hn
    refine ⟨b', off, cs', T', fz, e, ⟨hs, fun hm => ?_⟩, hh, hj⟩
    simp only [List.mem_cons, List.not_mem_nil, or_false] at hm
    subst hm
    unfold BoxAt at hb
    rw [hb] at hh
    injection hh with hh
    injection hh with h1 _ _
    have h0 := hj 0 hn
    rw [← h1] at h0
    have h2 : cs[off + 0]? = some (.int k (wd xs ((0 : Nat) : Int))) := by simpa using h0
    exact hc _ (List.mem_of_getElem? h2) _ _ rfl⟩
theorem ZA.nbox {L : Nat} {S : Nat → Prop} {W : World} {n : Bool} {a : Option Addr} {l c b : Nat} {z : Int} {cs : List Value} {T : TypeId} (h : ZA L S W n a l c z) (hb : BoxAt W b cs T) (hc : ∀ v ∈ cs, ∀ k z, v ≠ .int k z) : ZA L (SX S [b]) W n a l c z := by
  obtain ⟨xs, h1, h2⟩ := h; exact ⟨xs, h1.nbox hb hc, h2⟩
theorem vhgen {r : Option Nat} {P : Program} {ops : Array Oper} {S : World → Prop} {R : Env → World → Prop} {f : Nat} {l : Array Bool} {E : Env} {W : World} (h : ∀ G : Nat → Array Bool → Env → World → Prop, (∀ f l E W, VH r P ops S R f l E W ↔ G f l E W) → G f l E W) : VH r P ops S R f l E W :=
  h (fun f l E W => VH r P ops S R f l E W) (fun _ _ _ _ => Iff.rfl)
theorem Gcast {G : Nat → Array Bool → Env → World → Prop} {f : Nat} {l l' : Array Bool} {E : Env} {W : World} (e : l = l') (h : G f l' E W) : G f l E W := e ▸ h

set_option maxHeartbeats 400000 in
theorem rAddQ_ok (q1 q2 : List Value) (r1 r2 : Rat) (L1 L2 : Nat) (S S1 S2 : Nat → Prop) (w : World) (h1 : QA L1 S1 w q1 r1) (h2 : QA L2 S2 w q2 r2) (hL : L1 + L2 ≤ LX / 128) (hl1 : 1 ≤ L1) (hl2 : 1 ≤ L2) (hu : Up S w) :
    Calls Tryz.prog 134 #[.agg q1.toArray, .agg q2.toArray] w (PQ S (r1 + r2) w) := by
  have z0 := Ext.refl w; have hLX : LX = 17592186044416 := rfl; have hLY : LY = 8796093022208 := rfl
  obtain ⟨n1, a1, l1, c1, n2, a2, l2, c2, rfl⟩ := h1.form; obtain ⟨n3, a3, l3, c3, n4, a4, l4, c4, rfl⟩ := h2.form
  obtain ⟨px1, py1, hx1, hy1, er1⟩ := h1.two
  obtain ⟨px2, py2, hx2, hy2, er2⟩ := h2.two
  have hu2 : ∀ W : World, w.heap.size + 3 ≤ W.heap.size → Up (SX S [w.heap.size + 2]) W := fun W hW => SX.up (hu.mono (by omega)) (by simp <;> omega)
  refine enter (args := [.agg #[.bool n1, .slice a1 l1 c1, .bool n2, .slice a2 l2 c2], .agg #[.bool n3, .slice a3 l3 c3, .bool n4, .slice a4 l4 c4]]) Tryz.func134 rfl rfl (Nat.le_of_ble_eq_true rfl) ?_
  refine V.seq (V.reg rfl ?_)
  refine vo ?_
  refine bxa rfl ?_
  intro W1 x2 b3 nn4
  have s5 := x2.sz
  have z6 := x2
  refine vo ?_
  refine bxa rfl ?_
  intro W7 x8 b9 nn10
  have s11 := x8.sz
  have z12 := z6.trans x8
  replace b3 := b3.ext x8
  refine vo ?_
  refine xal zc48 ?_
  intro W13 x14 b15 nn16
  have s17 := x14.sz
  have z18 := z12.trans x14
  replace b3 := b3.ext x14
  replace b9 := b9.ext x14
  refine vnil ?_
  refine V.seq (V.regD mixed rfl ?_)
  intro W19 x20
  have s21 := x20.sz
  have z22 := z18.trans x20
  replace b3 := b3.ext x20
  replace b9 := b9.ext x20
  replace b15 := b15.ext x20
  have q23 := Ext.refl W19
  have r24 := b3
  have r25 := b9
  have r26 := b15
  refine tk 0 rfl (by kernel_rfl) q23 (pv (fun _ y27 => rldb4 rfl ag48 (r24.ext y27) rfl rfl rfl rfl )) ?_
  refine tk 2 rfl (by kernel_rfl) q23 (pv (fun _ y28 => rldb4 rfl ag48 (r25.ext y28) rfl rfl rfl rfl )) ?_
  refine tk 5 rfl (by kernel_rfl) q23 (pv (fun _ y29 => rldb4 rfl ag48 (r25.ext y29) rfl rfl rfl rfl )) ?_
  refine tk 7 rfl (by kernel_rfl) q23 (pv (fun _ y30 => rldb4 rfl ag48 (r24.ext y30) rfl rfl rfl rfl )) ?_
  refine vhgen fun G hG => ?_
  have K1_0 : ∀ (b5 : Nat) (m11 : Bool) (d11 : Option Addr) (e11 : Nat) (f11 : Nat) (b6 : Nat) (m16 : Bool) (d16 : Option Addr) (e16 : Nat) (f16 : Nat) (E : Env) (W : World), Ext W19 W → agree E [(2, .pointer (some ⟨w.heap.size, 0, none⟩)), (3, .pointer (some ⟨W1.heap.size, 0, none⟩)), (4, .pointer (some ⟨W7.heap.size, 0, none⟩)), (7, .agg #[.bool n1, .slice a1 l1 c1, .bool n2, .slice a2 l2 c2]), (9, .agg #[.bool n3, .slice a3 l3 c3, .bool n4, .slice a4 l4 c4]), (12, .agg #[.bool n3, .slice a3 l3 c3, .bool n4, .slice a4 l4 c4]), (14, .agg #[.bool n1, .slice a1 l1 c1, .bool n2, .slice a2 l2 c2])] → agree E [(5, .pointer (some ⟨b5, 0, none⟩)), (6, .pointer (some ⟨b6, 0, none⟩))] → (BoxAt W b5 [.bool m11, .slice d11 e11 f11] 46 ∧ W19.heap.size ≤ b5 ∧ ZA (L1 + L2) TT W m11 d11 e11 f11 (nmq px1 py1 * dnq py2) ∧ BoxAt W b6 [.bool m16, .slice d16 e16 f16] 46 ∧ W19.heap.size ≤ b6 ∧ ZA (L1 + L2) TT W m16 d16 e16 f16 (nmq px2 py2 * dnq py1) ∧ b5 ≠ b6) → G 0 #[true, true, true, true, true, true, true, true, true, true, true, true, true, true] E W := by
    intro b5 m11 d11 e11 f11 b6 m16 d16 e16 f16 E31 W32 x33 hF hL hI
    obtain ⟨hb5, lb5, hz5, hb6, lb6, hz6, pr0⟩ := hI
    refine (hG _ _ _ _).1 ?_
    rw [← ups_agree hF, ← ups_agree hL]
    have s34 := x33.sz
    have z35 := z22.trans x33
    replace b3 := b3.ext x33
    replace b9 := b9.ext x33
    replace b15 := b15.ext x33
    have q36 := q23.trans x33
    have lhb5 := hb5.lt
    have lhb6 := hb6.lt
    refine dn (by kernel_rfl) ?_
    refine V.seq (V.regD mixed rfl ?_)
    intro W37 x38
    have s39 := x38.sz
    have z40 := z35.trans x38
    replace b3 := b3.ext x38
    replace b9 := b9.ext x38
    replace b15 := b15.ext x38
    replace hb5 := hb5.ext x38
    replace hb6 := hb6.ext x38
    have q41 := Ext.refl W37
    have r42 := b3
    have r43 := b9
    have r44 := b15
    have r45 := hb5
    have r46 := hb6
    refine tk 0 rfl (by kernel_rfl) q41 (pv (fun _ y47 => rldb2 rfl ag46 (r45.ext y47) rfl rfl )) ?_
    refine tk 1 rfl (by kernel_rfl) q41 (pv (fun _ y48 => rldb2 rfl ag46 (r46.ext y48) rfl rfl )) ?_
    refine tk 3 rfl (by kernel_rfl) q41 (pv (fun _ y49 => rldb4 rfl ag48 (r42.ext y49) rfl rfl rfl rfl )) ?_
    refine tk 5 rfl (by kernel_rfl) q41 (pv (fun _ y50 => rldb4 rfl ag48 (r43.ext y50) rfl rfl rfl rfl )) ?_
    refine ef 2 (by kernel_rfl) rfl ?_
    refine xcall e174 (rAddZ_ok _ _ _ _ _ _ _ _ _ _ _ _ _ _ _ _ (hz5.ext x38) (by omega) (hz6.ext x38) (by omega) (TT.up _)) rfl rfl ?_
    rintro _ W51 ⟨_, _, _, _, rfl, x52, hz19c⟩
    have s53 := x52.sz
    have z54 := z40.trans x52
    replace b3 := b3.ext x52
    replace b9 := b9.ext x52
    replace b15 := b15.ext x52
    replace hb5 := hb5.ext x52
    replace hb6 := hb6.ext x52
    have q55 := q41.trans x52
    have hz19 := ZC.za_add (L := L1 + L2) hz19c hz5.lt hz6.lt (.inl rfl)
    refine ⟨_, rfl, ?_⟩
    refine ⟨fun _ => q55, ?_⟩
    refine ef 4 (by kernel_rfl) rfl ?_
    refine xcall e161 (rDen_ok [_, _, _, _] _ _ _ _ _ _ (PA.mk' (hx1.ext z54) (hy1.ext z54)) (by omega) (TT.up _)) rfl rfl ?_
    rintro _ W56 ⟨_, _, _, _, rfl, x57, hz21c⟩
    have s58 := x57.sz
    have z59 := z54.trans x57
    replace b3 := b3.ext x57
    replace b9 := b9.ext x57
    replace b15 := b15.ext x57
    replace hb5 := hb5.ext x57
    replace hb6 := hb6.ext x57
    have q60 := q55.trans x57
    have hz21 := ZC.zaH (L := L1) hz21c (dn_abs (by omega) hy1.lt)
    refine ⟨_, rfl, ?_⟩
    refine ⟨fun _ => q60, ?_⟩
    refine ef 6 (by kernel_rfl) rfl ?_
    refine xcall e161 (rDen_ok [_, _, _, _] _ _ _ _ _ _ (PA.mk' (hx2.ext z59) (hy2.ext z59)) (by omega) (TT.up _)) rfl rfl ?_
    rintro _ W61 ⟨_, _, _, _, rfl, x62, hz23c⟩
    have s63 := x62.sz
    have z64 := z59.trans x62
    replace b3 := b3.ext x62
    replace b9 := b9.ext x62
    replace b15 := b15.ext x62
    replace hb5 := hb5.ext x62
    replace hb6 := hb6.ext x62
    have q65 := q60.trans x62
    have hz23 := ZC.zaH (L := L2) hz23c (dn_abs (by omega) hy2.lt)
    refine ⟨_, rfl, ?_⟩
    refine ⟨fun _ => q65, ?_⟩
    refine ef 7 (by kernel_rfl) rfl ?_
    refine xcall e173 (rMulZ_ok _ _ _ _ _ _ _ _ _ _ _ _ _ _ _ _ (hz21.ext x62) (by omega) hz23 (by omega) (TT.up _)) rfl rfl ?_
    rintro _ W66 ⟨_, _, _, _, rfl, x67, hz24c⟩
    have s68 := x67.sz
    have z69 := z64.trans x67
    replace b3 := b3.ext x67
    replace b9 := b9.ext x67
    replace b15 := b15.ext x67
    replace hb5 := hb5.ext x67
    replace hb6 := hb6.ext x67
    have q70 := q65.trans x67
    have hz24 := ZC.za_mul hz24c hz21 hz23
    refine ⟨_, rfl, ?_⟩
    refine ⟨fun _ => q70, ?_⟩
    refine ef 8 (by kernel_rfl) rfl ?_
    refine xcall e159 (rOver_ok _ _ _ _ _ _ _ _ _ _ _ _ _ _ _ _ (hz19.ext ((x57.trans x62).trans x67)) (by omega) hz24 (by omega) (Int.mul_pos (dn_pos _) (dn_pos _)) (hu2 _ (by omega))) rfl rfl ?_
    rintro _ W72 ⟨_, rfl, x73, hq71⟩
    have s74 := x73.sz
    have z75 := z69.trans x73
    replace b3 := b3.ext x73
    replace b9 := b9.ext x73
    replace b15 := b15.ext x73
    replace hb5 := hb5.ext x73
    replace hb6 := hb6.ext x73
    have q76 := q70.trans x73
    obtain ⟨_, _, _, _, _, _, _, _, rfl⟩ := hq71.form
    refine ⟨_, rfl, ?_⟩
    refine ⟨fun _ => q76, ?_⟩
    refine ef 9 (by kernel_rfl) rfl ?_
    refine sta (cs' := [_, _, _, _]) b15 rfl rfl sz48 rfl rfl rfl ?_
    intro W77 y78 b15
    have z79 := z75.below (y78.below (by omega))
    replace b3 := b3.wr y78 (by omega)
    replace b9 := b9.wr y78 (by omega)
    replace hb5 := hb5.wr y78 (by omega)
    replace hb6 := hb6.wr y78 (by omega)
    have s80 := y78.size
    refine lastT (by kernel_rfl) ?_
    refine dn (by kernel_rfl) ?_
    refine V.ret ?_
    refine ⟨[_], ⟨⟨_, rfl, lvb ag48 b15 rfl⟩, trivial⟩, ?_⟩
    exact ⟨_, rfl, z79, ((hq71.ck (y78.ck (by intro hh; simp [SX] at hh <;> omega)))).un.cast (by rw [qv_add, er1, er2])⟩
  have K1_1 : ∀ (m16 : Bool) (d16 : Option Addr) (e16 : Nat) (f16 : Nat) (b6 : Nat) (b5 : Nat) (m11 : Bool) (d11 : Option Addr) (e11 : Nat) (f11 : Nat) (E : Env) (W : World), Ext W19 W → agree E [(2, .pointer (some ⟨w.heap.size, 0, none⟩)), (3, .pointer (some ⟨W1.heap.size, 0, none⟩)), (4, .pointer (some ⟨W7.heap.size, 0, none⟩)), (7, .agg #[.bool n1, .slice a1 l1 c1, .bool n2, .slice a2 l2 c2]), (9, .agg #[.bool n3, .slice a3 l3 c3, .bool n4, .slice a4 l4 c4]), (12, .agg #[.bool n3, .slice a3 l3 c3, .bool n4, .slice a4 l4 c4]), (14, .agg #[.bool n1, .slice a1 l1 c1, .bool n2, .slice a2 l2 c2])] → agree E [(16, .agg #[.bool m16, .slice d16 e16 f16]), (6, .pointer (some ⟨b6, 0, none⟩)), (5, .pointer (some ⟨b5, 0, none⟩))] → (ZA (L1 + L2) TT W m16 d16 e16 f16 (nmq px2 py2 * dnq py1) ∧ BoxAt W b6 [.bool false, .slice none 0 0] 46 ∧ W19.heap.size ≤ b6 ∧ BoxAt W b5 [.bool m11, .slice d11 e11 f11] 46 ∧ W19.heap.size ≤ b5 ∧ ZA (L1 + L2) TT W m11 d11 e11 f11 (nmq px1 py1 * dnq py2) ∧ b5 ≠ b6) → G 1 #[true, true, true, true, true, true, true, true, true, true, true, true, true, false] E W := by
    intro m16 d16 e16 f16 b6 b5 m11 d11 e11 f11 E81 W82 x83 hF hL hI
    obtain ⟨hz16, hb6, lb6, hb5, lb5, hz5, pr0⟩ := hI
    refine (hG _ _ _ _).1 ?_
    rw [← ups_agree hF, ← ups_agree hL]
    have s84 := x83.sz
    have z85 := z22.trans x83
    replace b3 := b3.ext x83
    replace b9 := b9.ext x83
    replace b15 := b15.ext x83
    have q86 := q23.trans x83
    have lhb6 := hb6.lt
    have lhb5 := hb5.lt
    refine ef 13 (by kernel_rfl) rfl ?_
    replace hz16 := (hz16).nbox hb6 (by intro v hv; simp at hv; rcases hv with rfl | rfl <;> intro _ _ hh <;> cases hh)
    replace hz5 := (hz5).nbox hb6 (by intro v hv; simp at hv; rcases hv with rfl | rfl <;> intro _ _ hh <;> cases hh)
    have z87 := Ext.refl W82
    refine sta (cs' := [_, _]) hb6 rfl rfl sz46 rfl rfl rfl ?_
    intro W88 y89 hb6
    have z90 := z85.below (y89.below (by omega))
    replace b3 := b3.wr y89 (by omega)
    replace b9 := b9.wr y89 (by omega)
    replace b15 := b15.wr y89 (by omega)
    replace hb5 := hb5.wr y89 (by omega)
    have q91 := q86.below (y89.below (by omega))
    have s92 := y89.size
    refine lastT (by kernel_rfl) ?_
    exact (hG _ _ _ _).2 (Gcast (by kernel_rfl) (K1_0 (b5) (m11) (d11) (e11) (f11) (_) (_) (_) (_) (_) _ _ q91 ⟨rfl, rfl, rfl, rfl, rfl, rfl, rfl, trivial⟩ ⟨rfl, rfl, trivial⟩ ⟨hb5, lb5, ((hz5.ck (y89.ck (by intro hh; simp [SX] at hh <;> omega)))).sub (fun _ _ _ => trivial), hb6, by omega, ((hz16.ck (y89.ck (by intro hh; simp [SX] at hh <;> omega)))).sub (fun _ _ _ => trivial), by omega⟩))
  have K1_2 : ∀ (m11 : Bool) (d11 : Option Addr) (e11 : Nat) (f11 : Nat) (m16 : Bool) (d16 : Option Addr) (e16 : Nat) (f16 : Nat) (b5 : Nat) (b6 : Nat) (E : Env) (W : World), Ext W19 W → agree E [(2, .pointer (some ⟨w.heap.size, 0, none⟩)), (3, .pointer (some ⟨W1.heap.size, 0, none⟩)), (4, .pointer (some ⟨W7.heap.size, 0, none⟩)), (7, .agg #[.bool n1, .slice a1 l1 c1, .bool n2, .slice a2 l2 c2]), (9, .agg #[.bool n3, .slice a3 l3 c3, .bool n4, .slice a4 l4 c4]), (12, .agg #[.bool n3, .slice a3 l3 c3, .bool n4, .slice a4 l4 c4]), (14, .agg #[.bool n1, .slice a1 l1 c1, .bool n2, .slice a2 l2 c2])] → agree E [(11, .agg #[.bool m11, .slice d11 e11 f11]), (16, .agg #[.bool m16, .slice d16 e16 f16]), (5, .pointer (some ⟨b5, 0, none⟩)), (6, .pointer (some ⟨b6, 0, none⟩))] → (ZA (L1 + L2) TT W m11 d11 e11 f11 (nmq px1 py1 * dnq py2) ∧ ZA (L1 + L2) TT W m16 d16 e16 f16 (nmq px2 py2 * dnq py1) ∧ BoxAt W b5 [.bool false, .slice none 0 0] 46 ∧ W19.heap.size ≤ b5 ∧ BoxAt W b6 [.bool false, .slice none 0 0] 46 ∧ W19.heap.size ≤ b6 ∧ b5 ≠ b6) → G 2 #[true, true, true, true, true, true, true, true, true, true, true, true, false, false] E W := by
    intro m11 d11 e11 f11 m16 d16 e16 f16 b5 b6 E93 W94 x95 hF hL hI
    obtain ⟨hz11, hz16, hb5, lb5, hb6, lb6, pr0⟩ := hI
    refine (hG _ _ _ _).1 ?_
    rw [← ups_agree hF, ← ups_agree hL]
    have s96 := x95.sz
    have z97 := z22.trans x95
    replace b3 := b3.ext x95
    replace b9 := b9.ext x95
    replace b15 := b15.ext x95
    have q98 := q23.trans x95
    have lhb5 := hb5.lt
    have lhb6 := hb6.lt
    refine ef 12 (by kernel_rfl) rfl ?_
    replace hz11 := (hz11).nbox hb5 (by intro v hv; simp at hv; rcases hv with rfl | rfl <;> intro _ _ hh <;> cases hh)
    replace hz16 := (hz16).nbox hb5 (by intro v hv; simp at hv; rcases hv with rfl | rfl <;> intro _ _ hh <;> cases hh)
    have z99 := Ext.refl W94
    refine sta (cs' := [_, _]) hb5 rfl rfl sz46 rfl rfl rfl ?_
    intro W100 y101 hb5
    have z102 := z97.below (y101.below (by omega))
    replace b3 := b3.wr y101 (by omega)
    replace b9 := b9.wr y101 (by omega)
    replace b15 := b15.wr y101 (by omega)
    replace hb6 := hb6.wr y101 (by omega)
    have q103 := q98.below (y101.below (by omega))
    have s104 := y101.size
    refine ⟨fun _ => q103, ?_⟩
    exact (hG _ _ _ _).2 (Gcast (by kernel_rfl) (K1_1 (m16) (d16) (e16) (f16) (b6) (_) (_) (_) (_) (_) _ _ q103 ⟨rfl, rfl, rfl, rfl, rfl, rfl, rfl, trivial⟩ ⟨rfl, rfl, rfl, trivial⟩ ⟨((hz16.ck (y101.ck (by intro hh; simp [SX] at hh <;> omega)))).sub (fun _ _ _ => trivial), hb6, lb6, hb5, by omega, ((hz11.ck (y101.ck (by intro hh; simp [SX] at hh <;> omega)))).sub (fun _ _ _ => trivial), by omega⟩))
  have K1_3 : ∀ (m11 : Bool) (d11 : Option Addr) (e11 : Nat) (f11 : Nat) (m16 : Bool) (d16 : Option Addr) (e16 : Nat) (f16 : Nat) (b5 : Nat) (E : Env) (W : World), Ext W19 W → agree E [(2, .pointer (some ⟨w.heap.size, 0, none⟩)), (3, .pointer (some ⟨W1.heap.size, 0, none⟩)), (4, .pointer (some ⟨W7.heap.size, 0, none⟩)), (7, .agg #[.bool n1, .slice a1 l1 c1, .bool n2, .slice a2 l2 c2]), (9, .agg #[.bool n3, .slice a3 l3 c3, .bool n4, .slice a4 l4 c4]), (12, .agg #[.bool n3, .slice a3 l3 c3, .bool n4, .slice a4 l4 c4]), (14, .agg #[.bool n1, .slice a1 l1 c1, .bool n2, .slice a2 l2 c2])] → agree E [(11, .agg #[.bool m11, .slice d11 e11 f11]), (16, .agg #[.bool m16, .slice d16 e16 f16]), (5, .pointer (some ⟨b5, 0, none⟩))] → (ZA (L1 + L2) TT W m11 d11 e11 f11 (nmq px1 py1 * dnq py2) ∧ ZA (L1 + L2) TT W m16 d16 e16 f16 (nmq px2 py2 * dnq py1) ∧ BoxAt W b5 [.bool false, .slice none 0 0] 46 ∧ W19.heap.size ≤ b5) → G 3 #[true, true, true, true, true, true, true, true, true, true, true, false, false, false] E W := by
    intro m11 d11 e11 f11 m16 d16 e16 f16 b5 E105 W106 x107 hF hL hI
    obtain ⟨hz11, hz16, hb5, lb5⟩ := hI
    refine (hG _ _ _ _).1 ?_
    rw [← ups_agree hF, ← ups_agree hL]
    have s108 := x107.sz
    have z109 := z22.trans x107
    replace b3 := b3.ext x107
    replace b9 := b9.ext x107
    replace b15 := b15.ext x107
    have q110 := q23.trans x107
    have lhb5 := hb5.lt
    refine ef 11 (by kernel_rfl) rfl ?_
    refine xal zc46 ?_
    intro W111 x112 b113 nn114
    have s115 := x112.sz
    have z116 := z109.trans x112
    replace b3 := b3.ext x112
    replace b9 := b9.ext x112
    replace b15 := b15.ext x112
    replace hb5 := hb5.ext x112
    have q117 := q110.trans x112
    refine ⟨fun _ => q117, ?_⟩
    exact (hG _ _ _ _).2 (Gcast (by kernel_rfl) (K1_2 (m11) (d11) (e11) (f11) (m16) (d16) (e16) (f16) (b5) (_) _ _ q117 ⟨rfl, rfl, rfl, rfl, rfl, rfl, rfl, trivial⟩ ⟨rfl, rfl, rfl, rfl, trivial⟩ ⟨((hz11.ext x112)).sub (fun _ _ _ => trivial), ((hz16.ext x112)).sub (fun _ _ _ => trivial), hb5, lb5, b113, by omega, by omega⟩))
  have K1_4 : ∀ (m11 : Bool) (d11 : Option Addr) (e11 : Nat) (f11 : Nat) (m16 : Bool) (d16 : Option Addr) (e16 : Nat) (f16 : Nat) (b6 : Nat) (E : Env) (W : World), Ext W19 W → agree E [(2, .pointer (some ⟨w.heap.size, 0, none⟩)), (3, .pointer (some ⟨W1.heap.size, 0, none⟩)), (4, .pointer (some ⟨W7.heap.size, 0, none⟩)), (7, .agg #[.bool n1, .slice a1 l1 c1, .bool n2, .slice a2 l2 c2]), (9, .agg #[.bool n3, .slice a3 l3 c3, .bool n4, .slice a4 l4 c4]), (12, .agg #[.bool n3, .slice a3 l3 c3, .bool n4, .slice a4 l4 c4]), (14, .agg #[.bool n1, .slice a1 l1 c1, .bool n2, .slice a2 l2 c2])] → agree E [(11, .agg #[.bool m11, .slice d11 e11 f11]), (16, .agg #[.bool m16, .slice d16 e16 f16]), (6, .pointer (some ⟨b6, 0, none⟩))] → (ZA (L1 + L2) TT W m11 d11 e11 f11 (nmq px1 py1 * dnq py2) ∧ ZA (L1 + L2) TT W m16 d16 e16 f16 (nmq px2 py2 * dnq py1) ∧ BoxAt W b6 [.bool false, .slice none 0 0] 46 ∧ W19.heap.size ≤ b6) → G 3 #[true, true, true, true, true, true, true, true, true, true, false, true, false, false] E W := by
    intro m11 d11 e11 f11 m16 d16 e16 f16 b6 E118 W119 x120 hF hL hI
    obtain ⟨hz11, hz16, hb6, lb6⟩ := hI
    refine (hG _ _ _ _).1 ?_
    rw [← ups_agree hF, ← ups_agree hL]
    have s121 := x120.sz
    have z122 := z22.trans x120
    replace b3 := b3.ext x120
    replace b9 := b9.ext x120
    replace b15 := b15.ext x120
    have q123 := q23.trans x120
    have lhb6 := hb6.lt
    refine ef 10 (by kernel_rfl) rfl ?_
    refine xal zc46 ?_
    intro W124 x125 b126 nn127
    have s128 := x125.sz
    have z129 := z122.trans x125
    replace b3 := b3.ext x125
    replace b9 := b9.ext x125
    replace b15 := b15.ext x125
    replace hb6 := hb6.ext x125
    have q130 := q123.trans x125
    refine ⟨fun _ => q130, ?_⟩
    exact (hG _ _ _ _).2 (Gcast (by kernel_rfl) (K1_2 (m11) (d11) (e11) (f11) (m16) (d16) (e16) (f16) (_) (b6) _ _ q130 ⟨rfl, rfl, rfl, rfl, rfl, rfl, rfl, trivial⟩ ⟨rfl, rfl, rfl, rfl, trivial⟩ ⟨((hz11.ext x125)).sub (fun _ _ _ => trivial), ((hz16.ext x125)).sub (fun _ _ _ => trivial), b126, by omega, hb6, lb6, by omega⟩))
  have K1_5 : ∀ (m11 : Bool) (d11 : Option Addr) (e11 : Nat) (f11 : Nat) (m13 : Bool) (d13 : Option Addr) (e13 : Nat) (f13 : Nat) (m15 : Bool) (d15 : Option Addr) (e15 : Nat) (f15 : Nat) (b5 : Nat) (b6 : Nat) (E : Env) (W : World), Ext W19 W → agree E [(2, .pointer (some ⟨w.heap.size, 0, none⟩)), (3, .pointer (some ⟨W1.heap.size, 0, none⟩)), (4, .pointer (some ⟨W7.heap.size, 0, none⟩)), (7, .agg #[.bool n1, .slice a1 l1 c1, .bool n2, .slice a2 l2 c2]), (9, .agg #[.bool n3, .slice a3 l3 c3, .bool n4, .slice a4 l4 c4]), (12, .agg #[.bool n3, .slice a3 l3 c3, .bool n4, .slice a4 l4 c4]), (14, .agg #[.bool n1, .slice a1 l1 c1, .bool n2, .slice a2 l2 c2])] → agree E [(11, .agg #[.bool m11, .slice d11 e11 f11]), (13, .agg #[.bool m13, .slice d13 e13 f13]), (15, .agg #[.bool m15, .slice d15 e15 f15]), (5, .pointer (some ⟨b5, 0, none⟩)), (6, .pointer (some ⟨b6, 0, none⟩))] → (ZA (L1 + L2) TT W m11 d11 e11 f11 (nmq px1 py1 * dnq py2) ∧ ZA (L2) TT W m13 d13 e13 f13 (nmq px2 py2) ∧ ZA (L1) TT W m15 d15 e15 f15 (dnq py1) ∧ BoxAt W b5 [.bool false, .slice none 0 0] 46 ∧ W19.heap.size ≤ b5 ∧ BoxAt W b6 [.bool false, .slice none 0 0] 46 ∧ W19.heap.size ≤ b6 ∧ b5 ≠ b6) → G 3 #[true, true, true, true, true, true, true, true, true, false, true, true, false, false] E W := by
    intro m11 d11 e11 f11 m13 d13 e13 f13 m15 d15 e15 f15 b5 b6 E131 W132 x133 hF hL hI
    obtain ⟨hz11, hz13, hz15, hb5, lb5, hb6, lb6, pr0⟩ := hI
    refine (hG _ _ _ _).1 ?_
    rw [← ups_agree hF, ← ups_agree hL]
    have s134 := x133.sz
    have z135 := z22.trans x133
    replace b3 := b3.ext x133
    replace b9 := b9.ext x133
    replace b15 := b15.ext x133
    have q136 := q23.trans x133
    have lhb5 := hb5.lt
    have lhb6 := hb6.lt
    refine ef 9 (by kernel_rfl) rfl ?_
    refine xcall e173 (rMulZ_ok _ _ _ _ _ _ _ _ _ _ _ _ _ _ _ _ hz13 (by omega) hz15 (by omega) (TT.up _)) rfl rfl ?_
    rintro _ W137 ⟨_, _, _, _, rfl, x138, hz16c⟩
    have s139 := x138.sz
    have z140 := z135.trans x138
    replace b3 := b3.ext x138
    replace b9 := b9.ext x138
    replace b15 := b15.ext x138
    replace hb5 := hb5.ext x138
    replace hb6 := hb6.ext x138
    have q141 := q136.trans x138
    have hz16 := ZC.za_mul hz16c hz13 hz15
    rw [Nat.add_comm L2 L1] at hz16
    refine ⟨_, rfl, ?_⟩
    refine ⟨fun _ => q141, ?_⟩
    exact (hG _ _ _ _).2 (Gcast (by kernel_rfl) (K1_2 (m11) (d11) (e11) (f11) (_) (_) (_) (_) (b5) (b6) _ _ q141 ⟨rfl, rfl, rfl, rfl, rfl, rfl, rfl, trivial⟩ ⟨rfl, rfl, rfl, rfl, trivial⟩ ⟨((hz11.ext x138)).sub (fun _ _ _ => trivial), (hz16).sub (fun _ _ _ => trivial), hb5, lb5, hb6, lb6, by omega⟩))
  have K1_6 : ∀ (m11 : Bool) (d11 : Option Addr) (e11 : Nat) (f11 : Nat) (m16 : Bool) (d16 : Option Addr) (e16 : Nat) (f16 : Nat) (E : Env) (W : World), Ext W19 W → agree E [(2, .pointer (some ⟨w.heap.size, 0, none⟩)), (3, .pointer (some ⟨W1.heap.size, 0, none⟩)), (4, .pointer (some ⟨W7.heap.size, 0, none⟩)), (7, .agg #[.bool n1, .slice a1 l1 c1, .bool n2, .slice a2 l2 c2]), (9, .agg #[.bool n3, .slice a3 l3 c3, .bool n4, .slice a4 l4 c4]), (12, .agg #[.bool n3, .slice a3 l3 c3, .bool n4, .slice a4 l4 c4]), (14, .agg #[.bool n1, .slice a1 l1 c1, .bool n2, .slice a2 l2 c2])] → agree E [(11, .agg #[.bool m11, .slice d11 e11 f11]), (16, .agg #[.bool m16, .slice d16 e16 f16])] → (ZA (L1 + L2) TT W m11 d11 e11 f11 (nmq px1 py1 * dnq py2) ∧ ZA (L1 + L2) TT W m16 d16 e16 f16 (nmq px2 py2 * dnq py1)) → G 4 #[true, true, true, true, true, true, true, true, true, true, false, false, false, false] E W := by
    intro m11 d11 e11 f11 m16 d16 e16 f16 E142 W143 x144 hF hL hI
    obtain ⟨hz11, hz16⟩ := hI
    refine (hG _ _ _ _).1 ?_
    rw [← ups_agree hF, ← ups_agree hL]
    have s145 := x144.sz
    have z146 := z22.trans x144
    replace b3 := b3.ext x144
    replace b9 := b9.ext x144
    replace b15 := b15.ext x144
    have q147 := q23.trans x144
    refine efs 10 [11] (by kernel_rfl) ⟨?_, ?_, trivial⟩
    · skip
      refine efI rfl ?_
      refine xal zc46 ?_
      intro W148 x149 b150 nn151
      have s152 := x149.sz
      have z153 := z146.trans x149
      replace b3 := b3.ext x149
      replace b9 := b9.ext x149
      replace b15 := b15.ext x149
      have q154 := q147.trans x149
      refine ⟨fun _ => q154, ?_⟩
      exact (hG _ _ _ _).2 (Gcast (by kernel_rfl) (K1_3 (m11) (d11) (e11) (f11) (m16) (d16) (e16) (f16) (_) _ _ q154 ⟨rfl, rfl, rfl, rfl, rfl, rfl, rfl, trivial⟩ ⟨rfl, rfl, rfl, trivial⟩ ⟨((hz11.ext x149)).sub (fun _ _ _ => trivial), ((hz16.ext x149)).sub (fun _ _ _ => trivial), b150, by omega⟩))
    · skip
      refine efI rfl ?_
      refine xal zc46 ?_
      intro W155 x156 b157 nn158
      have s159 := x156.sz
      have z160 := z146.trans x156
      replace b3 := b3.ext x156
      replace b9 := b9.ext x156
      replace b15 := b15.ext x156
      have q161 := q147.trans x156
      refine ⟨fun _ => q161, ?_⟩
      exact (hG _ _ _ _).2 (Gcast (by kernel_rfl) (K1_4 (m11) (d11) (e11) (f11) (m16) (d16) (e16) (f16) (_) _ _ q161 ⟨rfl, rfl, rfl, rfl, rfl, rfl, rfl, trivial⟩ ⟨rfl, rfl, rfl, trivial⟩ ⟨((hz11.ext x156)).sub (fun _ _ _ => trivial), ((hz16.ext x156)).sub (fun _ _ _ => trivial), b157, by omega⟩))
  have K1_7 : ∀ (m11 : Bool) (d11 : Option Addr) (e11 : Nat) (f11 : Nat) (m13 : Bool) (d13 : Option Addr) (e13 : Nat) (f13 : Nat) (m15 : Bool) (d15 : Option Addr) (e15 : Nat) (f15 : Nat) (b5 : Nat) (E : Env) (W : World), Ext W19 W → agree E [(2, .pointer (some ⟨w.heap.size, 0, none⟩)), (3, .pointer (some ⟨W1.heap.size, 0, none⟩)), (4, .pointer (some ⟨W7.heap.size, 0, none⟩)), (7, .agg #[.bool n1, .slice a1 l1 c1, .bool n2, .slice a2 l2 c2]), (9, .agg #[.bool n3, .slice a3 l3 c3, .bool n4, .slice a4 l4 c4]), (12, .agg #[.bool n3, .slice a3 l3 c3, .bool n4, .slice a4 l4 c4]), (14, .agg #[.bool n1, .slice a1 l1 c1, .bool n2, .slice a2 l2 c2])] → agree E [(11, .agg #[.bool m11, .slice d11 e11 f11]), (13, .agg #[.bool m13, .slice d13 e13 f13]), (15, .agg #[.bool m15, .slice d15 e15 f15]), (5, .pointer (some ⟨b5, 0, none⟩))] → (ZA (L1 + L2) TT W m11 d11 e11 f11 (nmq px1 py1 * dnq py2) ∧ ZA (L2) TT W m13 d13 e13 f13 (nmq px2 py2) ∧ ZA (L1) TT W m15 d15 e15 f15 (dnq py1) ∧ BoxAt W b5 [.bool false, .slice none 0 0] 46 ∧ W19.heap.size ≤ b5) → G 4 #[true, true, true, true, true, true, true, true, true, false, true, false, false, false] E W := by
    intro m11 d11 e11 f11 m13 d13 e13 f13 m15 d15 e15 f15 b5 E162 W163 x164 hF hL hI
    obtain ⟨hz11, hz13, hz15, hb5, lb5⟩ := hI
    refine (hG _ _ _ _).1 ?_
    rw [← ups_agree hF, ← ups_agree hL]
    have s165 := x164.sz
    have z166 := z22.trans x164
    replace b3 := b3.ext x164
    replace b9 := b9.ext x164
    replace b15 := b15.ext x164
    have q167 := q23.trans x164
    have lhb5 := hb5.lt
    refine efs 9 [11] (by kernel_rfl) ⟨?_, ?_, trivial⟩
    · skip
      refine efI rfl ?_
      refine xcall e173 (rMulZ_ok _ _ _ _ _ _ _ _ _ _ _ _ _ _ _ _ hz13 (by omega) hz15 (by omega) (TT.up _)) rfl rfl ?_
      rintro _ W168 ⟨_, _, _, _, rfl, x169, hz16c⟩
      have s170 := x169.sz
      have z171 := z166.trans x169
      replace b3 := b3.ext x169
      replace b9 := b9.ext x169
      replace b15 := b15.ext x169
      replace hb5 := hb5.ext x169
      have q172 := q167.trans x169
      have hz16 := ZC.za_mul hz16c hz13 hz15
      rw [Nat.add_comm L2 L1] at hz16
      refine ⟨_, rfl, ?_⟩
      refine ⟨fun _ => q172, ?_⟩
      exact (hG _ _ _ _).2 (Gcast (by kernel_rfl) (K1_3 (m11) (d11) (e11) (f11) (_) (_) (_) (_) (b5) _ _ q172 ⟨rfl, rfl, rfl, rfl, rfl, rfl, rfl, trivial⟩ ⟨rfl, rfl, rfl, trivial⟩ ⟨((hz11.ext x169)).sub (fun _ _ _ => trivial), (hz16).sub (fun _ _ _ => trivial), hb5, lb5⟩))
    · skip
      refine efI rfl ?_
      refine xal zc46 ?_
      intro W173 x174 b175 nn176
      have s177 := x174.sz
      have z178 := z166.trans x174
      replace b3 := b3.ext x174
      replace b9 := b9.ext x174
      replace b15 := b15.ext x174
      replace hb5 := hb5.ext x174
      have q179 := q167.trans x174
      refine ⟨fun _ => q179, ?_⟩
      exact (hG _ _ _ _).2 (Gcast (by kernel_rfl) (K1_5 (m11) (d11) (e11) (f11) (m13) (d13) (e13) (f13) (m15) (d15) (e15) (f15) (b5) (_) _ _ q179 ⟨rfl, rfl, rfl, rfl, rfl, rfl, rfl, trivial⟩ ⟨rfl, rfl, rfl, rfl, rfl, trivial⟩ ⟨((hz11.ext x174)).sub (fun _ _ _ => trivial), ((hz13.ext x174)).sub (fun _ _ _ => trivial), ((hz15.ext x174)).sub (fun _ _ _ => trivial), hb5, lb5, b175, by omega, by omega⟩))
  have K1_8 : ∀ (m11 : Bool) (d11 : Option Addr) (e11 : Nat) (f11 : Nat) (m13 : Bool) (d13 : Option Addr) (e13 : Nat) (f13 : Nat) (m15 : Bool) (d15 : Option Addr) (e15 : Nat) (f15 : Nat) (b6 : Nat) (E : Env) (W : World), Ext W19 W → agree E [(2, .pointer (some ⟨w.heap.size, 0, none⟩)), (3, .pointer (some ⟨W1.heap.size, 0, none⟩)), (4, .pointer (some ⟨W7.heap.size, 0, none⟩)), (7, .agg #[.bool n1, .slice a1 l1 c1, .bool n2, .slice a2 l2 c2]), (9, .agg #[.bool n3, .slice a3 l3 c3, .bool n4, .slice a4 l4 c4]), (12, .agg #[.bool n3, .slice a3 l3 c3, .bool n4, .slice a4 l4 c4]), (14, .agg #[.bool n1, .slice a1 l1 c1, .bool n2, .slice a2 l2 c2])] → agree E [(11, .agg #[.bool m11, .slice d11 e11 f11]), (13, .agg #[.bool m13, .slice d13 e13 f13]), (15, .agg #[.bool m15, .slice d15 e15 f15]), (6, .pointer (some ⟨b6, 0, none⟩))] → (ZA (L1 + L2) TT W m11 d11 e11 f11 (nmq px1 py1 * dnq py2) ∧ ZA (L2) TT W m13 d13 e13 f13 (nmq px2 py2) ∧ ZA (L1) TT W m15 d15 e15 f15 (dnq py1) ∧ BoxAt W b6 [.bool false, .slice none 0 0] 46 ∧ W19.heap.size ≤ b6) → G 4 #[true, true, true, true, true, true, true, true, true, false, false, true, false, false] E W := by
    intro m11 d11 e11 f11 m13 d13 e13 f13 m15 d15 e15 f15 b6 E180 W181 x182 hF hL hI
    obtain ⟨hz11, hz13, hz15, hb6, lb6⟩ := hI
    refine (hG _ _ _ _).1 ?_
    rw [← ups_agree hF, ← ups_agree hL]
    have s183 := x182.sz
    have z184 := z22.trans x182
    replace b3 := b3.ext x182
    replace b9 := b9.ext x182
    replace b15 := b15.ext x182
    have q185 := q23.trans x182
    have lhb6 := hb6.lt
    refine efs 9 [10] (by kernel_rfl) ⟨?_, ?_, trivial⟩
    · skip
      refine efI rfl ?_
      refine xcall e173 (rMulZ_ok _ _ _ _ _ _ _ _ _ _ _ _ _ _ _ _ hz13 (by omega) hz15 (by omega) (TT.up _)) rfl rfl ?_
      rintro _ W186 ⟨_, _, _, _, rfl, x187, hz16c⟩
      have s188 := x187.sz
      have z189 := z184.trans x187
      replace b3 := b3.ext x187
      replace b9 := b9.ext x187
      replace b15 := b15.ext x187
      replace hb6 := hb6.ext x187
      have q190 := q185.trans x187
      have hz16 := ZC.za_mul hz16c hz13 hz15
      rw [Nat.add_comm L2 L1] at hz16
      refine ⟨_, rfl, ?_⟩
      refine ⟨fun _ => q190, ?_⟩
      exact (hG _ _ _ _).2 (Gcast (by kernel_rfl) (K1_4 (m11) (d11) (e11) (f11) (_) (_) (_) (_) (b6) _ _ q190 ⟨rfl, rfl, rfl, rfl, rfl, rfl, rfl, trivial⟩ ⟨rfl, rfl, rfl, trivial⟩ ⟨((hz11.ext x187)).sub (fun _ _ _ => trivial), (hz16).sub (fun _ _ _ => trivial), hb6, lb6⟩))
    · skip
      refine efI rfl ?_
      refine xal zc46 ?_
      intro W191 x192 b193 nn194
      have s195 := x192.sz
      have z196 := z184.trans x192
      replace b3 := b3.ext x192
      replace b9 := b9.ext x192
      replace b15 := b15.ext x192
      replace hb6 := hb6.ext x192
      have q197 := q185.trans x192
      refine ⟨fun _ => q197, ?_⟩
      exact (hG _ _ _ _).2 (Gcast (by kernel_rfl) (K1_5 (m11) (d11) (e11) (f11) (m13) (d13) (e13) (f13) (m15) (d15) (e15) (f15) (_) (b6) _ _ q197 ⟨rfl, rfl, rfl, rfl, rfl, rfl, rfl, trivial⟩ ⟨rfl, rfl, rfl, rfl, rfl, trivial⟩ ⟨((hz11.ext x192)).sub (fun _ _ _ => trivial), ((hz13.ext x192)).sub (fun _ _ _ => trivial), ((hz15.ext x192)).sub (fun _ _ _ => trivial), b193, by omega, hb6, lb6, by omega⟩))
  have K1_9 : ∀ (m11 : Bool) (d11 : Option Addr) (e11 : Nat) (f11 : Nat) (m13 : Bool) (d13 : Option Addr) (e13 : Nat) (f13 : Nat) (b5 : Nat) (b6 : Nat) (E : Env) (W : World), Ext W19 W → agree E [(2, .pointer (some ⟨w.heap.size, 0, none⟩)), (3, .pointer (some ⟨W1.heap.size, 0, none⟩)), (4, .pointer (some ⟨W7.heap.size, 0, none⟩)), (7, .agg #[.bool n1, .slice a1 l1 c1, .bool n2, .slice a2 l2 c2]), (9, .agg #[.bool n3, .slice a3 l3 c3, .bool n4, .slice a4 l4 c4]), (12, .agg #[.bool n3, .slice a3 l3 c3, .bool n4, .slice a4 l4 c4]), (14, .agg #[.bool n1, .slice a1 l1 c1, .bool n2, .slice a2 l2 c2])] → agree E [(11, .agg #[.bool m11, .slice d11 e11 f11]), (13, .agg #[.bool m13, .slice d13 e13 f13]), (5, .pointer (some ⟨b5, 0, none⟩)), (6, .pointer (some ⟨b6, 0, none⟩))] → (ZA (L1 + L2) TT W m11 d11 e11 f11 (nmq px1 py1 * dnq py2) ∧ ZA (L2) TT W m13 d13 e13 f13 (nmq px2 py2) ∧ BoxAt W b5 [.bool false, .slice none 0 0] 46 ∧ W19.heap.size ≤ b5 ∧ BoxAt W b6 [.bool false, .slice none 0 0] 46 ∧ W19.heap.size ≤ b6 ∧ b5 ≠ b6) → G 4 #[true, true, true, true, true, true, true, true, false, false, true, true, false, false] E W := by
    intro m11 d11 e11 f11 m13 d13 e13 f13 b5 b6 E198 W199 x200 hF hL hI
    obtain ⟨hz11, hz13, hb5, lb5, hb6, lb6, pr0⟩ := hI
    refine (hG _ _ _ _).1 ?_
    rw [← ups_agree hF, ← ups_agree hL]
    have s201 := x200.sz
    have z202 := z22.trans x200
    replace b3 := b3.ext x200
    replace b9 := b9.ext x200
    replace b15 := b15.ext x200
    have q203 := q23.trans x200
    have lhb5 := hb5.lt
    have lhb6 := hb6.lt
    refine ef 8 (by kernel_rfl) rfl ?_
    refine xcall e161 (rDen_ok [_, _, _, _] _ _ _ _ _ _ (PA.mk' (hx1.ext z202) (hy1.ext z202)) (by omega) (TT.up _)) rfl rfl ?_
    rintro _ W204 ⟨_, _, _, _, rfl, x205, hz15c⟩
    have s206 := x205.sz
    have z207 := z202.trans x205
    replace b3 := b3.ext x205
    replace b9 := b9.ext x205
    replace b15 := b15.ext x205
    replace hb5 := hb5.ext x205
    replace hb6 := hb6.ext x205
    have q208 := q203.trans x205
    have hz15 := ZC.zaH (L := L1) hz15c (dn_abs (by omega) hy1.lt)
    refine ⟨_, rfl, ?_⟩
    refine ⟨fun _ => q208, ?_⟩
    exact (hG _ _ _ _).2 (Gcast (by kernel_rfl) (K1_5 (m11) (d11) (e11) (f11) (m13) (d13) (e13) (f13) (_) (_) (_) (_) (b5) (b6) _ _ q208 ⟨rfl, rfl, rfl, rfl, rfl, rfl, rfl, trivial⟩ ⟨rfl, rfl, rfl, rfl, rfl, trivial⟩ ⟨((hz11.ext x205)).sub (fun _ _ _ => trivial), ((hz13.ext x205)).sub (fun _ _ _ => trivial), (hz15).sub (fun _ _ _ => trivial), hb5, lb5, hb6, lb6, by omega⟩))
  have K1_10 : ∀ (m11 : Bool) (d11 : Option Addr) (e11 : Nat) (f11 : Nat) (m13 : Bool) (d13 : Option Addr) (e13 : Nat) (f13 : Nat) (m15 : Bool) (d15 : Option Addr) (e15 : Nat) (f15 : Nat) (E : Env) (W : World), Ext W19 W → agree E [(2, .pointer (some ⟨w.heap.size, 0, none⟩)), (3, .pointer (some ⟨W1.heap.size, 0, none⟩)), (4, .pointer (some ⟨W7.heap.size, 0, none⟩)), (7, .agg #[.bool n1, .slice a1 l1 c1, .bool n2, .slice a2 l2 c2]), (9, .agg #[.bool n3, .slice a3 l3 c3, .bool n4, .slice a4 l4 c4]), (12, .agg #[.bool n3, .slice a3 l3 c3, .bool n4, .slice a4 l4 c4]), (14, .agg #[.bool n1, .slice a1 l1 c1, .bool n2, .slice a2 l2 c2])] → agree E [(11, .agg #[.bool m11, .slice d11 e11 f11]), (13, .agg #[.bool m13, .slice d13 e13 f13]), (15, .agg #[.bool m15, .slice d15 e15 f15])] → (ZA (L1 + L2) TT W m11 d11 e11 f11 (nmq px1 py1 * dnq py2) ∧ ZA (L2) TT W m13 d13 e13 f13 (nmq px2 py2) ∧ ZA (L1) TT W m15 d15 e15 f15 (dnq py1)) → G 5 #[true, true, true, true, true, true, true, true, true, false, false, false, false, false] E W := by
    intro m11 d11 e11 f11 m13 d13 e13 f13 m15 d15 e15 f15 E209 W210 x211 hF hL hI
    obtain ⟨hz11, hz13, hz15⟩ := hI
    refine (hG _ _ _ _).1 ?_
    rw [← ups_agree hF, ← ups_agree hL]
    have s212 := x211.sz
    have z213 := z22.trans x211
    replace b3 := b3.ext x211
    replace b9 := b9.ext x211
    replace b15 := b15.ext x211
    have q214 := q23.trans x211
    refine efs 9 [10, 11] (by kernel_rfl) ⟨?_, ?_, ?_, trivial⟩
    · skip
      refine efI rfl ?_
      refine xcall e173 (rMulZ_ok _ _ _ _ _ _ _ _ _ _ _ _ _ _ _ _ hz13 (by omega) hz15 (by omega) (TT.up _)) rfl rfl ?_
      rintro _ W215 ⟨_, _, _, _, rfl, x216, hz16c⟩
      have s217 := x216.sz
      have z218 := z213.trans x216
      replace b3 := b3.ext x216
      replace b9 := b9.ext x216
      replace b15 := b15.ext x216
      have q219 := q214.trans x216
      have hz16 := ZC.za_mul hz16c hz13 hz15
      rw [Nat.add_comm L2 L1] at hz16
      refine ⟨_, rfl, ?_⟩
      refine ⟨fun _ => q219, ?_⟩
      exact (hG _ _ _ _).2 (Gcast (by kernel_rfl) (K1_6 (m11) (d11) (e11) (f11) (_) (_) (_) (_) _ _ q219 ⟨rfl, rfl, rfl, rfl, rfl, rfl, rfl, trivial⟩ ⟨rfl, rfl, trivial⟩ ⟨((hz11.ext x216)).sub (fun _ _ _ => trivial), (hz16).sub (fun _ _ _ => trivial)⟩))
    · skip
      refine efI rfl ?_
      refine xal zc46 ?_
      intro W220 x221 b222 nn223
      have s224 := x221.sz
      have z225 := z213.trans x221
      replace b3 := b3.ext x221
      replace b9 := b9.ext x221
      replace b15 := b15.ext x221
      have q226 := q214.trans x221
      refine ⟨fun _ => q226, ?_⟩
      exact (hG _ _ _ _).2 (Gcast (by kernel_rfl) (K1_7 (m11) (d11) (e11) (f11) (m13) (d13) (e13) (f13) (m15) (d15) (e15) (f15) (_) _ _ q226 ⟨rfl, rfl, rfl, rfl, rfl, rfl, rfl, trivial⟩ ⟨rfl, rfl, rfl, rfl, trivial⟩ ⟨((hz11.ext x221)).sub (fun _ _ _ => trivial), ((hz13.ext x221)).sub (fun _ _ _ => trivial), ((hz15.ext x221)).sub (fun _ _ _ => trivial), b222, by omega⟩))
    · skip
      refine efI rfl ?_
      refine xal zc46 ?_
      intro W227 x228 b229 nn230
      have s231 := x228.sz
      have z232 := z213.trans x228
      replace b3 := b3.ext x228
      replace b9 := b9.ext x228
      replace b15 := b15.ext x228
      have q233 := q214.trans x228
      refine ⟨fun _ => q233, ?_⟩
      exact (hG _ _ _ _).2 (Gcast (by kernel_rfl) (K1_8 (m11) (d11) (e11) (f11) (m13) (d13) (e13) (f13) (m15) (d15) (e15) (f15) (_) _ _ q233 ⟨rfl, rfl, rfl, rfl, rfl, rfl, rfl, trivial⟩ ⟨rfl, rfl, rfl, rfl, trivial⟩ ⟨((hz11.ext x228)).sub (fun _ _ _ => trivial), ((hz13.ext x228)).sub (fun _ _ _ => trivial), ((hz15.ext x228)).sub (fun _ _ _ => trivial), b229, by omega⟩))
  have K1_11 : ∀ (m11 : Bool) (d11 : Option Addr) (e11 : Nat) (f11 : Nat) (m13 : Bool) (d13 : Option Addr) (e13 : Nat) (f13 : Nat) (b5 : Nat) (E : Env) (W : World), Ext W19 W → agree E [(2, .pointer (some ⟨w.heap.size, 0, none⟩)), (3, .pointer (some ⟨W1.heap.size, 0, none⟩)), (4, .pointer (some ⟨W7.heap.size, 0, none⟩)), (7, .agg #[.bool n1, .slice a1 l1 c1, .bool n2, .slice a2 l2 c2]), (9, .agg #[.bool n3, .slice a3 l3 c3, .bool n4, .slice a4 l4 c4]), (12, .agg #[.bool n3, .slice a3 l3 c3, .bool n4, .slice a4 l4 c4]), (14, .agg #[.bool n1, .slice a1 l1 c1, .bool n2, .slice a2 l2 c2])] → agree E [(11, .agg #[.bool m11, .slice d11 e11 f11]), (13, .agg #[.bool m13, .slice d13 e13 f13]), (5, .pointer (some ⟨b5, 0, none⟩))] → (ZA (L1 + L2) TT W m11 d11 e11 f11 (nmq px1 py1 * dnq py2) ∧ ZA (L2) TT W m13 d13 e13 f13 (nmq px2 py2) ∧ BoxAt W b5 [.bool false, .slice none 0 0] 46 ∧ W19.heap.size ≤ b5) → G 5 #[true, true, true, true, true, true, true, true, false, false, true, false, false, false] E W := by
    intro m11 d11 e11 f11 m13 d13 e13 f13 b5 E234 W235 x236 hF hL hI
    obtain ⟨hz11, hz13, hb5, lb5⟩ := hI
    refine (hG _ _ _ _).1 ?_
    rw [← ups_agree hF, ← ups_agree hL]
    have s237 := x236.sz
    have z238 := z22.trans x236
    replace b3 := b3.ext x236
    replace b9 := b9.ext x236
    replace b15 := b15.ext x236
    have q239 := q23.trans x236
    have lhb5 := hb5.lt
    refine efs 8 [11] (by kernel_rfl) ⟨?_, ?_, trivial⟩
    · skip
      refine efI rfl ?_
      refine xcall e161 (rDen_ok [_, _, _, _] _ _ _ _ _ _ (PA.mk' (hx1.ext z238) (hy1.ext z238)) (by omega) (TT.up _)) rfl rfl ?_
      rintro _ W240 ⟨_, _, _, _, rfl, x241, hz15c⟩
      have s242 := x241.sz
      have z243 := z238.trans x241
      replace b3 := b3.ext x241
      replace b9 := b9.ext x241
      replace b15 := b15.ext x241
      replace hb5 := hb5.ext x241
      have q244 := q239.trans x241
      have hz15 := ZC.zaH (L := L1) hz15c (dn_abs (by omega) hy1.lt)
      refine ⟨_, rfl, ?_⟩
      refine ⟨fun _ => q244, ?_⟩
      exact (hG _ _ _ _).2 (Gcast (by kernel_rfl) (K1_7 (m11) (d11) (e11) (f11) (m13) (d13) (e13) (f13) (_) (_) (_) (_) (b5) _ _ q244 ⟨rfl, rfl, rfl, rfl, rfl, rfl, rfl, trivial⟩ ⟨rfl, rfl, rfl, rfl, trivial⟩ ⟨((hz11.ext x241)).sub (fun _ _ _ => trivial), ((hz13.ext x241)).sub (fun _ _ _ => trivial), (hz15).sub (fun _ _ _ => trivial), hb5, lb5⟩))
    · skip
      refine efI rfl ?_
      refine xal zc46 ?_
      intro W245 x246 b247 nn248
      have s249 := x246.sz
      have z250 := z238.trans x246
      replace b3 := b3.ext x246
      replace b9 := b9.ext x246
      replace b15 := b15.ext x246
      replace hb5 := hb5.ext x246
      have q251 := q239.trans x246
      refine ⟨fun _ => q251, ?_⟩
      exact (hG _ _ _ _).2 (Gcast (by kernel_rfl) (K1_9 (m11) (d11) (e11) (f11) (m13) (d13) (e13) (f13) (b5) (_) _ _ q251 ⟨rfl, rfl, rfl, rfl, rfl, rfl, rfl, trivial⟩ ⟨rfl, rfl, rfl, rfl, trivial⟩ ⟨((hz11.ext x246)).sub (fun _ _ _ => trivial), ((hz13.ext x246)).sub (fun _ _ _ => trivial), hb5, lb5, b247, by omega, by omega⟩))
  have K1_12 : ∀ (m11 : Bool) (d11 : Option Addr) (e11 : Nat) (f11 : Nat) (m13 : Bool) (d13 : Option Addr) (e13 : Nat) (f13 : Nat) (b6 : Nat) (E : Env) (W : World), Ext W19 W → agree E [(2, .pointer (some ⟨w.heap.size, 0, none⟩)), (3, .pointer (some ⟨W1.heap.size, 0, none⟩)), (4, .pointer (some ⟨W7.heap.size, 0, none⟩)), (7, .agg #[.bool n1, .slice a1 l1 c1, .bool n2, .slice a2 l2 c2]), (9, .agg #[.bool n3, .slice a3 l3 c3, .bool n4, .slice a4 l4 c4]), (12, .agg #[.bool n3, .slice a3 l3 c3, .bool n4, .slice a4 l4 c4]), (14, .agg #[.bool n1, .slice a1 l1 c1, .bool n2, .slice a2 l2 c2])] → agree E [(11, .agg #[.bool m11, .slice d11 e11 f11]), (13, .agg #[.bool m13, .slice d13 e13 f13]), (6, .pointer (some ⟨b6, 0, none⟩))] → (ZA (L1 + L2) TT W m11 d11 e11 f11 (nmq px1 py1 * dnq py2) ∧ ZA (L2) TT W m13 d13 e13 f13 (nmq px2 py2) ∧ BoxAt W b6 [.bool false, .slice none 0 0] 46 ∧ W19.heap.size ≤ b6) → G 5 #[true, true, true, true, true, true, true, true, false, false, false, true, false, false] E W := by
    intro m11 d11 e11 f11 m13 d13 e13 f13 b6 E252 W253 x254 hF hL hI
    obtain ⟨hz11, hz13, hb6, lb6⟩ := hI
    refine (hG _ _ _ _).1 ?_
    rw [← ups_agree hF, ← ups_agree hL]
    have s255 := x254.sz
    have z256 := z22.trans x254
    replace b3 := b3.ext x254
    replace b9 := b9.ext x254
    replace b15 := b15.ext x254
    have q257 := q23.trans x254
    have lhb6 := hb6.lt
    refine efs 8 [10] (by kernel_rfl) ⟨?_, ?_, trivial⟩
    · skip
      refine efI rfl ?_
      refine xcall e161 (rDen_ok [_, _, _, _] _ _ _ _ _ _ (PA.mk' (hx1.ext z256) (hy1.ext z256)) (by omega) (TT.up _)) rfl rfl ?_
      rintro _ W258 ⟨_, _, _, _, rfl, x259, hz15c⟩
      have s260 := x259.sz
      have z261 := z256.trans x259
      replace b3 := b3.ext x259
      replace b9 := b9.ext x259
      replace b15 := b15.ext x259
      replace hb6 := hb6.ext x259
      have q262 := q257.trans x259
      have hz15 := ZC.zaH (L := L1) hz15c (dn_abs (by omega) hy1.lt)
      refine ⟨_, rfl, ?_⟩
      refine ⟨fun _ => q262, ?_⟩
      exact (hG _ _ _ _).2 (Gcast (by kernel_rfl) (K1_8 (m11) (d11) (e11) (f11) (m13) (d13) (e13) (f13) (_) (_) (_) (_) (b6) _ _ q262 ⟨rfl, rfl, rfl, rfl, rfl, rfl, rfl, trivial⟩ ⟨rfl, rfl, rfl, rfl, trivial⟩ ⟨((hz11.ext x259)).sub (fun _ _ _ => trivial), ((hz13.ext x259)).sub (fun _ _ _ => trivial), (hz15).sub (fun _ _ _ => trivial), hb6, lb6⟩))
    · skip
      refine efI rfl ?_
      refine xal zc46 ?_
      intro W263 x264 b265 nn266
      have s267 := x264.sz
      have z268 := z256.trans x264
      replace b3 := b3.ext x264
      replace b9 := b9.ext x264
      replace b15 := b15.ext x264
      replace hb6 := hb6.ext x264
      have q269 := q257.trans x264
      refine ⟨fun _ => q269, ?_⟩
      exact (hG _ _ _ _).2 (Gcast (by kernel_rfl) (K1_9 (m11) (d11) (e11) (f11) (m13) (d13) (e13) (f13) (_) (b6) _ _ q269 ⟨rfl, rfl, rfl, rfl, rfl, rfl, rfl, trivial⟩ ⟨rfl, rfl, rfl, rfl, trivial⟩ ⟨((hz11.ext x264)).sub (fun _ _ _ => trivial), ((hz13.ext x264)).sub (fun _ _ _ => trivial), b265, by omega, hb6, lb6, by omega⟩))
  have K1_13 : ∀ (m11 : Bool) (d11 : Option Addr) (e11 : Nat) (f11 : Nat) (b5 : Nat) (b6 : Nat) (E : Env) (W : World), Ext W19 W → agree E [(2, .pointer (some ⟨w.heap.size, 0, none⟩)), (3, .pointer (some ⟨W1.heap.size, 0, none⟩)), (4, .pointer (some ⟨W7.heap.size, 0, none⟩)), (7, .agg #[.bool n1, .slice a1 l1 c1, .bool n2, .slice a2 l2 c2]), (9, .agg #[.bool n3, .slice a3 l3 c3, .bool n4, .slice a4 l4 c4]), (12, .agg #[.bool n3, .slice a3 l3 c3, .bool n4, .slice a4 l4 c4]), (14, .agg #[.bool n1, .slice a1 l1 c1, .bool n2, .slice a2 l2 c2])] → agree E [(11, .agg #[.bool m11, .slice d11 e11 f11]), (5, .pointer (some ⟨b5, 0, none⟩)), (6, .pointer (some ⟨b6, 0, none⟩))] → (ZA (L1 + L2) TT W m11 d11 e11 f11 (nmq px1 py1 * dnq py2) ∧ BoxAt W b5 [.bool false, .slice none 0 0] 46 ∧ W19.heap.size ≤ b5 ∧ BoxAt W b6 [.bool false, .slice none 0 0] 46 ∧ W19.heap.size ≤ b6 ∧ b5 ≠ b6) → G 5 #[true, true, true, true, true, true, false, true, false, false, true, true, false, false] E W := by
    intro m11 d11 e11 f11 b5 b6 E270 W271 x272 hF hL hI
    obtain ⟨hz11, hb5, lb5, hb6, lb6, pr0⟩ := hI
    refine (hG _ _ _ _).1 ?_
    rw [← ups_agree hF, ← ups_agree hL]
    have s273 := x272.sz
    have z274 := z22.trans x272
    replace b3 := b3.ext x272
    replace b9 := b9.ext x272
    replace b15 := b15.ext x272
    have q275 := q23.trans x272
    have lhb5 := hb5.lt
    have lhb6 := hb6.lt
    refine ef 6 (by kernel_rfl) rfl ?_
    refine xcall e160 (rNum_ok [_, _, _, _] _ _ _ _ _ _ (PA.mk' (hx2.ext z274) (hy2.ext z274)) (by omega) (TT.up _)) rfl rfl ?_
    rintro _ W276 ⟨_, _, _, _, rfl, x277, hz13c⟩
    have s278 := x277.sz
    have z279 := z274.trans x277
    replace b3 := b3.ext x277
    replace b9 := b9.ext x277
    replace b15 := b15.ext x277
    replace hb5 := hb5.ext x277
    replace hb6 := hb6.ext x277
    have q280 := q275.trans x277
    have hz13 := ZC.zaH (L := L2) hz13c (nm_lt hx2.lt)
    refine ⟨_, rfl, ?_⟩
    refine ⟨fun _ => q280, ?_⟩
    exact (hG _ _ _ _).2 (Gcast (by kernel_rfl) (K1_9 (m11) (d11) (e11) (f11) (_) (_) (_) (_) (b5) (b6) _ _ q280 ⟨rfl, rfl, rfl, rfl, rfl, rfl, rfl, trivial⟩ ⟨rfl, rfl, rfl, rfl, trivial⟩ ⟨((hz11.ext x277)).sub (fun _ _ _ => trivial), (hz13).sub (fun _ _ _ => trivial), hb5, lb5, hb6, lb6, by omega⟩))
  have K1_14 : ∀ (m11 : Bool) (d11 : Option Addr) (e11 : Nat) (f11 : Nat) (m13 : Bool) (d13 : Option Addr) (e13 : Nat) (f13 : Nat) (E : Env) (W : World), Ext W19 W → agree E [(2, .pointer (some ⟨w.heap.size, 0, none⟩)), (3, .pointer (some ⟨W1.heap.size, 0, none⟩)), (4, .pointer (some ⟨W7.heap.size, 0, none⟩)), (7, .agg #[.bool n1, .slice a1 l1 c1, .bool n2, .slice a2 l2 c2]), (9, .agg #[.bool n3, .slice a3 l3 c3, .bool n4, .slice a4 l4 c4]), (12, .agg #[.bool n3, .slice a3 l3 c3, .bool n4, .slice a4 l4 c4]), (14, .agg #[.bool n1, .slice a1 l1 c1, .bool n2, .slice a2 l2 c2])] → agree E [(11, .agg #[.bool m11, .slice d11 e11 f11]), (13, .agg #[.bool m13, .slice d13 e13 f13])] → (ZA (L1 + L2) TT W m11 d11 e11 f11 (nmq px1 py1 * dnq py2) ∧ ZA (L2) TT W m13 d13 e13 f13 (nmq px2 py2)) → G 6 #[true, true, true, true, true, true, true, true, false, false, false, false, false, false] E W := by
    intro m11 d11 e11 f11 m13 d13 e13 f13 E281 W282 x283 hF hL hI
    obtain ⟨hz11, hz13⟩ := hI
    refine (hG _ _ _ _).1 ?_
    rw [← ups_agree hF, ← ups_agree hL]
    have s284 := x283.sz
    have z285 := z22.trans x283
    replace b3 := b3.ext x283
    replace b9 := b9.ext x283
    replace b15 := b15.ext x283
    have q286 := q23.trans x283
    refine efs 8 [10, 11] (by kernel_rfl) ⟨?_, ?_, ?_, trivial⟩
    · skip
      refine efI rfl ?_
      refine xcall e161 (rDen_ok [_, _, _, _] _ _ _ _ _ _ (PA.mk' (hx1.ext z285) (hy1.ext z285)) (by omega) (TT.up _)) rfl rfl ?_
      rintro _ W287 ⟨_, _, _, _, rfl, x288, hz15c⟩
      have s289 := x288.sz
      have z290 := z285.trans x288
      replace b3 := b3.ext x288
      replace b9 := b9.ext x288
      replace b15 := b15.ext x288
      have q291 := q286.trans x288
      have hz15 := ZC.zaH (L := L1) hz15c (dn_abs (by omega) hy1.lt)
      refine ⟨_, rfl, ?_⟩
      refine ⟨fun _ => q291, ?_⟩
      exact (hG _ _ _ _).2 (Gcast (by kernel_rfl) (K1_10 (m11) (d11) (e11) (f11) (m13) (d13) (e13) (f13) (_) (_) (_) (_) _ _ q291 ⟨rfl, rfl, rfl, rfl, rfl, rfl, rfl, trivial⟩ ⟨rfl, rfl, rfl, trivial⟩ ⟨((hz11.ext x288)).sub (fun _ _ _ => trivial), ((hz13.ext x288)).sub (fun _ _ _ => trivial), (hz15).sub (fun _ _ _ => trivial)⟩))
    · skip
      refine efI rfl ?_
      refine xal zc46 ?_
      intro W292 x293 b294 nn295
      have s296 := x293.sz
      have z297 := z285.trans x293
      replace b3 := b3.ext x293
      replace b9 := b9.ext x293
      replace b15 := b15.ext x293
      have q298 := q286.trans x293
      refine ⟨fun _ => q298, ?_⟩
      exact (hG _ _ _ _).2 (Gcast (by kernel_rfl) (K1_11 (m11) (d11) (e11) (f11) (m13) (d13) (e13) (f13) (_) _ _ q298 ⟨rfl, rfl, rfl, rfl, rfl, rfl, rfl, trivial⟩ ⟨rfl, rfl, rfl, trivial⟩ ⟨((hz11.ext x293)).sub (fun _ _ _ => trivial), ((hz13.ext x293)).sub (fun _ _ _ => trivial), b294, by omega⟩))
    · skip
      refine efI rfl ?_
      refine xal zc46 ?_
      intro W299 x300 b301 nn302
      have s303 := x300.sz
      have z304 := z285.trans x300
      replace b3 := b3.ext x300
      replace b9 := b9.ext x300
      replace b15 := b15.ext x300
      have q305 := q286.trans x300
      refine ⟨fun _ => q305, ?_⟩
      exact (hG _ _ _ _).2 (Gcast (by kernel_rfl) (K1_12 (m11) (d11) (e11) (f11) (m13) (d13) (e13) (f13) (_) _ _ q305 ⟨rfl, rfl, rfl, rfl, rfl, rfl, rfl, trivial⟩ ⟨rfl, rfl, rfl, trivial⟩ ⟨((hz11.ext x300)).sub (fun _ _ _ => trivial), ((hz13.ext x300)).sub (fun _ _ _ => trivial), b301, by omega⟩))
  have K1_15 : ∀ (m11 : Bool) (d11 : Option Addr) (e11 : Nat) (f11 : Nat) (b5 : Nat) (E : Env) (W : World), Ext W19 W → agree E [(2, .pointer (some ⟨w.heap.size, 0, none⟩)), (3, .pointer (some ⟨W1.heap.size, 0, none⟩)), (4, .pointer (some ⟨W7.heap.size, 0, none⟩)), (7, .agg #[.bool n1, .slice a1 l1 c1, .bool n2, .slice a2 l2 c2]), (9, .agg #[.bool n3, .slice a3 l3 c3, .bool n4, .slice a4 l4 c4]), (12, .agg #[.bool n3, .slice a3 l3 c3, .bool n4, .slice a4 l4 c4]), (14, .agg #[.bool n1, .slice a1 l1 c1, .bool n2, .slice a2 l2 c2])] → agree E [(11, .agg #[.bool m11, .slice d11 e11 f11]), (5, .pointer (some ⟨b5, 0, none⟩))] → (ZA (L1 + L2) TT W m11 d11 e11 f11 (nmq px1 py1 * dnq py2) ∧ BoxAt W b5 [.bool false, .slice none 0 0] 46 ∧ W19.heap.size ≤ b5) → G 6 #[true, true, true, true, true, true, false, true, false, false, true, false, false, false] E W := by
    intro m11 d11 e11 f11 b5 E306 W307 x308 hF hL hI
    obtain ⟨hz11, hb5, lb5⟩ := hI
    refine (hG _ _ _ _).1 ?_
    rw [← ups_agree hF, ← ups_agree hL]
    have s309 := x308.sz
    have z310 := z22.trans x308
    replace b3 := b3.ext x308
    replace b9 := b9.ext x308
    replace b15 := b15.ext x308
    have q311 := q23.trans x308
    have lhb5 := hb5.lt
    refine efs 6 [11] (by kernel_rfl) ⟨?_, ?_, trivial⟩
    · skip
      refine efI rfl ?_
      refine xcall e160 (rNum_ok [_, _, _, _] _ _ _ _ _ _ (PA.mk' (hx2.ext z310) (hy2.ext z310)) (by omega) (TT.up _)) rfl rfl ?_
      rintro _ W312 ⟨_, _, _, _, rfl, x313, hz13c⟩
      have s314 := x313.sz
      have z315 := z310.trans x313
      replace b3 := b3.ext x313
      replace b9 := b9.ext x313
      replace b15 := b15.ext x313
      replace hb5 := hb5.ext x313
      have q316 := q311.trans x313
      have hz13 := ZC.zaH (L := L2) hz13c (nm_lt hx2.lt)
      refine ⟨_, rfl, ?_⟩
      refine ⟨fun _ => q316, ?_⟩
      exact (hG _ _ _ _).2 (Gcast (by kernel_rfl) (K1_11 (m11) (d11) (e11) (f11) (_) (_) (_) (_) (b5) _ _ q316 ⟨rfl, rfl, rfl, rfl, rfl, rfl, rfl, trivial⟩ ⟨rfl, rfl, rfl, trivial⟩ ⟨((hz11.ext x313)).sub (fun _ _ _ => trivial), (hz13).sub (fun _ _ _ => trivial), hb5, lb5⟩))
    · skip
      refine efI rfl ?_
      refine xal zc46 ?_
      intro W317 x318 b319 nn320
      have s321 := x318.sz
      have z322 := z310.trans x318
      replace b3 := b3.ext x318
      replace b9 := b9.ext x318
      replace b15 := b15.ext x318
      replace hb5 := hb5.ext x318
      have q323 := q311.trans x318
      refine ⟨fun _ => q323, ?_⟩
      exact (hG _ _ _ _).2 (Gcast (by kernel_rfl) (K1_13 (m11) (d11) (e11) (f11) (b5) (_) _ _ q323 ⟨rfl, rfl, rfl, rfl, rfl, rfl, rfl, trivial⟩ ⟨rfl, rfl, rfl, trivial⟩ ⟨((hz11.ext x318)).sub (fun _ _ _ => trivial), hb5, lb5, b319, by omega, by omega⟩))
  have K1_16 : ∀ (m11 : Bool) (d11 : Option Addr) (e11 : Nat) (f11 : Nat) (b6 : Nat) (E : Env) (W : World), Ext W19 W → agree E [(2, .pointer (some ⟨w.heap.size, 0, none⟩)), (3, .pointer (some ⟨W1.heap.size, 0, none⟩)), (4, .pointer (some ⟨W7.heap.size, 0, none⟩)), (7, .agg #[.bool n1, .slice a1 l1 c1, .bool n2, .slice a2 l2 c2]), (9, .agg #[.bool n3, .slice a3 l3 c3, .bool n4, .slice a4 l4 c4]), (12, .agg #[.bool n3, .slice a3 l3 c3, .bool n4, .slice a4 l4 c4]), (14, .agg #[.bool n1, .slice a1 l1 c1, .bool n2, .slice a2 l2 c2])] → agree E [(11, .agg #[.bool m11, .slice d11 e11 f11]), (6, .pointer (some ⟨b6, 0, none⟩))] → (ZA (L1 + L2) TT W m11 d11 e11 f11 (nmq px1 py1 * dnq py2) ∧ BoxAt W b6 [.bool false, .slice none 0 0] 46 ∧ W19.heap.size ≤ b6) → G 6 #[true, true, true, true, true, true, false, true, false, false, false, true, false, false] E W := by
    intro m11 d11 e11 f11 b6 E324 W325 x326 hF hL hI
    obtain ⟨hz11, hb6, lb6⟩ := hI
    refine (hG _ _ _ _).1 ?_
    rw [← ups_agree hF, ← ups_agree hL]
    have s327 := x326.sz
    have z328 := z22.trans x326
    replace b3 := b3.ext x326
    replace b9 := b9.ext x326
    replace b15 := b15.ext x326
    have q329 := q23.trans x326
    have lhb6 := hb6.lt
    refine efs 6 [10] (by kernel_rfl) ⟨?_, ?_, trivial⟩
    · skip
      refine efI rfl ?_
      refine xcall e160 (rNum_ok [_, _, _, _] _ _ _ _ _ _ (PA.mk' (hx2.ext z328) (hy2.ext z328)) (by omega) (TT.up _)) rfl rfl ?_
      rintro _ W330 ⟨_, _, _, _, rfl, x331, hz13c⟩
      have s332 := x331.sz
      have z333 := z328.trans x331
      replace b3 := b3.ext x331
      replace b9 := b9.ext x331
      replace b15 := b15.ext x331
      replace hb6 := hb6.ext x331
      have q334 := q329.trans x331
      have hz13 := ZC.zaH (L := L2) hz13c (nm_lt hx2.lt)
      refine ⟨_, rfl, ?_⟩
      refine ⟨fun _ => q334, ?_⟩
      exact (hG _ _ _ _).2 (Gcast (by kernel_rfl) (K1_12 (m11) (d11) (e11) (f11) (_) (_) (_) (_) (b6) _ _ q334 ⟨rfl, rfl, rfl, rfl, rfl, rfl, rfl, trivial⟩ ⟨rfl, rfl, rfl, trivial⟩ ⟨((hz11.ext x331)).sub (fun _ _ _ => trivial), (hz13).sub (fun _ _ _ => trivial), hb6, lb6⟩))
    · skip
      refine efI rfl ?_
      refine xal zc46 ?_
      intro W335 x336 b337 nn338
      have s339 := x336.sz
      have z340 := z328.trans x336
      replace b3 := b3.ext x336
      replace b9 := b9.ext x336
      replace b15 := b15.ext x336
      replace hb6 := hb6.ext x336
      have q341 := q329.trans x336
      refine ⟨fun _ => q341, ?_⟩
      exact (hG _ _ _ _).2 (Gcast (by kernel_rfl) (K1_13 (m11) (d11) (e11) (f11) (_) (b6) _ _ q341 ⟨rfl, rfl, rfl, rfl, rfl, rfl, rfl, trivial⟩ ⟨rfl, rfl, rfl, trivial⟩ ⟨((hz11.ext x336)).sub (fun _ _ _ => trivial), b337, by omega, hb6, lb6, by omega⟩))
  have K1_17 : ∀ (m8 : Bool) (d8 : Option Addr) (e8 : Nat) (f8 : Nat) (m10 : Bool) (d10 : Option Addr) (e10 : Nat) (f10 : Nat) (b5 : Nat) (b6 : Nat) (E : Env) (W : World), Ext W19 W → agree E [(2, .pointer (some ⟨w.heap.size, 0, none⟩)), (3, .pointer (some ⟨W1.heap.size, 0, none⟩)), (4, .pointer (some ⟨W7.heap.size, 0, none⟩)), (7, .agg #[.bool n1, .slice a1 l1 c1, .bool n2, .slice a2 l2 c2]), (9, .agg #[.bool n3, .slice a3 l3 c3, .bool n4, .slice a4 l4 c4]), (12, .agg #[.bool n3, .slice a3 l3 c3, .bool n4, .slice a4 l4 c4]), (14, .agg #[.bool n1, .slice a1 l1 c1, .bool n2, .slice a2 l2 c2])] → agree E [(8, .agg #[.bool m8, .slice d8 e8 f8]), (10, .agg #[.bool m10, .slice d10 e10 f10]), (5, .pointer (some ⟨b5, 0, none⟩)), (6, .pointer (some ⟨b6, 0, none⟩))] → (ZA (L1) TT W m8 d8 e8 f8 (nmq px1 py1) ∧ ZA (L2) TT W m10 d10 e10 f10 (dnq py2) ∧ BoxAt W b5 [.bool false, .slice none 0 0] 46 ∧ W19.heap.size ≤ b5 ∧ BoxAt W b6 [.bool false, .slice none 0 0] 46 ∧ W19.heap.size ≤ b6 ∧ b5 ≠ b6) → G 6 #[true, true, true, true, false, true, false, true, false, false, true, true, false, false] E W := by
    intro m8 d8 e8 f8 m10 d10 e10 f10 b5 b6 E342 W343 x344 hF hL hI
    obtain ⟨hz8, hz10, hb5, lb5, hb6, lb6, pr0⟩ := hI
    refine (hG _ _ _ _).1 ?_
    rw [← ups_agree hF, ← ups_agree hL]
    have s345 := x344.sz
    have z346 := z22.trans x344
    replace b3 := b3.ext x344
    replace b9 := b9.ext x344
    replace b15 := b15.ext x344
    have q347 := q23.trans x344
    have lhb5 := hb5.lt
    have lhb6 := hb6.lt
    refine ef 4 (by kernel_rfl) rfl ?_
    refine xcall e173 (rMulZ_ok _ _ _ _ _ _ _ _ _ _ _ _ _ _ _ _ hz8 (by omega) hz10 (by omega) (TT.up _)) rfl rfl ?_
    rintro _ W348 ⟨_, _, _, _, rfl, x349, hz11c⟩
    have s350 := x349.sz
    have z351 := z346.trans x349
    replace b3 := b3.ext x349
    replace b9 := b9.ext x349
    replace b15 := b15.ext x349
    replace hb5 := hb5.ext x349
    replace hb6 := hb6.ext x349
    have q352 := q347.trans x349
    have hz11 := ZC.za_mul hz11c hz8 hz10
    refine ⟨_, rfl, ?_⟩
    refine ⟨fun _ => q352, ?_⟩
    exact (hG _ _ _ _).2 (Gcast (by kernel_rfl) (K1_13 (_) (_) (_) (_) (b5) (b6) _ _ q352 ⟨rfl, rfl, rfl, rfl, rfl, rfl, rfl, trivial⟩ ⟨rfl, rfl, rfl, trivial⟩ ⟨(hz11).sub (fun _ _ _ => trivial), hb5, lb5, hb6, lb6, by omega⟩))
  have K1_18 : ∀ (m11 : Bool) (d11 : Option Addr) (e11 : Nat) (f11 : Nat) (E : Env) (W : World), Ext W19 W → agree E [(2, .pointer (some ⟨w.heap.size, 0, none⟩)), (3, .pointer (some ⟨W1.heap.size, 0, none⟩)), (4, .pointer (some ⟨W7.heap.size, 0, none⟩)), (7, .agg #[.bool n1, .slice a1 l1 c1, .bool n2, .slice a2 l2 c2]), (9, .agg #[.bool n3, .slice a3 l3 c3, .bool n4, .slice a4 l4 c4]), (12, .agg #[.bool n3, .slice a3 l3 c3, .bool n4, .slice a4 l4 c4]), (14, .agg #[.bool n1, .slice a1 l1 c1, .bool n2, .slice a2 l2 c2])] → agree E [(11, .agg #[.bool m11, .slice d11 e11 f11])] → (ZA (L1 + L2) TT W m11 d11 e11 f11 (nmq px1 py1 * dnq py2)) → G 7 #[true, true, true, true, true, true, false, true, false, false, false, false, false, false] E W := by
    intro m11 d11 e11 f11 E353 W354 x355 hF hL hI
    have hz11 := hI
    refine (hG _ _ _ _).1 ?_
    rw [← ups_agree hF, ← ups_agree hL]
    have s356 := x355.sz
    have z357 := z22.trans x355
    replace b3 := b3.ext x355
    replace b9 := b9.ext x355
    replace b15 := b15.ext x355
    have q358 := q23.trans x355
    refine efs 6 [10, 11] (by kernel_rfl) ⟨?_, ?_, ?_, trivial⟩
    · skip
      refine efI rfl ?_
      refine xcall e160 (rNum_ok [_, _, _, _] _ _ _ _ _ _ (PA.mk' (hx2.ext z357) (hy2.ext z357)) (by omega) (TT.up _)) rfl rfl ?_
      rintro _ W359 ⟨_, _, _, _, rfl, x360, hz13c⟩
      have s361 := x360.sz
      have z362 := z357.trans x360
      replace b3 := b3.ext x360
      replace b9 := b9.ext x360
      replace b15 := b15.ext x360
      have q363 := q358.trans x360
      have hz13 := ZC.zaH (L := L2) hz13c (nm_lt hx2.lt)
      refine ⟨_, rfl, ?_⟩
      refine ⟨fun _ => q363, ?_⟩
      exact (hG _ _ _ _).2 (Gcast (by kernel_rfl) (K1_14 (m11) (d11) (e11) (f11) (_) (_) (_) (_) _ _ q363 ⟨rfl, rfl, rfl, rfl, rfl, rfl, rfl, trivial⟩ ⟨rfl, rfl, trivial⟩ ⟨((hz11.ext x360)).sub (fun _ _ _ => trivial), (hz13).sub (fun _ _ _ => trivial)⟩))
    · skip
      refine efI rfl ?_
      refine xal zc46 ?_
      intro W364 x365 b366 nn367
      have s368 := x365.sz
      have z369 := z357.trans x365
      replace b3 := b3.ext x365
      replace b9 := b9.ext x365
      replace b15 := b15.ext x365
      have q370 := q358.trans x365
      refine ⟨fun _ => q370, ?_⟩
      exact (hG _ _ _ _).2 (Gcast (by kernel_rfl) (K1_15 (m11) (d11) (e11) (f11) (_) _ _ q370 ⟨rfl, rfl, rfl, rfl, rfl, rfl, rfl, trivial⟩ ⟨rfl, rfl, trivial⟩ ⟨((hz11.ext x365)).sub (fun _ _ _ => trivial), b366, by omega⟩))
    · skip
      refine efI rfl ?_
      refine xal zc46 ?_
      intro W371 x372 b373 nn374
      have s375 := x372.sz
      have z376 := z357.trans x372
      replace b3 := b3.ext x372
      replace b9 := b9.ext x372
      replace b15 := b15.ext x372
      have q377 := q358.trans x372
      refine ⟨fun _ => q377, ?_⟩
      exact (hG _ _ _ _).2 (Gcast (by kernel_rfl) (K1_16 (m11) (d11) (e11) (f11) (_) _ _ q377 ⟨rfl, rfl, rfl, rfl, rfl, rfl, rfl, trivial⟩ ⟨rfl, rfl, trivial⟩ ⟨((hz11.ext x372)).sub (fun _ _ _ => trivial), b373, by omega⟩))
  have K1_19 : ∀ (m8 : Bool) (d8 : Option Addr) (e8 : Nat) (f8 : Nat) (m10 : Bool) (d10 : Option Addr) (e10 : Nat) (f10 : Nat) (b5 : Nat) (E : Env) (W : World), Ext W19 W → agree E [(2, .pointer (some ⟨w.heap.size, 0, none⟩)), (3, .pointer (some ⟨W1.heap.size, 0, none⟩)), (4, .pointer (some ⟨W7.heap.size, 0, none⟩)), (7, .agg #[.bool n1, .slice a1 l1 c1, .bool n2, .slice a2 l2 c2]), (9, .agg #[.bool n3, .slice a3 l3 c3, .bool n4, .slice a4 l4 c4]), (12, .agg #[.bool n3, .slice a3 l3 c3, .bool n4, .slice a4 l4 c4]), (14, .agg #[.bool n1, .slice a1 l1 c1, .bool n2, .slice a2 l2 c2])] → agree E [(8, .agg #[.bool m8, .slice d8 e8 f8]), (10, .agg #[.bool m10, .slice d10 e10 f10]), (5, .pointer (some ⟨b5, 0, none⟩))] → (ZA (L1) TT W m8 d8 e8 f8 (nmq px1 py1) ∧ ZA (L2) TT W m10 d10 e10 f10 (dnq py2) ∧ BoxAt W b5 [.bool false, .slice none 0 0] 46 ∧ W19.heap.size ≤ b5) → G 7 #[true, true, true, true, false, true, false, true, false, false, true, false, false, false] E W := by
    intro m8 d8 e8 f8 m10 d10 e10 f10 b5 E378 W379 x380 hF hL hI
    obtain ⟨hz8, hz10, hb5, lb5⟩ := hI
    refine (hG _ _ _ _).1 ?_
    rw [← ups_agree hF, ← ups_agree hL]
    have s381 := x380.sz
    have z382 := z22.trans x380
    replace b3 := b3.ext x380
    replace b9 := b9.ext x380
    replace b15 := b15.ext x380
    have q383 := q23.trans x380
    have lhb5 := hb5.lt
    refine efs 4 [11] (by kernel_rfl) ⟨?_, ?_, trivial⟩
    · skip
      refine efI rfl ?_
      refine xcall e173 (rMulZ_ok _ _ _ _ _ _ _ _ _ _ _ _ _ _ _ _ hz8 (by omega) hz10 (by omega) (TT.up _)) rfl rfl ?_
      rintro _ W384 ⟨_, _, _, _, rfl, x385, hz11c⟩
      have s386 := x385.sz
      have z387 := z382.trans x385
      replace b3 := b3.ext x385
      replace b9 := b9.ext x385
      replace b15 := b15.ext x385
      replace hb5 := hb5.ext x385
      have q388 := q383.trans x385
      have hz11 := ZC.za_mul hz11c hz8 hz10
      refine ⟨_, rfl, ?_⟩
      refine ⟨fun _ => q388, ?_⟩
      exact (hG _ _ _ _).2 (Gcast (by kernel_rfl) (K1_15 (_) (_) (_) (_) (b5) _ _ q388 ⟨rfl, rfl, rfl, rfl, rfl, rfl, rfl, trivial⟩ ⟨rfl, rfl, trivial⟩ ⟨(hz11).sub (fun _ _ _ => trivial), hb5, lb5⟩))
    · skip
      refine efI rfl ?_
      refine xal zc46 ?_
      intro W389 x390 b391 nn392
      have s393 := x390.sz
      have z394 := z382.trans x390
      replace b3 := b3.ext x390
      replace b9 := b9.ext x390
      replace b15 := b15.ext x390
      replace hb5 := hb5.ext x390
      have q395 := q383.trans x390
      refine ⟨fun _ => q395, ?_⟩
      exact (hG _ _ _ _).2 (Gcast (by kernel_rfl) (K1_17 (m8) (d8) (e8) (f8) (m10) (d10) (e10) (f10) (b5) (_) _ _ q395 ⟨rfl, rfl, rfl, rfl, rfl, rfl, rfl, trivial⟩ ⟨rfl, rfl, rfl, rfl, trivial⟩ ⟨((hz8.ext x390)).sub (fun _ _ _ => trivial), ((hz10.ext x390)).sub (fun _ _ _ => trivial), hb5, lb5, b391, by omega, by omega⟩))
  have K1_20 : ∀ (m8 : Bool) (d8 : Option Addr) (e8 : Nat) (f8 : Nat) (m10 : Bool) (d10 : Option Addr) (e10 : Nat) (f10 : Nat) (b6 : Nat) (E : Env) (W : World), Ext W19 W → agree E [(2, .pointer (some ⟨w.heap.size, 0, none⟩)), (3, .pointer (some ⟨W1.heap.size, 0, none⟩)), (4, .pointer (some ⟨W7.heap.size, 0, none⟩)), (7, .agg #[.bool n1, .slice a1 l1 c1, .bool n2, .slice a2 l2 c2]), (9, .agg #[.bool n3, .slice a3 l3 c3, .bool n4, .slice a4 l4 c4]), (12, .agg #[.bool n3, .slice a3 l3 c3, .bool n4, .slice a4 l4 c4]), (14, .agg #[.bool n1, .slice a1 l1 c1, .bool n2, .slice a2 l2 c2])] → agree E [(8, .agg #[.bool m8, .slice d8 e8 f8]), (10, .agg #[.bool m10, .slice d10 e10 f10]), (6, .pointer (some ⟨b6, 0, none⟩))] → (ZA (L1) TT W m8 d8 e8 f8 (nmq px1 py1) ∧ ZA (L2) TT W m10 d10 e10 f10 (dnq py2) ∧ BoxAt W b6 [.bool false, .slice none 0 0] 46 ∧ W19.heap.size ≤ b6) → G 7 #[true, true, true, true, false, true, false, true, false, false, false, true, false, false] E W := by
    intro m8 d8 e8 f8 m10 d10 e10 f10 b6 E396 W397 x398 hF hL hI
    obtain ⟨hz8, hz10, hb6, lb6⟩ := hI
    refine (hG _ _ _ _).1 ?_
    rw [← ups_agree hF, ← ups_agree hL]
    have s399 := x398.sz
    have z400 := z22.trans x398
    replace b3 := b3.ext x398
    replace b9 := b9.ext x398
    replace b15 := b15.ext x398
    have q401 := q23.trans x398
    have lhb6 := hb6.lt
    refine efs 4 [10] (by kernel_rfl) ⟨?_, ?_, trivial⟩
    · skip
      refine efI rfl ?_
      refine xcall e173 (rMulZ_ok _ _ _ _ _ _ _ _ _ _ _ _ _ _ _ _ hz8 (by omega) hz10 (by omega) (TT.up _)) rfl rfl ?_
      rintro _ W402 ⟨_, _, _, _, rfl, x403, hz11c⟩
      have s404 := x403.sz
      have z405 := z400.trans x403
      replace b3 := b3.ext x403
      replace b9 := b9.ext x403
      replace b15 := b15.ext x403
      replace hb6 := hb6.ext x403
      have q406 := q401.trans x403
      have hz11 := ZC.za_mul hz11c hz8 hz10
      refine ⟨_, rfl, ?_⟩
      refine ⟨fun _ => q406, ?_⟩
      exact (hG _ _ _ _).2 (Gcast (by kernel_rfl) (K1_16 (_) (_) (_) (_) (b6) _ _ q406 ⟨rfl, rfl, rfl, rfl, rfl, rfl, rfl, trivial⟩ ⟨rfl, rfl, trivial⟩ ⟨(hz11).sub (fun _ _ _ => trivial), hb6, lb6⟩))
    · skip
      refine efI rfl ?_
      refine xal zc46 ?_
      intro W407 x408 b409 nn410
      have s411 := x408.sz
      have z412 := z400.trans x408
      replace b3 := b3.ext x408
      replace b9 := b9.ext x408
      replace b15 := b15.ext x408
      replace hb6 := hb6.ext x408
      have q413 := q401.trans x408
      refine ⟨fun _ => q413, ?_⟩
      exact (hG _ _ _ _).2 (Gcast (by kernel_rfl) (K1_17 (m8) (d8) (e8) (f8) (m10) (d10) (e10) (f10) (_) (b6) _ _ q413 ⟨rfl, rfl, rfl, rfl, rfl, rfl, rfl, trivial⟩ ⟨rfl, rfl, rfl, rfl, trivial⟩ ⟨((hz8.ext x408)).sub (fun _ _ _ => trivial), ((hz10.ext x408)).sub (fun _ _ _ => trivial), b409, by omega, hb6, lb6, by omega⟩))
  have K1_21 : ∀ (m8 : Bool) (d8 : Option Addr) (e8 : Nat) (f8 : Nat) (b5 : Nat) (b6 : Nat) (E : Env) (W : World), Ext W19 W → agree E [(2, .pointer (some ⟨w.heap.size, 0, none⟩)), (3, .pointer (some ⟨W1.heap.size, 0, none⟩)), (4, .pointer (some ⟨W7.heap.size, 0, none⟩)), (7, .agg #[.bool n1, .slice a1 l1 c1, .bool n2, .slice a2 l2 c2]), (9, .agg #[.bool n3, .slice a3 l3 c3, .bool n4, .slice a4 l4 c4]), (12, .agg #[.bool n3, .slice a3 l3 c3, .bool n4, .slice a4 l4 c4]), (14, .agg #[.bool n1, .slice a1 l1 c1, .bool n2, .slice a2 l2 c2])] → agree E [(8, .agg #[.bool m8, .slice d8 e8 f8]), (5, .pointer (some ⟨b5, 0, none⟩)), (6, .pointer (some ⟨b6, 0, none⟩))] → (ZA (L1) TT W m8 d8 e8 f8 (nmq px1 py1) ∧ BoxAt W b5 [.bool false, .slice none 0 0] 46 ∧ W19.heap.size ≤ b5 ∧ BoxAt W b6 [.bool false, .slice none 0 0] 46 ∧ W19.heap.size ≤ b6 ∧ b5 ≠ b6) → G 7 #[true, true, true, false, false, true, false, true, false, false, true, true, false, false] E W := by
    intro m8 d8 e8 f8 b5 b6 E414 W415 x416 hF hL hI
    obtain ⟨hz8, hb5, lb5, hb6, lb6, pr0⟩ := hI
    refine (hG _ _ _ _).1 ?_
    rw [← ups_agree hF, ← ups_agree hL]
    have s417 := x416.sz
    have z418 := z22.trans x416
    replace b3 := b3.ext x416
    replace b9 := b9.ext x416
    replace b15 := b15.ext x416
    have q419 := q23.trans x416
    have lhb5 := hb5.lt
    have lhb6 := hb6.lt
    refine ef 3 (by kernel_rfl) rfl ?_
    refine xcall e161 (rDen_ok [_, _, _, _] _ _ _ _ _ _ (PA.mk' (hx2.ext z418) (hy2.ext z418)) (by omega) (TT.up _)) rfl rfl ?_
    rintro _ W420 ⟨_, _, _, _, rfl, x421, hz10c⟩
    have s422 := x421.sz
    have z423 := z418.trans x421
    replace b3 := b3.ext x421
    replace b9 := b9.ext x421
    replace b15 := b15.ext x421
    replace hb5 := hb5.ext x421
    replace hb6 := hb6.ext x421
    have q424 := q419.trans x421
    have hz10 := ZC.zaH (L := L2) hz10c (dn_abs (by omega) hy2.lt)
    refine ⟨_, rfl, ?_⟩
    refine ⟨fun _ => q424, ?_⟩
    exact (hG _ _ _ _).2 (Gcast (by kernel_rfl) (K1_17 (m8) (d8) (e8) (f8) (_) (_) (_) (_) (b5) (b6) _ _ q424 ⟨rfl, rfl, rfl, rfl, rfl, rfl, rfl, trivial⟩ ⟨rfl, rfl, rfl, rfl, trivial⟩ ⟨((hz8.ext x421)).sub (fun _ _ _ => trivial), (hz10).sub (fun _ _ _ => trivial), hb5, lb5, hb6, lb6, by omega⟩))
  have K1_22 : ∀ (m8 : Bool) (d8 : Option Addr) (e8 : Nat) (f8 : Nat) (m10 : Bool) (d10 : Option Addr) (e10 : Nat) (f10 : Nat) (E : Env) (W : World), Ext W19 W → agree E [(2, .pointer (some ⟨w.heap.size, 0, none⟩)), (3, .pointer (some ⟨W1.heap.size, 0, none⟩)), (4, .pointer (some ⟨W7.heap.size, 0, none⟩)), (7, .agg #[.bool n1, .slice a1 l1 c1, .bool n2, .slice a2 l2 c2]), (9, .agg #[.bool n3, .slice a3 l3 c3, .bool n4, .slice a4 l4 c4]), (12, .agg #[.bool n3, .slice a3 l3 c3, .bool n4, .slice a4 l4 c4]), (14, .agg #[.bool n1, .slice a1 l1 c1, .bool n2, .slice a2 l2 c2])] → agree E [(8, .agg #[.bool m8, .slice d8 e8 f8]), (10, .agg #[.bool m10, .slice d10 e10 f10])] → (ZA (L1) TT W m8 d8 e8 f8 (nmq px1 py1) ∧ ZA (L2) TT W m10 d10 e10 f10 (dnq py2)) → G 8 #[true, true, true, true, false, true, false, true, false, false, false, false, false, false] E W := by
    intro m8 d8 e8 f8 m10 d10 e10 f10 E425 W426 x427 hF hL hI
    obtain ⟨hz8, hz10⟩ := hI
    refine (hG _ _ _ _).1 ?_
    rw [← ups_agree hF, ← ups_agree hL]
    have s428 := x427.sz
    have z429 := z22.trans x427
    replace b3 := b3.ext x427
    replace b9 := b9.ext x427
    replace b15 := b15.ext x427
    have q430 := q23.trans x427
    refine efs 4 [10, 11] (by kernel_rfl) ⟨?_, ?_, ?_, trivial⟩
    · skip
      refine efI rfl ?_
      refine xcall e173 (rMulZ_ok _ _ _ _ _ _ _ _ _ _ _ _ _ _ _ _ hz8 (by omega) hz10 (by omega) (TT.up _)) rfl rfl ?_
      rintro _ W431 ⟨_, _, _, _, rfl, x432, hz11c⟩
      have s433 := x432.sz
      have z434 := z429.trans x432
      replace b3 := b3.ext x432
      replace b9 := b9.ext x432
      replace b15 := b15.ext x432
      have q435 := q430.trans x432
      have hz11 := ZC.za_mul hz11c hz8 hz10
      refine ⟨_, rfl, ?_⟩
      refine ⟨fun _ => q435, ?_⟩
      exact (hG _ _ _ _).2 (Gcast (by kernel_rfl) (K1_18 (_) (_) (_) (_) _ _ q435 ⟨rfl, rfl, rfl, rfl, rfl, rfl, rfl, trivial⟩ ⟨rfl, trivial⟩ ((hz11).sub (fun _ _ _ => trivial))))
    · skip
      refine efI rfl ?_
      refine xal zc46 ?_
      intro W436 x437 b438 nn439
      have s440 := x437.sz
      have z441 := z429.trans x437
      replace b3 := b3.ext x437
      replace b9 := b9.ext x437
      replace b15 := b15.ext x437
      have q442 := q430.trans x437
      refine ⟨fun _ => q442, ?_⟩
      exact (hG _ _ _ _).2 (Gcast (by kernel_rfl) (K1_19 (m8) (d8) (e8) (f8) (m10) (d10) (e10) (f10) (_) _ _ q442 ⟨rfl, rfl, rfl, rfl, rfl, rfl, rfl, trivial⟩ ⟨rfl, rfl, rfl, trivial⟩ ⟨((hz8.ext x437)).sub (fun _ _ _ => trivial), ((hz10.ext x437)).sub (fun _ _ _ => trivial), b438, by omega⟩))
    · skip
      refine efI rfl ?_
      refine xal zc46 ?_
      intro W443 x444 b445 nn446
      have s447 := x444.sz
      have z448 := z429.trans x444
      replace b3 := b3.ext x444
      replace b9 := b9.ext x444
      replace b15 := b15.ext x444
      have q449 := q430.trans x444
      refine ⟨fun _ => q449, ?_⟩
      exact (hG _ _ _ _).2 (Gcast (by kernel_rfl) (K1_20 (m8) (d8) (e8) (f8) (m10) (d10) (e10) (f10) (_) _ _ q449 ⟨rfl, rfl, rfl, rfl, rfl, rfl, rfl, trivial⟩ ⟨rfl, rfl, rfl, trivial⟩ ⟨((hz8.ext x444)).sub (fun _ _ _ => trivial), ((hz10.ext x444)).sub (fun _ _ _ => trivial), b445, by omega⟩))
  have K1_23 : ∀ (m8 : Bool) (d8 : Option Addr) (e8 : Nat) (f8 : Nat) (b5 : Nat) (E : Env) (W : World), Ext W19 W → agree E [(2, .pointer (some ⟨w.heap.size, 0, none⟩)), (3, .pointer (some ⟨W1.heap.size, 0, none⟩)), (4, .pointer (some ⟨W7.heap.size, 0, none⟩)), (7, .agg #[.bool n1, .slice a1 l1 c1, .bool n2, .slice a2 l2 c2]), (9, .agg #[.bool n3, .slice a3 l3 c3, .bool n4, .slice a4 l4 c4]), (12, .agg #[.bool n3, .slice a3 l3 c3, .bool n4, .slice a4 l4 c4]), (14, .agg #[.bool n1, .slice a1 l1 c1, .bool n2, .slice a2 l2 c2])] → agree E [(8, .agg #[.bool m8, .slice d8 e8 f8]), (5, .pointer (some ⟨b5, 0, none⟩))] → (ZA (L1) TT W m8 d8 e8 f8 (nmq px1 py1) ∧ BoxAt W b5 [.bool false, .slice none 0 0] 46 ∧ W19.heap.size ≤ b5) → G 8 #[true, true, true, false, false, true, false, true, false, false, true, false, false, false] E W := by
    intro m8 d8 e8 f8 b5 E450 W451 x452 hF hL hI
    obtain ⟨hz8, hb5, lb5⟩ := hI
    refine (hG _ _ _ _).1 ?_
    rw [← ups_agree hF, ← ups_agree hL]
    have s453 := x452.sz
    have z454 := z22.trans x452
    replace b3 := b3.ext x452
    replace b9 := b9.ext x452
    replace b15 := b15.ext x452
    have q455 := q23.trans x452
    have lhb5 := hb5.lt
    refine efs 3 [11] (by kernel_rfl) ⟨?_, ?_, trivial⟩
    · skip
      refine efI rfl ?_
      refine xcall e161 (rDen_ok [_, _, _, _] _ _ _ _ _ _ (PA.mk' (hx2.ext z454) (hy2.ext z454)) (by omega) (TT.up _)) rfl rfl ?_
      rintro _ W456 ⟨_, _, _, _, rfl, x457, hz10c⟩
      have s458 := x457.sz
      have z459 := z454.trans x457
      replace b3 := b3.ext x457
      replace b9 := b9.ext x457
      replace b15 := b15.ext x457
      replace hb5 := hb5.ext x457
      have q460 := q455.trans x457
      have hz10 := ZC.zaH (L := L2) hz10c (dn_abs (by omega) hy2.lt)
      refine ⟨_, rfl, ?_⟩
      refine ⟨fun _ => q460, ?_⟩
      exact (hG _ _ _ _).2 (Gcast (by kernel_rfl) (K1_19 (m8) (d8) (e8) (f8) (_) (_) (_) (_) (b5) _ _ q460 ⟨rfl, rfl, rfl, rfl, rfl, rfl, rfl, trivial⟩ ⟨rfl, rfl, rfl, trivial⟩ ⟨((hz8.ext x457)).sub (fun _ _ _ => trivial), (hz10).sub (fun _ _ _ => trivial), hb5, lb5⟩))
    · skip
      refine efI rfl ?_
      refine xal zc46 ?_
      intro W461 x462 b463 nn464
      have s465 := x462.sz
      have z466 := z454.trans x462
      replace b3 := b3.ext x462
      replace b9 := b9.ext x462
      replace b15 := b15.ext x462
      replace hb5 := hb5.ext x462
      have q467 := q455.trans x462
      refine ⟨fun _ => q467, ?_⟩
      exact (hG _ _ _ _).2 (Gcast (by kernel_rfl) (K1_21 (m8) (d8) (e8) (f8) (b5) (_) _ _ q467 ⟨rfl, rfl, rfl, rfl, rfl, rfl, rfl, trivial⟩ ⟨rfl, rfl, rfl, trivial⟩ ⟨((hz8.ext x462)).sub (fun _ _ _ => trivial), hb5, lb5, b463, by omega, by omega⟩))
  have K1_24 : ∀ (m8 : Bool) (d8 : Option Addr) (e8 : Nat) (f8 : Nat) (b6 : Nat) (E : Env) (W : World), Ext W19 W → agree E [(2, .pointer (some ⟨w.heap.size, 0, none⟩)), (3, .pointer (some ⟨W1.heap.size, 0, none⟩)), (4, .pointer (some ⟨W7.heap.size, 0, none⟩)), (7, .agg #[.bool n1, .slice a1 l1 c1, .bool n2, .slice a2 l2 c2]), (9, .agg #[.bool n3, .slice a3 l3 c3, .bool n4, .slice a4 l4 c4]), (12, .agg #[.bool n3, .slice a3 l3 c3, .bool n4, .slice a4 l4 c4]), (14, .agg #[.bool n1, .slice a1 l1 c1, .bool n2, .slice a2 l2 c2])] → agree E [(8, .agg #[.bool m8, .slice d8 e8 f8]), (6, .pointer (some ⟨b6, 0, none⟩))] → (ZA (L1) TT W m8 d8 e8 f8 (nmq px1 py1) ∧ BoxAt W b6 [.bool false, .slice none 0 0] 46 ∧ W19.heap.size ≤ b6) → G 8 #[true, true, true, false, false, true, false, true, false, false, false, true, false, false] E W := by
    intro m8 d8 e8 f8 b6 E468 W469 x470 hF hL hI
    obtain ⟨hz8, hb6, lb6⟩ := hI
    refine (hG _ _ _ _).1 ?_
    rw [← ups_agree hF, ← ups_agree hL]
    have s471 := x470.sz
    have z472 := z22.trans x470
    replace b3 := b3.ext x470
    replace b9 := b9.ext x470
    replace b15 := b15.ext x470
    have q473 := q23.trans x470
    have lhb6 := hb6.lt
    refine efs 3 [10] (by kernel_rfl) ⟨?_, ?_, trivial⟩
    · skip
      refine efI rfl ?_
      refine xcall e161 (rDen_ok [_, _, _, _] _ _ _ _ _ _ (PA.mk' (hx2.ext z472) (hy2.ext z472)) (by omega) (TT.up _)) rfl rfl ?_
      rintro _ W474 ⟨_, _, _, _, rfl, x475, hz10c⟩
      have s476 := x475.sz
      have z477 := z472.trans x475
      replace b3 := b3.ext x475
      replace b9 := b9.ext x475
      replace b15 := b15.ext x475
      replace hb6 := hb6.ext x475
      have q478 := q473.trans x475
      have hz10 := ZC.zaH (L := L2) hz10c (dn_abs (by omega) hy2.lt)
      refine ⟨_, rfl, ?_⟩
      refine ⟨fun _ => q478, ?_⟩
      exact (hG _ _ _ _).2 (Gcast (by kernel_rfl) (K1_20 (m8) (d8) (e8) (f8) (_) (_) (_) (_) (b6) _ _ q478 ⟨rfl, rfl, rfl, rfl, rfl, rfl, rfl, trivial⟩ ⟨rfl, rfl, rfl, trivial⟩ ⟨((hz8.ext x475)).sub (fun _ _ _ => trivial), (hz10).sub (fun _ _ _ => trivial), hb6, lb6⟩))
    · skip
      refine efI rfl ?_
      refine xal zc46 ?_
      intro W479 x480 b481 nn482
      have s483 := x480.sz
      have z484 := z472.trans x480
      replace b3 := b3.ext x480
      replace b9 := b9.ext x480
      replace b15 := b15.ext x480
      replace hb6 := hb6.ext x480
      have q485 := q473.trans x480
      refine ⟨fun _ => q485, ?_⟩
      exact (hG _ _ _ _).2 (Gcast (by kernel_rfl) (K1_21 (m8) (d8) (e8) (f8) (_) (b6) _ _ q485 ⟨rfl, rfl, rfl, rfl, rfl, rfl, rfl, trivial⟩ ⟨rfl, rfl, rfl, trivial⟩ ⟨((hz8.ext x480)).sub (fun _ _ _ => trivial), b481, by omega, hb6, lb6, by omega⟩))
  have K1_25 : ∀ (b5 : Nat) (b6 : Nat) (E : Env) (W : World), Ext W19 W → agree E [(2, .pointer (some ⟨w.heap.size, 0, none⟩)), (3, .pointer (some ⟨W1.heap.size, 0, none⟩)), (4, .pointer (some ⟨W7.heap.size, 0, none⟩)), (7, .agg #[.bool n1, .slice a1 l1 c1, .bool n2, .slice a2 l2 c2]), (9, .agg #[.bool n3, .slice a3 l3 c3, .bool n4, .slice a4 l4 c4]), (12, .agg #[.bool n3, .slice a3 l3 c3, .bool n4, .slice a4 l4 c4]), (14, .agg #[.bool n1, .slice a1 l1 c1, .bool n2, .slice a2 l2 c2])] → agree E [(5, .pointer (some ⟨b5, 0, none⟩)), (6, .pointer (some ⟨b6, 0, none⟩))] → (BoxAt W b5 [.bool false, .slice none 0 0] 46 ∧ W19.heap.size ≤ b5 ∧ BoxAt W b6 [.bool false, .slice none 0 0] 46 ∧ W19.heap.size ≤ b6 ∧ b5 ≠ b6) → G 8 #[true, false, true, false, false, true, false, true, false, false, true, true, false, false] E W := by
    intro b5 b6 E486 W487 x488 hF hL hI
    obtain ⟨hb5, lb5, hb6, lb6, pr0⟩ := hI
    refine (hG _ _ _ _).1 ?_
    rw [← ups_agree hF, ← ups_agree hL]
    have s489 := x488.sz
    have z490 := z22.trans x488
    replace b3 := b3.ext x488
    replace b9 := b9.ext x488
    replace b15 := b15.ext x488
    have q491 := q23.trans x488
    have lhb5 := hb5.lt
    have lhb6 := hb6.lt
    refine ef 1 (by kernel_rfl) rfl ?_
    refine xcall e160 (rNum_ok [_, _, _, _] _ _ _ _ _ _ (PA.mk' (hx1.ext z490) (hy1.ext z490)) (by omega) (TT.up _)) rfl rfl ?_
    rintro _ W492 ⟨_, _, _, _, rfl, x493, hz8c⟩
    have s494 := x493.sz
    have z495 := z490.trans x493
    replace b3 := b3.ext x493
    replace b9 := b9.ext x493
    replace b15 := b15.ext x493
    replace hb5 := hb5.ext x493
    replace hb6 := hb6.ext x493
    have q496 := q491.trans x493
    have hz8 := ZC.zaH (L := L1) hz8c (nm_lt hx1.lt)
    refine ⟨_, rfl, ?_⟩
    refine ⟨fun _ => q496, ?_⟩
    exact (hG _ _ _ _).2 (Gcast (by kernel_rfl) (K1_21 (_) (_) (_) (_) (b5) (b6) _ _ q496 ⟨rfl, rfl, rfl, rfl, rfl, rfl, rfl, trivial⟩ ⟨rfl, rfl, rfl, trivial⟩ ⟨(hz8).sub (fun _ _ _ => trivial), hb5, lb5, hb6, lb6, by omega⟩))
  have K1_26 : ∀ (m8 : Bool) (d8 : Option Addr) (e8 : Nat) (f8 : Nat) (E : Env) (W : World), Ext W19 W → agree E [(2, .pointer (some ⟨w.heap.size, 0, none⟩)), (3, .pointer (some ⟨W1.heap.size, 0, none⟩)), (4, .pointer (some ⟨W7.heap.size, 0, none⟩)), (7, .agg #[.bool n1, .slice a1 l1 c1, .bool n2, .slice a2 l2 c2]), (9, .agg #[.bool n3, .slice a3 l3 c3, .bool n4, .slice a4 l4 c4]), (12, .agg #[.bool n3, .slice a3 l3 c3, .bool n4, .slice a4 l4 c4]), (14, .agg #[.bool n1, .slice a1 l1 c1, .bool n2, .slice a2 l2 c2])] → agree E [(8, .agg #[.bool m8, .slice d8 e8 f8])] → (ZA (L1) TT W m8 d8 e8 f8 (nmq px1 py1)) → G 9 #[true, true, true, false, false, true, false, true, false, false, false, false, false, false] E W := by
    intro m8 d8 e8 f8 E497 W498 x499 hF hL hI
    have hz8 := hI
    refine (hG _ _ _ _).1 ?_
    rw [← ups_agree hF, ← ups_agree hL]
    have s500 := x499.sz
    have z501 := z22.trans x499
    replace b3 := b3.ext x499
    replace b9 := b9.ext x499
    replace b15 := b15.ext x499
    have q502 := q23.trans x499
    refine efs 3 [10, 11] (by kernel_rfl) ⟨?_, ?_, ?_, trivial⟩
    · skip
      refine efI rfl ?_
      refine xcall e161 (rDen_ok [_, _, _, _] _ _ _ _ _ _ (PA.mk' (hx2.ext z501) (hy2.ext z501)) (by omega) (TT.up _)) rfl rfl ?_
      rintro _ W503 ⟨_, _, _, _, rfl, x504, hz10c⟩
      have s505 := x504.sz
      have z506 := z501.trans x504
      replace b3 := b3.ext x504
      replace b9 := b9.ext x504
      replace b15 := b15.ext x504
      have q507 := q502.trans x504
      have hz10 := ZC.zaH (L := L2) hz10c (dn_abs (by omega) hy2.lt)
      refine ⟨_, rfl, ?_⟩
      refine ⟨fun _ => q507, ?_⟩
      exact (hG _ _ _ _).2 (Gcast (by kernel_rfl) (K1_22 (m8) (d8) (e8) (f8) (_) (_) (_) (_) _ _ q507 ⟨rfl, rfl, rfl, rfl, rfl, rfl, rfl, trivial⟩ ⟨rfl, rfl, trivial⟩ ⟨((hz8.ext x504)).sub (fun _ _ _ => trivial), (hz10).sub (fun _ _ _ => trivial)⟩))
    · skip
      refine efI rfl ?_
      refine xal zc46 ?_
      intro W508 x509 b510 nn511
      have s512 := x509.sz
      have z513 := z501.trans x509
      replace b3 := b3.ext x509
      replace b9 := b9.ext x509
      replace b15 := b15.ext x509
      have q514 := q502.trans x509
      refine ⟨fun _ => q514, ?_⟩
      exact (hG _ _ _ _).2 (Gcast (by kernel_rfl) (K1_23 (m8) (d8) (e8) (f8) (_) _ _ q514 ⟨rfl, rfl, rfl, rfl, rfl, rfl, rfl, trivial⟩ ⟨rfl, rfl, trivial⟩ ⟨((hz8.ext x509)).sub (fun _ _ _ => trivial), b510, by omega⟩))
    · skip
      refine efI rfl ?_
      refine xal zc46 ?_
      intro W515 x516 b517 nn518
      have s519 := x516.sz
      have z520 := z501.trans x516
      replace b3 := b3.ext x516
      replace b9 := b9.ext x516
      replace b15 := b15.ext x516
      have q521 := q502.trans x516
      refine ⟨fun _ => q521, ?_⟩
      exact (hG _ _ _ _).2 (Gcast (by kernel_rfl) (K1_24 (m8) (d8) (e8) (f8) (_) _ _ q521 ⟨rfl, rfl, rfl, rfl, rfl, rfl, rfl, trivial⟩ ⟨rfl, rfl, trivial⟩ ⟨((hz8.ext x516)).sub (fun _ _ _ => trivial), b517, by omega⟩))
  have K1_27 : ∀ (b5 : Nat) (E : Env) (W : World), Ext W19 W → agree E [(2, .pointer (some ⟨w.heap.size, 0, none⟩)), (3, .pointer (some ⟨W1.heap.size, 0, none⟩)), (4, .pointer (some ⟨W7.heap.size, 0, none⟩)), (7, .agg #[.bool n1, .slice a1 l1 c1, .bool n2, .slice a2 l2 c2]), (9, .agg #[.bool n3, .slice a3 l3 c3, .bool n4, .slice a4 l4 c4]), (12, .agg #[.bool n3, .slice a3 l3 c3, .bool n4, .slice a4 l4 c4]), (14, .agg #[.bool n1, .slice a1 l1 c1, .bool n2, .slice a2 l2 c2])] → agree E [(5, .pointer (some ⟨b5, 0, none⟩))] → (BoxAt W b5 [.bool false, .slice none 0 0] 46 ∧ W19.heap.size ≤ b5) → G 9 #[true, false, true, false, false, true, false, true, false, false, true, false, false, false] E W := by
    intro b5 E522 W523 x524 hF hL hI
    obtain ⟨hb5, lb5⟩ := hI
    refine (hG _ _ _ _).1 ?_
    rw [← ups_agree hF, ← ups_agree hL]
    have s525 := x524.sz
    have z526 := z22.trans x524
    replace b3 := b3.ext x524
    replace b9 := b9.ext x524
    replace b15 := b15.ext x524
    have q527 := q23.trans x524
    have lhb5 := hb5.lt
    refine efs 1 [11] (by kernel_rfl) ⟨?_, ?_, trivial⟩
    · skip
      refine efI rfl ?_
      refine xcall e160 (rNum_ok [_, _, _, _] _ _ _ _ _ _ (PA.mk' (hx1.ext z526) (hy1.ext z526)) (by omega) (TT.up _)) rfl rfl ?_
      rintro _ W528 ⟨_, _, _, _, rfl, x529, hz8c⟩
      have s530 := x529.sz
      have z531 := z526.trans x529
      replace b3 := b3.ext x529
      replace b9 := b9.ext x529
      replace b15 := b15.ext x529
      replace hb5 := hb5.ext x529
      have q532 := q527.trans x529
      have hz8 := ZC.zaH (L := L1) hz8c (nm_lt hx1.lt)
      refine ⟨_, rfl, ?_⟩
      refine ⟨fun _ => q532, ?_⟩
      exact (hG _ _ _ _).2 (Gcast (by kernel_rfl) (K1_23 (_) (_) (_) (_) (b5) _ _ q532 ⟨rfl, rfl, rfl, rfl, rfl, rfl, rfl, trivial⟩ ⟨rfl, rfl, trivial⟩ ⟨(hz8).sub (fun _ _ _ => trivial), hb5, lb5⟩))
    · skip
      refine efI rfl ?_
      refine xal zc46 ?_
      intro W533 x534 b535 nn536
      have s537 := x534.sz
      have z538 := z526.trans x534
      replace b3 := b3.ext x534
      replace b9 := b9.ext x534
      replace b15 := b15.ext x534
      replace hb5 := hb5.ext x534
      have q539 := q527.trans x534
      refine ⟨fun _ => q539, ?_⟩
      exact (hG _ _ _ _).2 (Gcast (by kernel_rfl) (K1_25 (b5) (_) _ _ q539 ⟨rfl, rfl, rfl, rfl, rfl, rfl, rfl, trivial⟩ ⟨rfl, rfl, trivial⟩ ⟨hb5, lb5, b535, by omega, by omega⟩))
  have K1_28 : ∀ (b6 : Nat) (E : Env) (W : World), Ext W19 W → agree E [(2, .pointer (some ⟨w.heap.size, 0, none⟩)), (3, .pointer (some ⟨W1.heap.size, 0, none⟩)), (4, .pointer (some ⟨W7.heap.size, 0, none⟩)), (7, .agg #[.bool n1, .slice a1 l1 c1, .bool n2, .slice a2 l2 c2]), (9, .agg #[.bool n3, .slice a3 l3 c3, .bool n4, .slice a4 l4 c4]), (12, .agg #[.bool n3, .slice a3 l3 c3, .bool n4, .slice a4 l4 c4]), (14, .agg #[.bool n1, .slice a1 l1 c1, .bool n2, .slice a2 l2 c2])] → agree E [(6, .pointer (some ⟨b6, 0, none⟩))] → (BoxAt W b6 [.bool false, .slice none 0 0] 46 ∧ W19.heap.size ≤ b6) → G 9 #[true, false, true, false, false, true, false, true, false, false, false, true, false, false] E W := by
    intro b6 E540 W541 x542 hF hL hI
    obtain ⟨hb6, lb6⟩ := hI
    refine (hG _ _ _ _).1 ?_
    rw [← ups_agree hF, ← ups_agree hL]
    have s543 := x542.sz
    have z544 := z22.trans x542
    replace b3 := b3.ext x542
    replace b9 := b9.ext x542
    replace b15 := b15.ext x542
    have q545 := q23.trans x542
    have lhb6 := hb6.lt
    refine efs 1 [10] (by kernel_rfl) ⟨?_, ?_, trivial⟩
    · skip
      refine efI rfl ?_
      refine xcall e160 (rNum_ok [_, _, _, _] _ _ _ _ _ _ (PA.mk' (hx1.ext z544) (hy1.ext z544)) (by omega) (TT.up _)) rfl rfl ?_
      rintro _ W546 ⟨_, _, _, _, rfl, x547, hz8c⟩
      have s548 := x547.sz
      have z549 := z544.trans x547
      replace b3 := b3.ext x547
      replace b9 := b9.ext x547
      replace b15 := b15.ext x547
      replace hb6 := hb6.ext x547
      have q550 := q545.trans x547
      have hz8 := ZC.zaH (L := L1) hz8c (nm_lt hx1.lt)
      refine ⟨_, rfl, ?_⟩
      refine ⟨fun _ => q550, ?_⟩
      exact (hG _ _ _ _).2 (Gcast (by kernel_rfl) (K1_24 (_) (_) (_) (_) (b6) _ _ q550 ⟨rfl, rfl, rfl, rfl, rfl, rfl, rfl, trivial⟩ ⟨rfl, rfl, trivial⟩ ⟨(hz8).sub (fun _ _ _ => trivial), hb6, lb6⟩))
    · skip
      refine efI rfl ?_
      refine xal zc46 ?_
      intro W551 x552 b553 nn554
      have s555 := x552.sz
      have z556 := z544.trans x552
      replace b3 := b3.ext x552
      replace b9 := b9.ext x552
      replace b15 := b15.ext x552
      replace hb6 := hb6.ext x552
      have q557 := q545.trans x552
      refine ⟨fun _ => q557, ?_⟩
      exact (hG _ _ _ _).2 (Gcast (by kernel_rfl) (K1_25 (_) (b6) _ _ q557 ⟨rfl, rfl, rfl, rfl, rfl, rfl, rfl, trivial⟩ ⟨rfl, rfl, trivial⟩ ⟨b553, by omega, hb6, lb6, by omega⟩))
  have K1_29 : ∀  (E : Env) (W : World), Ext W19 W → agree E [(2, .pointer (some ⟨w.heap.size, 0, none⟩)), (3, .pointer (some ⟨W1.heap.size, 0, none⟩)), (4, .pointer (some ⟨W7.heap.size, 0, none⟩)), (7, .agg #[.bool n1, .slice a1 l1 c1, .bool n2, .slice a2 l2 c2]), (9, .agg #[.bool n3, .slice a3 l3 c3, .bool n4, .slice a4 l4 c4]), (12, .agg #[.bool n3, .slice a3 l3 c3, .bool n4, .slice a4 l4 c4]), (14, .agg #[.bool n1, .slice a1 l1 c1, .bool n2, .slice a2 l2 c2])] → agree E [] → (True) → G 10 #[true, false, true, false, false, true, false, true, false, false, false, false, false, false] E W := by
    intro  E558 W559 x560 hF hL hI
    refine (hG _ _ _ _).1 ?_
    rw [← ups_agree hF, ← ups_agree hL]
    have s561 := x560.sz
    have z562 := z22.trans x560
    replace b3 := b3.ext x560
    replace b9 := b9.ext x560
    replace b15 := b15.ext x560
    have q563 := q23.trans x560
    refine efs 1 [10, 11] (by kernel_rfl) ⟨?_, ?_, ?_, trivial⟩
    · skip
      refine efI rfl ?_
      refine xcall e160 (rNum_ok [_, _, _, _] _ _ _ _ _ _ (PA.mk' (hx1.ext z562) (hy1.ext z562)) (by omega) (TT.up _)) rfl rfl ?_
      rintro _ W564 ⟨_, _, _, _, rfl, x565, hz8c⟩
      have s566 := x565.sz
      have z567 := z562.trans x565
      replace b3 := b3.ext x565
      replace b9 := b9.ext x565
      replace b15 := b15.ext x565
      have q568 := q563.trans x565
      have hz8 := ZC.zaH (L := L1) hz8c (nm_lt hx1.lt)
      refine ⟨_, rfl, ?_⟩
      refine ⟨fun _ => q568, ?_⟩
      exact (hG _ _ _ _).2 (Gcast (by kernel_rfl) (K1_26 (_) (_) (_) (_) _ _ q568 ⟨rfl, rfl, rfl, rfl, rfl, rfl, rfl, trivial⟩ ⟨rfl, trivial⟩ ((hz8).sub (fun _ _ _ => trivial))))
    · skip
      refine efI rfl ?_
      refine xal zc46 ?_
      intro W569 x570 b571 nn572
      have s573 := x570.sz
      have z574 := z562.trans x570
      replace b3 := b3.ext x570
      replace b9 := b9.ext x570
      replace b15 := b15.ext x570
      have q575 := q563.trans x570
      refine ⟨fun _ => q575, ?_⟩
      exact (hG _ _ _ _).2 (Gcast (by kernel_rfl) (K1_27 (_) _ _ q575 ⟨rfl, rfl, rfl, rfl, rfl, rfl, rfl, trivial⟩ ⟨rfl, trivial⟩ ⟨b571, by omega⟩))
    · skip
      refine efI rfl ?_
      refine xal zc46 ?_
      intro W576 x577 b578 nn579
      have s580 := x577.sz
      have z581 := z562.trans x577
      replace b3 := b3.ext x577
      replace b9 := b9.ext x577
      replace b15 := b15.ext x577
      have q582 := q563.trans x577
      refine ⟨fun _ => q582, ?_⟩
      exact (hG _ _ _ _).2 (Gcast (by kernel_rfl) (K1_28 (_) _ _ q582 ⟨rfl, rfl, rfl, rfl, rfl, rfl, rfl, trivial⟩ ⟨rfl, trivial⟩ ⟨b578, by omega⟩))
  exact (Gcast (by kernel_rfl) (K1_29  _ _ q23 ⟨rfl, rfl, rfl, rfl, rfl, rfl, rfl, trivial⟩ trivial trivial))
end Go.Proofs.YtknbjfefeeojlaaGreat
/- Packages pylonref02: Sub Cmp; pylonref03: At Lex Unit; pylonref04: At row Same. -/
namespace Go.Proofs.YtknbjfefeeojlaaGreat
open Go.RowKit
attribute [local irreducible] RV VH V OpF Calls
theorem QA.cast {L : Nat} {S : Nat → Prop} {W : World} {q : List Value} {r r' : Rat} (h : QA L S W q r) (e : r = r') : QA L S W q r' := e ▸ h
theorem cq_sub (a b : Rat) : cq (a - b) 0 = cq a b := by
  unfold cq
  have h1 : a - b < 0 ↔ a < b := by
    rw [← Rat.not_le, ← Rat.not_le, not_congr]
    rw [Rat.le_iff_sub_nonneg b a]
  have h2 : a - b = 0 ↔ a = b := ⟨fun h => by
    have : a - b + b = 0 + b := by rw [h]
    rwa [Rat.sub_add_cancel, Rat.zero_add] at this, fun h => by rw [h]; exact Rat.sub_self⟩
  simp only [h1, h2]
def vatI (xs : List Rat) (i : Int) : Rat := if 0 ≤ i then vat xs i.toNat else 0
theorem vatI_nat (xs : List Rat) (k : Nat) : vatI xs k = vat xs k := by unfold vatI; rw [if_pos (by omega)]; rfl
theorem vatI_ge {xs : List Rat} {i : Int} (h : i < 0 ∨ (xs.length : Int) ≤ i) : vatI xs i = 0 := by
  unfold vatI
  split
  · unfold vat; rw [List.getD_eq_getElem?_getD, List.getElem?_eq_none (by omega)]; rfl
  · rfl
theorem matI_row {rss : List (List Rat)} {i k : Int} (h : 0 ≤ i) : matI rss i k = vatI (rowat rss i.toNat) k := by
  unfold matI vatI mat
  by_cases hk : 0 ≤ k
  · rw [if_pos ⟨h, hk⟩, if_pos hk]
  · rw [if_neg (by omega), if_neg hk]

set_option maxHeartbeats 400000 in
theorem rSubQ_ok (q1 q2 : List Value) (r1 r2 : Rat) (L1 L2 : Nat) (S S1 S2 : Nat → Prop) (w : World) (h1 : QA L1 S1 w q1 r1) (h2 : QA L2 S2 w q2 r2) (hL : L1 + L2 ≤ LX / 128) (hl1 : 1 ≤ L1) (hl2 : 1 ≤ L2) (hu : Up S w) :
    Calls Tryz.prog 196 #[.agg q1.toArray, .agg q2.toArray] w (PQ S (r1 - r2) w) := by
  have z0 := Ext.refl w; have hLX : LX = 17592186044416 := rfl; have hLY : LY = 8796093022208 := rfl
  obtain ⟨n1, a1, l1, c1, n2, a2, l2, c2, rfl⟩ := h1.form; obtain ⟨n3, a3, l3, c3, n4, a4, l4, c4, rfl⟩ := h2.form
  have hu2 : ∀ W : World, w.heap.size + 3 ≤ W.heap.size → Up (SX S [w.heap.size + 2]) W := fun W hW => SX.up (hu.mono (by omega)) (by simp <;> omega)
  refine enter (args := [.agg #[.bool n1, .slice a1 l1 c1, .bool n2, .slice a2 l2 c2], .agg #[.bool n3, .slice a3 l3 c3, .bool n4, .slice a4 l4 c4]]) Tryz.func196 rfl rfl (Nat.le_of_ble_eq_true rfl) ?_
  refine V.seq (V.reg rfl ?_)
  refine vo ?_
  refine bxa rfl ?_
  intro W1 x2 b3 nn4
  have s5 := x2.sz
  have z6 := x2
  refine vo ?_
  refine bxa rfl ?_
  intro W7 x8 b9 nn10
  have s11 := x8.sz
  have z12 := z6.trans x8
  replace b3 := b3.ext x8
  refine vo ?_
  refine xal zc48 ?_
  intro W13 x14 b15 nn16
  have s17 := x14.sz
  have z18 := z12.trans x14
  replace b3 := b3.ext x14
  replace b9 := b9.ext x14
  refine vnil ?_
  refine V.seq (V.regD mixed rfl ?_)
  intro W19 x20
  have s21 := x20.sz
  have z22 := z18.trans x20
  replace b3 := b3.ext x20
  replace b9 := b9.ext x20
  replace b15 := b15.ext x20
  have q23 := Ext.refl W19
  have r24 := b3
  have r25 := b9
  have r26 := b15
  refine tk 0 rfl (by kernel_rfl) q23 (pv (fun _ y27 => rldb4 rfl ag48 (r24.ext y27) rfl rfl rfl rfl )) ?_
  refine tk 1 rfl (by kernel_rfl) q23 (pv (fun _ y28 => rldb4 rfl ag48 (r25.ext y28) rfl rfl rfl rfl )) ?_
  refine ef 2 (by kernel_rfl) rfl ?_
  refine xcall e122 (rNegQ_ok [_, _, _, _] _ _ _ _ _ (h2.ext z22) (by omega) (by omega) (TT.up _)) rfl rfl ?_
  rintro _ W30 ⟨_, rfl, x31, hq29⟩
  have s32 := x31.sz
  have z33 := z22.trans x31
  replace b3 := b3.ext x31
  replace b9 := b9.ext x31
  replace b15 := b15.ext x31
  have q34 := q23.trans x31
  obtain ⟨_, _, _, _, _, _, _, _, rfl⟩ := hq29.form
  refine ⟨_, rfl, ?_⟩
  refine ⟨fun _ => q34, ?_⟩
  refine ef 3 (by kernel_rfl) rfl ?_
  refine xcall e134 (rAddQ_ok [_, _, _, _] [_, _, _, _] _ _ _ _ _ _ _ _ (h1.ext z33) ((hq29).qa (sz_neg (h2.sz' hl2))) (by omega) (by omega) (by omega) (hu2 _ (by omega))) rfl rfl ?_
  rintro _ W36 ⟨_, rfl, x37, hq35⟩
  have s38 := x37.sz
  have z39 := z33.trans x37
  replace b3 := b3.ext x37
  replace b9 := b9.ext x37
  replace b15 := b15.ext x37
  have q40 := q34.trans x37
  obtain ⟨_, _, _, _, _, _, _, _, rfl⟩ := hq35.form
  refine ⟨_, rfl, ?_⟩
  refine ⟨fun _ => q40, ?_⟩
  refine ef 4 (by kernel_rfl) rfl ?_
  refine sta (cs' := [_, _, _, _]) b15 rfl rfl sz48 rfl rfl rfl ?_
  intro W41 y42 b15
  have z43 := z39.below (y42.below (by omega))
  replace b3 := b3.wr y42 (by omega)
  replace b9 := b9.wr y42 (by omega)
  have s44 := y42.size
  refine lastT (by kernel_rfl) ?_
  refine dn (by kernel_rfl) ?_
  refine V.ret ?_
  refine ⟨[_], ⟨⟨_, rfl, lvb ag48 b15 rfl⟩, trivial⟩, ?_⟩
  exact ⟨_, rfl, z43, ((hq35.ck (y42.ck (by intro hh; simp [SX] at hh <;> omega)))).un.cast (by rw [Rat.sub_eq_add_neg])⟩
set_option maxHeartbeats 400000 in
theorem rCmpQ_ok (q1 q2 : List Value) (r1 r2 : Rat) (L1 L2 : Nat) (S1 S2 : Nat → Prop) (w : World) (h1 : QA L1 S1 w q1 r1) (h2 : QA L2 S2 w q2 r2) (hL : L1 + L2 ≤ LX / 256) (hl1 : 1 ≤ L1) (hl2 : 1 ≤ L2) :
    Calls Tryz.prog 163 #[.agg q1.toArray, .agg q2.toArray] w (fun e w' => e = .returned (.int .i64 (cq r1 r2)) ∧ Ext w w') := by
  have z0 := Ext.refl w; have hLX : LX = 17592186044416 := rfl; have hLY : LY = 8796093022208 := rfl
  obtain ⟨n1, a1, l1, c1, n2, a2, l2, c2, rfl⟩ := h1.form; obtain ⟨n3, a3, l3, c3, n4, a4, l4, c4, rfl⟩ := h2.form
  refine enter (args := [.agg #[.bool n1, .slice a1 l1 c1, .bool n2, .slice a2 l2 c2], .agg #[.bool n3, .slice a3 l3 c3, .bool n4, .slice a4 l4 c4]]) Tryz.func163 rfl rfl (Nat.le_of_ble_eq_true rfl) ?_
  refine V.seq (V.reg rfl ?_)
  refine vo ?_
  refine bxa rfl ?_
  intro W1 x2 b3 nn4
  have s5 := x2.sz
  have z6 := x2
  refine vo ?_
  refine bxa rfl ?_
  intro W7 x8 b9 nn10
  have s11 := x8.sz
  have z12 := z6.trans x8
  replace b3 := b3.ext x8
  refine asi rfl ?_
  refine vnil ?_
  refine V.seq (V.reg rfl ?_)
  refine vv (rldb4 rfl ag48 b3 rfl rfl rfl rfl ) ?_
  refine vv (rldb4 rfl ag48 b9 rfl rfl rfl rfl ) ?_
  refine vo ?_
  refine xcall e196 (rSubQ_ok [_, _, _, _] [_, _, _, _] _ _ _ _ _ _ _ _ (h1.ext z12) (h2.ext z12) (by omega) (by omega) (by omega) (TT.up _)) rfl rfl ?_
  rintro _ W14 ⟨_, rfl, x15, hq13⟩
  have s16 := x15.sz
  have z17 := z12.trans x15
  replace b3 := b3.ext x15
  replace b9 := b9.ext x15
  obtain ⟨_, _, _, _, _, _, _, _, rfl⟩ := hq13.form
  refine ⟨_, rfl, ?_⟩
  refine vo ?_
  refine xcall e132 (rSignQ_ok [_, _, _, _] _ _ _ _ ((hq13).qa (sz_sub (h1.sz' hl1) (h2.sz' hl2))) (by omega) (by omega)) rfl rfl ?_
  rintro _ W18 ⟨rfl, x19⟩
  have s20 := x19.sz
  have z21 := z17.trans x19
  replace b3 := b3.ext x19
  replace b9 := b9.ext x19
  refine ⟨_, rfl, ?_⟩
  refine asi rfl ?_
  refine vnil ?_
  refine V.ret ?_
  refine ⟨[.int _ _], ⟨rfl, trivial⟩, ?_⟩
  exact ⟨by rw [← cq_sub r1 r2]; rfl, z21⟩
set_option maxHeartbeats 400000 in
theorem rAt3_ok (a1 : Option Addr) (n c : Nat) (i : Int) (L1 : Nat) (xs : List Rat) (S1 : Nat → Prop) (w : World) (hx : GA L1 S1 w a1 n c xs) :
    Calls Tryz.prog 107 #[.slice a1 n c, .int .i64 i] w (fun e w' => ∃ q, e = .returned (.agg q.toArray) ∧ Ext w w' ∧ QA L1 S1 w' q (vatI xs i)) := by
  have z0 := Ext.refl w; have hLX : LX = 17592186044416 := rfl; have hLY : LY = 8796093022208 := rfl
  have l1 := hx.len; have l2 := hx.max
  have hxk := hx.sub (S' := fun q => S1 q ∧ q ≠ w.heap.size) (fun b hb hs => ⟨hs, by omega⟩)
  refine enter (args := [.slice a1 n c, .int .i64 i]) Tryz.func107 rfl rfl (Nat.le_of_ble_eq_true rfl) ?_
  refine V.seq (V.reg rfl ?_)
  refine vo ?_
  refine xal zc48 ?_
  intro W1 x2 b3 nn4
  have s5 := x2.sz
  have z6 := x2
  refine vnil ?_
  refine V.seq ?_
  refine V.seq (V.reg rfl ?_)
  refine mvi rfl ?_
  refine vge rfl rfl ?_ ?_
  · intro c7
    refine mvb rfl ?_
    refine vg rfl ?_
    refine mvi rfl ?_
    refine vg rfl ?_
    refine mvs rfl ?_
    refine vg rfl ?_
    refine vv (rlen sl23 rfl) ?_
    refine vg rfl ?_
    refine vlt rfl rfl ?_ ?_
    · intro c8
      refine vv (rpk (v := .bool true) rfl rfl) ?_
      refine vnil ?_
      refine V.condT rfl ?_
      refine V.seq (V.reg rfl ?_)
      refine mvs rfl ?_
      refine mvi rfl ?_
      refine vv (rix sl23 sz48 rfl rfl (by omega) (by omega) ((hxk.ext z6).isS (i := 0) (by omega) (by omega))) ?_
      refine vldQ (hxk.ext z6) rfl ag48 (by omega) (by omega) ?_
      intro n9 a10 l11 c12 n13 a14 l15 c16 hq17
      refine vo ?_
      refine sta (cs' := [_, _, _, _]) b3 rfl rfl sz48 rfl rfl rfl ?_
      intro W18 y19 b3
      have z20 := z6.below (y19.below (by omega))
      have s21 := y19.size
      refine vnil ?_
      refine V.ret ?_
      refine ⟨[_], ⟨⟨_, rfl, lvb ag48 b3 rfl⟩, trivial⟩, ?_⟩
      exact ⟨_, rfl, z20, (((hq17.ck (y19.ck (by intro hh; simp [SX] at hh <;> omega)))).sub (fun _ _ h => h.1)).cast (by unfold vatI; rw [if_pos (by omega)])⟩
    · intro c8
      refine vv (rpk (v := .bool false) rfl rfl) ?_
      refine vnil ?_
      refine V.condF rfl ?_
      refine V.skip ?_
      refine V.seq (V.reg rfl ?_)
      refine vv (rbd (ps := []) (cs := [.bool false, .slice _ _ _, .bool false, .slice _ _ _]) pl48 rfl rfl) ?_
      refine vo ?_
      refine sta (cs' := [_, _, _, _]) b3 rfl rfl sz48 rfl rfl rfl ?_
      intro W22 y23 b3
      have z24 := z6.below (y23.below (by omega))
      have s25 := y23.size
      refine vnil ?_
      refine V.ret ?_
      refine ⟨[_], ⟨⟨_, rfl, lvb ag48 b3 rfl⟩, trivial⟩, ?_⟩
      exact ⟨_, rfl, z24, (QA.zero S1 _).cast (vatI_ge (by omega)).symm⟩
  · intro c7
    refine mvb rfl ?_
    refine vgn (b := false) rfl rfl ?_
    refine vgn (b := false) rfl rfl ?_
    refine vgn (b := false) rfl rfl ?_
    refine vgn (b := false) rfl rfl ?_
    refine vv (rpk (v := .bool false) rfl rfl) ?_
    refine vnil ?_
    refine V.condF rfl ?_
    refine V.skip ?_
    refine V.seq (V.reg rfl ?_)
    refine vv (rbd (ps := []) (cs := [.bool false, .slice _ _ _, .bool false, .slice _ _ _]) pl48 rfl rfl) ?_
    refine vo ?_
    refine sta (cs' := [_, _, _, _]) b3 rfl rfl sz48 rfl rfl rfl ?_
    intro W26 y27 b3
    have z28 := z6.below (y27.below (by omega))
    have s29 := y27.size
    refine vnil ?_
    refine V.ret ?_
    refine ⟨[_], ⟨⟨_, rfl, lvb ag48 b3 rfl⟩, trivial⟩, ?_⟩
    exact ⟨_, rfl, z28, (QA.zero S1 _).cast (vatI_ge (by omega)).symm⟩
set_option maxHeartbeats 400000 in
theorem rLex_ok (a1 a2 : Option Addr) (n c m d : Nat) (L1 L2 : Nat) (xs ys : List Rat) (S1 S2 : Nat → Prop) (w : World) (hx : GA L1 S1 w a1 n c xs) (hy : GA L2 S2 w a2 m d ys) (hL : L1 + L2 ≤ LX / 256) (hl1 : 1 ≤ L1) (hl2 : 1 ≤ L2) :
    Calls Tryz.prog 109 #[.slice a1 n c, .slice a2 m d] w (fun e w' => ∃ s, e = .returned (.int .i64 s) ∧ Ext w w' ∧ (s = 0 ↔ ∀ j, vat xs j = vat ys j)) := by
  have z0 := Ext.refl w; have hLX : LX = 17592186044416 := rfl; have hLY : LY = 8796093022208 := rfl
  have l1 := hx.len; have l2 := hy.len; have l3 := hx.max; have l4 := hy.max
  refine enter (args := [.slice a1 n c, .slice a2 m d]) Tryz.func109 rfl rfl (Nat.le_of_ble_eq_true rfl) ?_
  refine V.seq (V.reg rfl ?_)
  refine asi rfl ?_
  refine vnil ?_
  refine V.seq ?_
  refine V.seq (V.reg rfl ?_)
  refine asi rfl ?_
  refine vnil ?_
  refine V.block ?_
  refine V.loopK (ι := Nat) [(0, .slice _ _ _), (1, .slice _ _ _)] (fun k => [(5, .int .i64 (k : Int))]) (fun k W => Ext w W ∧ k ≤ max n m ∧ ∀ j, j < k → vat xs j = vat ys j) (fun k => max n m - k) (0) ⟨rfl, rfl, trivial⟩ ⟨rfl, trivial⟩ ⟨Ext.refl _, Nat.zero_le _, fun j hj => absurd hj (Nat.not_lt_zero _)⟩ ?_
  intro k E2 W1 h3
  obtain ⟨x4, hk, hq⟩ := h3
  have s5 := x4.sz
  have z6 := x4
  refine V.seq ?_
  refine V.seq (V.reg rfl ?_)
  refine mvi rfl ?_
  refine mvs rfl ?_
  refine vv (rlen sl23 rfl) ?_
  refine vlt rfl rfl ?_ ?_
  · intro c7
    refine mvb rfl ?_
    refine vgn (b := true) rfl rfl ?_
    refine vgn (b := true) rfl rfl ?_
    refine vgn (b := true) rfl rfl ?_
    refine vgn (b := true) rfl rfl ?_
    refine vv (rpk (v := .bool true) rfl rfl) ?_
    refine vnil ?_
    refine V.condT rfl ?_
    refine V.skip ?_
    refine V.seq ?_
    refine V.block ?_
    refine V.seq (V.reg rfl ?_)
    refine mvs rfl ?_
    refine mvi rfl ?_
    refine vo ?_
    refine xcall e107 (rAt3_ok _ _ _ _ _ _ _ _ (hx.ext z6)) rfl rfl ?_
    rintro _ W9 ⟨_, rfl, x10, hq8⟩
    have s11 := x10.sz
    have z12 := z6.trans x10
    obtain ⟨_, _, _, _, _, _, _, _, rfl⟩ := hq8.form
    refine ⟨_, rfl, ?_⟩
    refine mvs rfl ?_
    refine mvi rfl ?_
    refine vo ?_
    refine xcall e107 (rAt3_ok _ _ _ _ _ _ _ _ (hy.ext z12)) rfl rfl ?_
    rintro _ W14 ⟨_, rfl, x15, hq13⟩
    have s16 := x15.sz
    have z17 := z12.trans x15
    obtain ⟨_, _, _, _, _, _, _, _, rfl⟩ := hq13.form
    refine ⟨_, rfl, ?_⟩
    refine vo ?_
    refine xcall e163 (rCmpQ_ok _ _ _ _ _ _ _ _ _ (hq8.ext x15) hq13 (by omega) (by omega) (by omega)) rfl rfl ?_
    rintro _ W18 ⟨rfl, x19⟩
    have s20 := x19.sz
    have z21 := z17.trans x19
    refine ⟨_, rfl, ?_⟩
    refine asi rfl ?_
    refine vnil ?_
    refine V.seq (V.reg rfl ?_)
    refine mvi rfl ?_
    refine vne rfl rfl ?_ ?_
    · intro c1
      refine vnil ?_
      refine V.condT rfl ?_
      refine V.seq (V.reg rfl ?_)
      refine mvi rfl ?_
      refine asi rfl ?_
      refine vnil ?_
      refine V.ret ?_
      refine ⟨[.int _ _], ⟨rfl, trivial⟩, ?_⟩
      exact ⟨_, rfl, z21, ⟨fun h => absurd h c1, fun h => absurd (cq_eq.2 (by rw [vatI_nat, vatI_nat]; exact h k)) c1⟩⟩
    · intro c1
      refine vnil ?_
      refine V.condF rfl ?_
      refine V.skip ?_
      refine V.reg rfl ?_
      refine mvi rfl ?_
      refine vv (rbin (bAdd (wi (by omega))) rfl rfl) ?_
      refine asi rfl ?_
      refine vnil ?_
      refine ⟨rfl, k + 1, ⟨rfl, rfl, trivial⟩, ⟨rfl, trivial⟩, ⟨z21, by omega, fun j hj => by rcases Nat.lt_succ_iff_lt_or_eq.1 hj with h | rfl; exact hq j h; have := cq_eq.1 c1; rwa [vatI_nat, vatI_nat] at this⟩, ?_⟩
      show max n m - (k + 1) < max n m - k
      omega
  · intro c7
    refine mvb rfl ?_
    refine vg rfl ?_
    refine mvi rfl ?_
    refine vg rfl ?_
    refine mvs rfl ?_
    refine vg rfl ?_
    refine vv (rlen sl23 rfl) ?_
    refine vg rfl ?_
    refine vlt rfl rfl ?_ ?_
    · intro c22
      refine vv (rpk (v := .bool true) rfl rfl) ?_
      refine vnil ?_
      refine V.condT rfl ?_
      refine V.skip ?_
      refine V.seq ?_
      refine V.block ?_
      refine V.seq (V.reg rfl ?_)
      refine mvs rfl ?_
      refine mvi rfl ?_
      refine vo ?_
      refine xcall e107 (rAt3_ok _ _ _ _ _ _ _ _ (hx.ext z6)) rfl rfl ?_
      rintro _ W24 ⟨_, rfl, x25, hq23⟩
      have s26 := x25.sz
      have z27 := z6.trans x25
      obtain ⟨_, _, _, _, _, _, _, _, rfl⟩ := hq23.form
      refine ⟨_, rfl, ?_⟩
      refine mvs rfl ?_
      refine mvi rfl ?_
      refine vo ?_
      refine xcall e107 (rAt3_ok _ _ _ _ _ _ _ _ (hy.ext z27)) rfl rfl ?_
      rintro _ W29 ⟨_, rfl, x30, hq28⟩
      have s31 := x30.sz
      have z32 := z27.trans x30
      obtain ⟨_, _, _, _, _, _, _, _, rfl⟩ := hq28.form
      refine ⟨_, rfl, ?_⟩
      refine vo ?_
      refine xcall e163 (rCmpQ_ok _ _ _ _ _ _ _ _ _ (hq23.ext x30) hq28 (by omega) (by omega) (by omega)) rfl rfl ?_
      rintro _ W33 ⟨rfl, x34⟩
      have s35 := x34.sz
      have z36 := z32.trans x34
      refine ⟨_, rfl, ?_⟩
      refine asi rfl ?_
      refine vnil ?_
      refine V.seq (V.reg rfl ?_)
      refine mvi rfl ?_
      refine vne rfl rfl ?_ ?_
      · intro c1
        refine vnil ?_
        refine V.condT rfl ?_
        refine V.seq (V.reg rfl ?_)
        refine mvi rfl ?_
        refine asi rfl ?_
        refine vnil ?_
        refine V.ret ?_
        refine ⟨[.int _ _], ⟨rfl, trivial⟩, ?_⟩
        exact ⟨_, rfl, z36, ⟨fun h => absurd h c1, fun h => absurd (cq_eq.2 (by rw [vatI_nat, vatI_nat]; exact h k)) c1⟩⟩
      · intro c1
        refine vnil ?_
        refine V.condF rfl ?_
        refine V.skip ?_
        refine V.reg rfl ?_
        refine mvi rfl ?_
        refine vv (rbin (bAdd (wi (by omega))) rfl rfl) ?_
        refine asi rfl ?_
        refine vnil ?_
        refine ⟨rfl, k + 1, ⟨rfl, rfl, trivial⟩, ⟨rfl, trivial⟩, ⟨z36, by omega, fun j hj => by rcases Nat.lt_succ_iff_lt_or_eq.1 hj with h | rfl; exact hq j h; have := cq_eq.1 c1; rwa [vatI_nat, vatI_nat] at this⟩, ?_⟩
        show max n m - (k + 1) < max n m - k
        omega
    · intro c22
      refine vv (rpk (v := .bool false) rfl rfl) ?_
      refine vnil ?_
      refine V.condF rfl ?_
      refine V.exit ?_
      refine V.seq (V.reg rfl ?_)
      refine asi rfl ?_
      refine vnil ?_
      refine V.ret ?_
      refine ⟨[.int _ _], ⟨rfl, trivial⟩, ?_⟩
      exact ⟨_, rfl, z6, ⟨fun _ => (eqv_all (M := max n m) (by omega) (by omega)).1 (fun j hj => hq j (by omega)), fun _ => rfl⟩⟩
set_option maxHeartbeats 400000 in
theorem rAt4_ok (a1 : Option Addr) (n c : Nat) (i k : Int) (L1 : Nat) (rss : List (List Rat)) (S S1 : Nat → Prop) (w : World) (hx : MA L1 S1 w a1 n c rss) (hL : L1 ≤ LX / 128) (hl1 : 1 ≤ L1) (hu : Up S w) :
    Calls Tryz.prog 39 #[.slice a1 n c, .int .i64 i, .int .i64 k] w (PQ S (matI rss i k) w) := by
  have z0 := Ext.refl w; have hLX : LX = 17592186044416 := rfl; have hLY : LY = 8796093022208 := rfl
  have l1 := hx.len; have l2 := hx.max
  have hu2 : ∀ W : World, w.heap.size + 1 ≤ W.heap.size → Up (SX S [w.heap.size]) W := fun W hW => SX.up (hu.mono (by omega)) (by simp <;> omega)
  refine enter (args := [.slice a1 n c, .int .i64 i, .int .i64 k]) Tryz.func39 rfl rfl (Nat.le_of_ble_eq_true rfl) ?_
  refine V.seq (V.reg rfl ?_)
  refine vo ?_
  refine xal zc48 ?_
  intro W1 x2 b3 nn4
  have s5 := x2.sz
  have z6 := x2
  refine vnil ?_
  refine V.seq ?_
  refine V.seq (V.reg rfl ?_)
  refine mvi rfl ?_
  refine vlt rfl rfl ?_ ?_
  · intro c7
    refine mvb rfl ?_
    refine vgn (b := true) rfl rfl ?_
    refine vgn (b := true) rfl rfl ?_
    refine vgn (b := true) rfl rfl ?_
    refine vgn (b := true) rfl rfl ?_
    refine vv (rpk (v := .bool true) rfl rfl) ?_
    refine vnil ?_
    refine V.condT rfl ?_
    refine V.seq (V.reg rfl ?_)
    refine vv (rbd (ps := []) (cs := [.bool false, .slice _ _ _, .bool false, .slice _ _ _]) pl48 rfl rfl) ?_
    refine vo ?_
    refine sta (cs' := [_, _, _, _]) b3 rfl rfl sz48 rfl rfl rfl ?_
    intro W8 y9 b3
    have z10 := z6.below (y9.below (by omega))
    have s11 := y9.size
    refine vnil ?_
    refine V.ret ?_
    refine ⟨[_], ⟨⟨_, rfl, lvb ag48 b3 rfl⟩, trivial⟩, ?_⟩
    refine ⟨_, rfl, z10, (QC.zero S _).cast ?_⟩
    first | exact (matI_neg (by omega)).symm | exact (matI_ge1 (by omega)).symm
  · intro c7
    refine mvb rfl ?_
    refine vg rfl ?_
    refine mvi rfl ?_
    refine vg rfl ?_
    refine mvs rfl ?_
    refine vg rfl ?_
    refine vv (rlen sl22 rfl) ?_
    refine vg rfl ?_
    refine vge rfl rfl ?_ ?_
    · intro c12
      refine vv (rpk (v := .bool true) rfl rfl) ?_
      refine vnil ?_
      refine V.condT rfl ?_
      refine V.seq (V.reg rfl ?_)
      refine vv (rbd (ps := []) (cs := [.bool false, .slice _ _ _, .bool false, .slice _ _ _]) pl48 rfl rfl) ?_
      refine vo ?_
      refine sta (cs' := [_, _, _, _]) b3 rfl rfl sz48 rfl rfl rfl ?_
      intro W13 y14 b3
      have z15 := z6.below (y14.below (by omega))
      have s16 := y14.size
      refine vnil ?_
      refine V.ret ?_
      refine ⟨[_], ⟨⟨_, rfl, lvb ag48 b3 rfl⟩, trivial⟩, ?_⟩
      refine ⟨_, rfl, z15, (QC.zero S _).cast ?_⟩
      first | exact (matI_neg (by omega)).symm | exact (matI_ge1 (by omega)).symm
    · intro c12
      refine vv (rpk (v := .bool false) rfl rfl) ?_
      refine vnil ?_
      refine V.condF rfl ?_
      refine V.skip ?_
      refine V.seq (V.reg rfl ?_)
      refine mvs rfl ?_
      refine mvi rfl ?_
      refine vv (rix sl22 sz23 rfl rfl (by omega) (by omega) ((hx.ext z6).isS (i := 0) (by omega) (by omega))) ?_
      refine vldRow (hx.ext z6) rfl sc23 (by omega) (by omega) ?_
      intro a17 n18 c19 hg20
      have hg20l := hg20.len; have hg20m := hg20.max
      refine mvi rfl ?_
      refine vo ?_
      refine xcall e107 (rAt3_ok _ _ _ _ _ _ _ _ hg20) rfl rfl ?_
      rintro _ W22 ⟨_, rfl, x23, hq21⟩
      have s24 := x23.sz
      have z25 := z6.trans x23
      replace b3 := b3.ext x23
      obtain ⟨_, _, _, _, _, _, _, _, rfl⟩ := hq21.form
      refine ⟨_, rfl, ?_⟩
      refine vo ?_
      refine xcall e106 (rLeastQ_ok _ _ _ _ _ _ hq21 (by omega) (by omega) (hu2 _ (by omega))) rfl rfl ?_
      rintro _ W27 ⟨_, rfl, x28, hq26⟩
      have s29 := x28.sz
      have z30 := z25.trans x28
      replace b3 := b3.ext x28
      obtain ⟨_, _, _, _, _, _, _, _, rfl⟩ := hq26.form
      refine ⟨_, rfl, ?_⟩
      refine vo ?_
      refine sta (cs' := [_, _, _, _]) b3 rfl rfl sz48 rfl rfl rfl ?_
      intro W31 y32 b3
      have z33 := z30.below (y32.below (by omega))
      have s34 := y32.size
      refine vnil ?_
      refine V.ret ?_
      refine ⟨[_], ⟨⟨_, rfl, lvb ag48 b3 rfl⟩, trivial⟩, ?_⟩
      exact ⟨_, rfl, z33, ((hq26.ck (y32.ck (by intro hh; simp [SX] at hh <;> omega)))).un.cast (by rw [matI_row (by omega)])⟩
set_option maxHeartbeats 400000 in
theorem rRow_ok (a1 : Option Addr) (n c : Nat) (i : Nat) (L1 : Nat) (rss : List (List Rat)) (S1 : Nat → Prop) (w : World) (hx : MA L1 S1 w a1 n c rss) :
    Calls Tryz.prog 110 #[.slice a1 n c, .int .i64 (i : Int)] w (fun e w' => ∃ a n c, e = .returned (.slice a n c) ∧ w = w' ∧ GA L1 S1 w' a n c (rowat rss i)) := by
  have z0 := Ext.refl w; have hLX : LX = 17592186044416 := rfl; have hLY : LY = 8796093022208 := rfl
  have l1 := hx.len; have l2 := hx.max
  refine enter (args := [.slice a1 n c, .int .i64 (i : Int)]) Tryz.func110 rfl rfl (Nat.le_of_ble_eq_true rfl) ?_
  refine V.seq (V.reg rfl ?_)
  refine ass rfl ?_
  refine vnil ?_
  refine V.seq ?_
  refine V.seq (V.reg rfl ?_)
  refine mvi rfl ?_
  refine mvs rfl ?_
  refine vv (rlen sl22 rfl) ?_
  refine vlt rfl rfl ?_ ?_
  · intro c1
    refine vnil ?_
    refine V.condT rfl ?_
    refine V.seq (V.reg rfl ?_)
    refine mvs rfl ?_
    refine mvi rfl ?_
    refine vv (rix sl22 sz23 rfl rfl (by omega) (by omega) (hx.isS (i := 0) (by omega) (by omega))) ?_
    refine vldRow hx rfl sc23 (by omega) (by omega) ?_
    intro a2 n3 c4 hg5
    have hg5l := hg5.len; have hg5m := hg5.max
    refine ass rfl ?_
    refine vnil ?_
    refine V.ret ?_
    refine ⟨[.slice _ _ _], ⟨rfl, trivial⟩, ?_⟩
    exact ⟨_, _, _, rfl, rfl, by have hh := hg5; rwa [Int.toNat_natCast] at hh⟩
  · intro c1
    refine vnil ?_
    refine V.condF rfl ?_
    refine V.skip ?_
    refine V.seq (V.reg rfl ?_)
    refine ass rfl ?_
    refine vnil ?_
    refine V.ret ?_
    refine ⟨[.slice _ _ _], ⟨rfl, trivial⟩, ?_⟩
    refine ⟨_, _, _, rfl, rfl, ?_⟩
    have e : rowat rss i = [] := by unfold rowat; rw [List.getD_eq_getElem?_getD, List.getElem?_eq_none (by omega)]; rfl
    rw [e]; exact GA.nil _ _ _
set_option maxHeartbeats 400000 in
theorem rSame4_ok (a1 a2 : Option Addr) (n c m d : Nat) (L1 L2 : Nat) (rss mss : List (List Rat)) (S1 S2 : Nat → Prop) (w : World) (hx : MA L1 S1 w a1 n c rss) (hy : MA L2 S2 w a2 m d mss) (hL : L1 + L2 ≤ LX / 256) (hl1 : 1 ≤ L1) (hl2 : 1 ≤ L2) :
    Calls Tryz.prog 41 #[.slice a1 n c, .slice a2 m d] w (fun e w' => ∃ q, e = .returned (.bool q) ∧ Ext w w' ∧ (q = true ↔ eqm rss mss)) := by
  have z0 := Ext.refl w; have hLX : LX = 17592186044416 := rfl; have hLY : LY = 8796093022208 := rfl
  have l1 := hx.len; have l2 := hy.len; have l3 := hx.max; have l4 := hy.max
  refine enter (args := [.slice a1 n c, .slice a2 m d]) Tryz.func41 rfl rfl (Nat.le_of_ble_eq_true rfl) ?_
  refine V.seq (V.reg rfl ?_)
  refine asb rfl ?_
  refine vnil ?_
  refine V.seq ?_
  refine V.seq (V.reg rfl ?_)
  refine asi rfl ?_
  refine vnil ?_
  refine V.block ?_
  refine V.loopK (ι := Nat) [(0, .slice _ _ _), (1, .slice _ _ _)] (fun k => [(5, .int .i64 (k : Int))]) (fun k W => Ext w W ∧ k ≤ max n m ∧ ∀ i, i < k → ∀ j, mat rss i j = mat mss i j) (fun k => max n m - k) (0) ⟨rfl, rfl, trivial⟩ ⟨rfl, trivial⟩ ⟨Ext.refl _, Nat.zero_le _, fun i hi => absurd hi (Nat.not_lt_zero _)⟩ ?_
  intro k E2 W1 h3
  obtain ⟨x4, hk, hq⟩ := h3
  have s5 := x4.sz
  have z6 := x4
  refine V.seq ?_
  refine V.seq (V.reg rfl ?_)
  refine mvi rfl ?_
  refine mvs rfl ?_
  refine vv (rlen sl22 rfl) ?_
  refine vlt rfl rfl ?_ ?_
  · intro c7
    refine mvb rfl ?_
    refine vgn (b := true) rfl rfl ?_
    refine vgn (b := true) rfl rfl ?_
    refine vgn (b := true) rfl rfl ?_
    refine vgn (b := true) rfl rfl ?_
    refine vv (rpk (v := .bool true) rfl rfl) ?_
    refine vnil ?_
    refine V.condT rfl ?_
    refine V.skip ?_
    refine V.seq ?_
    refine V.block ?_
    refine V.seq (V.reg rfl ?_)
    refine mvs rfl ?_
    refine mvi rfl ?_
    refine vo ?_
    refine xcall e110 (rRow_ok _ _ _ k _ _ _ _ (hx.ext z6)) rfl rfl ?_
    rintro _ _ ⟨_, _, _, rfl, rfl, hg8⟩
    refine ⟨_, rfl, ?_⟩
    refine mvs rfl ?_
    refine mvi rfl ?_
    refine vo ?_
    refine xcall e110 (rRow_ok _ _ _ k _ _ _ _ (hy.ext z6)) rfl rfl ?_
    rintro _ _ ⟨_, _, _, rfl, rfl, hg10⟩
    refine ⟨_, rfl, ?_⟩
    refine vo ?_
    refine xcall e109 (rLex_ok _ _ _ _ _ _ _ _ _ _ _ _ _ hg8 hg10 (by omega) (by omega) (by omega)) rfl rfl ?_
    rintro _ W12 ⟨_, rfl, x13, hlx⟩
    have s14 := x13.sz
    have z15 := z6.trans x13
    refine ⟨_, rfl, ?_⟩
    refine vne rfl rfl ?_ ?_
    · intro c1
      refine vnil ?_
      refine V.condT rfl ?_
      refine V.seq (V.reg rfl ?_)
      refine asb rfl ?_
      refine vnil ?_
      refine V.ret ?_
      refine ⟨[.bool false], ⟨rfl, trivial⟩, ?_⟩
      exact ⟨_, rfl, z15, ⟨fun h => (by cases h), fun h => absurd (hlx.2 (fun j => h k j)) c1⟩⟩
    · intro c1
      refine vnil ?_
      refine V.condF rfl ?_
      refine V.skip ?_
      refine V.reg rfl ?_
      refine mvi rfl ?_
      refine vv (rbin (bAdd (wi (by omega))) rfl rfl) ?_
      refine asi rfl ?_
      refine vnil ?_
      refine ⟨rfl, k + 1, ⟨rfl, rfl, trivial⟩, ⟨rfl, trivial⟩, ⟨z15, by omega, fun i hi j => by rcases Nat.lt_succ_iff_lt_or_eq.1 hi with h | rfl; exact hq i h j; exact hlx.1 c1 j⟩, ?_⟩
      show max n m - (k + 1) < max n m - k
      omega
  · intro c7
    refine mvb rfl ?_
    refine vg rfl ?_
    refine mvi rfl ?_
    refine vg rfl ?_
    refine mvs rfl ?_
    refine vg rfl ?_
    refine vv (rlen sl22 rfl) ?_
    refine vg rfl ?_
    refine vlt rfl rfl ?_ ?_
    · intro c16
      refine vv (rpk (v := .bool true) rfl rfl) ?_
      refine vnil ?_
      refine V.condT rfl ?_
      refine V.skip ?_
      refine V.seq ?_
      refine V.block ?_
      refine V.seq (V.reg rfl ?_)
      refine mvs rfl ?_
      refine mvi rfl ?_
      refine vo ?_
      refine xcall e110 (rRow_ok _ _ _ k _ _ _ _ (hx.ext z6)) rfl rfl ?_
      rintro _ _ ⟨_, _, _, rfl, rfl, hg17⟩
      refine ⟨_, rfl, ?_⟩
      refine mvs rfl ?_
      refine mvi rfl ?_
      refine vo ?_
      refine xcall e110 (rRow_ok _ _ _ k _ _ _ _ (hy.ext z6)) rfl rfl ?_
      rintro _ _ ⟨_, _, _, rfl, rfl, hg19⟩
      refine ⟨_, rfl, ?_⟩
      refine vo ?_
      refine xcall e109 (rLex_ok _ _ _ _ _ _ _ _ _ _ _ _ _ hg17 hg19 (by omega) (by omega) (by omega)) rfl rfl ?_
      rintro _ W21 ⟨_, rfl, x22, hlx⟩
      have s23 := x22.sz
      have z24 := z6.trans x22
      refine ⟨_, rfl, ?_⟩
      refine vne rfl rfl ?_ ?_
      · intro c1
        refine vnil ?_
        refine V.condT rfl ?_
        refine V.seq (V.reg rfl ?_)
        refine asb rfl ?_
        refine vnil ?_
        refine V.ret ?_
        refine ⟨[.bool false], ⟨rfl, trivial⟩, ?_⟩
        exact ⟨_, rfl, z24, ⟨fun h => (by cases h), fun h => absurd (hlx.2 (fun j => h k j)) c1⟩⟩
      · intro c1
        refine vnil ?_
        refine V.condF rfl ?_
        refine V.skip ?_
        refine V.reg rfl ?_
        refine mvi rfl ?_
        refine vv (rbin (bAdd (wi (by omega))) rfl rfl) ?_
        refine asi rfl ?_
        refine vnil ?_
        refine ⟨rfl, k + 1, ⟨rfl, rfl, trivial⟩, ⟨rfl, trivial⟩, ⟨z24, by omega, fun i hi j => by rcases Nat.lt_succ_iff_lt_or_eq.1 hi with h | rfl; exact hq i h j; exact hlx.1 c1 j⟩, ?_⟩
        show max n m - (k + 1) < max n m - k
        omega
    · intro c16
      refine vv (rpk (v := .bool false) rfl rfl) ?_
      refine vnil ?_
      refine V.condF rfl ?_
      refine V.exit ?_
      refine V.seq (V.reg rfl ?_)
      refine asb rfl ?_
      refine vnil ?_
      refine V.ret ?_
      refine ⟨[.bool true], ⟨rfl, trivial⟩, ?_⟩
      exact ⟨_, rfl, z6, ⟨fun _ => eqm_of (M := max n m) (by omega) (by omega) (fun i hi => hq i (by omega)), fun _ => rfl⟩⟩
end Go.Proofs.YtknbjfefeeojlaaGreat
/- Packages pylonref03: Unit; pylonref04: cut place made Fit Turn Unit. -/
namespace Go.Proofs.YtknbjfefeeojlaaGreat
open Go.RowKit
attribute [local irreducible] RV VH V OpF Calls
theorem unitv_eq (N : Nat) (k : Int) : unitv N k = (List.range N).map fun j : Nat => if (j : Int) = k then (1 : Rat) else 0 := by
  unfold unitv
  by_cases h : 0 ≤ k ∧ k < N
  · rw [if_pos h]
    apply List.ext_getElem
    · simp
    · intro j h1 h2
      simp only [List.getElem_map, List.getElem_range, List.getElem_set]
      by_cases e : k.toNat = j
      · rw [if_pos e, if_pos (by omega)]
      · rw [if_neg e, if_neg (by omega)]; simp
  · rw [if_neg h]
    apply List.ext_getElem
    · simp
    · intro j h1 h2
      simp only [List.getElem_map, List.getElem_range, List.getElem_replicate]
      simp at h1
      rw [if_neg (by omega)]
theorem unit_succ (k : Nat) (c : Int) : (List.range (k + 1)).map (fun j : Nat => if (j : Int) = c then (1 : Rat) else 0) = (List.range k).map (fun j : Nat => if (j : Int) = c then (1 : Rat) else 0) ++ [if (k : Int) = c then (1 : Rat) else 0] := by simp [List.range_succ]
theorem szOne' : sz 1 ((1 : Int) : Rat) := by constructor <;> decide
theorem MC.cast' {S : Nat → Prop} {W : World} {a : Option Addr} {n c : Nat} {rss rss' : List (List Rat)} (h : MC S W a n c rss) (e : rss = rss') : MC S W a n c rss' := e ▸ h
theorem QC.un2 {S : Nat → Prop} {W : World} {v : Value} {bs : List Nat} {q : List Value} {r : Rat} (h : QC (SX (SO S v) bs) W q r) : QC (SO S v) W q r := h.un

set_option maxHeartbeats 400000 in
theorem rUnit3_ok (z c : Int) (N : Nat) (S : Nat → Prop) (w : World) (hN : min (max z 0) 65536 = (N : Int)) (hu : Up S w) :
    Calls Tryz.prog 119 #[.int .i64 z, .int .i64 c] w (fun e w' => ∃ ra rk rc, e = .returned (.slice ra rk rc) ∧ Ext w w' ∧ GC S w' ra rk rc (unitv N c)) := by
  have z0 := Ext.refl w; have hLX : LX = 17592186044416 := rfl; have hLY : LY = 8796093022208 := rfl
  have hNN : N ≤ 65536 := by omega
  refine enter (args := [.int .i64 z, .int .i64 c]) Tryz.func119 rfl rfl (Nat.le_of_ble_eq_true rfl) ?_
  refine V.seq (V.reg rfl ?_)
  refine ass rfl ?_
  refine vnil ?_
  refine V.seq (V.reg rfl ?_)
  refine ass rfl ?_
  refine vnil ?_
  refine V.seq ?_
  refine V.seq (V.reg rfl ?_)
  refine asi rfl ?_
  refine vnil ?_
  refine V.block ?_
  refine V.loopK (ι := Nat × Value) [(0, .int _ _), (1, .int _ _), (4, .slice _ _ _)] (fun ⟨k, v⟩ => [(6, .int .i64 (k : Int)), (5, v)]) (fun ⟨k, v⟩ W => Ext w W ∧ k ≤ N ∧ GO 4 QC S w.heap.size W 48 v ((List.range k).map (fun j : Nat => if (j : Int) = c then (1 : Rat) else 0))) (fun ⟨k, v⟩ => N - k) ((0, _)) ⟨rfl, rfl, rfl, trivial⟩ ⟨rfl, rfl, trivial⟩ ⟨Ext.refl _, Nat.zero_le _, GO.nil _ _⟩ ?_
  intro i2 E3 W1 h4
  obtain ⟨k, v⟩ := i2
  simp only at h4
  show V _ _ _ _ _ _ (ups (ups _ _) [(6, .int .i64 (k : Int)), (5, v)]) _
  obtain ⟨x5, hk, hO⟩ := h4
  have s6 := x5.sz
  have z7 := x5
  have z8 := Ext.refl W1
  have hOr := hO
  refine V.seq ?_
  refine V.seq (V.reg rfl ?_)
  refine mvi rfl ?_
  refine mvi rfl ?_
  refine vlt rfl rfl ?_ ?_
  · intro c9
    refine mvb rfl ?_
    refine vg rfl ?_
    refine mvi rfl ?_
    refine vg rfl ?_
    refine vlt rfl rfl ?_ ?_
    · intro c10
      refine vv (rpk (v := .bool true) rfl rfl) ?_
      refine vnil ?_
      refine V.condT rfl ?_
      refine V.skip ?_
      refine V.seq ?_
      refine V.block ?_
      refine V.seq (V.reg rfl ?_)
      refine vv (rbd (ps := []) (cs := [.bool false, .slice _ _ _, .bool false, .slice _ _ _]) pl48 rfl rfl) ?_
      refine vo ?_
      refine xal zc48 ?_
      intro W11 x12 b13 nn14
      have s15 := x12.sz
      have z16 := z7.trans x12
      have z17 := x12
      refine vo ?_
      refine sta (cs' := [_, _, _, _]) b13 rfl rfl sz48 rfl rfl rfl ?_
      intro W18 y19 b13
      have z20 := z16.below (y19.below (by omega))
      have z21 := z17.below (y19.below (by omega))
      have s22 := y19.size
      refine vnil ?_
      refine V.seq ?_
      refine V.seq (V.reg rfl ?_)
      refine mvi rfl ?_
      refine mvi rfl ?_
      refine veq rfl rfl ?_ ?_
      · intro cq
        refine vnil ?_
        refine V.condT rfl ?_
        refine V.reg rfl ?_
        refine vo ?_
        refine xcall e116 (rInt_ok _ _ _ (by omega) (SX.up (S := SO S v) (bs := [W1.heap.size]) (GO.up (hOr.ext okQC z21) hu (by omega)) (by have := b13.lt; simp; omega))) rfl rfl ?_
        rintro _ W24 ⟨_, rfl, x25, hq23⟩
        have s26 := x25.sz
        have z27 := z20.trans x25
        have z28 := z21.trans x25
        replace b13 := b13.ext x25
        obtain ⟨_, _, _, _, _, _, _, _, rfl⟩ := hq23.form
        refine ⟨_, rfl, ?_⟩
        refine vo ?_
        refine sta (cs' := [_, _, _, _]) b13 rfl rfl sz48 rfl rfl rfl ?_
        intro W29 y30 b13
        have z31 := z27.below (y30.below (by omega))
        have z32 := z28.below (y30.below (by omega))
        have s33 := y30.size
        refine vnil ?_
        refine V.reg rfl ?_
        have hO := hOr.ext okQC z32
        refine vv (rmv (v := v) rfl) ?_
        refine vv (rldb4 rfl ag48 b13 rfl rfl rfl rfl ) ?_
        refine vo ?_
        refine xbs (ps := [(0, .agg #[_, _, _, _])]) (cs := [.bool _, .slice _ _ _, .bool _, .slice _ _ _]) sl23 zr48 sz48 rfl rfl rfl rfl rfl rfl ?_
        intro W34 x35 b36 nn37
        have s38 := x35.sz
        have z39 := z31.trans x35
        have z40 := z32.trans x35
        replace b13 := b13.ext x35
        replace hO := hO.ext okQC x35
        refine vo ?_
        refine xappG okQC sl23 in48 rfl rfl hO rfl rfl b36 rfl rfl (((hq23.ck ((y30.ck (by intro hh; simp [SX] at hh <;> omega)).trans (x35.ck _)))).un.cast (r' := if (k : Int) = c then (1 : Rat) else 0) (by rw [if_pos cq]; rfl)) (by simp; omega) (by decide) (by omega) ?_
        intro v41 W42 hO43 hg44
        have y45 := hg44.below; have s46 := y45.size
        have z47 := z39.below (y45.mono (by omega))
        refine vv (ras (v := v41) rfl) ?_
        refine vnil ?_
        refine V.reg rfl ?_
        refine mvi rfl ?_
        refine vv (rbin (bAdd (wi (by omega))) rfl rfl) ?_
        refine asi rfl ?_
        refine vnil ?_
        refine ⟨rfl, (k + 1, _), ⟨rfl, rfl, rfl, trivial⟩, ⟨rfl, rfl, trivial⟩, ⟨z47, by omega, by rw [unit_succ]; exact hO43⟩, ?_⟩
        show N - (k + 1) < N - k
        omega
      · intro cq
        refine vnil ?_
        refine V.condF rfl ?_
        refine V.skip ?_
        refine V.reg rfl ?_
        have hO := hOr.ext okQC z21
        refine vv (rmv (v := v) rfl) ?_
        refine vv (rldb4 rfl ag48 b13 rfl rfl rfl rfl ) ?_
        refine vo ?_
        refine xbs (ps := [(0, .agg #[_, _, _, _])]) (cs := [.bool false, .slice _ _ _, .bool false, .slice _ _ _]) sl23 zr48 sz48 rfl rfl rfl rfl rfl rfl ?_
        intro W48 x49 b50 nn51
        have s52 := x49.sz
        have z53 := z20.trans x49
        have z54 := z21.trans x49
        replace b13 := b13.ext x49
        replace hO := hO.ext okQC x49
        refine vo ?_
        refine xappG okQC sl23 in48 rfl rfl hO rfl rfl b50 rfl rfl ((QC.zero (SO S v) _).cast (r' := if (k : Int) = c then (1 : Rat) else 0) (by rw [if_neg cq])) (by simp; omega) (by decide) (by omega) ?_
        intro v55 W56 hO57 hg58
        have y59 := hg58.below; have s60 := y59.size
        have z61 := z53.below (y59.mono (by omega))
        refine vv (ras (v := v55) rfl) ?_
        refine vnil ?_
        refine V.reg rfl ?_
        refine mvi rfl ?_
        refine vv (rbin (bAdd (wi (by omega))) rfl rfl) ?_
        refine asi rfl ?_
        refine vnil ?_
        refine ⟨rfl, (k + 1, _), ⟨rfl, rfl, rfl, trivial⟩, ⟨rfl, rfl, trivial⟩, ⟨z61, by omega, by rw [unit_succ]; exact hO57⟩, ?_⟩
        show N - (k + 1) < N - k
        omega
    · intro c10
      refine vv (rpk (v := .bool false) rfl rfl) ?_
      refine vnil ?_
      refine V.condF rfl ?_
      refine V.exit ?_
      refine V.seq (V.reg rfl ?_)
      refine vv (rmv (v := v) rfl) ?_
      refine vv (ras (v := v) rfl) ?_
      refine vnil ?_
      refine V.ret ?_
      refine ⟨[v], ⟨rfl, trivial⟩, ?_⟩
      obtain ⟨a', c', rfl⟩ := hO.form
      have hf := hO.fin okQC (fun b hb _ => hu b (by omega))
      have ek : k = N := (by omega)
      subst ek
      exact ⟨_, _, _, rfl, z7, GC.cast (rs' := unitv k c) hf (unitv_eq _ _).symm⟩
  · intro c9
    refine mvb rfl ?_
    refine vgn (b := false) rfl rfl ?_
    refine vgn (b := false) rfl rfl ?_
    refine vv (rpk (v := .bool false) rfl rfl) ?_
    refine vnil ?_
    refine V.condF rfl ?_
    refine V.exit ?_
    refine V.seq (V.reg rfl ?_)
    refine vv (rmv (v := v) rfl) ?_
    refine vv (ras (v := v) rfl) ?_
    refine vnil ?_
    refine V.ret ?_
    refine ⟨[v], ⟨rfl, trivial⟩, ?_⟩
    obtain ⟨a', c', rfl⟩ := hO.form
    have hf := hO.fin okQC (fun b hb _ => hu b (by omega))
    have ek : k = N := (by omega)
    subst ek
    exact ⟨_, _, _, rfl, z7, GC.cast (rs' := unitv k c) hf (unitv_eq _ _).symm⟩
set_option maxHeartbeats 400000 in
theorem rcut_ok (z : Int) (N : Nat) (w : World) (h : min (max z 0) 1024 = (N : Int)) :
    Calls Tryz.prog 115 #[.int .i64 z] w (fun e w' => e = .returned (.int .i64 (N : Int)) ∧ w = w') := by
  have z0 := Ext.refl w; have hLX : LX = 17592186044416 := rfl; have hLY : LY = 8796093022208 := rfl
  refine enter (args := [.int .i64 z]) Tryz.func115 rfl rfl (Nat.le_of_ble_eq_true rfl) ?_
  refine V.seq (V.reg rfl ?_)
  refine asi rfl ?_
  refine vnil ?_
  refine V.seq (V.reg rfl ?_)
  refine mvi rfl ?_
  refine vv (rmax rfl rfl rfl) ?_
  refine vv (rmin rfl rfl rfl) ?_
  refine asi rfl ?_
  refine vnil ?_
  refine V.ret ?_
  refine ⟨[.int _ _], ⟨rfl, trivial⟩, ?_⟩
  exact ⟨by rw [← h]; rfl, rfl⟩
set_option maxHeartbeats 400000 in
theorem rPlace0_ok (q : List Value) (r : Rat) (a1 a2 : Option Addr) (n c m d : Nat) (i k : Nat) (L L1 : Nat) (rss : List (List Rat)) (S S1 S3 : Nat → Prop) (w : World) (h3 : QA L S3 w q r) (hx : MA L1 S1 w a1 n c rss) (hL : L + L1 ≤ LX / 128) (hl : 1 ≤ L) (hl1 : 1 ≤ L1) (hu : Up S w) :
    Calls Tryz.prog 164 #[.int .u8 0, .agg q.toArray, .slice a1 n c, .slice a2 m d, .int .i64 (i : Int), .int .i64 (k : Int)] w (PQ S (r * matI rss i k) w) := by
  have z0 := Ext.refl w; have hLX : LX = 17592186044416 := rfl; have hLY : LY = 8796093022208 := rfl
  obtain ⟨n5, a5, l5, c5, n6, a6, l6, c6, rfl⟩ := h3.form
  have hu2 : ∀ W : World, w.heap.size + 2 ≤ W.heap.size → Up (SX S [w.heap.size + 1]) W := fun W hW => SX.up (hu.mono (by omega)) (by simp <;> omega)
  refine enter (args := [.int .u8 0, .agg #[.bool n5, .slice a5 l5 c5, .bool n6, .slice a6 l6 c6], .slice a1 n c, .slice a2 m d, .int .i64 (i : Int), .int .i64 (k : Int)]) Tryz.func164 rfl rfl (Nat.le_of_ble_eq_true rfl) ?_
  refine V.seq (V.reg rfl ?_)
  refine vo ?_
  refine bxa rfl ?_
  intro W1 x2 b3 nn4
  have s5 := x2.sz
  have z6 := x2
  refine vo ?_
  refine xal zc48 ?_
  intro W7 x8 b9 nn10
  have s11 := x8.sz
  have z12 := z6.trans x8
  replace b3 := b3.ext x8
  refine vnil ?_
  refine V.seq ?_
  refine V.seq (V.reg rfl ?_)
  refine mvi rfl ?_
  refine vnil ?_
  refine V.block ?_
  refine V.seq (V.reg rfl ?_)
  refine veq rfl rfl ?_ ?_
  · intro c13
    omega
  · intro c13
    refine asb rfl ?_
    refine vnil ?_
    refine V.condF rfl ?_
    refine V.seq (V.reg rfl ?_)
    refine veq rfl rfl ?_ ?_
    · intro c14
      omega
    · intro c14
      refine asb rfl ?_
      refine vnil ?_
      refine V.condF rfl ?_
      refine V.seq (V.reg rfl ?_)
      refine veq rfl rfl ?_ ?_
      · intro c15
        omega
      · intro c15
        refine asb rfl ?_
        refine vnil ?_
        refine V.condF rfl ?_
        refine V.skip ?_
        refine V.seq (V.regD mixed rfl ?_)
        intro W16 x17
        have s18 := x17.sz
        have z19 := z12.trans x17
        replace b3 := b3.ext x17
        replace b9 := b9.ext x17
        have q20 := Ext.refl W16
        have r21 := b3
        have r22 := b9
        refine tk 0 rfl (by kernel_rfl) q20 (pv (fun _ y23 => rldb4 rfl ag48 (r21.ext y23) rfl rfl rfl rfl )) ?_
        refine tk 1 rfl (by kernel_rfl) q20 (pv (fun _ y24 => rmv (v := .slice _ _ _) rfl)) ?_
        refine tk 2 rfl (by kernel_rfl) q20 (pv (fun _ y25 => rmv (v := .int _ _) rfl)) ?_
        refine tk 3 rfl (by kernel_rfl) q20 (pv (fun _ y26 => rmv (v := .int _ _) rfl)) ?_
        refine ef 4 (by kernel_rfl) rfl ?_
        refine xcall e39 (rAt4_ok _ _ _ _ _ _ _ _ _ _ (hx.ext z19) (by omega) (by omega) (hu2 _ (by omega))) rfl rfl ?_
        rintro _ W28 ⟨_, rfl, x29, hq27⟩
        have s30 := x29.sz
        have z31 := z19.trans x29
        replace b3 := b3.ext x29
        replace b9 := b9.ext x29
        have q32 := q20.trans x29
        obtain ⟨_, _, _, _, _, _, _, _, rfl⟩ := hq27.form
        refine ⟨_, rfl, ?_⟩
        refine ⟨fun _ => q32, ?_⟩
        refine ef 5 (by kernel_rfl) rfl ?_
        refine xcall e133 (rMulQ_ok [_, _, _, _] [_, _, _, _] _ _ _ _ _ _ _ _ (h3.ext z31) ((hq27).qa (szMI hx hl1 _ _)) (by omega) (by omega) (by omega) (hu2 _ (by omega))) rfl rfl ?_
        rintro _ W34 ⟨_, rfl, x35, hq33⟩
        have s36 := x35.sz
        have z37 := z31.trans x35
        replace b3 := b3.ext x35
        replace b9 := b9.ext x35
        have q38 := q32.trans x35
        obtain ⟨_, _, _, _, _, _, _, _, rfl⟩ := hq33.form
        refine ⟨_, rfl, ?_⟩
        refine ⟨fun _ => q38, ?_⟩
        refine ef 6 (by kernel_rfl) rfl ?_
        refine sta (cs' := [_, _, _, _]) b9 rfl rfl sz48 rfl rfl rfl ?_
        intro W39 y40 b9
        have z41 := z37.below (y40.below (by omega))
        replace b3 := b3.wr y40 (by omega)
        have s42 := y40.size
        refine lastT (by kernel_rfl) ?_
        refine dn (by kernel_rfl) ?_
        refine V.ret ?_
        refine ⟨[_], ⟨⟨_, rfl, lvb ag48 b9 rfl⟩, trivial⟩, ?_⟩
        exact ⟨_, rfl, z41, ((hq33.ck (y40.ck (by intro hh; simp [SX] at hh <;> omega)))).un.cast (rfl)⟩
set_option maxHeartbeats 400000 in
theorem rPlace1_ok (q : List Value) (r : Rat) (a1 a2 : Option Addr) (n c m d : Nat) (i k : Nat) (L L1 : Nat) (rss : List (List Rat)) (S S1 S3 : Nat → Prop) (w : World) (h3 : QA L S3 w q r) (hx : MA L1 S1 w a1 n c rss) (hL : L + L1 ≤ LX / 128) (hl : 1 ≤ L) (hl1 : 1 ≤ L1) (hu : Up S w) :
    Calls Tryz.prog 164 #[.int .u8 1, .agg q.toArray, .slice a1 n c, .slice a2 m d, .int .i64 (i : Int), .int .i64 (k : Int)] w (PQ S (matI rss k i) w) := by
  have z0 := Ext.refl w; have hLX : LX = 17592186044416 := rfl; have hLY : LY = 8796093022208 := rfl
  obtain ⟨n5, a5, l5, c5, n6, a6, l6, c6, rfl⟩ := h3.form
  have hu2 : ∀ W : World, w.heap.size + 2 ≤ W.heap.size → Up (SX S [w.heap.size + 1]) W := fun W hW => SX.up (hu.mono (by omega)) (by simp <;> omega)
  refine enter (args := [.int .u8 1, .agg #[.bool n5, .slice a5 l5 c5, .bool n6, .slice a6 l6 c6], .slice a1 n c, .slice a2 m d, .int .i64 (i : Int), .int .i64 (k : Int)]) Tryz.func164 rfl rfl (Nat.le_of_ble_eq_true rfl) ?_
  refine V.seq (V.reg rfl ?_)
  refine vo ?_
  refine bxa rfl ?_
  intro W1 x2 b3 nn4
  have s5 := x2.sz
  have z6 := x2
  refine vo ?_
  refine xal zc48 ?_
  intro W7 x8 b9 nn10
  have s11 := x8.sz
  have z12 := z6.trans x8
  replace b3 := b3.ext x8
  refine vnil ?_
  refine V.seq ?_
  refine V.seq (V.reg rfl ?_)
  refine mvi rfl ?_
  refine vnil ?_
  refine V.block ?_
  refine V.seq (V.reg rfl ?_)
  refine veq rfl rfl ?_ ?_
  · intro c13
    refine asb rfl ?_
    refine vnil ?_
    refine V.condT rfl ?_
    refine V.seq (V.reg rfl ?_)
    refine mvs rfl ?_
    refine mvi rfl ?_
    refine mvi rfl ?_
    refine vo ?_
    refine xcall e39 (rAt4_ok _ _ _ _ _ _ _ _ _ _ (hx.ext z12) (by omega) (by omega) (hu2 _ (by omega))) rfl rfl ?_
    rintro _ W15 ⟨_, rfl, x16, hq14⟩
    have s17 := x16.sz
    have z18 := z12.trans x16
    replace b3 := b3.ext x16
    replace b9 := b9.ext x16
    obtain ⟨_, _, _, _, _, _, _, _, rfl⟩ := hq14.form
    refine ⟨_, rfl, ?_⟩
    refine vo ?_
    refine sta (cs' := [_, _, _, _]) b9 rfl rfl sz48 rfl rfl rfl ?_
    intro W19 y20 b9
    have z21 := z18.below (y20.below (by omega))
    replace b3 := b3.wr y20 (by omega)
    have s22 := y20.size
    refine vnil ?_
    refine V.ret ?_
    refine ⟨[_], ⟨⟨_, rfl, lvb ag48 b9 rfl⟩, trivial⟩, ?_⟩
    exact ⟨_, rfl, z21, ((hq14.ck (y20.ck (by intro hh; simp [SX] at hh <;> omega)))).un.cast (rfl)⟩
  · intro c13
    omega

abbrev HP (kind : Int) (q : List Value) (a1 a2 : Option Addr) (n c m d : Nat) (f : Int → Int → Rat) (R C : Nat) (w : World) : Prop :=
  ∀ (W : World) (i k : Nat) (S' : Nat → Prop), Ext w W → Up S' W → i < R → k < C → Calls Tryz.prog 164 #[.int .u8 kind, .agg q.toArray, .slice a1 n c, .slice a2 m d, .int .i64 (i : Int), .int .i64 (k : Int)] W (PQ S' (f i k) W)
theorem row_succ (f : Int → Int → Rat) (i : Int) (k : Nat) : (List.range (k + 1)).map (fun j : Nat => f i (j : Int)) = (List.range k).map (fun j : Nat => f i (j : Int)) ++ [f i (k : Int)] := by simp [List.range_succ]
theorem GO.lt {ρt : Type} {El : (Nat → Prop) → World → List Value → ρt → Prop} {S : Nat → Prop} {s B : Nat} {W : World} {e : TypeId} {v : Value} {rs : List ρt} (h : GO s El S B W e v rs) : ∀ b, W.heap.size ≤ b → v.ownBlock ≠ some b := fun b hb e => by
  obtain ⟨qs, h1, _⟩ := h
  have := (h1.low b e).2; omega

set_option maxHeartbeats 400000 in
theorem rmade_ok (R C : Nat) (kind : Int) (n5 : Bool) (a5 : Option Addr) (l5 c5 : Nat) (n6 : Bool) (a6 : Option Addr) (l6 c6 : Nat) (a1 a2 : Option Addr) (n c m d : Nat) (f : Int → Int → Rat) (S : Nat → Prop) (w : World) (hf : HP kind [.bool n5, .slice a5 l5 c5, .bool n6, .slice a6 l6 c6] a1 a2 n c m d f R C w) (hR : R ≤ LV) (hC : C ≤ LV) (hu : Up S w) :
    Calls Tryz.prog 114 #[.int .i64 (R : Int), .int .i64 (C : Int), .int .u8 kind, .agg #[.bool n5, .slice a5 l5 c5, .bool n6, .slice a6 l6 c6], .slice a1 n c, .slice a2 m d] w (fun e w' => ∃ ra rk rc, e = .returned (.slice ra rk rc) ∧ Ext w w' ∧ MC S w' ra rk rc (gridm f R C)) := by
  have z0 := Ext.refl w; have hLX : LX = 17592186044416 := rfl; have hLY : LY = 8796093022208 := rfl
  have hLV : LV = 1099511627776 := rfl
  refine enter (args := [.int .i64 (R : Int), .int .i64 (C : Int), .int .u8 kind, .agg #[.bool n5, .slice a5 l5 c5, .bool n6, .slice a6 l6 c6], .slice a1 n c, .slice a2 m d]) Tryz.func114 rfl rfl (Nat.le_of_ble_eq_true rfl) ?_
  refine V.seq (V.reg rfl ?_)
  refine vo ?_
  refine bxa rfl ?_
  intro W1 x2 b3 nn4
  have s5 := x2.sz
  have z6 := x2
  refine ass rfl ?_
  refine vnil ?_
  refine V.seq (V.reg rfl ?_)
  refine ass rfl ?_
  refine vnil ?_
  refine V.seq ?_
  refine V.seq (V.reg rfl ?_)
  refine asi rfl ?_
  refine vnil ?_
  refine V.block ?_
  have z7 := Ext.refl W1
  refine V.loopK (ι := Nat × Value) [(0, .int _ _), (1, .int _ _), (2, .int _ _), (4, .slice _ _ _), (5, .slice _ _ _), (9, .pointer (some ⟨_, _, none⟩)), (12, .slice _ _ _)] (fun ⟨i, v⟩ => [(14, .int .i64 (i : Int)), (13, v)]) (fun ⟨i, v⟩ W => Ext W1 W ∧ i ≤ R ∧ GO 1 (RowOf GC) S W1.heap.size W 23 v (gridm f i C)) (fun ⟨i, v⟩ => R - i) ((0, _)) ⟨rfl, rfl, rfl, rfl, rfl, rfl, rfl, trivial⟩ ⟨rfl, rfl, trivial⟩ ⟨Ext.refl _, Nat.zero_le _, GO.nil _ _⟩ ?_
  intro i9 E10 W8 h11
  obtain ⟨i, v⟩ := i9
  simp only at h11
  show V _ _ _ _ _ _ (ups (ups _ _) [(14, .int .i64 (i : Int)), (13, v)]) _
  obtain ⟨x12, hi, hO⟩ := h11
  have s13 := x12.sz
  have z14 := z6.trans x12
  have z15 := x12
  replace b3 := b3.ext x12
  refine V.seq ?_
  refine V.seq (V.reg rfl ?_)
  refine mvi rfl ?_
  refine mvi rfl ?_
  refine vlt rfl rfl ?_ ?_
  · intro c16
    refine vnil ?_
    refine V.condT rfl ?_
    refine V.skip ?_
    refine V.seq ?_
    refine V.block ?_
    refine V.seq (V.reg rfl ?_)
    refine ass rfl ?_
    refine vnil ?_
    refine V.seq ?_
    refine V.seq (V.reg rfl ?_)
    refine asi rfl ?_
    refine vnil ?_
    refine V.block ?_
    have z17 := Ext.refl W8
    have hOm := hO
    refine V.loopK (ι := Nat × Value) [(0, .int _ _), (1, .int _ _), (2, .int _ _), (4, .slice _ _ _), (5, .slice _ _ _), (9, .pointer (some ⟨_, _, none⟩)), (12, .slice _ _ _), (13, v), (14, .int _ _), (17, .int _ _), (18, .int _ _), (19, .bool true)] (fun ⟨j, v2⟩ => [(16, .int .i64 (j : Int)), (15, v2)]) (fun ⟨j, v2⟩ W => Ext W8 W ∧ j ≤ C ∧ GO 4 QC (fun b => W8.heap.size ≤ b) W8.heap.size W 48 v2 ((List.range j).map (fun t : Nat => f (i : Int) (t : Int)))) (fun ⟨j, v2⟩ => C - j) ((0, _)) ⟨rfl, rfl, rfl, rfl, rfl, rfl, rfl, rfl, rfl, rfl, rfl, rfl, trivial⟩ ⟨rfl, rfl, trivial⟩ ⟨Ext.refl _, Nat.zero_le _, GO.nil _ _⟩ ?_
    intro i19 E20 W18 h21
    obtain ⟨j, v2⟩ := i19
    simp only at h21
    show V _ _ _ _ _ _ (ups (ups _ _) [(16, .int .i64 (j : Int)), (15, v2)]) _
    obtain ⟨x22, hj, hO2⟩ := h21
    have s23 := x22.sz
    have z24 := z14.trans x22
    have z25 := z15.trans x22
    have z26 := x22
    replace b3 := b3.ext x22
    refine V.seq ?_
    refine V.seq (V.reg rfl ?_)
    refine mvi rfl ?_
    refine mvi rfl ?_
    refine vlt rfl rfl ?_ ?_
    · intro c27
      refine vnil ?_
      refine V.condT rfl ?_
      refine V.skip ?_
      refine V.seq ?_
      refine V.block ?_
      refine V.reg rfl ?_
      refine vv (rmv (v := v2) rfl) ?_
      refine mvi rfl ?_
      refine vv (rldb4 rfl ag48 b3 rfl rfl rfl rfl ) ?_
      refine mvs rfl ?_
      refine mvs rfl ?_
      refine mvi rfl ?_
      refine mvi rfl ?_
      refine vo ?_
      refine xcall e164 (hf _ i j (SO (fun b => W8.heap.size ≤ b) v2) z24 (GO.up hO2 (w := W8) (fun b hb => hb) (by omega)) (by omega) (by omega)) rfl rfl ?_
      rintro _ W29 ⟨_, rfl, x30, hq28⟩
      have s31 := x30.sz
      have z32 := z24.trans x30
      have z33 := z25.trans x30
      have z34 := z26.trans x30
      replace b3 := b3.ext x30
      replace hO2 := hO2.ext okQC x30
      obtain ⟨_, _, _, _, _, _, _, _, rfl⟩ := hq28.form
      refine ⟨_, rfl, ?_⟩
      refine vo ?_
      refine xbs (ps := [(0, .agg #[_, _, _, _])]) (cs := [.bool _, .slice _ _ _, .bool _, .slice _ _ _]) sl23 zr48 sz48 rfl rfl rfl rfl rfl rfl ?_
      intro W35 x36 b37 nn38
      have s39 := x36.sz
      have z40 := z32.trans x36
      have z41 := z33.trans x36
      have z42 := z34.trans x36
      replace b3 := b3.ext x36
      replace hO2 := hO2.ext okQC x36
      refine vo ?_
      refine xappG okQC sl23 in48 rfl rfl hO2 rfl rfl b37 rfl rfl ((hq28.ext x36)) (by simp; omega) (by decide) (by omega) ?_
      intro v43 W44 hO45 hg46
      have y47 := hg46.below; have s48 := y47.size
      have z49 := z40.below (y47.mono (by omega))
      have z50 := z41.below (y47.mono (by omega))
      have z51 := z42.below (y47.mono (by omega))
      replace b3 := b3.bl y47 (by omega)
      refine vv (ras (v := v43) rfl) ?_
      refine vnil ?_
      refine V.reg rfl ?_
      refine mvi rfl ?_
      refine vv (rbin (bAdd (wi (by omega))) rfl rfl) ?_
      refine asi rfl ?_
      refine vnil ?_
      refine ⟨rfl, (j + 1, _), ⟨rfl, rfl, rfl, rfl, rfl, rfl, rfl, rfl, rfl, rfl, rfl, rfl, trivial⟩, ⟨rfl, rfl, trivial⟩, ⟨z51, by omega, by rw [row_succ]; exact hO45⟩, ?_⟩
      show C - (j + 1) < C - j
      omega
    · intro c27
      have hO := hOm.ext okRowC z26
      obtain ⟨a2', c2', rfl⟩ := hO2.form
      have hrow : GC (fun b => W8.heap.size ≤ b) _ _ _ _ _ := hO2.fin okQC (fun b hb _ => hb)
      have z52 := Ext.refl W18
      refine vnil ?_
      refine V.condF rfl ?_
      refine V.exit ?_
      refine V.reg rfl ?_
      refine vv (rmv (v := v) rfl) ?_
      refine mvs rfl ?_
      refine vo ?_
      refine xbs (ps := [(0, .slice _ _ _)]) (cs := [.slice _ _ _]) sl22 zr23 sz23 rfl rfl rfl rfl rfl rfl ?_
      intro W53 x54 b55 nn56
      have s57 := x54.sz
      have z58 := z24.trans x54
      have z59 := z25.trans x54
      have z60 := z26.trans x54
      have z61 := x54
      replace b3 := b3.ext x54
      replace hO := hO.ext okRowC x54
      refine vo ?_
      refine xappG okRowC sl22 in23 rfl rfl hO rfl rfl b55 rfl rfl ((⟨_, _, _, rfl, ((hrow.ext z61)).sub (fun b hb hs => ⟨hu b (by omega), hOm.lt b hs⟩)⟩ : RowOf GC _ _ _ _)) (by simp [gridm]; omega) (by decide) (by omega) ?_
      intro v62 W63 hO64 hg65
      have y66 := hg65.below; have s67 := y66.size
      have z68 := z58.below (y66.mono (by omega))
      have z69 := z59.below (y66.mono (by omega))
      replace b3 := b3.bl y66 (by omega)
      refine vv (ras (v := v62) rfl) ?_
      refine vnil ?_
      refine V.reg rfl ?_
      refine mvi rfl ?_
      refine vv (rbin (bAdd (wi (by omega))) rfl rfl) ?_
      refine asi rfl ?_
      refine vnil ?_
      refine ⟨rfl, (i + 1, _), ⟨rfl, rfl, rfl, rfl, rfl, rfl, rfl, trivial⟩, ⟨rfl, rfl, trivial⟩, ⟨z69, by omega, by have eC : j = C := (by omega); subst eC; rw [gridm_succ]; exact hO64⟩, ?_⟩
      show R - (i + 1) < R - i
      omega
  · intro c16
    refine vnil ?_
    refine V.condF rfl ?_
    refine V.exit ?_
    refine V.seq (V.reg rfl ?_)
    refine vv (rmv (v := v) rfl) ?_
    refine vv (ras (v := v) rfl) ?_
    refine vnil ?_
    refine V.ret ?_
    refine ⟨[v], ⟨rfl, trivial⟩, ?_⟩
    have eR : i = R := (by omega)
    subst eR
    obtain ⟨a', c', rfl⟩ := hO.form
    exact ⟨_, _, _, rfl, z14, hO.fin okRowC (fun b hb _ => hu b (by omega))⟩
set_option maxHeartbeats 400000 in
theorem rFit_ok (a1 : Option Addr) (n c : Nat) (y z : Int) (R C : Nat) (L1 : Nat) (rss : List (List Rat)) (S S1 : Nat → Prop) (w : World) (hx : MA L1 S1 w a1 n c rss) (hR : min (max y 0) 1024 = (R : Int)) (hC : min (max z 0) 1024 = (C : Int)) (hL : L1 + 1 ≤ LX / 128) (hl1 : 1 ≤ L1) (hu : Up S w) :
    Calls Tryz.prog 44 #[.slice a1 n c, .int .i64 y, .int .i64 z] w (fun e w' => ∃ ra rk rc, e = .returned (.slice ra rk rc) ∧ Ext w w' ∧ MC S w' ra rk rc (gridm (matI rss) R C)) := by
  have z0 := Ext.refl w; have hLX : LX = 17592186044416 := rfl; have hLY : LY = 8796093022208 := rfl
  have hLV : LV = 1099511627776 := rfl
  refine enter (args := [.slice a1 n c, .int .i64 y, .int .i64 z]) Tryz.func44 rfl rfl (Nat.le_of_ble_eq_true rfl) ?_
  refine V.seq (V.reg rfl ?_)
  refine ass rfl ?_
  refine vnil ?_
  refine V.seq (V.reg rfl ?_)
  refine mvi rfl ?_
  refine vo ?_
  refine xcall e115 (rcut_ok _ R _ hR) rfl rfl ?_
  rintro _ _ ⟨rfl, rfl⟩
  refine ⟨_, rfl, ?_⟩
  refine mvi rfl ?_
  refine vo ?_
  refine xcall e115 (rcut_ok _ C _ hC) rfl rfl ?_
  rintro _ _ ⟨rfl, rfl⟩
  refine ⟨_, rfl, ?_⟩
  refine vo ?_
  refine xcall e116 (rInt_ok 1 TT _ (by omega) (TT.up _)) rfl rfl ?_
  rintro _ W3 ⟨_, rfl, x4, hq1⟩
  have s5 := x4.sz
  have z6 := x4
  obtain ⟨_, _, _, _, _, _, _, _, rfl⟩ := hq1.form
  refine ⟨_, rfl, ?_⟩
  refine mvs rfl ?_
  refine vo ?_
  refine xcall e114 (rmade_ok R C 0 _ _ _ _ _ _ _ _ _ _ _ _ _ _ (fun i k => ((1 : Int) : Rat) * matI rss i k) S _ (fun W i k S' x u _ _ => rPlace0_ok [_, _, _, _] _ _ _ _ _ _ _ i k 1 L1 rss S' S1 TT W ((hq1).qa (szOne' ) |>.ext x) (((hx.ext z6)).ext x) (by omega) (by omega) hl1 u) (by omega) (by omega) (hu.mono (by omega))) rfl rfl ?_
  rintro _ W7 ⟨_, _, _, rfl, x8, hv⟩
  have s9 := x8.sz
  have z10 := z6.trans x8
  refine ⟨_, rfl, ?_⟩
  refine ass rfl ?_
  refine vnil ?_
  refine V.ret ?_
  refine ⟨[.slice _ _ _], ⟨rfl, trivial⟩, ?_⟩
  exact ⟨_, _, _, rfl, z10, hv.cast' (by congr 1; funext i k; simp)⟩
set_option maxHeartbeats 400000 in
theorem rTurn_ok (a1 : Option Addr) (n c : Nat) (L1 : Nat) (ρs : List (List RawQ)) (rss : List (List Rat)) (S S1 : Nat → Prop) (w : World) (hm : MX S1 w a1 n c ρs) (hx : MA L1 S1 w a1 n c rss) (hc : colsG ρs = colsN rss) (hL : L1 + 1 ≤ LX / 128) (hl1 : 1 ≤ L1) (hn : n ≤ LV) (hcc : colsN rss ≤ LV) (hu : Up S w) :
    Calls Tryz.prog 46 #[.slice a1 n c] w (fun e w' => ∃ ra rk rc, e = .returned (.slice ra rk rc) ∧ Ext w w' ∧ MC S w' ra rk rc (gridm (fun i k => matI rss k i) (colsN rss) n)) := by
  have z0 := Ext.refl w; have hLX : LX = 17592186044416 := rfl; have hLY : LY = 8796093022208 := rfl
  have hLV : LV = 1099511627776 := rfl
  refine enter (args := [.slice a1 n c]) Tryz.func46 rfl rfl (Nat.le_of_ble_eq_true rfl) ?_
  refine V.seq (V.reg rfl ?_)
  refine ass rfl ?_
  refine vnil ?_
  refine V.seq (V.reg rfl ?_)
  refine mvs rfl ?_
  refine vo ?_
  refine xcall e36 (rCols_ok _ _ _ _ _ _ hm) rfl rfl ?_
  rintro _ _ ⟨rfl, rfl⟩
  rw [hc]
  refine ⟨_, rfl, ?_⟩
  refine mvs rfl ?_
  refine vv (rlen sl22 rfl) ?_
  refine vv (rbd (ps := []) (cs := [.bool false, .slice _ _ _, .bool false, .slice _ _ _]) pl48 rfl rfl) ?_
  refine mvs rfl ?_
  refine vo ?_
  refine xcall e114 (rmade_ok (colsN rss) n 1 _ _ _ _ _ _ _ _ _ _ _ _ _ _ (fun i k => matI rss k i) S _ (fun W i k S' x u _ _ => rPlace1_ok [_, _, _, _] 0 _ _ _ _ _ _ i k 1 L1 rss S' S1 TT W (QA.zero TT W) ((hx).ext x) (by omega) (by omega) hl1 u) (by omega) (by omega) (hu.mono (by omega))) rfl rfl ?_
  rintro _ W2 ⟨_, _, _, rfl, x3, hv⟩
  have s4 := x3.sz
  have z5 := x3
  refine ⟨_, rfl, ?_⟩
  refine ass rfl ?_
  refine vnil ?_
  refine V.ret ?_
  refine ⟨[.slice _ _ _], ⟨rfl, trivial⟩, ?_⟩
  exact ⟨_, _, _, rfl, z5, hv⟩
set_option maxHeartbeats 400000 in
theorem rUnit4_ok (z : Int) (N : Nat) (S : Nat → Prop) (w : World) (hN : min (max z 0) 1024 = (N : Int)) (hu : Up S w) :
    Calls Tryz.prog 48 #[.int .i64 z] w (fun e w' => ∃ ra rk rc, e = .returned (.slice ra rk rc) ∧ Ext w w' ∧ MC S w' ra rk rc (identm N)) := by
  have z0 := Ext.refl w; have hLX : LX = 17592186044416 := rfl; have hLY : LY = 8796093022208 := rfl
  have hLV : LV = 1099511627776 := rfl
  refine enter (args := [.int .i64 z]) Tryz.func48 rfl rfl (Nat.le_of_ble_eq_true rfl) ?_
  refine V.seq (V.reg rfl ?_)
  refine ass rfl ?_
  refine vnil ?_
  refine V.seq (V.reg rfl ?_)
  refine ass rfl ?_
  refine vnil ?_
  refine V.seq ?_
  refine V.seq (V.reg rfl ?_)
  refine asi rfl ?_
  refine vnil ?_
  refine V.block ?_
  refine V.loopK (ι := Nat × Value) [(0, .int _ _), (2, .slice _ _ _)] (fun ⟨k, v⟩ => [(4, .int .i64 (k : Int)), (3, v)]) (fun ⟨k, v⟩ W => Ext w W ∧ k ≤ N ∧ GO 1 (RowOf GC) S w.heap.size W 23 v ((List.range k).map fun i : Nat => unitv N (i : Int))) (fun ⟨k, v⟩ => N - k) ((0, _)) ⟨rfl, rfl, trivial⟩ ⟨rfl, rfl, trivial⟩ ⟨Ext.refl _, Nat.zero_le _, GO.nil _ _⟩ ?_
  intro i2 E3 W1 h4
  obtain ⟨k, v⟩ := i2
  simp only at h4
  show V _ _ _ _ _ _ (ups (ups _ _) [(4, .int .i64 (k : Int)), (3, v)]) _
  obtain ⟨x5, hk, hO⟩ := h4
  have s6 := x5.sz
  have z7 := x5
  refine V.seq ?_
  refine V.seq (V.reg rfl ?_)
  refine mvi rfl ?_
  refine mvi rfl ?_
  refine vo ?_
  refine xcall e115 (rcut_ok _ N _ hN) rfl rfl ?_
  rintro _ _ ⟨rfl, rfl⟩
  refine ⟨_, rfl, ?_⟩
  refine vlt rfl rfl ?_ ?_
  · intro c9
    refine vnil ?_
    refine V.condT rfl ?_
    refine V.skip ?_
    refine V.seq ?_
    refine V.block ?_
    refine V.reg rfl ?_
    refine vv (rmv (v := v) rfl) ?_
    refine mvi rfl ?_
    refine vo ?_
    refine xcall e115 (rcut_ok _ N _ hN) rfl rfl ?_
    rintro _ _ ⟨rfl, rfl⟩
    refine ⟨_, rfl, ?_⟩
    refine mvi rfl ?_
    refine vo ?_
    refine xcall e119 (rUnit3_ok _ _ N _ _ (by omega) (GO.up hO hu (by omega))) rfl rfl ?_
    rintro _ W11 ⟨_, _, _, rfl, x12, hvu⟩
    have s13 := x12.sz
    have z14 := z7.trans x12
    replace hO := hO.ext okRowC x12
    refine ⟨_, rfl, ?_⟩
    refine vo ?_
    refine xbs (ps := [(0, .slice _ _ _)]) (cs := [.slice _ _ _]) sl22 zr23 sz23 rfl rfl rfl rfl rfl rfl ?_
    intro W15 x16 b17 nn18
    have s19 := x16.sz
    have z20 := z14.trans x16
    replace hO := hO.ext okRowC x16
    refine vo ?_
    refine xappG okRowC sl22 in23 rfl rfl hO rfl rfl b17 rfl rfl ((⟨_, _, _, rfl, (hvu.ext x16)⟩ : RowOf GC _ _ _ _)) (by simp; omega) (by decide) (by omega) ?_
    intro v21 W22 hO23 hg24
    have y25 := hg24.below; have s26 := y25.size
    have z27 := z20.below (y25.mono (by omega))
    refine vv (ras (v := v21) rfl) ?_
    refine vnil ?_
    refine V.reg rfl ?_
    refine mvi rfl ?_
    refine vv (rbin (bAdd (wi (by omega))) rfl rfl) ?_
    refine asi rfl ?_
    refine vnil ?_
    refine ⟨rfl, (k + 1, _), ⟨rfl, rfl, trivial⟩, ⟨rfl, rfl, trivial⟩, ⟨z27, by omega, by rw [identm_succ]; exact hO23⟩, ?_⟩
    show N - (k + 1) < N - k
    omega
  · intro c9
    refine vnil ?_
    refine V.condF rfl ?_
    refine V.exit ?_
    refine V.seq (V.reg rfl ?_)
    refine vv (rmv (v := v) rfl) ?_
    refine vv (ras (v := v) rfl) ?_
    refine vnil ?_
    refine V.ret ?_
    refine ⟨[v], ⟨rfl, trivial⟩, ?_⟩
    obtain ⟨a', c', rfl⟩ := hO.form
    have hf := hO.fin okRowC (fun b hb _ => hu b (by omega))
    have ek : k = N := (by omega)
    subst ek
    exact ⟨_, _, _, rfl, z7, hf⟩
end Go.Proofs.YtknbjfefeeojlaaGreat
/- Packages pylonlaw01 to pylonlaw04: Own. -/
namespace Go.Proofs.YtknbjfefeeojlaaGreat
open Go.RowKit
attribute [local irreducible] RV VH V OpF Calls
theorem QX.mk' {S : Nat → Prop} {W : World} {ρ : RawQ} {a1 a2 : Option Addr} {l1 c1 l2 c2 : Nat} {n1 n2 : Bool} (e1 : n1 = ρ.n1) (h1 : RN .u32 S W a1 l1 c1 ρ.xs) (e2 : n2 = ρ.n2) (h2 : RN .u32 S W a2 l2 c2 ρ.ys) : QX S W [.bool n1, .slice a1 l1 c1, .bool n2, .slice a2 l2 c2] ρ := by
  subst e1 e2; exact ⟨_, _, _, _, _, _, rfl, h1, h2⟩

set_option maxHeartbeats 400000 in
theorem own1_ok (neg : Bool) (a : Option Addr) (n c : Nat) (xs : List Int) (S S1 : Nat → Prop) (w : World) (h : RN .u32 S1 w a n c xs) (hn : n ≤ LX) (hu : Up S w) :
    Calls Tryz.prog 171 #[.agg #[.bool neg, .slice a n c]] w (fun e w' => ∃ a' n' c', e = .returned (.agg #[.bool neg, .slice a' n' c']) ∧ Ext w w' ∧ RN .u32 S w' a' n' c' xs) := by
  have z0 := Ext.refl w; have hLX : LX = 17592186044416 := rfl; have hLY : LY = 8796093022208 := rfl
  have hl := h.len
  refine enter (args := [.agg #[.bool neg, .slice a n c]]) Tryz.func171 rfl rfl (Nat.le_of_ble_eq_true rfl) ?_
  refine V.seq (V.reg rfl ?_)
  refine vo ?_
  refine bxa rfl ?_
  intro W1 x2 b3 nn4
  have s5 := x2.sz
  have z6 := x2
  refine vo ?_
  refine xal zc46 ?_
  intro W7 x8 b9 nn10
  have s11 := x8.sz
  have z12 := z6.trans x8
  replace b3 := b3.ext x8
  refine vnil ?_
  refine V.seq (V.regD mixed rfl ?_)
  intro W13 x14
  have s15 := x14.sz
  have z16 := z12.trans x14
  replace b3 := b3.ext x14
  replace b9 := b9.ext x14
  have q17 := Ext.refl W13
  have r18 := b3
  have r19 := b9
  refine tk 0 rfl (by kernel_rfl) q17 (pv (fun _ y20 => rfa rfl fd46_0)) ?_
  refine tk 1 rfl (by kernel_rfl) q17 (pv (fun _ y21 => rldb (v := .bool _) rfl sc4 (r18.ext y21) rfl)) ?_
  refine tk 2 rfl (by kernel_rfl) q17 (pv (fun _ y22 => rfa rfl fd46_1)) ?_
  refine tk 3 rfl (by kernel_rfl) q17 (pv (fun _ y23 => rldb (v := .slice _ _ _) rfl sc44 (r18.ext y23) rfl)) ?_
  refine ef 4 (by kernel_rfl) rfl ?_
  have z24 := Ext.refl W13
  refine xappN sl44 in164 (OI.nil .u32 W13.heap.size _ _) rfl rfl (h.ext z16) (by simp only [List.length_nil]; omega) (by decide) (by omega) ?_
  intro v25 W26 hO27 hg28 ho29
  have y30 : Below W13.heap.size _ _ := grown_below hg28 (by omega) (fun b e => by simp [Value.ownBlock] at e)
  have s31 := y30.size
  have q32 := q17.trans y30
  have z33 := z16.below (y30.mono (by omega))
  have z34 := z24.below (y30.mono (by omega))
  replace b3 := b3.bl y30 (by omega)
  replace b9 := b9.bl y30 (by omega)
  obtain ⟨a', c', rfl⟩ := hO27.form
  have hrn := hO27.rn (S := SX S [W1.heap.size]) (fun b hb _ => ⟨hu b (by omega), by have := b9.lt; simp; omega⟩)
  have z35 := Ext.refl W26
  refine ⟨fun _ => q32, ?_⟩
  refine tk 5 rfl (by kernel_rfl) q32 (pv (fun _ y36 => rbd (ps := [(0, .bool _), (1, .slice _ _ _)]) (cs := [.bool _, .slice _ _ _]) pl46 rfl rfl)) ?_
  refine ef 6 (by kernel_rfl) rfl ?_
  refine sta (cs' := [_, _]) b9 rfl rfl sz46 rfl rfl rfl ?_
  intro W37 y38 b9
  have z39 := z33.below (y38.below (by omega))
  replace b3 := b3.wr y38 (by omega)
  have s40 := y38.size
  refine lastT (by kernel_rfl) ?_
  refine dn (by kernel_rfl) ?_
  refine V.ret ?_
  refine ⟨[_], ⟨⟨_, rfl, lvb ag46 b9 rfl⟩, trivial⟩, ?_⟩
  exact ⟨_, _, _, rfl, z39, ((hrn.ck (y38.ck (by intro hh; simp [SX] at hh <;> omega)))).un⟩
set_option maxHeartbeats 400000 in
theorem own2_ok (q : List Value) (ρ : RawQ) (S S1 : Nat → Prop) (w : World) (h : QX S1 w q ρ) (hs : szQ LX ρ) (hu : Up S w) :
    Calls Tryz.prog 127 #[.agg q.toArray] w (fun e w' => ∃ q, e = .returned (.agg q.toArray) ∧ Ext w w' ∧ QX S w' q ρ) := by
  have z0 := Ext.refl w; have hLX : LX = 17592186044416 := rfl; have hLY : LY = 8796093022208 := rfl
  obtain ⟨n1, a1, l1, c1, n2, a2, l2, c2, rfl⟩ := h.form
  obtain ⟨e1, hxx, e2, hyy⟩ := h.two; have lx := hxx.len; have ly := hyy.len; have hs1 := hs.1; have hs2 := hs.2
  have hu2 : ∀ W : World, w.heap.size + 2 ≤ W.heap.size → Up (SX S [w.heap.size + 1]) W := fun W hW => SX.up (hu.mono (by omega)) (by simp <;> omega)
  refine enter (args := [.agg #[.bool n1, .slice a1 l1 c1, .bool n2, .slice a2 l2 c2]]) Tryz.func127 rfl rfl (Nat.le_of_ble_eq_true rfl) ?_
  refine V.seq (V.reg rfl ?_)
  refine vo ?_
  refine bxa rfl ?_
  intro W1 x2 b3 nn4
  have s5 := x2.sz
  have z6 := x2
  refine vo ?_
  refine xal zc48 ?_
  intro W7 x8 b9 nn10
  have s11 := x8.sz
  have z12 := z6.trans x8
  replace b3 := b3.ext x8
  refine vnil ?_
  refine V.seq (V.regD mixed rfl ?_)
  intro W13 x14
  have s15 := x14.sz
  have z16 := z12.trans x14
  replace b3 := b3.ext x14
  replace b9 := b9.ext x14
  have q17 := Ext.refl W13
  have r18 := b3
  have r19 := b9
  refine tk 0 rfl (by kernel_rfl) q17 (pv (fun _ y20 => rfa rfl fd48_0)) ?_
  refine tk 1 rfl (by kernel_rfl) q17 (pv (fun _ y21 => rldb2 rfl ag46 (r18.ext y21) rfl rfl )) ?_
  refine tk 3 rfl (by kernel_rfl) q17 (pv (fun _ y22 => rfa rfl fd48_1)) ?_
  refine tk 4 rfl (by kernel_rfl) q17 (pv (fun _ y23 => rldb2 rfl ag46 (r18.ext y23) rfl rfl )) ?_
  refine ef 2 (by kernel_rfl) rfl ?_
  refine xcall e171 (own1_ok _ _ _ _ _ _ _ _ (hxx.ext z16) (by omega) (hu2 _ (by omega))) rfl rfl ?_
  rintro _ W25 ⟨_, _, _, rfl, x26, hw24⟩
  have s27 := x26.sz
  have z28 := z16.trans x26
  replace b3 := b3.ext x26
  replace b9 := b9.ext x26
  have q29 := q17.trans x26
  refine ⟨_, rfl, ?_⟩
  refine ⟨fun _ => q29, ?_⟩
  refine ef 5 (by kernel_rfl) rfl ?_
  refine xcall e171 (own1_ok _ _ _ _ _ _ _ _ (hyy.ext z28) (by omega) (hu2 _ (by omega))) rfl rfl ?_
  rintro _ W31 ⟨_, _, _, rfl, x32, hw30⟩
  have s33 := x32.sz
  have z34 := z28.trans x32
  replace b3 := b3.ext x32
  replace b9 := b9.ext x32
  have q35 := q29.trans x32
  refine ⟨_, rfl, ?_⟩
  refine ⟨fun _ => q35, ?_⟩
  refine tk 6 rfl (by kernel_rfl) q35 (pv (fun _ y36 => rbd (ps := [(0, .agg #[_, _]), (1, .agg #[_, _])]) (cs := [.bool _, .slice _ _ _, .bool _, .slice _ _ _]) pl48 rfl rfl)) ?_
  refine ef 7 (by kernel_rfl) rfl ?_
  refine sta (cs' := [_, _, _, _]) b9 rfl rfl sz48 rfl rfl rfl ?_
  intro W37 y38 b9
  have z39 := z34.below (y38.below (by omega))
  replace b3 := b3.wr y38 (by omega)
  have s40 := y38.size
  refine lastT (by kernel_rfl) ?_
  refine dn (by kernel_rfl) ?_
  refine V.ret ?_
  refine ⟨[_], ⟨⟨_, rfl, lvb ag48 b9 rfl⟩, trivial⟩, ?_⟩
  exact ⟨_, rfl, z39, QX.mk' e1 ((hw24.ck ((x32.ck _).trans (y38.ck (by intro hh; simp [SX] at hh <;> omega))))).un e2 ((hw30.ck (y38.ck (by intro hh; simp [SX] at hh <;> omega)))).un⟩

theorem szx_at {ρs : List RawQ} (h : ∀ ρ ∈ ρs, szQ LX ρ) (i : Nat) : szQ LX (xat ρs i) := by
  unfold xat; rw [List.getD_eq_getElem?_getD]
  cases hq : ρs[i]? with
  | none => exact ⟨Nat.zero_le _, Nat.zero_le _⟩
  | some r => exact h r (List.mem_of_getElem? hq)
theorem szx_row {ρss : List (List RawQ)} (h : ∀ r ∈ ρss, ∀ ρ ∈ r, szQ LX ρ) (i : Nat) : ∀ ρ ∈ rowat ρss i, szQ LX ρ := by
  unfold rowat; rw [List.getD_eq_getElem?_getD]
  cases hq : ρss[i]? with
  | none => intro ρ hρ; simp at hρ
  | some r => exact h r (List.mem_of_getElem? hq)

set_option maxHeartbeats 400000 in
theorem own3_ok (a1 : Option Addr) (n c : Nat) (ρs : List RawQ) (S S1 : Nat → Prop) (w : World) (hx : GX S1 w a1 n c ρs) (hs : ∀ ρ ∈ ρs, szQ LX ρ) (hn : n ≤ LV) (hu : Up S w) :
    Calls Tryz.prog 52 #[.slice a1 n c] w (fun e w' => ∃ ra rk rc, e = .returned (.slice ra rk rc) ∧ Ext w w' ∧ GX S w' ra rk rc ρs) := by
  have z0 := Ext.refl w; have hLX : LX = 17592186044416 := rfl; have hLY : LY = 8796093022208 := rfl
  have hLV : LV = 1099511627776 := rfl
  have l1 := hx.len; have l2 := hx.max
  refine enter (args := [.slice a1 n c]) Tryz.func52 rfl rfl (Nat.le_of_ble_eq_true rfl) ?_
  refine V.seq (V.reg rfl ?_)
  refine ass rfl ?_
  refine vnil ?_
  refine V.seq (V.reg rfl ?_)
  refine ass rfl ?_
  refine vnil ?_
  refine V.seq ?_
  refine V.seq (V.reg rfl ?_)
  refine asi rfl ?_
  refine vnil ?_
  refine V.block ?_
  refine V.loopK (ι := Nat × Value) [(0, .slice _ _ _), (2, .slice _ _ _)] (fun ⟨k, v⟩ => [(4, .int .i64 (k : Int)), (3, v)]) (fun ⟨k, v⟩ W => Ext w W ∧ k ≤ n ∧ GO 4 QX S w.heap.size W 48 v (ρs.take k)) (fun ⟨k, v⟩ => n - k) ((0, _)) ⟨rfl, rfl, trivial⟩ ⟨rfl, rfl, trivial⟩ ⟨Ext.refl _, Nat.zero_le _, GO.nil _ _⟩ ?_
  intro i2 E3 W1 h4
  obtain ⟨k, v⟩ := i2
  simp only at h4
  show V _ _ _ _ _ _ (ups (ups _ _) [(4, .int .i64 (k : Int)), (3, v)]) _
  obtain ⟨x5, hk, hO⟩ := h4
  have s6 := x5.sz
  have z7 := x5
  refine V.seq ?_
  refine V.seq (V.reg rfl ?_)
  refine mvi rfl ?_
  refine mvs rfl ?_
  refine vv (rlen sl23 rfl) ?_
  refine vlt rfl rfl ?_ ?_
  · intro c8
    refine vnil ?_
    refine V.condT rfl ?_
    refine V.skip ?_
    refine V.seq ?_
    refine V.block ?_
    refine V.reg rfl ?_
    refine vv (rmv (v := v) rfl) ?_
    refine mvs rfl ?_
    refine mvi rfl ?_
    refine vv (rix sl23 sz48 rfl rfl (by omega) (by omega) ((hx.ext z7).isS (i := 0) (by omega) (by omega))) ?_
    refine vldX (hx.ext z7) rfl ag48 (by omega) (by omega) ?_
    intro n9 a10 l11 c12 n13 a14 l15 c16 hq17
    refine vo ?_
    refine xcall e127 (own2_ok [_, _, _, _] _ _ _ _ hq17 (szx_at hs _) (GO.up hO hu (by omega))) rfl rfl ?_
    rintro _ W19 ⟨_, rfl, x20, hq18⟩
    have s21 := x20.sz
    have z22 := z7.trans x20
    replace hO := hO.ext okQX x20
    obtain ⟨_, _, _, _, _, _, _, _, rfl⟩ := hq18.form
    refine ⟨_, rfl, ?_⟩
    refine vo ?_
    refine xbs (ps := [(0, .agg #[_, _, _, _])]) (cs := [.bool _, .slice _ _ _, .bool _, .slice _ _ _]) sl23 zr48 sz48 rfl rfl rfl rfl rfl rfl ?_
    intro W23 x24 b25 nn26
    have s27 := x24.sz
    have z28 := z22.trans x24
    replace hO := hO.ext okQX x24
    refine vo ?_
    refine xappG okQX sl23 in48 rfl rfl hO rfl rfl b25 rfl rfl (((hq18.ext x24) : QX _ _ _ (ρs.getD k rz))) (by simp; omega) (by decide) (by omega) ?_
    intro v29 W30 hO31 hg32
    have y33 := hg32.below; have s34 := y33.size
    have z35 := z28.below (y33.mono (by omega))
    refine vv (ras (v := v29) rfl) ?_
    refine vnil ?_
    refine V.reg rfl ?_
    refine mvi rfl ?_
    refine vv (rbin (bAdd (wi (by omega))) rfl rfl) ?_
    refine asi rfl ?_
    refine vnil ?_
    refine ⟨rfl, (k + 1, _), ⟨rfl, rfl, trivial⟩, ⟨rfl, rfl, trivial⟩, ⟨z35, by omega, by rw [take_getD rz ρs k (by omega)]; exact hO31⟩, ?_⟩
    show n - (k + 1) < n - k
    omega
  · intro c8
    refine vnil ?_
    refine V.condF rfl ?_
    refine V.exit ?_
    refine V.seq (V.reg rfl ?_)
    refine vv (rmv (v := v) rfl) ?_
    refine vv (ras (v := v) rfl) ?_
    refine vnil ?_
    refine V.ret ?_
    refine ⟨[v], ⟨rfl, trivial⟩, ?_⟩
    obtain ⟨a', c', rfl⟩ := hO.form
    have hf := hO.fin okQX (fun b hb _ => hu b (by omega))
    refine ⟨_, _, _, rfl, z7, ?_⟩
    rw [List.take_of_length_le (by omega)] at hf ⊢
    exact hf
set_option maxHeartbeats 400000 in
theorem own4_ok (a1 : Option Addr) (n c : Nat) (ρss : List (List RawQ)) (S S1 : Nat → Prop) (w : World) (hx : MX S1 w a1 n c ρss) (hs : ∀ r ∈ ρss, ∀ ρ ∈ r, szQ LX ρ) (hn : n ≤ LV) (hR : ∀ r ∈ ρss, r.length ≤ LV) (hu : Up S w) :
    Calls Tryz.prog 34 #[.slice a1 n c] w (fun e w' => ∃ ra rk rc, e = .returned (.slice ra rk rc) ∧ Ext w w' ∧ MX S w' ra rk rc ρss) := by
  have z0 := Ext.refl w; have hLX : LX = 17592186044416 := rfl; have hLY : LY = 8796093022208 := rfl
  have hLV : LV = 1099511627776 := rfl
  have l1 := hx.len; have l2 := hx.max
  refine enter (args := [.slice a1 n c]) Tryz.func34 rfl rfl (Nat.le_of_ble_eq_true rfl) ?_
  refine V.seq (V.reg rfl ?_)
  refine ass rfl ?_
  refine vnil ?_
  refine V.seq (V.reg rfl ?_)
  refine ass rfl ?_
  refine vnil ?_
  refine V.seq ?_
  refine V.seq (V.reg rfl ?_)
  refine asi rfl ?_
  refine vnil ?_
  refine V.block ?_
  refine V.loopK (ι := Nat × Value) [(0, .slice _ _ _), (2, .slice _ _ _)] (fun ⟨k, v⟩ => [(4, .int .i64 (k : Int)), (3, v)]) (fun ⟨k, v⟩ W => Ext w W ∧ k ≤ n ∧ GO 1 (RowOf GX) S w.heap.size W 23 v (ρss.take k)) (fun ⟨k, v⟩ => n - k) ((0, _)) ⟨rfl, rfl, trivial⟩ ⟨rfl, rfl, trivial⟩ ⟨Ext.refl _, Nat.zero_le _, GO.nil _ _⟩ ?_
  intro i2 E3 W1 h4
  obtain ⟨k, v⟩ := i2
  simp only at h4
  show V _ _ _ _ _ _ (ups (ups _ _) [(4, .int .i64 (k : Int)), (3, v)]) _
  obtain ⟨x5, hk, hO⟩ := h4
  have s6 := x5.sz
  have z7 := x5
  refine V.seq ?_
  refine V.seq (V.reg rfl ?_)
  refine mvi rfl ?_
  refine mvs rfl ?_
  refine vv (rlen sl22 rfl) ?_
  refine vlt rfl rfl ?_ ?_
  · intro c8
    have hrw : (rowat ρss ((k : Int)).toNat).length ≤ LV := row_leG hR _
    refine vnil ?_
    refine V.condT rfl ?_
    refine V.skip ?_
    refine V.seq ?_
    refine V.block ?_
    refine V.reg rfl ?_
    refine vv (rmv (v := v) rfl) ?_
    refine mvs rfl ?_
    refine mvi rfl ?_
    refine vv (rix sl22 sz23 rfl rfl (by omega) (by omega) ((hx.ext z7).isS (i := 0) (by omega) (by omega))) ?_
    refine vldRow (hx.ext z7) rfl sc23 (by omega) (by omega) ?_
    intro a9 n10 c11 hg12
    have hg12l := hg12.len; have hg12m := hg12.max
    refine vo ?_
    refine xcall e52 (own3_ok _ _ _ _ _ _ _ hg12 (szx_row hs _) (by omega) (GO.up hO hu (by omega))) rfl rfl ?_
    rintro _ W14 ⟨_, _, _, rfl, x15, hv13⟩
    have s16 := x15.sz
    have z17 := z7.trans x15
    replace hO := hO.ext okRowX x15
    refine ⟨_, rfl, ?_⟩
    refine vo ?_
    refine xbs (ps := [(0, .slice _ _ _)]) (cs := [.slice _ _ _]) sl22 zr23 sz23 rfl rfl rfl rfl rfl rfl ?_
    intro W18 x19 b20 nn21
    have s22 := x19.sz
    have z23 := z17.trans x19
    replace hO := hO.ext okRowX x19
    refine vo ?_
    refine xappG okRowX sl22 in23 rfl rfl hO rfl rfl b20 rfl rfl ((⟨_, _, _, rfl, (hv13.ext x19)⟩ : RowOf GX _ _ _ (ρss.getD k []))) (by simp; omega) (by decide) (by omega) ?_
    intro v24 W25 hO26 hg27
    have y28 := hg27.below; have s29 := y28.size
    have z30 := z23.below (y28.mono (by omega))
    refine vv (ras (v := v24) rfl) ?_
    refine vnil ?_
    refine V.reg rfl ?_
    refine mvi rfl ?_
    refine vv (rbin (bAdd (wi (by omega))) rfl rfl) ?_
    refine asi rfl ?_
    refine vnil ?_
    refine ⟨rfl, (k + 1, _), ⟨rfl, rfl, trivial⟩, ⟨rfl, rfl, trivial⟩, ⟨z30, by omega, by rw [take_getD [] ρss k (by omega)]; exact hO26⟩, ?_⟩
    show n - (k + 1) < n - k
    omega
  · intro c8
    refine vnil ?_
    refine V.condF rfl ?_
    refine V.exit ?_
    refine V.seq (V.reg rfl ?_)
    refine vv (rmv (v := v) rfl) ?_
    refine vv (ras (v := v) rfl) ?_
    refine vnil ?_
    refine V.ret ?_
    refine ⟨[v], ⟨rfl, trivial⟩, ?_⟩
    obtain ⟨a', c', rfl⟩ := hO.form
    have hf := hO.fin okRowX (fun b hb _ => hu b (by omega))
    refine ⟨_, _, _, rfl, z7, ?_⟩
    rw [List.take_of_length_le (by omega)] at hf ⊢
    exact hf
end Go.Proofs.YtknbjfefeeojlaaGreat
/- Matrices as lists: plain mathematics for the laws of layer 4. -/
namespace Go.Proofs.YtknbjfefeeojlaaGreat
/-- f 0 + .. + f (k - 1). -/
def sumk (f : Nat → Rat) : Nat → Rat
  | 0 => 0
  | k + 1 => sumk f k + f k
theorem sumk_ext {f g : Nat → Rat} : ∀ {k : Nat}, (∀ i, i < k → f i = g i) → sumk f k = sumk g k
  | 0, _ => rfl
  | k + 1, h => by simp only [sumk]; rw [sumk_ext fun i hi => h i (by omega), h k (by omega)]
theorem sumk_zero {f : Nat → Rat} : ∀ {k : Nat}, (∀ i, i < k → f i = 0) → sumk f k = 0
  | 0, _ => rfl
  | k + 1, h => by simp only [sumk]; rw [sumk_zero fun i hi => h i (by omega), h k (by omega), Rat.zero_add]
theorem sumk_le {f : Nat → Rat} {k : Nat} : ∀ {m : Nat}, k ≤ m → (∀ i, k ≤ i → i < m → f i = 0) → sumk f m = sumk f k
  | 0, h, _ => by obtain rfl : k = 0 := by omega
                  rfl
  | m + 1, h, hz => by
    rcases Nat.lt_or_ge m k with h1 | h1
    · obtain rfl : k = m + 1 := by omega
      rfl
    · simp only [sumk]
      rw [sumk_le h1 fun i h2 h3 => hz i h2 (by omega), hz m h1 (by omega), Rat.add_zero]
theorem sumk_one {f : Nat → Rat} {j : Nat} : ∀ {k : Nat}, j < k → (∀ i, i ≠ j → f i = 0) → sumk f k = f j
  | 0, h, _ => by omega
  | k + 1, h, hz => by
    simp only [sumk]
    by_cases e : k = j
    · subst e; rw [sumk_zero fun i hi => hz i (by omega), Rat.zero_add]
    · rw [sumk_one (by omega) hz, hz k e, Rat.add_zero]
theorem vat_ge {rs : List Rat} {i : Nat} (h : rs.length ≤ i) : vat rs i = 0 := by unfold vat; rw [List.getD_eq_getElem?_getD, List.getElem?_eq_none h]; rfl
theorem vat_lt {rs : List Rat} {i : Nat} (h : i < rs.length) : vat rs i = rs[i] := by unfold vat; rw [List.getD_eq_getElem?_getD, List.getElem?_eq_getElem h]; rfl
theorem dotk_sum (xs ys : List Rat) : ∀ k, dotk xs ys k = sumk (fun i => vat xs i * vat ys i) k
  | 0 => rfl
  | k + 1 => by simp only [dotk, sumk, dotk_sum xs ys k]
theorem dotv_sum (xs ys : List Rat) {m : Nat} (h : min xs.length ys.length ≤ m) : dotv xs ys = sumk (fun i => vat xs i * vat ys i) m := by
  have hz : ∀ i, min xs.length ys.length ≤ i → vat xs i * vat ys i = 0 := fun i hi => by
    rcases Nat.lt_or_ge i xs.length with h1 | h1
    · rw [vat_ge (rs := ys) (by omega), Rat.mul_zero]
    · rw [vat_ge (rs := xs) (by omega), Rat.zero_mul]
  unfold dotv
  rw [dotk_sum, sumk_le (show min xs.length ys.length ≤ max xs.length ys.length by omega) fun i h1 _ => hz i h1, sumk_le h fun i h1 _ => hz i h1]
theorem vat_rep (N : Nat) (j : Nat) : vat (List.replicate N 0) j = 0 := by
  rcases Nat.lt_or_ge j N with h | h
  · rw [vat_lt (by simpa using h)]; simp
  · exact vat_ge (by simpa using h)
theorem vat_zipf (gf : Rat → Rat → Rat) (xs ys : List Rat) {k i : Nat} (h : i < k) : vat (zipf gf xs ys k) i = gf (vat xs i) (vat ys i) := by
  rw [vat_lt (by rw [zipf_len]; exact h)]; simp [zipf]
theorem vmk_at {ys : List Rat} {rss : List (List Rat)} {N : Nat} (hr : ∀ r ∈ rss, r.length ≤ N) (j : Nat) : ∀ k, vat (vmk ys rss N k) j = sumk (fun i => vat ys i * mat rss i j) k
  | 0 => vat_rep N j
  | k + 1 => by
    have ih := vmk_at (ys := ys) hr j k
    have hl := row_le hr k
    have hv := vmk_len (ys := ys) hr k
    simp only [sumk, vmk]
    split
    · rename_i hk
      by_cases hj : j < N
      · rw [vat_zipf _ _ _ (by omega), ih, Rat.add_comm]; rfl
      · rw [vat_ge (by rw [zipf_len]; omega), ← ih, vat_ge (rs := vmk ys rss N k) (by omega), show mat rss k j = 0 from vat_ge (by omega), Rat.mul_zero, Rat.add_zero]
    · rw [ih, vat_ge (rs := ys) (by omega), Rat.zero_mul, Rat.add_zero]
theorem mat_mulm (a b : List (List Rat)) (i j : Nat) : mat (mulm a b) i j = sumk (fun t => mat a i t * mat b t j) b.length := by
  by_cases hi : i < a.length
  · have : rowat (mulm a b) i = vmk (rowat a i) b (colsN b) b.length := by
      unfold rowat mulm; rw [List.getD_eq_getElem?_getD, List.getD_eq_getElem?_getD, List.getElem?_map, List.getElem?_eq_getElem hi]; rfl
    unfold mat
    rw [this, vmk_at cols_ge]; rfl
  · rw [mat_ge1 (by simp [mulm]; omega)]
    exact (sumk_zero fun t _ => by rw [mat_ge1 (rss := a) (by omega), Rat.zero_mul]).symm
theorem vat_mulv (a : List (List Rat)) (x : List Rat) (i : Nat) : vat (mulv a x) i = dotv (rowat a i) x := by
  by_cases hi : i < a.length
  · rw [vat_lt (by simpa [mulv] using hi)]
    simp [mulv, rowat, hi]
  · rw [vat_ge (by simp [mulv]; omega), dotv_sum (m := 0) _ _ (by unfold rowat; rw [List.getD_eq_getElem?_getD, List.getElem?_eq_none (by omega)]; simp)]; rfl
theorem mat_gridm (f : Int → Int → Rat) (R C i j : Nat) : mat (gridm f R C) i j = if i < R ∧ j < C then f i j else 0 := by
  by_cases hi : i < R
  · have : rowat (gridm f R C) i = (List.range C).map fun j : Nat => f (i : Int) (j : Int) := by
      unfold rowat gridm; rw [List.getD_eq_getElem?_getD, List.getElem?_map, List.getElem?_range hi]; rfl
    unfold mat
    rw [this]
    by_cases hj : j < C
    · rw [if_pos ⟨hi, hj⟩, vat_lt (by simpa using hj)]; simp
    · rw [if_neg (by omega), vat_ge (by simp; omega)]
  · rw [if_neg (by omega), mat_ge1 (by simp [gridm]; omega)]
theorem colsN_le {rss : List (List Rat)} {N : Nat} (h : ∀ r ∈ rss, r.length ≤ N) : colsN rss ≤ N := by
  have key : ∀ (l : List (List Rat)) (m : Nat), m ≤ N → (∀ r ∈ l, r.length ≤ N) → l.foldl (fun m r => max m r.length) m ≤ N := by
    intro l
    induction l with
    | nil => intro m hm _; exact hm
    | cons x l ih => intro m hm h; exact ih _ (by have := h x (by simp); show max m x.length ≤ N; omega) fun r hr => h r (by simp [hr])
  exact key rss 0 (Nat.zero_le _) h
theorem colsN_gridm (f : Int → Int → Rat) (R C : Nat) : colsN (gridm f R C) = C * min R 1 := by
  rcases Nat.eq_zero_or_pos R with rfl | h
  · simp [gridm, colsN]
  · have h1 : colsN (gridm f R C) ≤ C := colsN_le fun r hr => by
      obtain ⟨i, _, rfl⟩ := List.mem_map.1 hr; simp
    have h2 := cols_ge (rss := gridm f R C) ((List.range C).map fun j : Nat => f ((0 : Nat) : Int) (j : Int)) (List.mem_map.2 ⟨0, by simpa using h, rfl⟩)
    simp at h2
    rw [show min R 1 = 1 by omega]; omega
theorem matI_nat (rss : List (List Rat)) (i j : Nat) : matI rss i j = mat rss i j := by unfold matI; rw [if_pos (by omega)]; rfl
theorem vat_unitv (N k j : Nat) : vat (unitv N k) j = if j = k ∧ k < N then 1 else 0 := by
  unfold unitv
  by_cases h : k < N
  · rw [if_pos (by omega)]
    by_cases hj : j = k
    · subst hj; rw [if_pos ⟨rfl, h⟩, vat_lt (by simpa using h)]; simp
    · rw [if_neg (by omega)]
      unfold vat
      rw [List.getD_eq_getElem?_getD, Int.toNat_natCast, List.getElem?_set_ne (by omega), ← List.getD_eq_getElem?_getD]
      exact vat_rep N j
  · rw [if_neg (by omega), if_neg (by omega)]; exact vat_rep N j
theorem unitv_len (N : Nat) (k : Int) : (unitv N k).length = N := by unfold unitv; split <;> simp
theorem dotv_unit (r : List Rat) {N k : Nat} (h : k < N) (hr : r.length ≤ N) : dotv r (unitv N k) = vat r k := by
  rw [dotv_sum r _ (m := N) (by omega), sumk_one h fun i hi => by rw [vat_unitv, if_neg (by omega), Rat.mul_zero]]
  rw [vat_unitv, if_pos ⟨rfl, h⟩, Rat.mul_one]
/-! ### The law of columns -/
theorem col_prod (a : List (List Rat)) (x : List Rat) (i j : Nat) : vat (rowat (mulm a (x.map fun r => [r])) i) j = vat [vat (mulv a x) i] j := by
  show mat (mulm a (x.map fun r => [r])) i j = _
  have hm : ∀ t, mat (x.map fun r => [r]) t j = if j = 0 then vat x t else 0 := fun t => by
    by_cases ht : t < x.length
    · have : rowat (x.map fun r => [r]) t = [vat x t] := by unfold rowat; rw [List.getD_eq_getElem?_getD, List.getElem?_map, List.getElem?_eq_getElem ht, vat_lt ht]; rfl
      unfold mat
      rw [this]
      cases j <;> simp [vat]
    · rw [mat_ge1 (by simpa using ht), vat_ge (rs := x) (by omega)]; simp
  rw [mat_mulm, vat_mulv]
  cases j with
  | zero =>
    rw [show vat [dotv (rowat a i) x] 0 = dotv (rowat a i) x from rfl, dotv_sum _ _ (m := x.length) (by omega), List.length_map]
    exact sumk_ext fun t _ => by rw [hm, if_pos rfl]; rfl
  | succ j =>
    rw [show vat [dotv (rowat a i) x] (j + 1) = 0 from vat_ge (by simp)]
    exact sumk_zero fun t _ => by rw [hm, if_neg (by omega), Rat.mul_zero]
theorem col_unit (a : List (List Rat)) {k : Nat} (i : Nat) (h : k < colsN a) : vat (mulv a (unitv (colsN a) k)) i = matI a i k := by
  rw [vat_mulv, matI_nat, dotv_unit _ h (row_le cols_ge i)]; rfl
theorem cat_left (a b : List (List Rat)) (R : Nat) (hR : R = max a.length b.length) (i j : Nat) :
    mat (gridm (matI (gridm (catI a b (colsN a)) R (colsN a + colsN b))) R (colsN a)) i j = mat a i j := by
  rw [mat_gridm]
  split
  · rename_i h
    rw [matI_nat, mat_gridm, if_pos (by omega), catI, if_pos (by omega), matI_nat]
  · rename_i h
    by_cases hi : i < a.length
    · exact (mat_ge2 (by have := row_le (cols_ge (rss := a)) i; omega)).symm
    · exact (mat_ge1 (by omega)).symm
end Go.Proofs.YtknbjfefeeojlaaGreat

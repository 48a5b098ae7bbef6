/- The pipeline's model: Feed, Squelch, Span. -/
import Derived.Test.Qxb6500376aGreatDoorCmBase
import Derived.Deep.RegionHeld3
namespace Go.Proofs.Qxb6500376aGreatDoor
set_option linter.unusedVariables false
set_option linter.unusedSimpArgs false
set_option maxHeartbeats 4000000
set_option maxRecDepth 100000
open Go.RowKit Go.Qu Ieee

theorem wrap32m_any (n : Int) (w : World) : Calls Tryz.prog 71 #[.int .i64 n] w fun e w' => e = .returned (.int .i64 (wrap32 n)) ∧ w' = w := by
  have e1 := and32 n
  have b0 : 0 ≤ n % 4294967296 := by omega
  have b1 : n % 4294967296 ≤ 4294967295 := by omega
  obtain ⟨r, hr⟩ : ∃ r, n % 4294967296 = r := ⟨_, rfl⟩
  have hw : wrap32 n = if r ≤ 2147483647 then r else r - 4294967296 := by rw [wrap32]; split <;> omega
  rw [hw]
  rw [hr] at e1 b0 b1
  clear hw hr
  by_cases h : r ≤ 2147483647
  · rw [if_pos h]
    have k : ¬ 2147483647 < r := by omega
    go_enter Tryz.func71, Tryz.ntmps71
    go_wp2
    go_ret
    exact ⟨rfl, rfl⟩
  · rw [if_neg h]
    have k : 2147483647 < r := by omega
    go_enter Tryz.func71, Tryz.ntmps71
    go_wp2
    go_ret
    exact ⟨rfl, rfl⟩

theorem key_any (b : Int) (w : World) : Calls Tryz.prog 70 #[.int .i64 b] w fun e w' => e = .returned (.int .i64 (keyI b)) ∧ w' = w := by
  have e5 : bits .and .i64 b 9223372036854775807 = (mg b : Int) := by rw [and63]; unfold mg; omega
  have hm := mg_lt b
  obtain ⟨K, hK⟩ : ∃ K, keyI b = K := ⟨_, rfl⟩
  have HK : Hid (keyI b = K) := hK
  obtain ⟨m, hmm⟩ : ∃ m : Int, (mg b : Int) = m := ⟨_, rfl⟩
  have m0 : 0 ≤ m := by omega
  have m1 : m ≤ 9223372036854775807 := by omega
  have HM : Hid ((mg b : Int) = m) := hmm
  rw [hK]
  rw [hmm] at e5
  clear hK hm hmm
  go_enter Tryz.func70, Tryz.ntmps70
  go_wp2
  all_goals go_ret
  all_goals (
    refine ⟨congrArg (fun x => Ending.returned (.int .i64 x)) ?_, rfl⟩
    rw [← HK.out]
    unfold keyI
    rw [HM.out]
    split <;> first | rfl | (exfalso; omega) | omega)


theorem Md.setPeak {w : World} {p q : Nat} {g : PS} (h : Md w p q g) (v : Int) : Md (w.setCell ⟨p, 4, none⟩ (.int .i64 v)) p q { g with peak := v } := h.put 4 _ (md_set q g h.len v).2.2.2.1 h.len rfl rfl
theorem Md.setDip {w : World} {p q : Nat} {g : PS} (h : Md w p q g) (v : Int) : Md (w.setCell ⟨p, 5, none⟩ (.int .i64 v)) p q { g with dip := v } := h.put 5 _ (md_set q g h.len v).2.2.2.2.1 h.len rfl rfl
theorem Md.setSum {w : World} {p q : Nat} {g : PS} (h : Md w p q g) (v : Int) : Md (w.setCell ⟨p, 3, none⟩ (.int .i64 v)) p q { g with sum := v } := h.put 3 _ (md_set q g h.len v).2.2.1 h.len rfl rfl
theorem Md.setAt {w : World} {p q : Nat} {g : PS} (h : Md w p q g) (v : Int) : Md (w.setCell ⟨p, 14, none⟩ (.int .i64 v)) p q { g with at_ := v } := h.put 14 _ (md_set q g h.len v).2.2.2.2.2.1 h.len rfl rfl
theorem Md.setSeq {w : World} {p q : Nat} {g : PS} (h : Md w p q g) (v : Int) : Md (w.setCell ⟨p, 15, none⟩ (.int .i64 v)) p q { g with seq := v } := h.put 15 _ (md_set q g h.len v).2.2.2.2.2.2.1 h.len rfl rfl
theorem Md.setDropped {w : World} {p q : Nat} {g : PS} (h : Md w p q g) (v : Int) : Md (w.setCell ⟨p, 16, none⟩ (.int .i64 v)) p q { g with dropped := v } := h.put 16 _ (md_set q g h.len v).2.2.2.2.2.2.2 h.len rfl rfl
theorem Md.setRing {w : World} {p q : Nat} {g : PS} (h : Md w p q g) (i : Nat) (hi : i < 8) (v : Int) : Md (w.setCell ⟨p, 6 + i, none⟩ (.int .i64 v)) p q { g with ring := g.ring.set i v } := h.put (6 + i) _ (md_setRing q g h.len i hi v) (by simpa using h.len) rfl rfl
theorem chg_at {p q : Nat} {w w' : World} (h : Chg (fun k => k = p ∨ k = q) w w') (i : Nat) (v : Value) : Chg (fun k => k = p ∨ k = q) w (w'.setCell ⟨p, i, none⟩ v) := h.setCell (Or.inl (Or.inl rfl)) v

theorem SquelchM (p q : Nat) (g : PS) (n v : Int) (w : World) (hg : Good g n) (hn : n ≤ 4611686018427387904) (h : Md w p q g) :
    Calls Tryz.prog 45 #[.pointer (some ⟨p, 0, none⟩), .int .i64 v] w fun e w' => e = .returned (.int .i64 (squelchP g v).1.n) ∧ Md w' p q (squelchP g v).2 ∧ Chg (fun k => k = p ∨ k = q) w w' := by
  have H : Hid (Md w p q g) := h
  have f1 := h.cell 16 (md_get q g h.len).2.2.2.2.2.2.2.2
  have z1 := h.frozen 16
  have q0 := hg.r0
  have q1 : g.dropped ≤ 4611686018427387904 := by have := hg.r1; omega
  unfold squelchP
  have W : Hid (∀ w, _) := fun w => wrap32m_any v w
  obtain ⟨x, hx⟩ : ∃ x, wrap32 v = x := ⟨_, rfl⟩
  rw [hx] at W ⊢
  clear h hg hn hx
  by_cases e1 : x = 0
  · subst e1
    rw [if_pos rfl]
    go_enter Tryz.func45, Tryz.ntmps45
    go_wp2_with (go_at_call 71; refine (W.out _).mono ?_; rintro e w' ⟨rfl, h2⟩; rw [h2]; clear h2)
    go_ret
    exact ⟨rfl, H.out.put 16 _ (md_set q g H.out.len _).2.2.2.2.2.2.2 H.out.len rfl rfl, chg_p (Chg.set1 w p 16 _)⟩
  · rw [if_neg e1]
    go_enter Tryz.func45, Tryz.ntmps45
    go_wp2_with (go_at_call 71; refine (W.out _).mono ?_; rintro e w' ⟨rfl, h2⟩; rw [h2]; clear h2)
    go_ret
    exact ⟨rfl, H.out, Chg.refl _ _⟩

theorem xor_sign (d : Int) (h : I64 d) : bits .xor .i64 d (-9223372036854775808) = negI d := by
  unfold I64 at h
  unfold negI
  show IntKind.i64.wrap (((BitVec.ofInt 64 d ^^^ BitVec.ofInt 64 (-9223372036854775808 : Int)).toNat : Nat) : Int) = _
  rw [BitVec.toNat_xor, BitVec.toNat_ofInt, BitVec.toNat_ofInt, show ((-9223372036854775808 : Int) % ((2 ^ 64 : Nat) : Int)).toNat = 2 ^ 63 by decide]
  by_cases h0 : d < 0
  · rw [if_pos h0]
    have e : (d % ((2 ^ 64 : Nat) : Int)).toNat = 2 ^ 63 ^^^ (d + 9223372036854775808).toNat := by
      rw [Nat.xor_comm, xor_top (by omega)]; omega
    rw [e, Nat.xor_comm, ← Nat.xor_assoc, Nat.xor_self, Nat.zero_xor, IntKind.wrap_i64]
    omega
  · rw [if_neg h0, xor_top (by omega), IntKind.wrap_i64]
    omega
theorem SpanM (p q : Nat) (g : PS) (n : Int) (w : World) (hg : Good g n) (h : Md w p q g) :
    Calls Tryz.prog 42 #[.pointer (some ⟨p, 0, none⟩)] w fun e w' => e = .returned (.tuple #[.int .i64 (spanP g).n, .int .i64 (spanP g).k]) ∧ Md w' p q g ∧ Chg (fun k => k = p ∨ k = q) w w' := by
  have H : Hid (Md w p q g) := h
  have f1 := h.cell 4 (md_get q g h.len).2.2.2.2.1
  have f2 := h.cell 5 (md_get q g h.len).2.2.2.2.2.1
  have x1 := xor_sign g.dip hg.dp
  unfold spanP
  obtain ⟨dd, hdd⟩ : ∃ dd, negI g.dip = dd := ⟨_, rfl⟩
  rw [hdd] at x1 ⊢
  have K1 : Hid (∀ w, _) := fun w => key_any g.peak w
  have K2 : Hid (∀ w, _) := fun w => key_any dd w
  obtain ⟨a, ha⟩ : ∃ a, keyI g.peak = a := ⟨_, rfl⟩
  obtain ⟨b, hb⟩ : ∃ b, keyI dd = b := ⟨_, rfl⟩
  rw [ha] at K1 ⊢
  rw [hb] at K2 ⊢
  obtain ⟨pk, hpk⟩ : ∃ pk, g.peak = pk := ⟨_, rfl⟩
  rw [hpk] at f1 K1 ⊢
  clear h hg hdd ha hb hpk
  by_cases e1 : a < b
  · rw [if_pos e1]
    go_enter Tryz.func42, Tryz.ntmps42
    go_wp2_with fail
    refine (K1.out _).mono ?_; rintro e w' ⟨rfl, h2⟩; rw [h2]; clear h2
    go_wp2_with fail
    refine (K2.out _).mono ?_; rintro e w' ⟨rfl, h2⟩; rw [h2]; clear h2
    go_wp2
    go_ret2
    exact ⟨rfl, H.out, Chg.refl _ _⟩
  · rw [if_neg e1]
    go_enter Tryz.func42, Tryz.ntmps42
    go_wp2_with fail
    refine (K1.out _).mono ?_; rintro e w' ⟨rfl, h2⟩; rw [h2]; clear h2
    go_wp2_with fail
    refine (K2.out _).mono ?_; rintro e w' ⟨rfl, h2⟩; rw [h2]; clear h2
    go_wp2
    go_ret2
    exact ⟨rfl, H.out, Chg.refl _ _⟩

theorem FeedWithM (p q : Nat) (g : PS) (n b m : Int) (w : World) (hg : Good g n) (hn : n ≤ 4611686018427387904) (hb : I64 b) (hm : I64 m) (h : Md w p q g) (d : Int) (hd : ∀ v : Int, -2147483648 ≤ v → v ≤ 2147483647 → wrap32 (wrap64 (v + m)) = wrap32 (v + d)) :
    Calls Tryz.prog 36 #[.pointer (some ⟨p, 0, none⟩), .int .i64 b, .int .i64 m] w fun e w' => e = .returned (.tuple #[.int .i64 (fedP g b d).1.e, .int .i64 (fedP g b d).1.n, .int .i64 (fedP g b d).1.k]) ∧ Md w' p q (fedP g b d).2 ∧ Chg (fun k => k = p ∨ k = q) w w' := by
  have H : Hid (Md w p q g) := h
  have f0 := h.cell 0 (md_get q g h.len).1
  have f2 := h.cell 2 (md_get q g h.len).2.2.1
  have R := fun w' (hq : Cm w' q g.c g.z) => round32m_o q b g.mode g.c g.z w' hb hq ⟨hg.c0, by have := hg.c1; omega⟩ ⟨hg.z0, by have := hg.z1; omega⟩
  have m0 := hg.m0
  have m3 := hg.m3
  unfold fedP
  by_cases hx : 9218868437227405312 < mg b
  · rw [if_pos hx]
    have e1 : r32O b g.mode = ⟨4, 0, 0, 0, 1⟩ := by unfold r32O; rw [if_neg (by omega), if_pos hx]
    rw [e1] at R
    simp only [Int.add_zero] at R
    have HR : Hid _ := R
    clear h R hg hn hx hb hd hm m0 m3 e1
    go_enter Tryz.func36, Tryz.ntmps36
    go_wp2
    go_region_held3 (fun w' => w'.cell? ⟨p, 0, none⟩ = some (.pointer (some ⟨q, 0, none⟩)) ∧ w'.cell? ⟨p, 2, none⟩ = some (.int .i64 g.mode)) (first | (simp [go_sem, f0, f2]; done) | exact ⟨by assumption, by assumption⟩)
      (first | (go_at_call 69; refine (HR.out _ (by exact H.out.drew.qu)).mono ?_; rintro e w1 ⟨rfl, q1, c1⟩; have H1 : Hid (Md w1 p q { g with c := g.c, z := g.z + 1 }) := H.out.drew.count c1 q1; have C1 : Hid (Chg (· = q) w.drew w1) := c1; have k0 := H1.out.cell 0 (md_get q _ H1.out.len).1; have k2 : w1.cell? ⟨p, 2, none⟩ = some (.int .i64 g.mode) := H1.out.cell 2 (md_get q _ H1.out.len).2.2.1; clear q1 c1))
    go_wp2
    go_ret3
    exact ⟨rfl, H1.out, ((Chg.refl _ w).drew).trans (C1.out.mono fun k _ e => Or.inr e)⟩
  rw [if_neg hx]
  have e1 : r32O b g.mode = ⟨0, (roundI b g.mode (-2147483648) 2147483647).1, 0, (roundI b g.mode (-2147483648) 2147483647).2.toNat, 0⟩ := by unfold r32O; rw [if_neg (by omega), if_neg hx]
  rw [e1] at R
  simp only [Int.add_zero] at R
  have rb := roundI_bounds b g.mode (-2147483648) 2147483647 (by decide)
  have v1 := rb.1
  have v2 := rb.2.1
  have hdv := hd _ v1 v2
  have hwd : wordP g (roundI b g.mode (-2147483648) 2147483647).1 d = wrap32 ((roundI b g.mode (-2147483648) 2147483647).1 + d) / 2 ^ (32 - g.depth).toNat := rfl
  generalize (roundI b g.mode (-2147483648) 2147483647).1 = v at *
  generalize ((roundI b g.mode (-2147483648) 2147483647).2.toNat : Int) = dc at *
  obtain ⟨D, hD⟩ : ∃ D, wrap32 (v + d) = D := ⟨_, rfl⟩
  rw [hD] at hdv hwd
  obtain ⟨W, hW⟩ : ∃ W, wordP g v d = W := ⟨_, rfl⟩
  have wb := wordP_bounds g v d
  rw [hW] at hwd wb ⊢
  have wd : D / 2 ^ (32 - g.depth).toNat = W := hwd.symm
  have HDV : Hid (wrap32 (wrap64 (v + m)) = D) := hdv
  have HR : Hid _ := R
  have w1b := wb.1
  have w2b := wb.2
  have s1 := hg.s1
  have s2 := hg.s2
  have d1 := hg.d1
  have d2 := hg.d2
  have a0 := hg.a0
  have a8 := hg.a8
  have q0 := hg.r0
  have q1 : g.dropped ≤ 4611686018427387904 := by have := hg.r1; omega
  have D1 : -2147483648 ≤ D := by rw [← hD]; exact (wrap32_bounds _).1
  have D2 : D ≤ 2147483647 := by rw [← hD]; exact (wrap32_bounds _).2
  obtain ⟨aN, haN⟩ : ∃ aN : Nat, g.at_ = aN := ⟨g.at_.toNat, by omega⟩
  have ha8 : aN < 8 := by omega
  have hatn : g.at_.toNat = aN := by omega
  have hlen := hg.len
  have hr0 := h.ring aN ha8
  have m1 := hm.1
  have m2 := hm.2
  have k14 : ∀ (w : World) (v : Value), (w.setCell ⟨p, 6 + aN, none⟩ v).cell? ⟨p, 14, none⟩ = w.cell? ⟨p, 14, none⟩ := fun w v => World.cell?_setCell_other w _ _ v (fun e => by have := congrArg Addr.off e; simp only at this; omega)
  have a8i : (aN : Int) < 8 := by omega
  have KB : Hid (∀ w, _) := fun w => key_any b w
  have KP : Hid (∀ w, _) := fun w => key_any g.peak w
  have KD : Hid (∀ w, _) := fun w => key_any g.dip w
  have HS : Hid (wrap32 (g.sum * 31 + W) = wrap32 (g.sum * 31 + W)) := rfl
  unfold peakI dipI
  obtain ⟨kb, hkb⟩ : ∃ kb, keyI b = kb := ⟨_, rfl⟩
  obtain ⟨kp, hkp⟩ : ∃ kp, keyI g.peak = kp := ⟨_, rfl⟩
  obtain ⟨kd, hkd⟩ : ∃ kd, keyI g.dip = kd := ⟨_, rfl⟩
  rw [hkb] at KB ⊢
  rw [hkp] at KP ⊢
  rw [hkd] at KD ⊢
  rw [hatn]
  clear h R hn hb hd hm rb hwd wb hdv hW hD e1 hkb hkp hkd m0 m3 hatn hx
  by_cases hP : kp < kb
  · rw [if_pos hP]
    by_cases hDd : kb < kd
    · rw [if_pos hDd]
      by_cases hZ : W = 0
      · subst hZ
        rw [if_pos rfl]
        go_enter Tryz.func36, Tryz.ntmps36
        go_wp2
        go_region_held3 (fun w' => w'.cell? ⟨p, 0, none⟩ = some (.pointer (some ⟨q, 0, none⟩)) ∧ w'.cell? ⟨p, 2, none⟩ = some (.int .i64 g.mode)) (first | (simp [go_sem, f0, f2]; done) | exact ⟨by assumption, by assumption⟩)
          (first | (go_at_call 69; refine (HR.out _ (by exact H.out.drew.qu)).mono ?_; rintro e w1 ⟨rfl, q1, c1⟩; have H1 : Hid (Md w1 p q { g with c := g.c + dc, z := g.z }) := H.out.drew.count c1 q1; have C1 : Hid (Chg (· = q) w.drew w1) := c1; have k0 := H1.out.cell 0 (md_get q _ H1.out.len).1; have k2 : w1.cell? ⟨p, 2, none⟩ = some (.int .i64 g.mode) := H1.out.cell 2 (md_get q _ H1.out.len).2.2.1; clear q1 c1))
        have i1 : w1.cell? ⟨p, 1, none⟩ = some (.int .i64 g.depth) := H1.out.cell 1 (md_get q _ H1.out.len).2.1
        have i3 : w1.cell? ⟨p, 3, none⟩ = some (.int .i64 g.sum) := H1.out.cell 3 (md_get q _ H1.out.len).2.2.2.1
        have i4 : w1.cell? ⟨p, 4, none⟩ = some (.int .i64 g.peak) := H1.out.cell 4 (md_get q _ H1.out.len).2.2.2.2.1
        have i5 : w1.cell? ⟨p, 5, none⟩ = some (.int .i64 g.dip) := H1.out.cell 5 (md_get q _ H1.out.len).2.2.2.2.2.1
        have i14 : w1.cell? ⟨p, 14, none⟩ = some (.int .i64 (aN : Int)) := by rw [← haN]; exact H1.out.cell 14 (md_get q _ H1.out.len).2.2.2.2.2.2.1
        have i16 : w1.cell? ⟨p, 16, none⟩ = some (.int .i64 g.dropped) := H1.out.cell 16 (md_get q _ H1.out.len).2.2.2.2.2.2.2.2
        have ir : w1.cell? ⟨p, 6 + aN, none⟩ = some (.int .i64 (g.ring.getD aN 0)) := H1.out.ring aN ha8
        have z3 := H1.out.frozen 3
        have z4 := H1.out.frozen 4
        have z5 := H1.out.frozen 5
        have z14 := H1.out.frozen 14
        have z16 := H1.out.frozen 16
        have zr := H1.out.frozen (6 + aN)
        clear f0 f2 hr0
        go_wp2_with fail
        refine (KB.out _).mono ?_; rintro e w' ⟨rfl, h2⟩; rw [h2]; clear h2
        go_wp2_with fail
        refine (KP.out _).mono ?_; rintro e w' ⟨rfl, h2⟩; rw [h2]; clear h2
        go_wp2_with fail
        refine (KD.out _).mono ?_; rintro e w' ⟨rfl, h2⟩; rw [h2]; clear h2
        go_wp2_with fail
        refine (wrap32m_any (wrap64 (v + m)) _).mono ?_; rintro e w' ⟨rfl, h2⟩; rw [h2, HDV.out]; clear h2
        go_wp2_with fail
        go_ret3
        exact ⟨rfl, (((H1.out.setPeak b).setDip b).setDropped (g.dropped + 1)), (chg_at (chg_at (chg_at (((Chg.refl _ w).drew).trans (C1.out.mono fun k _ e => Or.inr e)) _ _) _ _) _ _)⟩
      · rw [if_neg hZ]
        go_enter Tryz.func36, Tryz.ntmps36
        go_wp2
        go_region_held3 (fun w' => w'.cell? ⟨p, 0, none⟩ = some (.pointer (some ⟨q, 0, none⟩)) ∧ w'.cell? ⟨p, 2, none⟩ = some (.int .i64 g.mode)) (first | (simp [go_sem, f0, f2]; done) | exact ⟨by assumption, by assumption⟩)
          (first | (go_at_call 69; refine (HR.out _ (by exact H.out.drew.qu)).mono ?_; rintro e w1 ⟨rfl, q1, c1⟩; have H1 : Hid (Md w1 p q { g with c := g.c + dc, z := g.z }) := H.out.drew.count c1 q1; have C1 : Hid (Chg (· = q) w.drew w1) := c1; have k0 := H1.out.cell 0 (md_get q _ H1.out.len).1; have k2 : w1.cell? ⟨p, 2, none⟩ = some (.int .i64 g.mode) := H1.out.cell 2 (md_get q _ H1.out.len).2.2.1; clear q1 c1))
        have i1 : w1.cell? ⟨p, 1, none⟩ = some (.int .i64 g.depth) := H1.out.cell 1 (md_get q _ H1.out.len).2.1
        have i3 : w1.cell? ⟨p, 3, none⟩ = some (.int .i64 g.sum) := H1.out.cell 3 (md_get q _ H1.out.len).2.2.2.1
        have i4 : w1.cell? ⟨p, 4, none⟩ = some (.int .i64 g.peak) := H1.out.cell 4 (md_get q _ H1.out.len).2.2.2.2.1
        have i5 : w1.cell? ⟨p, 5, none⟩ = some (.int .i64 g.dip) := H1.out.cell 5 (md_get q _ H1.out.len).2.2.2.2.2.1
        have i14 : w1.cell? ⟨p, 14, none⟩ = some (.int .i64 (aN : Int)) := by rw [← haN]; exact H1.out.cell 14 (md_get q _ H1.out.len).2.2.2.2.2.2.1
        have i16 : w1.cell? ⟨p, 16, none⟩ = some (.int .i64 g.dropped) := H1.out.cell 16 (md_get q _ H1.out.len).2.2.2.2.2.2.2.2
        have ir : w1.cell? ⟨p, 6 + aN, none⟩ = some (.int .i64 (g.ring.getD aN 0)) := H1.out.ring aN ha8
        have z3 := H1.out.frozen 3
        have z4 := H1.out.frozen 4
        have z5 := H1.out.frozen 5
        have z14 := H1.out.frozen 14
        have z16 := H1.out.frozen 16
        have zr := H1.out.frozen (6 + aN)
        clear f0 f2 hr0
        go_wp2_with fail
        refine (KB.out _).mono ?_; rintro e w' ⟨rfl, h2⟩; rw [h2]; clear h2
        go_wp2_with fail
        refine (KP.out _).mono ?_; rintro e w' ⟨rfl, h2⟩; rw [h2]; clear h2
        go_wp2_with fail
        refine (KD.out _).mono ?_; rintro e w' ⟨rfl, h2⟩; rw [h2]; clear h2
        go_wp2_with fail
        refine (wrap32m_any (wrap64 (v + m)) _).mono ?_; rintro e w' ⟨rfl, h2⟩; rw [h2, HDV.out]; clear h2
        go_wp2_with fail
        refine (wrap32m_any (g.sum * 31 + W) _).mono ?_; rintro e w' ⟨rfl, h2⟩; rw [h2]; clear h2
        go_wp2_with fail
        go_region
        go_wp2
        go_ret3
        have h9 := (((((H1.out.setPeak b).setDip b).setSum (wrap32 (g.sum * 31 + W))).drew.setRing aN ha8 W).setAt (((aN : Int) + 1) % 8))
        refine ⟨rfl, ?_, ?_⟩
        · rw [haN]; exact h9
        · exact chg_at (chg_at (Chg.drew (chg_at (chg_at (chg_at (((Chg.refl _ w).drew).trans (C1.out.mono fun k _ e => Or.inr e)) _ _) _ _) _ _)) _ _) _ _
    · rw [if_neg hDd]
      by_cases hZ : W = 0
      · subst hZ
        rw [if_pos rfl]
        go_enter Tryz.func36, Tryz.ntmps36
        go_wp2
        go_region_held3 (fun w' => w'.cell? ⟨p, 0, none⟩ = some (.pointer (some ⟨q, 0, none⟩)) ∧ w'.cell? ⟨p, 2, none⟩ = some (.int .i64 g.mode)) (first | (simp [go_sem, f0, f2]; done) | exact ⟨by assumption, by assumption⟩)
          (first | (go_at_call 69; refine (HR.out _ (by exact H.out.drew.qu)).mono ?_; rintro e w1 ⟨rfl, q1, c1⟩; have H1 : Hid (Md w1 p q { g with c := g.c + dc, z := g.z }) := H.out.drew.count c1 q1; have C1 : Hid (Chg (· = q) w.drew w1) := c1; have k0 := H1.out.cell 0 (md_get q _ H1.out.len).1; have k2 : w1.cell? ⟨p, 2, none⟩ = some (.int .i64 g.mode) := H1.out.cell 2 (md_get q _ H1.out.len).2.2.1; clear q1 c1))
        have i1 : w1.cell? ⟨p, 1, none⟩ = some (.int .i64 g.depth) := H1.out.cell 1 (md_get q _ H1.out.len).2.1
        have i3 : w1.cell? ⟨p, 3, none⟩ = some (.int .i64 g.sum) := H1.out.cell 3 (md_get q _ H1.out.len).2.2.2.1
        have i4 : w1.cell? ⟨p, 4, none⟩ = some (.int .i64 g.peak) := H1.out.cell 4 (md_get q _ H1.out.len).2.2.2.2.1
        have i5 : w1.cell? ⟨p, 5, none⟩ = some (.int .i64 g.dip) := H1.out.cell 5 (md_get q _ H1.out.len).2.2.2.2.2.1
        have i14 : w1.cell? ⟨p, 14, none⟩ = some (.int .i64 (aN : Int)) := by rw [← haN]; exact H1.out.cell 14 (md_get q _ H1.out.len).2.2.2.2.2.2.1
        have i16 : w1.cell? ⟨p, 16, none⟩ = some (.int .i64 g.dropped) := H1.out.cell 16 (md_get q _ H1.out.len).2.2.2.2.2.2.2.2
        have ir : w1.cell? ⟨p, 6 + aN, none⟩ = some (.int .i64 (g.ring.getD aN 0)) := H1.out.ring aN ha8
        have z3 := H1.out.frozen 3
        have z4 := H1.out.frozen 4
        have z5 := H1.out.frozen 5
        have z14 := H1.out.frozen 14
        have z16 := H1.out.frozen 16
        have zr := H1.out.frozen (6 + aN)
        clear f0 f2 hr0
        go_wp2_with fail
        refine (KB.out _).mono ?_; rintro e w' ⟨rfl, h2⟩; rw [h2]; clear h2
        go_wp2_with fail
        refine (KP.out _).mono ?_; rintro e w' ⟨rfl, h2⟩; rw [h2]; clear h2
        go_wp2_with fail
        refine (KD.out _).mono ?_; rintro e w' ⟨rfl, h2⟩; rw [h2]; clear h2
        go_wp2_with fail
        refine (wrap32m_any (wrap64 (v + m)) _).mono ?_; rintro e w' ⟨rfl, h2⟩; rw [h2, HDV.out]; clear h2
        go_wp2_with fail
        go_ret3
        exact ⟨rfl, ((H1.out.setPeak b).setDropped (g.dropped + 1)), (chg_at (chg_at (((Chg.refl _ w).drew).trans (C1.out.mono fun k _ e => Or.inr e)) _ _) _ _)⟩
      · rw [if_neg hZ]
        go_enter Tryz.func36, Tryz.ntmps36
        go_wp2
        go_region_held3 (fun w' => w'.cell? ⟨p, 0, none⟩ = some (.pointer (some ⟨q, 0, none⟩)) ∧ w'.cell? ⟨p, 2, none⟩ = some (.int .i64 g.mode)) (first | (simp [go_sem, f0, f2]; done) | exact ⟨by assumption, by assumption⟩)
          (first | (go_at_call 69; refine (HR.out _ (by exact H.out.drew.qu)).mono ?_; rintro e w1 ⟨rfl, q1, c1⟩; have H1 : Hid (Md w1 p q { g with c := g.c + dc, z := g.z }) := H.out.drew.count c1 q1; have C1 : Hid (Chg (· = q) w.drew w1) := c1; have k0 := H1.out.cell 0 (md_get q _ H1.out.len).1; have k2 : w1.cell? ⟨p, 2, none⟩ = some (.int .i64 g.mode) := H1.out.cell 2 (md_get q _ H1.out.len).2.2.1; clear q1 c1))
        have i1 : w1.cell? ⟨p, 1, none⟩ = some (.int .i64 g.depth) := H1.out.cell 1 (md_get q _ H1.out.len).2.1
        have i3 : w1.cell? ⟨p, 3, none⟩ = some (.int .i64 g.sum) := H1.out.cell 3 (md_get q _ H1.out.len).2.2.2.1
        have i4 : w1.cell? ⟨p, 4, none⟩ = some (.int .i64 g.peak) := H1.out.cell 4 (md_get q _ H1.out.len).2.2.2.2.1
        have i5 : w1.cell? ⟨p, 5, none⟩ = some (.int .i64 g.dip) := H1.out.cell 5 (md_get q _ H1.out.len).2.2.2.2.2.1
        have i14 : w1.cell? ⟨p, 14, none⟩ = some (.int .i64 (aN : Int)) := by rw [← haN]; exact H1.out.cell 14 (md_get q _ H1.out.len).2.2.2.2.2.2.1
        have i16 : w1.cell? ⟨p, 16, none⟩ = some (.int .i64 g.dropped) := H1.out.cell 16 (md_get q _ H1.out.len).2.2.2.2.2.2.2.2
        have ir : w1.cell? ⟨p, 6 + aN, none⟩ = some (.int .i64 (g.ring.getD aN 0)) := H1.out.ring aN ha8
        have z3 := H1.out.frozen 3
        have z4 := H1.out.frozen 4
        have z5 := H1.out.frozen 5
        have z14 := H1.out.frozen 14
        have z16 := H1.out.frozen 16
        have zr := H1.out.frozen (6 + aN)
        clear f0 f2 hr0
        go_wp2_with fail
        refine (KB.out _).mono ?_; rintro e w' ⟨rfl, h2⟩; rw [h2]; clear h2
        go_wp2_with fail
        refine (KP.out _).mono ?_; rintro e w' ⟨rfl, h2⟩; rw [h2]; clear h2
        go_wp2_with fail
        refine (KD.out _).mono ?_; rintro e w' ⟨rfl, h2⟩; rw [h2]; clear h2
        go_wp2_with fail
        refine (wrap32m_any (wrap64 (v + m)) _).mono ?_; rintro e w' ⟨rfl, h2⟩; rw [h2, HDV.out]; clear h2
        go_wp2_with fail
        refine (wrap32m_any (g.sum * 31 + W) _).mono ?_; rintro e w' ⟨rfl, h2⟩; rw [h2]; clear h2
        go_wp2_with fail
        go_region
        go_wp2
        go_ret3
        have h9 := ((((H1.out.setPeak b).setSum (wrap32 (g.sum * 31 + W))).drew.setRing aN ha8 W).setAt (((aN : Int) + 1) % 8))
        refine ⟨rfl, ?_, ?_⟩
        · rw [haN]; exact h9
        · exact chg_at (chg_at (Chg.drew (chg_at (chg_at (((Chg.refl _ w).drew).trans (C1.out.mono fun k _ e => Or.inr e)) _ _) _ _)) _ _) _ _
  · rw [if_neg hP]
    by_cases hDd : kb < kd
    · rw [if_pos hDd]
      by_cases hZ : W = 0
      · subst hZ
        rw [if_pos rfl]
        go_enter Tryz.func36, Tryz.ntmps36
        go_wp2
        go_region_held3 (fun w' => w'.cell? ⟨p, 0, none⟩ = some (.pointer (some ⟨q, 0, none⟩)) ∧ w'.cell? ⟨p, 2, none⟩ = some (.int .i64 g.mode)) (first | (simp [go_sem, f0, f2]; done) | exact ⟨by assumption, by assumption⟩)
          (first | (go_at_call 69; refine (HR.out _ (by exact H.out.drew.qu)).mono ?_; rintro e w1 ⟨rfl, q1, c1⟩; have H1 : Hid (Md w1 p q { g with c := g.c + dc, z := g.z }) := H.out.drew.count c1 q1; have C1 : Hid (Chg (· = q) w.drew w1) := c1; have k0 := H1.out.cell 0 (md_get q _ H1.out.len).1; have k2 : w1.cell? ⟨p, 2, none⟩ = some (.int .i64 g.mode) := H1.out.cell 2 (md_get q _ H1.out.len).2.2.1; clear q1 c1))
        have i1 : w1.cell? ⟨p, 1, none⟩ = some (.int .i64 g.depth) := H1.out.cell 1 (md_get q _ H1.out.len).2.1
        have i3 : w1.cell? ⟨p, 3, none⟩ = some (.int .i64 g.sum) := H1.out.cell 3 (md_get q _ H1.out.len).2.2.2.1
        have i4 : w1.cell? ⟨p, 4, none⟩ = some (.int .i64 g.peak) := H1.out.cell 4 (md_get q _ H1.out.len).2.2.2.2.1
        have i5 : w1.cell? ⟨p, 5, none⟩ = some (.int .i64 g.dip) := H1.out.cell 5 (md_get q _ H1.out.len).2.2.2.2.2.1
        have i14 : w1.cell? ⟨p, 14, none⟩ = some (.int .i64 (aN : Int)) := by rw [← haN]; exact H1.out.cell 14 (md_get q _ H1.out.len).2.2.2.2.2.2.1
        have i16 : w1.cell? ⟨p, 16, none⟩ = some (.int .i64 g.dropped) := H1.out.cell 16 (md_get q _ H1.out.len).2.2.2.2.2.2.2.2
        have ir : w1.cell? ⟨p, 6 + aN, none⟩ = some (.int .i64 (g.ring.getD aN 0)) := H1.out.ring aN ha8
        have z3 := H1.out.frozen 3
        have z4 := H1.out.frozen 4
        have z5 := H1.out.frozen 5
        have z14 := H1.out.frozen 14
        have z16 := H1.out.frozen 16
        have zr := H1.out.frozen (6 + aN)
        clear f0 f2 hr0
        go_wp2_with fail
        refine (KB.out _).mono ?_; rintro e w' ⟨rfl, h2⟩; rw [h2]; clear h2
        go_wp2_with fail
        refine (KP.out _).mono ?_; rintro e w' ⟨rfl, h2⟩; rw [h2]; clear h2
        go_wp2_with fail
        refine (KD.out _).mono ?_; rintro e w' ⟨rfl, h2⟩; rw [h2]; clear h2
        go_wp2_with fail
        refine (wrap32m_any (wrap64 (v + m)) _).mono ?_; rintro e w' ⟨rfl, h2⟩; rw [h2, HDV.out]; clear h2
        go_wp2_with fail
        go_ret3
        exact ⟨rfl, ((H1.out.setDip b).setDropped (g.dropped + 1)), (chg_at (chg_at (((Chg.refl _ w).drew).trans (C1.out.mono fun k _ e => Or.inr e)) _ _) _ _)⟩
      · rw [if_neg hZ]
        go_enter Tryz.func36, Tryz.ntmps36
        go_wp2
        go_region_held3 (fun w' => w'.cell? ⟨p, 0, none⟩ = some (.pointer (some ⟨q, 0, none⟩)) ∧ w'.cell? ⟨p, 2, none⟩ = some (.int .i64 g.mode)) (first | (simp [go_sem, f0, f2]; done) | exact ⟨by assumption, by assumption⟩)
          (first | (go_at_call 69; refine (HR.out _ (by exact H.out.drew.qu)).mono ?_; rintro e w1 ⟨rfl, q1, c1⟩; have H1 : Hid (Md w1 p q { g with c := g.c + dc, z := g.z }) := H.out.drew.count c1 q1; have C1 : Hid (Chg (· = q) w.drew w1) := c1; have k0 := H1.out.cell 0 (md_get q _ H1.out.len).1; have k2 : w1.cell? ⟨p, 2, none⟩ = some (.int .i64 g.mode) := H1.out.cell 2 (md_get q _ H1.out.len).2.2.1; clear q1 c1))
        have i1 : w1.cell? ⟨p, 1, none⟩ = some (.int .i64 g.depth) := H1.out.cell 1 (md_get q _ H1.out.len).2.1
        have i3 : w1.cell? ⟨p, 3, none⟩ = some (.int .i64 g.sum) := H1.out.cell 3 (md_get q _ H1.out.len).2.2.2.1
        have i4 : w1.cell? ⟨p, 4, none⟩ = some (.int .i64 g.peak) := H1.out.cell 4 (md_get q _ H1.out.len).2.2.2.2.1
        have i5 : w1.cell? ⟨p, 5, none⟩ = some (.int .i64 g.dip) := H1.out.cell 5 (md_get q _ H1.out.len).2.2.2.2.2.1
        have i14 : w1.cell? ⟨p, 14, none⟩ = some (.int .i64 (aN : Int)) := by rw [← haN]; exact H1.out.cell 14 (md_get q _ H1.out.len).2.2.2.2.2.2.1
        have i16 : w1.cell? ⟨p, 16, none⟩ = some (.int .i64 g.dropped) := H1.out.cell 16 (md_get q _ H1.out.len).2.2.2.2.2.2.2.2
        have ir : w1.cell? ⟨p, 6 + aN, none⟩ = some (.int .i64 (g.ring.getD aN 0)) := H1.out.ring aN ha8
        have z3 := H1.out.frozen 3
        have z4 := H1.out.frozen 4
        have z5 := H1.out.frozen 5
        have z14 := H1.out.frozen 14
        have z16 := H1.out.frozen 16
        have zr := H1.out.frozen (6 + aN)
        clear f0 f2 hr0
        go_wp2_with fail
        refine (KB.out _).mono ?_; rintro e w' ⟨rfl, h2⟩; rw [h2]; clear h2
        go_wp2_with fail
        refine (KP.out _).mono ?_; rintro e w' ⟨rfl, h2⟩; rw [h2]; clear h2
        go_wp2_with fail
        refine (KD.out _).mono ?_; rintro e w' ⟨rfl, h2⟩; rw [h2]; clear h2
        go_wp2_with fail
        refine (wrap32m_any (wrap64 (v + m)) _).mono ?_; rintro e w' ⟨rfl, h2⟩; rw [h2, HDV.out]; clear h2
        go_wp2_with fail
        refine (wrap32m_any (g.sum * 31 + W) _).mono ?_; rintro e w' ⟨rfl, h2⟩; rw [h2]; clear h2
        go_wp2_with fail
        go_region
        go_wp2
        go_ret3
        have h9 := ((((H1.out.setDip b).setSum (wrap32 (g.sum * 31 + W))).drew.setRing aN ha8 W).setAt (((aN : Int) + 1) % 8))
        refine ⟨rfl, ?_, ?_⟩
        · rw [haN]; exact h9
        · exact chg_at (chg_at (Chg.drew (chg_at (chg_at (((Chg.refl _ w).drew).trans (C1.out.mono fun k _ e => Or.inr e)) _ _) _ _)) _ _) _ _
    · rw [if_neg hDd]
      by_cases hZ : W = 0
      · subst hZ
        rw [if_pos rfl]
        go_enter Tryz.func36, Tryz.ntmps36
        go_wp2
        go_region_held3 (fun w' => w'.cell? ⟨p, 0, none⟩ = some (.pointer (some ⟨q, 0, none⟩)) ∧ w'.cell? ⟨p, 2, none⟩ = some (.int .i64 g.mode)) (first | (simp [go_sem, f0, f2]; done) | exact ⟨by assumption, by assumption⟩)
          (first | (go_at_call 69; refine (HR.out _ (by exact H.out.drew.qu)).mono ?_; rintro e w1 ⟨rfl, q1, c1⟩; have H1 : Hid (Md w1 p q { g with c := g.c + dc, z := g.z }) := H.out.drew.count c1 q1; have C1 : Hid (Chg (· = q) w.drew w1) := c1; have k0 := H1.out.cell 0 (md_get q _ H1.out.len).1; have k2 : w1.cell? ⟨p, 2, none⟩ = some (.int .i64 g.mode) := H1.out.cell 2 (md_get q _ H1.out.len).2.2.1; clear q1 c1))
        have i1 : w1.cell? ⟨p, 1, none⟩ = some (.int .i64 g.depth) := H1.out.cell 1 (md_get q _ H1.out.len).2.1
        have i3 : w1.cell? ⟨p, 3, none⟩ = some (.int .i64 g.sum) := H1.out.cell 3 (md_get q _ H1.out.len).2.2.2.1
        have i4 : w1.cell? ⟨p, 4, none⟩ = some (.int .i64 g.peak) := H1.out.cell 4 (md_get q _ H1.out.len).2.2.2.2.1
        have i5 : w1.cell? ⟨p, 5, none⟩ = some (.int .i64 g.dip) := H1.out.cell 5 (md_get q _ H1.out.len).2.2.2.2.2.1
        have i14 : w1.cell? ⟨p, 14, none⟩ = some (.int .i64 (aN : Int)) := by rw [← haN]; exact H1.out.cell 14 (md_get q _ H1.out.len).2.2.2.2.2.2.1
        have i16 : w1.cell? ⟨p, 16, none⟩ = some (.int .i64 g.dropped) := H1.out.cell 16 (md_get q _ H1.out.len).2.2.2.2.2.2.2.2
        have ir : w1.cell? ⟨p, 6 + aN, none⟩ = some (.int .i64 (g.ring.getD aN 0)) := H1.out.ring aN ha8
        have z3 := H1.out.frozen 3
        have z4 := H1.out.frozen 4
        have z5 := H1.out.frozen 5
        have z14 := H1.out.frozen 14
        have z16 := H1.out.frozen 16
        have zr := H1.out.frozen (6 + aN)
        clear f0 f2 hr0
        go_wp2_with fail
        refine (KB.out _).mono ?_; rintro e w' ⟨rfl, h2⟩; rw [h2]; clear h2
        go_wp2_with fail
        refine (KP.out _).mono ?_; rintro e w' ⟨rfl, h2⟩; rw [h2]; clear h2
        go_wp2_with fail
        refine (KD.out _).mono ?_; rintro e w' ⟨rfl, h2⟩; rw [h2]; clear h2
        go_wp2_with fail
        refine (wrap32m_any (wrap64 (v + m)) _).mono ?_; rintro e w' ⟨rfl, h2⟩; rw [h2, HDV.out]; clear h2
        go_wp2_with fail
        go_ret3
        exact ⟨rfl, (H1.out.setDropped (g.dropped + 1)), (chg_at (((Chg.refl _ w).drew).trans (C1.out.mono fun k _ e => Or.inr e)) _ _)⟩
      · rw [if_neg hZ]
        go_enter Tryz.func36, Tryz.ntmps36
        go_wp2
        go_region_held3 (fun w' => w'.cell? ⟨p, 0, none⟩ = some (.pointer (some ⟨q, 0, none⟩)) ∧ w'.cell? ⟨p, 2, none⟩ = some (.int .i64 g.mode)) (first | (simp [go_sem, f0, f2]; done) | exact ⟨by assumption, by assumption⟩)
          (first | (go_at_call 69; refine (HR.out _ (by exact H.out.drew.qu)).mono ?_; rintro e w1 ⟨rfl, q1, c1⟩; have H1 : Hid (Md w1 p q { g with c := g.c + dc, z := g.z }) := H.out.drew.count c1 q1; have C1 : Hid (Chg (· = q) w.drew w1) := c1; have k0 := H1.out.cell 0 (md_get q _ H1.out.len).1; have k2 : w1.cell? ⟨p, 2, none⟩ = some (.int .i64 g.mode) := H1.out.cell 2 (md_get q _ H1.out.len).2.2.1; clear q1 c1))
        have i1 : w1.cell? ⟨p, 1, none⟩ = some (.int .i64 g.depth) := H1.out.cell 1 (md_get q _ H1.out.len).2.1
        have i3 : w1.cell? ⟨p, 3, none⟩ = some (.int .i64 g.sum) := H1.out.cell 3 (md_get q _ H1.out.len).2.2.2.1
        have i4 : w1.cell? ⟨p, 4, none⟩ = some (.int .i64 g.peak) := H1.out.cell 4 (md_get q _ H1.out.len).2.2.2.2.1
        have i5 : w1.cell? ⟨p, 5, none⟩ = some (.int .i64 g.dip) := H1.out.cell 5 (md_get q _ H1.out.len).2.2.2.2.2.1
        have i14 : w1.cell? ⟨p, 14, none⟩ = some (.int .i64 (aN : Int)) := by rw [← haN]; exact H1.out.cell 14 (md_get q _ H1.out.len).2.2.2.2.2.2.1
        have i16 : w1.cell? ⟨p, 16, none⟩ = some (.int .i64 g.dropped) := H1.out.cell 16 (md_get q _ H1.out.len).2.2.2.2.2.2.2.2
        have ir : w1.cell? ⟨p, 6 + aN, none⟩ = some (.int .i64 (g.ring.getD aN 0)) := H1.out.ring aN ha8
        have z3 := H1.out.frozen 3
        have z4 := H1.out.frozen 4
        have z5 := H1.out.frozen 5
        have z14 := H1.out.frozen 14
        have z16 := H1.out.frozen 16
        have zr := H1.out.frozen (6 + aN)
        clear f0 f2 hr0
        go_wp2_with fail
        refine (KB.out _).mono ?_; rintro e w' ⟨rfl, h2⟩; rw [h2]; clear h2
        go_wp2_with fail
        refine (KP.out _).mono ?_; rintro e w' ⟨rfl, h2⟩; rw [h2]; clear h2
        go_wp2_with fail
        refine (KD.out _).mono ?_; rintro e w' ⟨rfl, h2⟩; rw [h2]; clear h2
        go_wp2_with fail
        refine (wrap32m_any (wrap64 (v + m)) _).mono ?_; rintro e w' ⟨rfl, h2⟩; rw [h2, HDV.out]; clear h2
        go_wp2_with fail
        refine (wrap32m_any (g.sum * 31 + W) _).mono ?_; rintro e w' ⟨rfl, h2⟩; rw [h2]; clear h2
        go_wp2_with fail
        go_region
        go_wp2
        go_ret3
        have h9 := (((H1.out.setSum (wrap32 (g.sum * 31 + W))).drew.setRing aN ha8 W).setAt (((aN : Int) + 1) % 8))
        refine ⟨rfl, ?_, ?_⟩
        · rw [haN]; exact h9
        · exact chg_at (chg_at (Chg.drew (chg_at (((Chg.refl _ w).drew).trans (C1.out.mono fun k _ e => Or.inr e)) _ _)) _ _) _ _
end Go.Proofs.Qxb6500376aGreatDoor

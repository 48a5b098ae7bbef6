/- KeepsQuiet: take (written by tools/gentake.py). -/
import Derived.Test.Qxb6500376aDoorKqShow
import Derived.Deep.RegionHeld3
namespace Go.Proofs.Qxb6500376aDoor
set_option linter.unusedVariables false
set_option linter.unusedSimpArgs false
set_option maxHeartbeats 4000000
set_option maxRecDepth 100000
open Go.RowKit Go.Qu Ieee

/-- the shade and the law's own converter -/
structure Sz (w : World) (p l : Nat) (g : PS) : Prop where
  sh : Sh w p g
  cv : Cv w l g.c g.z
  ne : p ≠ l
theorem Sz.kept {w w' : World} {p l : Nat} {g : PS} (h : Sz w p l g) {S : Nat → Prop} (hc : Chg S w w') (h1 : ¬ S p) (h2 : ¬ S l) : Sz w' p l g := ⟨h.sh.kept hc h1, Has.kept h.cv hc h2, h.ne⟩
theorem Sz.nil {w w' : World} {p l : Nat} {g : PS} (h : Sz w p l g) (hc : Chg (fun _ => False) w w') : Sz w' p l g := h.kept hc (fun h => h) (fun h => h)
theorem Sz.drew {w : World} {p l : Nat} {g : PS} (h : Sz w p l g) : Sz w.drew p l g := ⟨h.sh.drew, h.cv.drew, h.ne⟩
theorem Sz.drewN {w : World} {p l : Nat} {g : PS} (h : Sz w p l g) (n : Nat) : Sz (w.drewN n) p l g := ⟨h.sh.drewN n, h.cv.drewN n, h.ne⟩
theorem Sz.count {w w' : World} {p l : Nat} {g : PS} (h : Sz w p l g) {c z : Int} (hc : Chg (· = l) w w') (hq : Cv w' l c z) : Sz w' p l { g with c := c, z := z } := ⟨(h.sh.kept hc h.ne).count c z, hq, h.ne⟩
theorem Sz.put {w : World} {p l : Nat} {g : PS} (h : Sz w p l g) (i : Nat) (v : Value) {g' : PS} (hs : Sh (w.setCell ⟨p, i, none⟩ v) p g') (hc : g'.c = g.c) (hz : g'.z = g.z) : Sz (w.setCell ⟨p, i, none⟩ v) p l g' := ⟨hs, by rw [hc, hz]; exact h.cv.setOther (by show p ≠ l; exact h.ne) v, h.ne⟩
theorem Sz.setDepth {w : World} {p l : Nat} {g : PS} (h : Sz w p l g) (v : Int) : Sz (w.setCell ⟨p, 0, none⟩ (.int .i64 v)) p l { g with depth := v } := h.put 0 _ (h.sh.setDepth v) rfl rfl
theorem Sz.setMode {w : World} {p l : Nat} {g : PS} (h : Sz w p l g) (v : Int) : Sz (w.setCell ⟨p, 1, none⟩ (.int .i64 v)) p l { g with mode := v } := h.put 1 _ (h.sh.setMode v) rfl rfl
theorem Sz.setSum {w : World} {p l : Nat} {g : PS} (h : Sz w p l g) (v : Int) : Sz (w.setCell ⟨p, 2, none⟩ (.int .i64 v)) p l { g with sum := v } := h.put 2 _ (h.sh.setSum v) rfl rfl
theorem Sz.setPeak {w : World} {p l : Nat} {g : PS} (h : Sz w p l g) (v : Int) : Sz (w.setCell ⟨p, 3, none⟩ (.int .i64 v)) p l { g with peak := v } := h.put 3 _ (h.sh.setPeak v) rfl rfl
theorem Sz.setDip {w : World} {p l : Nat} {g : PS} (h : Sz w p l g) (v : Int) : Sz (w.setCell ⟨p, 4, none⟩ (.int .i64 v)) p l { g with dip := v } := h.put 4 _ (h.sh.setDip v) rfl rfl
theorem Sz.setAt {w : World} {p l : Nat} {g : PS} (h : Sz w p l g) (v : Int) : Sz (w.setCell ⟨p, 5, none⟩ (.int .i64 v)) p l { g with at_ := v } := h.put 5 _ (h.sh.setAt v) rfl rfl
theorem Sz.setSeq {w : World} {p l : Nat} {g : PS} (h : Sz w p l g) (v : Int) : Sz (w.setCell ⟨p, 6, none⟩ (.int .i64 v)) p l { g with seq := v } := h.put 6 _ (h.sh.setSeq v) rfl rfl
theorem Sz.setDropped {w : World} {p l : Nat} {g : PS} (h : Sz w p l g) (v : Int) : Sz (w.setCell ⟨p, 7, none⟩ (.int .i64 v)) p l { g with dropped := v } := h.put 7 _ (h.sh.setDropped v) rfl rfl
theorem Sz.setRing {w : World} {p l : Nat} {g : PS} (h : Sz w p l g) (i : Nat) (hi : i < 8) (v : Int) : Sz (w.setCell ⟨p, 8 + i, none⟩ (.int .i64 v)) p l { g with ring := g.ring.set i v } := h.put (8 + i) _ (h.sh.setRing i hi v) rfl rfl
theorem Sz.len {w : World} {p l : Nat} {g : PS} (h : Sz w p l g) : g.ring.length = 8 := h.sh.len
theorem Sz.far {w : World} {p l : Nat} {g : PS} (h : Sz w p l g) {B : Nat} (hl : p < B ∧ l < B) {a : Addr} (ha : B ≤ a.block) (v : Value) : Sz (w.setCell a v) p l g :=
  h.kept (S := (B ≤ ·)) ((Chg.refl _ w).setCell (Or.inl ha) v) (by have := hl.1; omega) (by have := hl.2; omega)
theorem chg_at {p q : Nat} {w w' : World} (h : Chg (fun k => k = p ∨ k = q) w w') (i : Nat) (v : Value) : Chg (fun k => k = p ∨ k = q) w (w'.setCell ⟨p, i, none⟩ v) := h.setCell (Or.inl (Or.inl rfl)) v

theorem take_any (p l : Nat) (g : PS) (n b m : Int) (w : World) (hg : Good g n) (hn : n ≤ 4611686018427387904) (hb : I64 b) (hm : I64 m) (h : Sz w p l g) (d : Int) (hd : ∀ v : Int, wrap32 (v + m) = wrap32 (v + d)) :
    Calls Tryd.prog 41 #[.pointer (some ⟨l, 0, none⟩), .pointer (some ⟨p, 0, none⟩), .int .i64 b, .int .i64 m] w fun e w' => e = .returned (ansV (fedP g b d).1.e (fedP g b d).1.n (fedP g b d).1.k ⟨#[]⟩) ∧ Sz w' p l (fedP g b d).2 ∧ Chg (fun k => k = p ∨ k = l) w w' := by
  unfold ansV
  have LT : Hid (p < w.heap.size ∧ l < w.heap.size) := ⟨h.sh.obj.lt, Has.lt h.cv⟩
  have C0 : Hid (Chg (fun k => k = p ∨ k = l) w (w.alloc (.cells #[.int .i64 0, .int .i64 0, .int .i64 0, .string ⟨#[]⟩] 47))) := (Chg.refl _ _).alloc _
  have RA : Hid (Has 47 (w.alloc (.cells #[.int .i64 0, .int .i64 0, .int .i64 0, .string ⟨#[]⟩] 47)) w.heap.size [.int .i64 0, .int .i64 0, .int .i64 0, .string ⟨#[]⟩]) := Has.new _ _ _
  have H : Hid (Sz (w.alloc (.cells #[.int .i64 0, .int .i64 0, .int .i64 0, .string ⟨#[]⟩] 47)) p l g) := h.nil ((Chg.refl _ _).alloc _)
  have f1 := H.out.sh.cell 1 (sh_get g h.len).2.1
  have R := fun w' (hq : Cv w' l g.c g.z) => round32_o l b g.mode g.c g.z w' hb hq ⟨hg.c0, by have := hg.c1; omega⟩ ⟨hg.z0, by have := hg.z1; omega⟩
  have m0 := hg.m0
  have m3 := hg.m3
  unfold fedP
  by_cases hx : 9218868437227405312 < mg b
  · rw [if_pos hx]
    have e1 : r32O b g.mode = ⟨4, 0, 0, 0, 1⟩ := by unfold r32O; rw [if_neg (by omega), if_pos hx]
    rw [e1] at R
    simp only [Int.add_zero] at R
    have HR : Hid (∀ w' (hq : Cv w' l g.c g.z), Calls _ _ _ _ _) := R
    clear h R hg hn hx hb hd hm m0 m3 e1
    go_enter Tryd.func41, Tryd.ntmps41
    go_wp2_with fail
    refine (HR.out _ H.out.cv).mono ?_; rintro e w1 ⟨rfl, q1, c1⟩
    have H1 : Hid (Sz w1 p l { g with c := g.c, z := g.z + 1 }) := H.out.count c1 q1
    have C1 : Hid (Chg (fun k => k = p ∨ k = l) w w1) := C0.out.trans (c1.mono fun k _ e => Or.inr e)
    have R1 : Has 47 w1 w.heap.size [.int .i64 0, .int .i64 0, .int .i64 0, .string ⟨#[]⟩] := RA.out.kept c1 (by have := LT.out.2; omega)
    have u0 : w1.cell? ⟨w.heap.size, 0, none⟩ = some (.int .i64 0) := R1.cell 0
    have u1 : w1.cell? ⟨w.heap.size, 1, none⟩ = some (.int .i64 0) := R1.cell 1
    have u2 : w1.cell? ⟨w.heap.size, 2, none⟩ = some (.int .i64 0) := R1.cell 2
    have u3 : w1.cell? ⟨w.heap.size, 3, none⟩ = some (.string ⟨#[]⟩) := R1.cell 3
    have z0 := R1.frozen 0
    have z1 := R1.frozen 1
    have z2 := R1.frozen 2
    have z3 := R1.frozen 3
    clear q1 c1 R1
    go_wp2_with fail
    refine bodyPost_ret (by simp [results, Tryd.results41, go_sem, u0, u1, u2, u3]; try rfl) rfl ?_
    have lt := LT.out
    exact ⟨rfl, (((H1.out.far lt (Nat.le_refl _) _).far lt (Nat.le_refl _) _).far lt (Nat.le_refl _) _).far lt (Nat.le_refl _) _, (((C1.out.setCell (Or.inr (Nat.le_refl _)) _).setCell (Or.inr (Nat.le_refl _)) _).setCell (Or.inr (Nat.le_refl _)) _).setCell (Or.inr (Nat.le_refl _)) _⟩
  rw [if_neg hx]
  have e1 : r32O b g.mode = ⟨0, (roundI b g.mode (-2147483648) 2147483647).1, 0, (roundI b g.mode (-2147483648) 2147483647).2.toNat, 0⟩ := by unfold r32O; rw [if_neg (by omega), if_neg hx]
  rw [e1] at R
  simp only [Int.add_zero] at R
  have rb := roundI_bounds b g.mode (-2147483648) 2147483647 (by decide)
  have v1 := rb.1
  have v2 := rb.2.1
  have hdv := hd (roundI b g.mode (-2147483648) 2147483647).1
  have hwd : wordP g (roundI b g.mode (-2147483648) 2147483647).1 d = wrap32 ((roundI b g.mode (-2147483648) 2147483647).1 + d) / 2 ^ (32 - g.depth).toNat := rfl
  generalize (roundI b g.mode (-2147483648) 2147483647).1 = v at *
  generalize ((roundI b g.mode (-2147483648) 2147483647).2.toNat : Int) = dc at *
  obtain ⟨D, hD⟩ : ∃ D, wrap32 (v + d) = D := ⟨_, rfl⟩
  rw [hD] at hdv hwd
  obtain ⟨W, hW⟩ : ∃ W, wordP g v d = W := ⟨_, rfl⟩
  have wb := wordP_bounds g v d
  rw [hW] at hwd wb ⊢
  have wd : D / 2 ^ (32 - g.depth).toNat = W := hwd.symm
  have e6 := and32 m
  have n0 : 0 ≤ m % 4294967296 := by omega
  have n1 : m % 4294967296 ≤ 4294967295 := by omega
  have e7 := and32 (v + m % 4294967296 + 2147483648)
  have e8 : (v + m % 4294967296 + 2147483648) % 4294967296 - 2147483648 = D := by rw [← hdv, wrap32]; omega
  have e8a : 0 ≤ (v + m % 4294967296 + 2147483648) % 4294967296 := by omega
  have e8b : (v + m % 4294967296 + 2147483648) % 4294967296 ≤ 4294967295 := by omega
  generalize m % 4294967296 = M at *
  generalize (v + M + 2147483648) % 4294967296 = X at *
  have HR : Hid (∀ w' (hq : Cv w' l g.c g.z), Calls _ _ _ _ _) := R
  have w1b := wb.1
  have w2b := wb.2
  have s1 := hg.s1
  have s2 := hg.s2
  have d1 := hg.d1
  have d2 := hg.d2
  have a0 := hg.a0
  have a8 := hg.a8
  have q0 := hg.r0
  have q1 : g.dropped ≤ 4611686018427387904 := by have := hg.r1; omega
  have D1 : -2147483648 ≤ D := by rw [← hD]; exact (wrap32_bounds _).1
  have D2 : D ≤ 2147483647 := by rw [← hD]; exact (wrap32_bounds _).2
  have e9 := and32 (g.sum * 31 + W + 2147483648)
  have e10 : (g.sum * 31 + W + 2147483648) % 4294967296 - 2147483648 = wrap32 (g.sum * 31 + W) := by rw [wrap32]
  have e10a : 0 ≤ (g.sum * 31 + W + 2147483648) % 4294967296 := by omega
  have e10b : (g.sum * 31 + W + 2147483648) % 4294967296 ≤ 4294967295 := by omega
  generalize (g.sum * 31 + W + 2147483648) % 4294967296 = Y at *
  generalize wrap32 (g.sum * 31 + W) = SU at *
  obtain ⟨aN, haN⟩ : ∃ aN : Nat, g.at_ = aN := ⟨g.at_.toNat, by omega⟩
  have ha8 : aN < 8 := by omega
  have hatn : g.at_.toNat = aN := by omega
  have hlen := hg.len
  have k14 : ∀ (w : World) (v : Value), (w.setCell ⟨p, 8 + aN, none⟩ v).cell? ⟨p, 5, none⟩ = w.cell? ⟨p, 5, none⟩ := fun w v => World.cell?_setCell_other w _ _ v (fun e => by have := congrArg Addr.off e; simp only at this; omega)
  have a8i : (aN : Int) < 8 := by omega
  have KB : Hid (∀ w, Calls _ _ _ _ _) := fun w => rank_any b w
  have KP : Hid (∀ w, Calls _ _ _ _ _) := fun w => rank_any g.peak w
  have KD : Hid (∀ w, Calls _ _ _ _ _) := fun w => rank_any g.dip w
  unfold peakI dipI
  obtain ⟨kb, hkb⟩ : ∃ kb, keyI b = kb := ⟨_, rfl⟩
  obtain ⟨kp, hkp⟩ : ∃ kp, keyI g.peak = kp := ⟨_, rfl⟩
  obtain ⟨kd, hkd⟩ : ∃ kd, keyI g.dip = kd := ⟨_, rfl⟩
  rw [hkb] at KB ⊢
  rw [hkp] at KP ⊢
  rw [hkd] at KD ⊢
  rw [hatn]
  clear h R hn hb hd hm rb hwd wb hdv hW hD e1 hkb hkp hkd m0 m3 hatn hx
  by_cases hP : kp < kb
  · rw [if_pos hP]
    by_cases hDd : kb < kd
    · rw [if_pos hDd]
      by_cases hZ : W = 0
      · subst hZ
        rw [if_pos rfl]
        go_enter Tryd.func41, Tryd.ntmps41
        go_wp2_with fail
        refine (HR.out _ H.out.cv).mono ?_; rintro e w1 ⟨rfl, q1, c1⟩
        have H1 : Hid (Sz w1 p l { g with c := g.c + dc, z := g.z }) := H.out.count c1 q1
        have C1 : Hid (Chg (fun k => k = p ∨ k = l) w w1) := C0.out.trans (c1.mono fun k _ e => Or.inr e)
        have R1 : Hid (Has 47 w1 w.heap.size [.int .i64 0, .int .i64 0, .int .i64 0, .string ⟨#[]⟩]) := RA.out.kept c1 (by have := LT.out.2; omega)
        clear q1 c1 H C0 RA f1
        have i0 : w1.cell? ⟨p, 0, none⟩ = some (.int .i64 g.depth) := H1.out.sh.cell 0 (sh_get _ H1.out.len).1
        have z0 := H1.out.sh.frozen 0
        have i2 : w1.cell? ⟨p, 2, none⟩ = some (.int .i64 g.sum) := H1.out.sh.cell 2 (sh_get _ H1.out.len).2.2.1
        have z2 := H1.out.sh.frozen 2
        have i3 : w1.cell? ⟨p, 3, none⟩ = some (.int .i64 g.peak) := H1.out.sh.cell 3 (sh_get _ H1.out.len).2.2.2.1
        have z3 := H1.out.sh.frozen 3
        have i4 : w1.cell? ⟨p, 4, none⟩ = some (.int .i64 g.dip) := H1.out.sh.cell 4 (sh_get _ H1.out.len).2.2.2.2.1
        have z4 := H1.out.sh.frozen 4
        have i7 : w1.cell? ⟨p, 7, none⟩ = some (.int .i64 g.dropped) := H1.out.sh.cell 7 (sh_get _ H1.out.len).2.2.2.2.2.2.2
        have z7 := H1.out.sh.frozen 7
        have i5 : w1.cell? ⟨p, 5, none⟩ = some (.int .i64 (aN : Int)) := by rw [← haN]; exact H1.out.sh.cell 5 (sh_get _ H1.out.len).2.2.2.2.2.1
        have z5 := H1.out.sh.frozen 5
        have ir : w1.cell? ⟨p, 8 + aN, none⟩ = some (.int .i64 (g.ring.getD aN 0)) := H1.out.sh.ring aN ha8
        have zr := H1.out.sh.frozen (8 + aN)
        go_wp2_with fail
        go_quiet ((first | (go_at_call_of 43 b; exact Calls.quiet_of_same (KB.out _)) | (go_at_call_of 43 g.peak; exact Calls.quiet_of_same (KP.out _))))
        go_wp2_with fail
        have H2 : Hid (Sz ((w1.drewN nq).setCell ⟨p, 3, none⟩ (.int .i64 b)) p l { g with peak := b, c := g.c + dc, z := g.z }) := ((H1.out.drewN nq).setPeak b)
        have C2 : Hid (Chg (fun k => k = p ∨ k = l) w ((w1.drewN nq).setCell ⟨p, 3, none⟩ (.int .i64 b))) := (chg_at (C1.out.drewN nq) _ _)
        have R2 : Hid (Has 47 ((w1.drewN nq).setCell ⟨p, 3, none⟩ (.int .i64 b)) w.heap.size [.int .i64 0, .int .i64 0, .int .i64 0, .string ⟨#[]⟩]) := ((R1.out.drewN nq).setOther (a := ⟨p, 3, none⟩) (by have := LT.out.1; show p ≠ w.heap.size; omega) _)
        clear H1 C1 R1 i0 z0 i2 z2 i3 z3 i4 z4 i7 z7 i5 z5 ir zr
        generalize ((w1.drewN nq).setCell ⟨p, 3, none⟩ (.int .i64 b)) = w2 at H2 C2 R2 ⊢
        have i0 : w2.cell? ⟨p, 0, none⟩ = some (.int .i64 g.depth) := H2.out.sh.cell 0 (sh_get _ H2.out.len).1
        have z0 := H2.out.sh.frozen 0
        have i2 : w2.cell? ⟨p, 2, none⟩ = some (.int .i64 g.sum) := H2.out.sh.cell 2 (sh_get _ H2.out.len).2.2.1
        have z2 := H2.out.sh.frozen 2
        have i3 : w2.cell? ⟨p, 3, none⟩ = some (.int .i64 b) := H2.out.sh.cell 3 (sh_get _ H2.out.len).2.2.2.1
        have z3 := H2.out.sh.frozen 3
        have i4 : w2.cell? ⟨p, 4, none⟩ = some (.int .i64 g.dip) := H2.out.sh.cell 4 (sh_get _ H2.out.len).2.2.2.2.1
        have z4 := H2.out.sh.frozen 4
        have i7 : w2.cell? ⟨p, 7, none⟩ = some (.int .i64 g.dropped) := H2.out.sh.cell 7 (sh_get _ H2.out.len).2.2.2.2.2.2.2
        have z7 := H2.out.sh.frozen 7
        have i5 : w2.cell? ⟨p, 5, none⟩ = some (.int .i64 (aN : Int)) := by rw [← haN]; exact H2.out.sh.cell 5 (sh_get _ H2.out.len).2.2.2.2.2.1
        have z5 := H2.out.sh.frozen 5
        have ir : w2.cell? ⟨p, 8 + aN, none⟩ = some (.int .i64 (g.ring.getD aN 0)) := H2.out.sh.ring aN ha8
        have zr := H2.out.sh.frozen (8 + aN)
        have y0 : w2.cell? ⟨w.heap.size, 0, none⟩ = some (.int .i64 0) := R2.out.cell 0
        have x0 := R2.out.frozen 0
        have y1 : w2.cell? ⟨w.heap.size, 1, none⟩ = some (.int .i64 0) := R2.out.cell 1
        have x1 := R2.out.frozen 1
        have y2 : w2.cell? ⟨w.heap.size, 2, none⟩ = some (.int .i64 0) := R2.out.cell 2
        have x2 := R2.out.frozen 2
        have y3 : w2.cell? ⟨w.heap.size, 3, none⟩ = some (.string ⟨#[]⟩) := R2.out.cell 3
        have x3 := R2.out.frozen 3
        go_quiet ((first | (go_at_call_of 43 b; exact Calls.quiet_of_same (KB.out _)) | (go_at_call_of 43 g.dip; exact Calls.quiet_of_same (KD.out _))))
        go_wp2_with fail
        refine bodyPost_ret (by simp [results, Tryd.results41, go_sem, y0, y1, y2, y3]; try rfl) rfl ?_
        have lt := LT.out
        exact ⟨rfl, (((((((H2.out.drewN nq).setDip b).setDropped (g.dropped + 1)).far lt (Nat.le_refl _) _).far lt (Nat.le_refl _) _).far lt (Nat.le_refl _) _).far lt (Nat.le_refl _) _), (((((chg_at (chg_at (C2.out.drewN nq) _ _) _ _).setCell (Or.inr (Nat.le_refl _)) _).setCell (Or.inr (Nat.le_refl _)) _).setCell (Or.inr (Nat.le_refl _)) _).setCell (Or.inr (Nat.le_refl _)) _)⟩
      · rw [if_neg hZ]
        go_enter Tryd.func41, Tryd.ntmps41
        go_wp2_with fail
        refine (HR.out _ H.out.cv).mono ?_; rintro e w1 ⟨rfl, q1, c1⟩
        have H1 : Hid (Sz w1 p l { g with c := g.c + dc, z := g.z }) := H.out.count c1 q1
        have C1 : Hid (Chg (fun k => k = p ∨ k = l) w w1) := C0.out.trans (c1.mono fun k _ e => Or.inr e)
        have R1 : Hid (Has 47 w1 w.heap.size [.int .i64 0, .int .i64 0, .int .i64 0, .string ⟨#[]⟩]) := RA.out.kept c1 (by have := LT.out.2; omega)
        clear q1 c1 H C0 RA f1
        have i0 : w1.cell? ⟨p, 0, none⟩ = some (.int .i64 g.depth) := H1.out.sh.cell 0 (sh_get _ H1.out.len).1
        have z0 := H1.out.sh.frozen 0
        have i2 : w1.cell? ⟨p, 2, none⟩ = some (.int .i64 g.sum) := H1.out.sh.cell 2 (sh_get _ H1.out.len).2.2.1
        have z2 := H1.out.sh.frozen 2
        have i3 : w1.cell? ⟨p, 3, none⟩ = some (.int .i64 g.peak) := H1.out.sh.cell 3 (sh_get _ H1.out.len).2.2.2.1
        have z3 := H1.out.sh.frozen 3
        have i4 : w1.cell? ⟨p, 4, none⟩ = some (.int .i64 g.dip) := H1.out.sh.cell 4 (sh_get _ H1.out.len).2.2.2.2.1
        have z4 := H1.out.sh.frozen 4
        have i7 : w1.cell? ⟨p, 7, none⟩ = some (.int .i64 g.dropped) := H1.out.sh.cell 7 (sh_get _ H1.out.len).2.2.2.2.2.2.2
        have z7 := H1.out.sh.frozen 7
        have i5 : w1.cell? ⟨p, 5, none⟩ = some (.int .i64 (aN : Int)) := by rw [← haN]; exact H1.out.sh.cell 5 (sh_get _ H1.out.len).2.2.2.2.2.1
        have z5 := H1.out.sh.frozen 5
        have ir : w1.cell? ⟨p, 8 + aN, none⟩ = some (.int .i64 (g.ring.getD aN 0)) := H1.out.sh.ring aN ha8
        have zr := H1.out.sh.frozen (8 + aN)
        go_wp2_with fail
        go_quiet ((first | (go_at_call_of 43 b; exact Calls.quiet_of_same (KB.out _)) | (go_at_call_of 43 g.peak; exact Calls.quiet_of_same (KP.out _))))
        go_wp2_with fail
        have H2 : Hid (Sz ((w1.drewN nq).setCell ⟨p, 3, none⟩ (.int .i64 b)) p l { g with peak := b, c := g.c + dc, z := g.z }) := ((H1.out.drewN nq).setPeak b)
        have C2 : Hid (Chg (fun k => k = p ∨ k = l) w ((w1.drewN nq).setCell ⟨p, 3, none⟩ (.int .i64 b))) := (chg_at (C1.out.drewN nq) _ _)
        have R2 : Hid (Has 47 ((w1.drewN nq).setCell ⟨p, 3, none⟩ (.int .i64 b)) w.heap.size [.int .i64 0, .int .i64 0, .int .i64 0, .string ⟨#[]⟩]) := ((R1.out.drewN nq).setOther (a := ⟨p, 3, none⟩) (by have := LT.out.1; show p ≠ w.heap.size; omega) _)
        clear H1 C1 R1 i0 z0 i2 z2 i3 z3 i4 z4 i7 z7 i5 z5 ir zr
        generalize ((w1.drewN nq).setCell ⟨p, 3, none⟩ (.int .i64 b)) = w2 at H2 C2 R2 ⊢
        have i0 : w2.cell? ⟨p, 0, none⟩ = some (.int .i64 g.depth) := H2.out.sh.cell 0 (sh_get _ H2.out.len).1
        have z0 := H2.out.sh.frozen 0
        have i2 : w2.cell? ⟨p, 2, none⟩ = some (.int .i64 g.sum) := H2.out.sh.cell 2 (sh_get _ H2.out.len).2.2.1
        have z2 := H2.out.sh.frozen 2
        have i3 : w2.cell? ⟨p, 3, none⟩ = some (.int .i64 b) := H2.out.sh.cell 3 (sh_get _ H2.out.len).2.2.2.1
        have z3 := H2.out.sh.frozen 3
        have i4 : w2.cell? ⟨p, 4, none⟩ = some (.int .i64 g.dip) := H2.out.sh.cell 4 (sh_get _ H2.out.len).2.2.2.2.1
        have z4 := H2.out.sh.frozen 4
        have i7 : w2.cell? ⟨p, 7, none⟩ = some (.int .i64 g.dropped) := H2.out.sh.cell 7 (sh_get _ H2.out.len).2.2.2.2.2.2.2
        have z7 := H2.out.sh.frozen 7
        have i5 : w2.cell? ⟨p, 5, none⟩ = some (.int .i64 (aN : Int)) := by rw [← haN]; exact H2.out.sh.cell 5 (sh_get _ H2.out.len).2.2.2.2.2.1
        have z5 := H2.out.sh.frozen 5
        have ir : w2.cell? ⟨p, 8 + aN, none⟩ = some (.int .i64 (g.ring.getD aN 0)) := H2.out.sh.ring aN ha8
        have zr := H2.out.sh.frozen (8 + aN)
        have y0 : w2.cell? ⟨w.heap.size, 0, none⟩ = some (.int .i64 0) := R2.out.cell 0
        have x0 := R2.out.frozen 0
        have y1 : w2.cell? ⟨w.heap.size, 1, none⟩ = some (.int .i64 0) := R2.out.cell 1
        have x1 := R2.out.frozen 1
        have y2 : w2.cell? ⟨w.heap.size, 2, none⟩ = some (.int .i64 0) := R2.out.cell 2
        have x2 := R2.out.frozen 2
        have y3 : w2.cell? ⟨w.heap.size, 3, none⟩ = some (.string ⟨#[]⟩) := R2.out.cell 3
        have x3 := R2.out.frozen 3
        go_quiet ((first | (go_at_call_of 43 b; exact Calls.quiet_of_same (KB.out _)) | (go_at_call_of 43 g.dip; exact Calls.quiet_of_same (KD.out _))))
        go_wp2_with fail
        have H3 : Hid (Sz (((w2.drewN nq).setCell ⟨p, 4, none⟩ (.int .i64 b)).setCell ⟨p, 2, none⟩ (.int .i64 SU)) p l { g with peak := b, dip := b, sum := SU, c := g.c + dc, z := g.z }) := (((H2.out.drewN nq).setDip b).setSum SU)
        have C3 : Hid (Chg (fun k => k = p ∨ k = l) w (((w2.drewN nq).setCell ⟨p, 4, none⟩ (.int .i64 b)).setCell ⟨p, 2, none⟩ (.int .i64 SU))) := (chg_at (chg_at (C2.out.drewN nq) _ _) _ _)
        have R3 : Hid (Has 47 (((w2.drewN nq).setCell ⟨p, 4, none⟩ (.int .i64 b)).setCell ⟨p, 2, none⟩ (.int .i64 SU)) w.heap.size [.int .i64 0, .int .i64 0, .int .i64 0, .string ⟨#[]⟩]) := (((R2.out.drewN nq).setOther (a := ⟨p, 4, none⟩) (by have := LT.out.1; show p ≠ w.heap.size; omega) _).setOther (a := ⟨p, 2, none⟩) (by have := LT.out.1; show p ≠ w.heap.size; omega) _)
        clear H2 C2 R2 i0 z0 i2 z2 i3 z3 i4 z4 i7 z7 i5 z5 ir zr y0 y1 y2 y3 x0 x1 x2 x3
        generalize (((w2.drewN nq).setCell ⟨p, 4, none⟩ (.int .i64 b)).setCell ⟨p, 2, none⟩ (.int .i64 SU)) = w3 at H3 C3 R3 ⊢
        have i5 : w3.cell? ⟨p, 5, none⟩ = some (.int .i64 (aN : Int)) := by rw [← haN]; exact H3.out.sh.cell 5 (sh_get _ H3.out.len).2.2.2.2.2.1
        have z5 := H3.out.sh.frozen 5
        have ir : w3.cell? ⟨p, 8 + aN, none⟩ = some (.int .i64 (g.ring.getD aN 0)) := H3.out.sh.ring aN ha8
        have zr := H3.out.sh.frozen (8 + aN)
        have y0 : w3.cell? ⟨w.heap.size, 0, none⟩ = some (.int .i64 0) := R3.out.cell 0
        have x0 := R3.out.frozen 0
        have y1 : w3.cell? ⟨w.heap.size, 1, none⟩ = some (.int .i64 0) := R3.out.cell 1
        have x1 := R3.out.frozen 1
        have y2 : w3.cell? ⟨w.heap.size, 2, none⟩ = some (.int .i64 0) := R3.out.cell 2
        have x2 := R3.out.frozen 2
        have y3 : w3.cell? ⟨w.heap.size, 3, none⟩ = some (.string ⟨#[]⟩) := R3.out.cell 3
        have x3 := R3.out.frozen 3
        go_region
        go_wp2_with fail
        refine bodyPost_ret (by simp [results, Tryd.results41, go_sem, y0, y1, y2, y3]; try rfl) rfl ?_
        have lt := LT.out
        refine ⟨rfl, ?_, (((((chg_at (chg_at C3.out _ _) _ _).setCell (Or.inr (Nat.le_refl _)) _).setCell (Or.inr (Nat.le_refl _)) _).setCell (Or.inr (Nat.le_refl _)) _).setCell (Or.inr (Nat.le_refl _)) _).drew⟩
        rw [haN]; exact ((((((H3.out.setRing aN ha8 W).setAt (((aN : Int) + 1) % 8)).far lt (Nat.le_refl _) _).far lt (Nat.le_refl _) _).far lt (Nat.le_refl _) _).far lt (Nat.le_refl _) _).drew
    · rw [if_neg hDd]
      by_cases hZ : W = 0
      · subst hZ
        rw [if_pos rfl]
        go_enter Tryd.func41, Tryd.ntmps41
        go_wp2_with fail
        refine (HR.out _ H.out.cv).mono ?_; rintro e w1 ⟨rfl, q1, c1⟩
        have H1 : Hid (Sz w1 p l { g with c := g.c + dc, z := g.z }) := H.out.count c1 q1
        have C1 : Hid (Chg (fun k => k = p ∨ k = l) w w1) := C0.out.trans (c1.mono fun k _ e => Or.inr e)
        have R1 : Hid (Has 47 w1 w.heap.size [.int .i64 0, .int .i64 0, .int .i64 0, .string ⟨#[]⟩]) := RA.out.kept c1 (by have := LT.out.2; omega)
        clear q1 c1 H C0 RA f1
        have i0 : w1.cell? ⟨p, 0, none⟩ = some (.int .i64 g.depth) := H1.out.sh.cell 0 (sh_get _ H1.out.len).1
        have z0 := H1.out.sh.frozen 0
        have i2 : w1.cell? ⟨p, 2, none⟩ = some (.int .i64 g.sum) := H1.out.sh.cell 2 (sh_get _ H1.out.len).2.2.1
        have z2 := H1.out.sh.frozen 2
        have i3 : w1.cell? ⟨p, 3, none⟩ = some (.int .i64 g.peak) := H1.out.sh.cell 3 (sh_get _ H1.out.len).2.2.2.1
        have z3 := H1.out.sh.frozen 3
        have i4 : w1.cell? ⟨p, 4, none⟩ = some (.int .i64 g.dip) := H1.out.sh.cell 4 (sh_get _ H1.out.len).2.2.2.2.1
        have z4 := H1.out.sh.frozen 4
        have i7 : w1.cell? ⟨p, 7, none⟩ = some (.int .i64 g.dropped) := H1.out.sh.cell 7 (sh_get _ H1.out.len).2.2.2.2.2.2.2
        have z7 := H1.out.sh.frozen 7
        have i5 : w1.cell? ⟨p, 5, none⟩ = some (.int .i64 (aN : Int)) := by rw [← haN]; exact H1.out.sh.cell 5 (sh_get _ H1.out.len).2.2.2.2.2.1
        have z5 := H1.out.sh.frozen 5
        have ir : w1.cell? ⟨p, 8 + aN, none⟩ = some (.int .i64 (g.ring.getD aN 0)) := H1.out.sh.ring aN ha8
        have zr := H1.out.sh.frozen (8 + aN)
        go_wp2_with fail
        go_quiet ((first | (go_at_call_of 43 b; exact Calls.quiet_of_same (KB.out _)) | (go_at_call_of 43 g.peak; exact Calls.quiet_of_same (KP.out _))))
        go_wp2_with fail
        have H2 : Hid (Sz ((w1.drewN nq).setCell ⟨p, 3, none⟩ (.int .i64 b)) p l { g with peak := b, c := g.c + dc, z := g.z }) := ((H1.out.drewN nq).setPeak b)
        have C2 : Hid (Chg (fun k => k = p ∨ k = l) w ((w1.drewN nq).setCell ⟨p, 3, none⟩ (.int .i64 b))) := (chg_at (C1.out.drewN nq) _ _)
        have R2 : Hid (Has 47 ((w1.drewN nq).setCell ⟨p, 3, none⟩ (.int .i64 b)) w.heap.size [.int .i64 0, .int .i64 0, .int .i64 0, .string ⟨#[]⟩]) := ((R1.out.drewN nq).setOther (a := ⟨p, 3, none⟩) (by have := LT.out.1; show p ≠ w.heap.size; omega) _)
        clear H1 C1 R1 i0 z0 i2 z2 i3 z3 i4 z4 i7 z7 i5 z5 ir zr
        generalize ((w1.drewN nq).setCell ⟨p, 3, none⟩ (.int .i64 b)) = w2 at H2 C2 R2 ⊢
        have i0 : w2.cell? ⟨p, 0, none⟩ = some (.int .i64 g.depth) := H2.out.sh.cell 0 (sh_get _ H2.out.len).1
        have z0 := H2.out.sh.frozen 0
        have i2 : w2.cell? ⟨p, 2, none⟩ = some (.int .i64 g.sum) := H2.out.sh.cell 2 (sh_get _ H2.out.len).2.2.1
        have z2 := H2.out.sh.frozen 2
        have i3 : w2.cell? ⟨p, 3, none⟩ = some (.int .i64 b) := H2.out.sh.cell 3 (sh_get _ H2.out.len).2.2.2.1
        have z3 := H2.out.sh.frozen 3
        have i4 : w2.cell? ⟨p, 4, none⟩ = some (.int .i64 g.dip) := H2.out.sh.cell 4 (sh_get _ H2.out.len).2.2.2.2.1
        have z4 := H2.out.sh.frozen 4
        have i7 : w2.cell? ⟨p, 7, none⟩ = some (.int .i64 g.dropped) := H2.out.sh.cell 7 (sh_get _ H2.out.len).2.2.2.2.2.2.2
        have z7 := H2.out.sh.frozen 7
        have i5 : w2.cell? ⟨p, 5, none⟩ = some (.int .i64 (aN : Int)) := by rw [← haN]; exact H2.out.sh.cell 5 (sh_get _ H2.out.len).2.2.2.2.2.1
        have z5 := H2.out.sh.frozen 5
        have ir : w2.cell? ⟨p, 8 + aN, none⟩ = some (.int .i64 (g.ring.getD aN 0)) := H2.out.sh.ring aN ha8
        have zr := H2.out.sh.frozen (8 + aN)
        have y0 : w2.cell? ⟨w.heap.size, 0, none⟩ = some (.int .i64 0) := R2.out.cell 0
        have x0 := R2.out.frozen 0
        have y1 : w2.cell? ⟨w.heap.size, 1, none⟩ = some (.int .i64 0) := R2.out.cell 1
        have x1 := R2.out.frozen 1
        have y2 : w2.cell? ⟨w.heap.size, 2, none⟩ = some (.int .i64 0) := R2.out.cell 2
        have x2 := R2.out.frozen 2
        have y3 : w2.cell? ⟨w.heap.size, 3, none⟩ = some (.string ⟨#[]⟩) := R2.out.cell 3
        have x3 := R2.out.frozen 3
        go_quiet ((first | (go_at_call_of 43 b; exact Calls.quiet_of_same (KB.out _)) | (go_at_call_of 43 g.dip; exact Calls.quiet_of_same (KD.out _))))
        go_wp2_with fail
        refine bodyPost_ret (by simp [results, Tryd.results41, go_sem, y0, y1, y2, y3]; try rfl) rfl ?_
        have lt := LT.out
        exact ⟨rfl, ((((((H2.out.drewN nq).setDropped (g.dropped + 1)).far lt (Nat.le_refl _) _).far lt (Nat.le_refl _) _).far lt (Nat.le_refl _) _).far lt (Nat.le_refl _) _), (((((chg_at (C2.out.drewN nq) _ _).setCell (Or.inr (Nat.le_refl _)) _).setCell (Or.inr (Nat.le_refl _)) _).setCell (Or.inr (Nat.le_refl _)) _).setCell (Or.inr (Nat.le_refl _)) _)⟩
      · rw [if_neg hZ]
        go_enter Tryd.func41, Tryd.ntmps41
        go_wp2_with fail
        refine (HR.out _ H.out.cv).mono ?_; rintro e w1 ⟨rfl, q1, c1⟩
        have H1 : Hid (Sz w1 p l { g with c := g.c + dc, z := g.z }) := H.out.count c1 q1
        have C1 : Hid (Chg (fun k => k = p ∨ k = l) w w1) := C0.out.trans (c1.mono fun k _ e => Or.inr e)
        have R1 : Hid (Has 47 w1 w.heap.size [.int .i64 0, .int .i64 0, .int .i64 0, .string ⟨#[]⟩]) := RA.out.kept c1 (by have := LT.out.2; omega)
        clear q1 c1 H C0 RA f1
        have i0 : w1.cell? ⟨p, 0, none⟩ = some (.int .i64 g.depth) := H1.out.sh.cell 0 (sh_get _ H1.out.len).1
        have z0 := H1.out.sh.frozen 0
        have i2 : w1.cell? ⟨p, 2, none⟩ = some (.int .i64 g.sum) := H1.out.sh.cell 2 (sh_get _ H1.out.len).2.2.1
        have z2 := H1.out.sh.frozen 2
        have i3 : w1.cell? ⟨p, 3, none⟩ = some (.int .i64 g.peak) := H1.out.sh.cell 3 (sh_get _ H1.out.len).2.2.2.1
        have z3 := H1.out.sh.frozen 3
        have i4 : w1.cell? ⟨p, 4, none⟩ = some (.int .i64 g.dip) := H1.out.sh.cell 4 (sh_get _ H1.out.len).2.2.2.2.1
        have z4 := H1.out.sh.frozen 4
        have i7 : w1.cell? ⟨p, 7, none⟩ = some (.int .i64 g.dropped) := H1.out.sh.cell 7 (sh_get _ H1.out.len).2.2.2.2.2.2.2
        have z7 := H1.out.sh.frozen 7
        have i5 : w1.cell? ⟨p, 5, none⟩ = some (.int .i64 (aN : Int)) := by rw [← haN]; exact H1.out.sh.cell 5 (sh_get _ H1.out.len).2.2.2.2.2.1
        have z5 := H1.out.sh.frozen 5
        have ir : w1.cell? ⟨p, 8 + aN, none⟩ = some (.int .i64 (g.ring.getD aN 0)) := H1.out.sh.ring aN ha8
        have zr := H1.out.sh.frozen (8 + aN)
        go_wp2_with fail
        go_quiet ((first | (go_at_call_of 43 b; exact Calls.quiet_of_same (KB.out _)) | (go_at_call_of 43 g.peak; exact Calls.quiet_of_same (KP.out _))))
        go_wp2_with fail
        have H2 : Hid (Sz ((w1.drewN nq).setCell ⟨p, 3, none⟩ (.int .i64 b)) p l { g with peak := b, c := g.c + dc, z := g.z }) := ((H1.out.drewN nq).setPeak b)
        have C2 : Hid (Chg (fun k => k = p ∨ k = l) w ((w1.drewN nq).setCell ⟨p, 3, none⟩ (.int .i64 b))) := (chg_at (C1.out.drewN nq) _ _)
        have R2 : Hid (Has 47 ((w1.drewN nq).setCell ⟨p, 3, none⟩ (.int .i64 b)) w.heap.size [.int .i64 0, .int .i64 0, .int .i64 0, .string ⟨#[]⟩]) := ((R1.out.drewN nq).setOther (a := ⟨p, 3, none⟩) (by have := LT.out.1; show p ≠ w.heap.size; omega) _)
        clear H1 C1 R1 i0 z0 i2 z2 i3 z3 i4 z4 i7 z7 i5 z5 ir zr
        generalize ((w1.drewN nq).setCell ⟨p, 3, none⟩ (.int .i64 b)) = w2 at H2 C2 R2 ⊢
        have i0 : w2.cell? ⟨p, 0, none⟩ = some (.int .i64 g.depth) := H2.out.sh.cell 0 (sh_get _ H2.out.len).1
        have z0 := H2.out.sh.frozen 0
        have i2 : w2.cell? ⟨p, 2, none⟩ = some (.int .i64 g.sum) := H2.out.sh.cell 2 (sh_get _ H2.out.len).2.2.1
        have z2 := H2.out.sh.frozen 2
        have i3 : w2.cell? ⟨p, 3, none⟩ = some (.int .i64 b) := H2.out.sh.cell 3 (sh_get _ H2.out.len).2.2.2.1
        have z3 := H2.out.sh.frozen 3
        have i4 : w2.cell? ⟨p, 4, none⟩ = some (.int .i64 g.dip) := H2.out.sh.cell 4 (sh_get _ H2.out.len).2.2.2.2.1
        have z4 := H2.out.sh.frozen 4
        have i7 : w2.cell? ⟨p, 7, none⟩ = some (.int .i64 g.dropped) := H2.out.sh.cell 7 (sh_get _ H2.out.len).2.2.2.2.2.2.2
        have z7 := H2.out.sh.frozen 7
        have i5 : w2.cell? ⟨p, 5, none⟩ = some (.int .i64 (aN : Int)) := by rw [← haN]; exact H2.out.sh.cell 5 (sh_get _ H2.out.len).2.2.2.2.2.1
        have z5 := H2.out.sh.frozen 5
        have ir : w2.cell? ⟨p, 8 + aN, none⟩ = some (.int .i64 (g.ring.getD aN 0)) := H2.out.sh.ring aN ha8
        have zr := H2.out.sh.frozen (8 + aN)
        have y0 : w2.cell? ⟨w.heap.size, 0, none⟩ = some (.int .i64 0) := R2.out.cell 0
        have x0 := R2.out.frozen 0
        have y1 : w2.cell? ⟨w.heap.size, 1, none⟩ = some (.int .i64 0) := R2.out.cell 1
        have x1 := R2.out.frozen 1
        have y2 : w2.cell? ⟨w.heap.size, 2, none⟩ = some (.int .i64 0) := R2.out.cell 2
        have x2 := R2.out.frozen 2
        have y3 : w2.cell? ⟨w.heap.size, 3, none⟩ = some (.string ⟨#[]⟩) := R2.out.cell 3
        have x3 := R2.out.frozen 3
        go_quiet ((first | (go_at_call_of 43 b; exact Calls.quiet_of_same (KB.out _)) | (go_at_call_of 43 g.dip; exact Calls.quiet_of_same (KD.out _))))
        go_wp2_with fail
        have H3 : Hid (Sz ((w2.drewN nq).setCell ⟨p, 2, none⟩ (.int .i64 SU)) p l { g with peak := b, dip := g.dip, sum := SU, c := g.c + dc, z := g.z }) := ((H2.out.drewN nq).setSum SU)
        have C3 : Hid (Chg (fun k => k = p ∨ k = l) w ((w2.drewN nq).setCell ⟨p, 2, none⟩ (.int .i64 SU))) := (chg_at (C2.out.drewN nq) _ _)
        have R3 : Hid (Has 47 ((w2.drewN nq).setCell ⟨p, 2, none⟩ (.int .i64 SU)) w.heap.size [.int .i64 0, .int .i64 0, .int .i64 0, .string ⟨#[]⟩]) := ((R2.out.drewN nq).setOther (a := ⟨p, 2, none⟩) (by have := LT.out.1; show p ≠ w.heap.size; omega) _)
        clear H2 C2 R2 i0 z0 i2 z2 i3 z3 i4 z4 i7 z7 i5 z5 ir zr y0 y1 y2 y3 x0 x1 x2 x3
        generalize ((w2.drewN nq).setCell ⟨p, 2, none⟩ (.int .i64 SU)) = w3 at H3 C3 R3 ⊢
        have i5 : w3.cell? ⟨p, 5, none⟩ = some (.int .i64 (aN : Int)) := by rw [← haN]; exact H3.out.sh.cell 5 (sh_get _ H3.out.len).2.2.2.2.2.1
        have z5 := H3.out.sh.frozen 5
        have ir : w3.cell? ⟨p, 8 + aN, none⟩ = some (.int .i64 (g.ring.getD aN 0)) := H3.out.sh.ring aN ha8
        have zr := H3.out.sh.frozen (8 + aN)
        have y0 : w3.cell? ⟨w.heap.size, 0, none⟩ = some (.int .i64 0) := R3.out.cell 0
        have x0 := R3.out.frozen 0
        have y1 : w3.cell? ⟨w.heap.size, 1, none⟩ = some (.int .i64 0) := R3.out.cell 1
        have x1 := R3.out.frozen 1
        have y2 : w3.cell? ⟨w.heap.size, 2, none⟩ = some (.int .i64 0) := R3.out.cell 2
        have x2 := R3.out.frozen 2
        have y3 : w3.cell? ⟨w.heap.size, 3, none⟩ = some (.string ⟨#[]⟩) := R3.out.cell 3
        have x3 := R3.out.frozen 3
        go_region
        go_wp2_with fail
        refine bodyPost_ret (by simp [results, Tryd.results41, go_sem, y0, y1, y2, y3]; try rfl) rfl ?_
        have lt := LT.out
        refine ⟨rfl, ?_, (((((chg_at (chg_at C3.out _ _) _ _).setCell (Or.inr (Nat.le_refl _)) _).setCell (Or.inr (Nat.le_refl _)) _).setCell (Or.inr (Nat.le_refl _)) _).setCell (Or.inr (Nat.le_refl _)) _).drew⟩
        rw [haN]; exact ((((((H3.out.setRing aN ha8 W).setAt (((aN : Int) + 1) % 8)).far lt (Nat.le_refl _) _).far lt (Nat.le_refl _) _).far lt (Nat.le_refl _) _).far lt (Nat.le_refl _) _).drew
  · rw [if_neg hP]
    by_cases hDd : kb < kd
    · rw [if_pos hDd]
      by_cases hZ : W = 0
      · subst hZ
        rw [if_pos rfl]
        go_enter Tryd.func41, Tryd.ntmps41
        go_wp2_with fail
        refine (HR.out _ H.out.cv).mono ?_; rintro e w1 ⟨rfl, q1, c1⟩
        have H1 : Hid (Sz w1 p l { g with c := g.c + dc, z := g.z }) := H.out.count c1 q1
        have C1 : Hid (Chg (fun k => k = p ∨ k = l) w w1) := C0.out.trans (c1.mono fun k _ e => Or.inr e)
        have R1 : Hid (Has 47 w1 w.heap.size [.int .i64 0, .int .i64 0, .int .i64 0, .string ⟨#[]⟩]) := RA.out.kept c1 (by have := LT.out.2; omega)
        clear q1 c1 H C0 RA f1
        have i0 : w1.cell? ⟨p, 0, none⟩ = some (.int .i64 g.depth) := H1.out.sh.cell 0 (sh_get _ H1.out.len).1
        have z0 := H1.out.sh.frozen 0
        have i2 : w1.cell? ⟨p, 2, none⟩ = some (.int .i64 g.sum) := H1.out.sh.cell 2 (sh_get _ H1.out.len).2.2.1
        have z2 := H1.out.sh.frozen 2
        have i3 : w1.cell? ⟨p, 3, none⟩ = some (.int .i64 g.peak) := H1.out.sh.cell 3 (sh_get _ H1.out.len).2.2.2.1
        have z3 := H1.out.sh.frozen 3
        have i4 : w1.cell? ⟨p, 4, none⟩ = some (.int .i64 g.dip) := H1.out.sh.cell 4 (sh_get _ H1.out.len).2.2.2.2.1
        have z4 := H1.out.sh.frozen 4
        have i7 : w1.cell? ⟨p, 7, none⟩ = some (.int .i64 g.dropped) := H1.out.sh.cell 7 (sh_get _ H1.out.len).2.2.2.2.2.2.2
        have z7 := H1.out.sh.frozen 7
        have i5 : w1.cell? ⟨p, 5, none⟩ = some (.int .i64 (aN : Int)) := by rw [← haN]; exact H1.out.sh.cell 5 (sh_get _ H1.out.len).2.2.2.2.2.1
        have z5 := H1.out.sh.frozen 5
        have ir : w1.cell? ⟨p, 8 + aN, none⟩ = some (.int .i64 (g.ring.getD aN 0)) := H1.out.sh.ring aN ha8
        have zr := H1.out.sh.frozen (8 + aN)
        go_wp2_with fail
        go_quiet ((first | (go_at_call_of 43 b; exact Calls.quiet_of_same (KB.out _)) | (go_at_call_of 43 g.peak; exact Calls.quiet_of_same (KP.out _))))
        go_wp2_with fail
        have H2 : Hid (Sz (w1.drewN nq) p l { g with c := g.c + dc, z := g.z }) := (H1.out.drewN nq)
        have C2 : Hid (Chg (fun k => k = p ∨ k = l) w (w1.drewN nq)) := (C1.out.drewN nq)
        have R2 : Hid (Has 47 (w1.drewN nq) w.heap.size [.int .i64 0, .int .i64 0, .int .i64 0, .string ⟨#[]⟩]) := (R1.out.drewN nq)
        clear H1 C1 R1 i0 z0 i2 z2 i3 z3 i4 z4 i7 z7 i5 z5 ir zr
        generalize (w1.drewN nq) = w2 at H2 C2 R2 ⊢
        have i0 : w2.cell? ⟨p, 0, none⟩ = some (.int .i64 g.depth) := H2.out.sh.cell 0 (sh_get _ H2.out.len).1
        have z0 := H2.out.sh.frozen 0
        have i2 : w2.cell? ⟨p, 2, none⟩ = some (.int .i64 g.sum) := H2.out.sh.cell 2 (sh_get _ H2.out.len).2.2.1
        have z2 := H2.out.sh.frozen 2
        have i3 : w2.cell? ⟨p, 3, none⟩ = some (.int .i64 g.peak) := H2.out.sh.cell 3 (sh_get _ H2.out.len).2.2.2.1
        have z3 := H2.out.sh.frozen 3
        have i4 : w2.cell? ⟨p, 4, none⟩ = some (.int .i64 g.dip) := H2.out.sh.cell 4 (sh_get _ H2.out.len).2.2.2.2.1
        have z4 := H2.out.sh.frozen 4
        have i7 : w2.cell? ⟨p, 7, none⟩ = some (.int .i64 g.dropped) := H2.out.sh.cell 7 (sh_get _ H2.out.len).2.2.2.2.2.2.2
        have z7 := H2.out.sh.frozen 7
        have i5 : w2.cell? ⟨p, 5, none⟩ = some (.int .i64 (aN : Int)) := by rw [← haN]; exact H2.out.sh.cell 5 (sh_get _ H2.out.len).2.2.2.2.2.1
        have z5 := H2.out.sh.frozen 5
        have ir : w2.cell? ⟨p, 8 + aN, none⟩ = some (.int .i64 (g.ring.getD aN 0)) := H2.out.sh.ring aN ha8
        have zr := H2.out.sh.frozen (8 + aN)
        have y0 : w2.cell? ⟨w.heap.size, 0, none⟩ = some (.int .i64 0) := R2.out.cell 0
        have x0 := R2.out.frozen 0
        have y1 : w2.cell? ⟨w.heap.size, 1, none⟩ = some (.int .i64 0) := R2.out.cell 1
        have x1 := R2.out.frozen 1
        have y2 : w2.cell? ⟨w.heap.size, 2, none⟩ = some (.int .i64 0) := R2.out.cell 2
        have x2 := R2.out.frozen 2
        have y3 : w2.cell? ⟨w.heap.size, 3, none⟩ = some (.string ⟨#[]⟩) := R2.out.cell 3
        have x3 := R2.out.frozen 3
        go_quiet ((first | (go_at_call_of 43 b; exact Calls.quiet_of_same (KB.out _)) | (go_at_call_of 43 g.dip; exact Calls.quiet_of_same (KD.out _))))
        go_wp2_with fail
        refine bodyPost_ret (by simp [results, Tryd.results41, go_sem, y0, y1, y2, y3]; try rfl) rfl ?_
        have lt := LT.out
        exact ⟨rfl, (((((((H2.out.drewN nq).setDip b).setDropped (g.dropped + 1)).far lt (Nat.le_refl _) _).far lt (Nat.le_refl _) _).far lt (Nat.le_refl _) _).far lt (Nat.le_refl _) _), (((((chg_at (chg_at (C2.out.drewN nq) _ _) _ _).setCell (Or.inr (Nat.le_refl _)) _).setCell (Or.inr (Nat.le_refl _)) _).setCell (Or.inr (Nat.le_refl _)) _).setCell (Or.inr (Nat.le_refl _)) _)⟩
      · rw [if_neg hZ]
        go_enter Tryd.func41, Tryd.ntmps41
        go_wp2_with fail
        refine (HR.out _ H.out.cv).mono ?_; rintro e w1 ⟨rfl, q1, c1⟩
        have H1 : Hid (Sz w1 p l { g with c := g.c + dc, z := g.z }) := H.out.count c1 q1
        have C1 : Hid (Chg (fun k => k = p ∨ k = l) w w1) := C0.out.trans (c1.mono fun k _ e => Or.inr e)
        have R1 : Hid (Has 47 w1 w.heap.size [.int .i64 0, .int .i64 0, .int .i64 0, .string ⟨#[]⟩]) := RA.out.kept c1 (by have := LT.out.2; omega)
        clear q1 c1 H C0 RA f1
        have i0 : w1.cell? ⟨p, 0, none⟩ = some (.int .i64 g.depth) := H1.out.sh.cell 0 (sh_get _ H1.out.len).1
        have z0 := H1.out.sh.frozen 0
        have i2 : w1.cell? ⟨p, 2, none⟩ = some (.int .i64 g.sum) := H1.out.sh.cell 2 (sh_get _ H1.out.len).2.2.1
        have z2 := H1.out.sh.frozen 2
        have i3 : w1.cell? ⟨p, 3, none⟩ = some (.int .i64 g.peak) := H1.out.sh.cell 3 (sh_get _ H1.out.len).2.2.2.1
        have z3 := H1.out.sh.frozen 3
        have i4 : w1.cell? ⟨p, 4, none⟩ = some (.int .i64 g.dip) := H1.out.sh.cell 4 (sh_get _ H1.out.len).2.2.2.2.1
        have z4 := H1.out.sh.frozen 4
        have i7 : w1.cell? ⟨p, 7, none⟩ = some (.int .i64 g.dropped) := H1.out.sh.cell 7 (sh_get _ H1.out.len).2.2.2.2.2.2.2
        have z7 := H1.out.sh.frozen 7
        have i5 : w1.cell? ⟨p, 5, none⟩ = some (.int .i64 (aN : Int)) := by rw [← haN]; exact H1.out.sh.cell 5 (sh_get _ H1.out.len).2.2.2.2.2.1
        have z5 := H1.out.sh.frozen 5
        have ir : w1.cell? ⟨p, 8 + aN, none⟩ = some (.int .i64 (g.ring.getD aN 0)) := H1.out.sh.ring aN ha8
        have zr := H1.out.sh.frozen (8 + aN)
        go_wp2_with fail
        go_quiet ((first | (go_at_call_of 43 b; exact Calls.quiet_of_same (KB.out _)) | (go_at_call_of 43 g.peak; exact Calls.quiet_of_same (KP.out _))))
        go_wp2_with fail
        have H2 : Hid (Sz (w1.drewN nq) p l { g with c := g.c + dc, z := g.z }) := (H1.out.drewN nq)
        have C2 : Hid (Chg (fun k => k = p ∨ k = l) w (w1.drewN nq)) := (C1.out.drewN nq)
        have R2 : Hid (Has 47 (w1.drewN nq) w.heap.size [.int .i64 0, .int .i64 0, .int .i64 0, .string ⟨#[]⟩]) := (R1.out.drewN nq)
        clear H1 C1 R1 i0 z0 i2 z2 i3 z3 i4 z4 i7 z7 i5 z5 ir zr
        generalize (w1.drewN nq) = w2 at H2 C2 R2 ⊢
        have i0 : w2.cell? ⟨p, 0, none⟩ = some (.int .i64 g.depth) := H2.out.sh.cell 0 (sh_get _ H2.out.len).1
        have z0 := H2.out.sh.frozen 0
        have i2 : w2.cell? ⟨p, 2, none⟩ = some (.int .i64 g.sum) := H2.out.sh.cell 2 (sh_get _ H2.out.len).2.2.1
        have z2 := H2.out.sh.frozen 2
        have i3 : w2.cell? ⟨p, 3, none⟩ = some (.int .i64 g.peak) := H2.out.sh.cell 3 (sh_get _ H2.out.len).2.2.2.1
        have z3 := H2.out.sh.frozen 3
        have i4 : w2.cell? ⟨p, 4, none⟩ = some (.int .i64 g.dip) := H2.out.sh.cell 4 (sh_get _ H2.out.len).2.2.2.2.1
        have z4 := H2.out.sh.frozen 4
        have i7 : w2.cell? ⟨p, 7, none⟩ = some (.int .i64 g.dropped) := H2.out.sh.cell 7 (sh_get _ H2.out.len).2.2.2.2.2.2.2
        have z7 := H2.out.sh.frozen 7
        have i5 : w2.cell? ⟨p, 5, none⟩ = some (.int .i64 (aN : Int)) := by rw [← haN]; exact H2.out.sh.cell 5 (sh_get _ H2.out.len).2.2.2.2.2.1
        have z5 := H2.out.sh.frozen 5
        have ir : w2.cell? ⟨p, 8 + aN, none⟩ = some (.int .i64 (g.ring.getD aN 0)) := H2.out.sh.ring aN ha8
        have zr := H2.out.sh.frozen (8 + aN)
        have y0 : w2.cell? ⟨w.heap.size, 0, none⟩ = some (.int .i64 0) := R2.out.cell 0
        have x0 := R2.out.frozen 0
        have y1 : w2.cell? ⟨w.heap.size, 1, none⟩ = some (.int .i64 0) := R2.out.cell 1
        have x1 := R2.out.frozen 1
        have y2 : w2.cell? ⟨w.heap.size, 2, none⟩ = some (.int .i64 0) := R2.out.cell 2
        have x2 := R2.out.frozen 2
        have y3 : w2.cell? ⟨w.heap.size, 3, none⟩ = some (.string ⟨#[]⟩) := R2.out.cell 3
        have x3 := R2.out.frozen 3
        go_quiet ((first | (go_at_call_of 43 b; exact Calls.quiet_of_same (KB.out _)) | (go_at_call_of 43 g.dip; exact Calls.quiet_of_same (KD.out _))))
        go_wp2_with fail
        have H3 : Hid (Sz (((w2.drewN nq).setCell ⟨p, 4, none⟩ (.int .i64 b)).setCell ⟨p, 2, none⟩ (.int .i64 SU)) p l { g with peak := g.peak, dip := b, sum := SU, c := g.c + dc, z := g.z }) := (((H2.out.drewN nq).setDip b).setSum SU)
        have C3 : Hid (Chg (fun k => k = p ∨ k = l) w (((w2.drewN nq).setCell ⟨p, 4, none⟩ (.int .i64 b)).setCell ⟨p, 2, none⟩ (.int .i64 SU))) := (chg_at (chg_at (C2.out.drewN nq) _ _) _ _)
        have R3 : Hid (Has 47 (((w2.drewN nq).setCell ⟨p, 4, none⟩ (.int .i64 b)).setCell ⟨p, 2, none⟩ (.int .i64 SU)) w.heap.size [.int .i64 0, .int .i64 0, .int .i64 0, .string ⟨#[]⟩]) := (((R2.out.drewN nq).setOther (a := ⟨p, 4, none⟩) (by have := LT.out.1; show p ≠ w.heap.size; omega) _).setOther (a := ⟨p, 2, none⟩) (by have := LT.out.1; show p ≠ w.heap.size; omega) _)
        clear H2 C2 R2 i0 z0 i2 z2 i3 z3 i4 z4 i7 z7 i5 z5 ir zr y0 y1 y2 y3 x0 x1 x2 x3
        generalize (((w2.drewN nq).setCell ⟨p, 4, none⟩ (.int .i64 b)).setCell ⟨p, 2, none⟩ (.int .i64 SU)) = w3 at H3 C3 R3 ⊢
        have i5 : w3.cell? ⟨p, 5, none⟩ = some (.int .i64 (aN : Int)) := by rw [← haN]; exact H3.out.sh.cell 5 (sh_get _ H3.out.len).2.2.2.2.2.1
        have z5 := H3.out.sh.frozen 5
        have ir : w3.cell? ⟨p, 8 + aN, none⟩ = some (.int .i64 (g.ring.getD aN 0)) := H3.out.sh.ring aN ha8
        have zr := H3.out.sh.frozen (8 + aN)
        have y0 : w3.cell? ⟨w.heap.size, 0, none⟩ = some (.int .i64 0) := R3.out.cell 0
        have x0 := R3.out.frozen 0
        have y1 : w3.cell? ⟨w.heap.size, 1, none⟩ = some (.int .i64 0) := R3.out.cell 1
        have x1 := R3.out.frozen 1
        have y2 : w3.cell? ⟨w.heap.size, 2, none⟩ = some (.int .i64 0) := R3.out.cell 2
        have x2 := R3.out.frozen 2
        have y3 : w3.cell? ⟨w.heap.size, 3, none⟩ = some (.string ⟨#[]⟩) := R3.out.cell 3
        have x3 := R3.out.frozen 3
        go_region
        go_wp2_with fail
        refine bodyPost_ret (by simp [results, Tryd.results41, go_sem, y0, y1, y2, y3]; try rfl) rfl ?_
        have lt := LT.out
        refine ⟨rfl, ?_, (((((chg_at (chg_at C3.out _ _) _ _).setCell (Or.inr (Nat.le_refl _)) _).setCell (Or.inr (Nat.le_refl _)) _).setCell (Or.inr (Nat.le_refl _)) _).setCell (Or.inr (Nat.le_refl _)) _).drew⟩
        rw [haN]; exact ((((((H3.out.setRing aN ha8 W).setAt (((aN : Int) + 1) % 8)).far lt (Nat.le_refl _) _).far lt (Nat.le_refl _) _).far lt (Nat.le_refl _) _).far lt (Nat.le_refl _) _).drew
    · rw [if_neg hDd]
      by_cases hZ : W = 0
      · subst hZ
        rw [if_pos rfl]
        go_enter Tryd.func41, Tryd.ntmps41
        go_wp2_with fail
        refine (HR.out _ H.out.cv).mono ?_; rintro e w1 ⟨rfl, q1, c1⟩
        have H1 : Hid (Sz w1 p l { g with c := g.c + dc, z := g.z }) := H.out.count c1 q1
        have C1 : Hid (Chg (fun k => k = p ∨ k = l) w w1) := C0.out.trans (c1.mono fun k _ e => Or.inr e)
        have R1 : Hid (Has 47 w1 w.heap.size [.int .i64 0, .int .i64 0, .int .i64 0, .string ⟨#[]⟩]) := RA.out.kept c1 (by have := LT.out.2; omega)
        clear q1 c1 H C0 RA f1
        have i0 : w1.cell? ⟨p, 0, none⟩ = some (.int .i64 g.depth) := H1.out.sh.cell 0 (sh_get _ H1.out.len).1
        have z0 := H1.out.sh.frozen 0
        have i2 : w1.cell? ⟨p, 2, none⟩ = some (.int .i64 g.sum) := H1.out.sh.cell 2 (sh_get _ H1.out.len).2.2.1
        have z2 := H1.out.sh.frozen 2
        have i3 : w1.cell? ⟨p, 3, none⟩ = some (.int .i64 g.peak) := H1.out.sh.cell 3 (sh_get _ H1.out.len).2.2.2.1
        have z3 := H1.out.sh.frozen 3
        have i4 : w1.cell? ⟨p, 4, none⟩ = some (.int .i64 g.dip) := H1.out.sh.cell 4 (sh_get _ H1.out.len).2.2.2.2.1
        have z4 := H1.out.sh.frozen 4
        have i7 : w1.cell? ⟨p, 7, none⟩ = some (.int .i64 g.dropped) := H1.out.sh.cell 7 (sh_get _ H1.out.len).2.2.2.2.2.2.2
        have z7 := H1.out.sh.frozen 7
        have i5 : w1.cell? ⟨p, 5, none⟩ = some (.int .i64 (aN : Int)) := by rw [← haN]; exact H1.out.sh.cell 5 (sh_get _ H1.out.len).2.2.2.2.2.1
        have z5 := H1.out.sh.frozen 5
        have ir : w1.cell? ⟨p, 8 + aN, none⟩ = some (.int .i64 (g.ring.getD aN 0)) := H1.out.sh.ring aN ha8
        have zr := H1.out.sh.frozen (8 + aN)
        go_wp2_with fail
        go_quiet ((first | (go_at_call_of 43 b; exact Calls.quiet_of_same (KB.out _)) | (go_at_call_of 43 g.peak; exact Calls.quiet_of_same (KP.out _))))
        go_wp2_with fail
        have H2 : Hid (Sz (w1.drewN nq) p l { g with c := g.c + dc, z := g.z }) := (H1.out.drewN nq)
        have C2 : Hid (Chg (fun k => k = p ∨ k = l) w (w1.drewN nq)) := (C1.out.drewN nq)
        have R2 : Hid (Has 47 (w1.drewN nq) w.heap.size [.int .i64 0, .int .i64 0, .int .i64 0, .string ⟨#[]⟩]) := (R1.out.drewN nq)
        clear H1 C1 R1 i0 z0 i2 z2 i3 z3 i4 z4 i7 z7 i5 z5 ir zr
        generalize (w1.drewN nq) = w2 at H2 C2 R2 ⊢
        have i0 : w2.cell? ⟨p, 0, none⟩ = some (.int .i64 g.depth) := H2.out.sh.cell 0 (sh_get _ H2.out.len).1
        have z0 := H2.out.sh.frozen 0
        have i2 : w2.cell? ⟨p, 2, none⟩ = some (.int .i64 g.sum) := H2.out.sh.cell 2 (sh_get _ H2.out.len).2.2.1
        have z2 := H2.out.sh.frozen 2
        have i3 : w2.cell? ⟨p, 3, none⟩ = some (.int .i64 g.peak) := H2.out.sh.cell 3 (sh_get _ H2.out.len).2.2.2.1
        have z3 := H2.out.sh.frozen 3
        have i4 : w2.cell? ⟨p, 4, none⟩ = some (.int .i64 g.dip) := H2.out.sh.cell 4 (sh_get _ H2.out.len).2.2.2.2.1
        have z4 := H2.out.sh.frozen 4
        have i7 : w2.cell? ⟨p, 7, none⟩ = some (.int .i64 g.dropped) := H2.out.sh.cell 7 (sh_get _ H2.out.len).2.2.2.2.2.2.2
        have z7 := H2.out.sh.frozen 7
        have i5 : w2.cell? ⟨p, 5, none⟩ = some (.int .i64 (aN : Int)) := by rw [← haN]; exact H2.out.sh.cell 5 (sh_get _ H2.out.len).2.2.2.2.2.1
        have z5 := H2.out.sh.frozen 5
        have ir : w2.cell? ⟨p, 8 + aN, none⟩ = some (.int .i64 (g.ring.getD aN 0)) := H2.out.sh.ring aN ha8
        have zr := H2.out.sh.frozen (8 + aN)
        have y0 : w2.cell? ⟨w.heap.size, 0, none⟩ = some (.int .i64 0) := R2.out.cell 0
        have x0 := R2.out.frozen 0
        have y1 : w2.cell? ⟨w.heap.size, 1, none⟩ = some (.int .i64 0) := R2.out.cell 1
        have x1 := R2.out.frozen 1
        have y2 : w2.cell? ⟨w.heap.size, 2, none⟩ = some (.int .i64 0) := R2.out.cell 2
        have x2 := R2.out.frozen 2
        have y3 : w2.cell? ⟨w.heap.size, 3, none⟩ = some (.string ⟨#[]⟩) := R2.out.cell 3
        have x3 := R2.out.frozen 3
        go_quiet ((first | (go_at_call_of 43 b; exact Calls.quiet_of_same (KB.out _)) | (go_at_call_of 43 g.dip; exact Calls.quiet_of_same (KD.out _))))
        go_wp2_with fail
        refine bodyPost_ret (by simp [results, Tryd.results41, go_sem, y0, y1, y2, y3]; try rfl) rfl ?_
        have lt := LT.out
        exact ⟨rfl, ((((((H2.out.drewN nq).setDropped (g.dropped + 1)).far lt (Nat.le_refl _) _).far lt (Nat.le_refl _) _).far lt (Nat.le_refl _) _).far lt (Nat.le_refl _) _), (((((chg_at (C2.out.drewN nq) _ _).setCell (Or.inr (Nat.le_refl _)) _).setCell (Or.inr (Nat.le_refl _)) _).setCell (Or.inr (Nat.le_refl _)) _).setCell (Or.inr (Nat.le_refl _)) _)⟩
      · rw [if_neg hZ]
        go_enter Tryd.func41, Tryd.ntmps41
        go_wp2_with fail
        refine (HR.out _ H.out.cv).mono ?_; rintro e w1 ⟨rfl, q1, c1⟩
        have H1 : Hid (Sz w1 p l { g with c := g.c + dc, z := g.z }) := H.out.count c1 q1
        have C1 : Hid (Chg (fun k => k = p ∨ k = l) w w1) := C0.out.trans (c1.mono fun k _ e => Or.inr e)
        have R1 : Hid (Has 47 w1 w.heap.size [.int .i64 0, .int .i64 0, .int .i64 0, .string ⟨#[]⟩]) := RA.out.kept c1 (by have := LT.out.2; omega)
        clear q1 c1 H C0 RA f1
        have i0 : w1.cell? ⟨p, 0, none⟩ = some (.int .i64 g.depth) := H1.out.sh.cell 0 (sh_get _ H1.out.len).1
        have z0 := H1.out.sh.frozen 0
        have i2 : w1.cell? ⟨p, 2, none⟩ = some (.int .i64 g.sum) := H1.out.sh.cell 2 (sh_get _ H1.out.len).2.2.1
        have z2 := H1.out.sh.frozen 2
        have i3 : w1.cell? ⟨p, 3, none⟩ = some (.int .i64 g.peak) := H1.out.sh.cell 3 (sh_get _ H1.out.len).2.2.2.1
        have z3 := H1.out.sh.frozen 3
        have i4 : w1.cell? ⟨p, 4, none⟩ = some (.int .i64 g.dip) := H1.out.sh.cell 4 (sh_get _ H1.out.len).2.2.2.2.1
        have z4 := H1.out.sh.frozen 4
        have i7 : w1.cell? ⟨p, 7, none⟩ = some (.int .i64 g.dropped) := H1.out.sh.cell 7 (sh_get _ H1.out.len).2.2.2.2.2.2.2
        have z7 := H1.out.sh.frozen 7
        have i5 : w1.cell? ⟨p, 5, none⟩ = some (.int .i64 (aN : Int)) := by rw [← haN]; exact H1.out.sh.cell 5 (sh_get _ H1.out.len).2.2.2.2.2.1
        have z5 := H1.out.sh.frozen 5
        have ir : w1.cell? ⟨p, 8 + aN, none⟩ = some (.int .i64 (g.ring.getD aN 0)) := H1.out.sh.ring aN ha8
        have zr := H1.out.sh.frozen (8 + aN)
        go_wp2_with fail
        go_quiet ((first | (go_at_call_of 43 b; exact Calls.quiet_of_same (KB.out _)) | (go_at_call_of 43 g.peak; exact Calls.quiet_of_same (KP.out _))))
        go_wp2_with fail
        have H2 : Hid (Sz (w1.drewN nq) p l { g with c := g.c + dc, z := g.z }) := (H1.out.drewN nq)
        have C2 : Hid (Chg (fun k => k = p ∨ k = l) w (w1.drewN nq)) := (C1.out.drewN nq)
        have R2 : Hid (Has 47 (w1.drewN nq) w.heap.size [.int .i64 0, .int .i64 0, .int .i64 0, .string ⟨#[]⟩]) := (R1.out.drewN nq)
        clear H1 C1 R1 i0 z0 i2 z2 i3 z3 i4 z4 i7 z7 i5 z5 ir zr
        generalize (w1.drewN nq) = w2 at H2 C2 R2 ⊢
        have i0 : w2.cell? ⟨p, 0, none⟩ = some (.int .i64 g.depth) := H2.out.sh.cell 0 (sh_get _ H2.out.len).1
        have z0 := H2.out.sh.frozen 0
        have i2 : w2.cell? ⟨p, 2, none⟩ = some (.int .i64 g.sum) := H2.out.sh.cell 2 (sh_get _ H2.out.len).2.2.1
        have z2 := H2.out.sh.frozen 2
        have i3 : w2.cell? ⟨p, 3, none⟩ = some (.int .i64 g.peak) := H2.out.sh.cell 3 (sh_get _ H2.out.len).2.2.2.1
        have z3 := H2.out.sh.frozen 3
        have i4 : w2.cell? ⟨p, 4, none⟩ = some (.int .i64 g.dip) := H2.out.sh.cell 4 (sh_get _ H2.out.len).2.2.2.2.1
        have z4 := H2.out.sh.frozen 4
        have i7 : w2.cell? ⟨p, 7, none⟩ = some (.int .i64 g.dropped) := H2.out.sh.cell 7 (sh_get _ H2.out.len).2.2.2.2.2.2.2
        have z7 := H2.out.sh.frozen 7
        have i5 : w2.cell? ⟨p, 5, none⟩ = some (.int .i64 (aN : Int)) := by rw [← haN]; exact H2.out.sh.cell 5 (sh_get _ H2.out.len).2.2.2.2.2.1
        have z5 := H2.out.sh.frozen 5
        have ir : w2.cell? ⟨p, 8 + aN, none⟩ = some (.int .i64 (g.ring.getD aN 0)) := H2.out.sh.ring aN ha8
        have zr := H2.out.sh.frozen (8 + aN)
        have y0 : w2.cell? ⟨w.heap.size, 0, none⟩ = some (.int .i64 0) := R2.out.cell 0
        have x0 := R2.out.frozen 0
        have y1 : w2.cell? ⟨w.heap.size, 1, none⟩ = some (.int .i64 0) := R2.out.cell 1
        have x1 := R2.out.frozen 1
        have y2 : w2.cell? ⟨w.heap.size, 2, none⟩ = some (.int .i64 0) := R2.out.cell 2
        have x2 := R2.out.frozen 2
        have y3 : w2.cell? ⟨w.heap.size, 3, none⟩ = some (.string ⟨#[]⟩) := R2.out.cell 3
        have x3 := R2.out.frozen 3
        go_quiet ((first | (go_at_call_of 43 b; exact Calls.quiet_of_same (KB.out _)) | (go_at_call_of 43 g.dip; exact Calls.quiet_of_same (KD.out _))))
        go_wp2_with fail
        have H3 : Hid (Sz ((w2.drewN nq).setCell ⟨p, 2, none⟩ (.int .i64 SU)) p l { g with peak := g.peak, dip := g.dip, sum := SU, c := g.c + dc, z := g.z }) := ((H2.out.drewN nq).setSum SU)
        have C3 : Hid (Chg (fun k => k = p ∨ k = l) w ((w2.drewN nq).setCell ⟨p, 2, none⟩ (.int .i64 SU))) := (chg_at (C2.out.drewN nq) _ _)
        have R3 : Hid (Has 47 ((w2.drewN nq).setCell ⟨p, 2, none⟩ (.int .i64 SU)) w.heap.size [.int .i64 0, .int .i64 0, .int .i64 0, .string ⟨#[]⟩]) := ((R2.out.drewN nq).setOther (a := ⟨p, 2, none⟩) (by have := LT.out.1; show p ≠ w.heap.size; omega) _)
        clear H2 C2 R2 i0 z0 i2 z2 i3 z3 i4 z4 i7 z7 i5 z5 ir zr y0 y1 y2 y3 x0 x1 x2 x3
        generalize ((w2.drewN nq).setCell ⟨p, 2, none⟩ (.int .i64 SU)) = w3 at H3 C3 R3 ⊢
        have i5 : w3.cell? ⟨p, 5, none⟩ = some (.int .i64 (aN : Int)) := by rw [← haN]; exact H3.out.sh.cell 5 (sh_get _ H3.out.len).2.2.2.2.2.1
        have z5 := H3.out.sh.frozen 5
        have ir : w3.cell? ⟨p, 8 + aN, none⟩ = some (.int .i64 (g.ring.getD aN 0)) := H3.out.sh.ring aN ha8
        have zr := H3.out.sh.frozen (8 + aN)
        have y0 : w3.cell? ⟨w.heap.size, 0, none⟩ = some (.int .i64 0) := R3.out.cell 0
        have x0 := R3.out.frozen 0
        have y1 : w3.cell? ⟨w.heap.size, 1, none⟩ = some (.int .i64 0) := R3.out.cell 1
        have x1 := R3.out.frozen 1
        have y2 : w3.cell? ⟨w.heap.size, 2, none⟩ = some (.int .i64 0) := R3.out.cell 2
        have x2 := R3.out.frozen 2
        have y3 : w3.cell? ⟨w.heap.size, 3, none⟩ = some (.string ⟨#[]⟩) := R3.out.cell 3
        have x3 := R3.out.frozen 3
        go_region
        go_wp2_with fail
        refine bodyPost_ret (by simp [results, Tryd.results41, go_sem, y0, y1, y2, y3]; try rfl) rfl ?_
        have lt := LT.out
        refine ⟨rfl, ?_, (((((chg_at (chg_at C3.out _ _) _ _).setCell (Or.inr (Nat.le_refl _)) _).setCell (Or.inr (Nat.le_refl _)) _).setCell (Or.inr (Nat.le_refl _)) _).setCell (Or.inr (Nat.le_refl _)) _).drew⟩
        rw [haN]; exact ((((((H3.out.setRing aN ha8 W).setAt (((aN : Int) + 1) % 8)).far lt (Nat.le_refl _) _).far lt (Nat.le_refl _) _).far lt (Nat.le_refl _) _).far lt (Nat.le_refl _) _).drew
end Go.Proofs.Qxb6500376aDoor

/- KeepsQuiet: due, kind by kind (written by tools/gendue.py). -/
import Derived.Test.Qxb6500376aDoorKqFar
namespace Go.Proofs.Qxb6500376aDoor
set_option linter.unusedVariables false
set_option linter.unusedSimpArgs false
set_option maxHeartbeats 4000000
set_option maxRecDepth 100000
open Go.RowKit Go.Qu Ieee
theorem due_10c (p l : Nat) (g : PS) (n : Int) (a b cc : Int) (s t : ByteArray) (w : World) (hg : Good g n) (hn : n ≤ 4611686018427387904) (ha : I64 a) (hb : I64 b) (h : Sz w p l g) (e1 : 0 ≤ a) (e2 : a < 8) :
    Calls Tryd.prog 20 #[.pointer (some ⟨l, 0, none⟩), .pointer (some ⟨p, 0, none⟩), opV 10 a b cc s t] w fun e w' => e = .returned (ansV 0 (a * 6 + (g.seq + 1)) 0 ⟨#[]⟩) ∧ Sz w' p l { g with seq := g.seq + 1 } ∧ Chg (fun k => k = p ∨ k = l) w w' := by
  unfold opV
  obtain ⟨T1, T2, T3⟩ := frame3 (T := 47) w (.cells #[.int .i64 10, .int .i64 a, .int .i64 b, .int .i64 cc, .string s, .string t] 50) [.int .i64 0, .int .i64 0, .int .i64 0, .string ⟨#[]⟩] [.int .i64 0, .int .i64 0, .int .i64 0, .string ⟨#[]⟩]
  have T0 := frame4 (T := 47) (U := 50) w [.int .i64 10, .int .i64 a, .int .i64 b, .int .i64 cc, .string s, .string t] [.int .i64 0, .int .i64 0, .int .i64 0, .string ⟨#[]⟩] [.int .i64 0, .int .i64 0, .int .i64 0, .string ⟨#[]⟩]
  have hp := h.sh.obj.lt
  have hl := Has.lt h.cv
  have LT : Hid (p < w.heap.size ∧ l < w.heap.size) := ⟨hp, hl⟩
  have H0 : Hid (Sz (((w.alloc (.cells #[.int .i64 10, .int .i64 a, .int .i64 b, .int .i64 cc, .string s, .string t] 50)).alloc (.cells #[.int .i64 0, .int .i64 0, .int .i64 0, .string ⟨#[]⟩] 47)).alloc (.cells #[.int .i64 0, .int .i64 0, .int .i64 0, .string ⟨#[]⟩] 47)) p l g) := h.nil T3
  have C0 : Hid (Chg (fun k => k = p ∨ k = l) w (((w.alloc (.cells #[.int .i64 10, .int .i64 a, .int .i64 b, .int .i64 cc, .string s, .string t] 50)).alloc (.cells #[.int .i64 0, .int .i64 0, .int .i64 0, .string ⟨#[]⟩] 47)).alloc (.cells #[.int .i64 0, .int .i64 0, .int .i64 0, .string ⟨#[]⟩] 47))) := chg_0 T3
  have HG : Hid (Good g n ∧ n ≤ 4611686018427387904 ∧ I64 a ∧ I64 b) := ⟨hg, hn, ha, hb⟩
  have i0 : w.cell? ⟨p, 0, none⟩ = some (.int .i64 g.depth) := h.sh.cell 0 (sh_get g h.len).1
  have z0 := h.sh.frozen 0
  have i1 : w.cell? ⟨p, 1, none⟩ = some (.int .i64 g.mode) := h.sh.cell 1 (sh_get g h.len).2.1
  have z1 := h.sh.frozen 1
  have i2 : w.cell? ⟨p, 2, none⟩ = some (.int .i64 g.sum) := h.sh.cell 2 (sh_get g h.len).2.2.1
  have z2 := h.sh.frozen 2
  have i3 : w.cell? ⟨p, 3, none⟩ = some (.int .i64 g.peak) := h.sh.cell 3 (sh_get g h.len).2.2.2.1
  have z3 := h.sh.frozen 3
  have i4 : w.cell? ⟨p, 4, none⟩ = some (.int .i64 g.dip) := h.sh.cell 4 (sh_get g h.len).2.2.2.2.1
  have z4 := h.sh.frozen 4
  have i5 : w.cell? ⟨p, 5, none⟩ = some (.int .i64 g.at_) := h.sh.cell 5 (sh_get g h.len).2.2.2.2.2.1
  have z5 := h.sh.frozen 5
  have i6 : w.cell? ⟨p, 6, none⟩ = some (.int .i64 g.seq) := h.sh.cell 6 (sh_get g h.len).2.2.2.2.2.2.1
  have z6 := h.sh.frozen 6
  have i7 : w.cell? ⟨p, 7, none⟩ = some (.int .i64 g.dropped) := h.sh.cell 7 (sh_get g h.len).2.2.2.2.2.2.2
  have z7 := h.sh.frozen 7
  have kA : ∀ (W : World) (i j : Nat) (v : Value), (W.setCell ⟨p, i, none⟩ v).cell? ⟨w.heap.size + 1, j, none⟩ = W.cell? ⟨w.heap.size + 1, j, none⟩ := fun W i j v => far_cell W (by omega) i j v
  have kAp : ∀ (W : World) (i j : Nat) (v : Value), (W.setCell ⟨w.heap.size + 1, i, none⟩ v).cell? ⟨p, j, none⟩ = W.cell? ⟨p, j, none⟩ := fun W i j v => far_cell W (by omega) i j v
  have kB : ∀ (W : World) (i j : Nat) (v : Value), (W.setCell ⟨p, i, none⟩ v).cell? ⟨w.heap.size + 1 + 1, j, none⟩ = W.cell? ⟨w.heap.size + 1 + 1, j, none⟩ := fun W i j v => far_cell W (by omega) i j v
  have kBp : ∀ (W : World) (i j : Nat) (v : Value), (W.setCell ⟨w.heap.size + 1 + 1, i, none⟩ v).cell? ⟨p, j, none⟩ = W.cell? ⟨p, j, none⟩ := fun W i j v => far_cell W (by omega) i j v
  have kO : ∀ (W : World) (i j : Nat) (v : Value), (W.setCell ⟨p, i, none⟩ v).cell? ⟨w.heap.size, j, none⟩ = W.cell? ⟨w.heap.size, j, none⟩ := fun W i j v => far_cell W (by omega) i j v
  have kOp : ∀ (W : World) (i j : Nat) (v : Value), (W.setCell ⟨w.heap.size, i, none⟩ v).cell? ⟨p, j, none⟩ = W.cell? ⟨p, j, none⟩ := fun W i j v => far_cell W (by omega) i j v
  have kF : ∀ (o1 o2 o3 : Obj) (j : Nat), (((w.alloc o1).alloc o2).alloc o3).cell? ⟨p, j, none⟩ = w.cell? ⟨p, j, none⟩ := fun o1 o2 o3 j => (((h.sh.obj.alloc o1).alloc o2).alloc o3).cell j |>.trans (h.sh.obj.cell j).symm
  have zF : ∀ (o1 o2 o3 : Obj) (j : Nat), (((w.alloc o1).alloc o2).alloc o3).frozen? ⟨p, j, none⟩ = false := fun o1 o2 o3 j => (((h.sh.obj.alloc o1).alloc o2).alloc o3).frozen j
  have HW : Hid (Sz w p l g) := h
  have q0 := hg.q0; have r0 := hg.r0; have A0 := hg.a0; have A8 := hg.a8
  have q1 : g.seq ≤ 4611686018427387904 := by have := hg.q1; omega
  have r1 : g.dropped ≤ 4611686018427387904 := by have := hg.r1; omega
  clear h hg hn ha hb hl
  go_enter Tryd.func20, Tryd.ntmps20
  go_wp2_with fail
  have H2 : Hid (Sz ((((w.alloc (.cells #[.int .i64 10, .int .i64 a, .int .i64 b, .int .i64 cc, .string s, .string t] 50)).alloc (.cells #[.int .i64 0, .int .i64 0, .int .i64 0, .string ⟨#[]⟩] 47)).alloc (.cells #[.int .i64 0, .int .i64 0, .int .i64 0, .string ⟨#[]⟩] 47)).setCell ⟨p, 6, none⟩ (.int .i64 (g.seq + 1))) p l { g with seq := g.seq + 1 }) := ((HW.out.nil ((((Chg.refl _ w).alloc _).alloc _).alloc _)).setSeq (g.seq + 1))
  have C2 : Hid (Chg (fun k => k = p ∨ k = l) w ((((w.alloc (.cells #[.int .i64 10, .int .i64 a, .int .i64 b, .int .i64 cc, .string s, .string t] 50)).alloc (.cells #[.int .i64 0, .int .i64 0, .int .i64 0, .string ⟨#[]⟩] 47)).alloc (.cells #[.int .i64 0, .int .i64 0, .int .i64 0, .string ⟨#[]⟩] 47)).setCell ⟨p, 6, none⟩ (.int .i64 (g.seq + 1)))) := (chg_at ((((Chg.refl _ w).alloc _).alloc _).alloc _) _ _)
  have O2 : Hid (Has 50 ((((w.alloc (.cells #[.int .i64 10, .int .i64 a, .int .i64 b, .int .i64 cc, .string s, .string t] 50)).alloc (.cells #[.int .i64 0, .int .i64 0, .int .i64 0, .string ⟨#[]⟩] 47)).alloc (.cells #[.int .i64 0, .int .i64 0, .int .i64 0, .string ⟨#[]⟩] 47)).setCell ⟨p, 6, none⟩ (.int .i64 (g.seq + 1))) w.heap.size [.int .i64 10, .int .i64 a, .int .i64 b, .int .i64 cc, .string s, .string t]) := (Has.setOther T0 (a := ⟨p, 6, none⟩) (by show p ≠ _; omega) _)
  have R2 : Hid (Has 47 ((((w.alloc (.cells #[.int .i64 10, .int .i64 a, .int .i64 b, .int .i64 cc, .string s, .string t] 50)).alloc (.cells #[.int .i64 0, .int .i64 0, .int .i64 0, .string ⟨#[]⟩] 47)).alloc (.cells #[.int .i64 0, .int .i64 0, .int .i64 0, .string ⟨#[]⟩] 47)).setCell ⟨p, 6, none⟩ (.int .i64 (g.seq + 1))) (w.heap.size + 1) [.int .i64 0, .int .i64 0, .int .i64 0, .string ⟨#[]⟩]) := (Has.setOther T1 (a := ⟨p, 6, none⟩) (by show p ≠ _; omega) _)
  have L2 : Hid (Has 47 ((((w.alloc (.cells #[.int .i64 10, .int .i64 a, .int .i64 b, .int .i64 cc, .string s, .string t] 50)).alloc (.cells #[.int .i64 0, .int .i64 0, .int .i64 0, .string ⟨#[]⟩] 47)).alloc (.cells #[.int .i64 0, .int .i64 0, .int .i64 0, .string ⟨#[]⟩] 47)).setCell ⟨p, 6, none⟩ (.int .i64 (g.seq + 1))) (w.heap.size + 1 + 1) [.int .i64 0, .int .i64 0, .int .i64 0, .string ⟨#[]⟩]) := (Has.setOther T2 (a := ⟨p, 6, none⟩) (by show p ≠ _; omega) _)
  clear T0 T1 T2 T3 H0 C0 i0 i1 i2 i3 i4 i5 i6 i7 z0 z1 z2 z3 z4 z5 z6 z7 kF zF
  generalize ((((w.alloc (.cells #[.int .i64 10, .int .i64 a, .int .i64 b, .int .i64 cc, .string s, .string t] 50)).alloc (.cells #[.int .i64 0, .int .i64 0, .int .i64 0, .string ⟨#[]⟩] 47)).alloc (.cells #[.int .i64 0, .int .i64 0, .int .i64 0, .string ⟨#[]⟩] 47)).setCell ⟨p, 6, none⟩ (.int .i64 (g.seq + 1))) = w2 at H2 C2 O2 R2 L2 ⊢
  have i0 : w2.cell? ⟨p, 0, none⟩ = some (.int .i64 g.depth) := H2.out.sh.cell 0 (sh_get _ H2.out.len).1
  have z0 := H2.out.sh.frozen 0
  have i1 : w2.cell? ⟨p, 1, none⟩ = some (.int .i64 g.mode) := H2.out.sh.cell 1 (sh_get _ H2.out.len).2.1
  have z1 := H2.out.sh.frozen 1
  have i2 : w2.cell? ⟨p, 2, none⟩ = some (.int .i64 g.sum) := H2.out.sh.cell 2 (sh_get _ H2.out.len).2.2.1
  have z2 := H2.out.sh.frozen 2
  have i3 : w2.cell? ⟨p, 3, none⟩ = some (.int .i64 g.peak) := H2.out.sh.cell 3 (sh_get _ H2.out.len).2.2.2.1
  have z3 := H2.out.sh.frozen 3
  have i4 : w2.cell? ⟨p, 4, none⟩ = some (.int .i64 g.dip) := H2.out.sh.cell 4 (sh_get _ H2.out.len).2.2.2.2.1
  have z4 := H2.out.sh.frozen 4
  have i5 : w2.cell? ⟨p, 5, none⟩ = some (.int .i64 g.at_) := H2.out.sh.cell 5 (sh_get _ H2.out.len).2.2.2.2.2.1
  have z5 := H2.out.sh.frozen 5
  have i6 : w2.cell? ⟨p, 6, none⟩ = some (.int .i64 (g.seq + 1)) := H2.out.sh.cell 6 (sh_get _ H2.out.len).2.2.2.2.2.2.1
  have z6 := H2.out.sh.frozen 6
  have i7 : w2.cell? ⟨p, 7, none⟩ = some (.int .i64 g.dropped) := H2.out.sh.cell 7 (sh_get _ H2.out.len).2.2.2.2.2.2.2
  have z7 := H2.out.sh.frozen 7
  have f0 := R2.out.frozen 0
  have u0 : w2.cell? ⟨w.heap.size + 1, 0, none⟩ = some (.int .i64 0) := R2.out.cell 0
  have g0 := L2.out.frozen 0
  have v0 : w2.cell? ⟨w.heap.size + 1 + 1, 0, none⟩ = some (.int .i64 0) := L2.out.cell 0
  have f1 := R2.out.frozen 1
  have u1 : w2.cell? ⟨w.heap.size + 1, 1, none⟩ = some (.int .i64 0) := R2.out.cell 1
  have g1 := L2.out.frozen 1
  have v1 : w2.cell? ⟨w.heap.size + 1 + 1, 1, none⟩ = some (.int .i64 0) := L2.out.cell 1
  have f2 := R2.out.frozen 2
  have u2 : w2.cell? ⟨w.heap.size + 1, 2, none⟩ = some (.int .i64 0) := R2.out.cell 2
  have g2 := L2.out.frozen 2
  have v2 : w2.cell? ⟨w.heap.size + 1 + 1, 2, none⟩ = some (.int .i64 0) := L2.out.cell 2
  have f3 := R2.out.frozen 3
  have u3 : w2.cell? ⟨w.heap.size + 1, 3, none⟩ = some (.string ⟨#[]⟩) := R2.out.cell 3
  have g3 := L2.out.frozen 3
  have v3 : w2.cell? ⟨w.heap.size + 1 + 1, 3, none⟩ = some (.string ⟨#[]⟩) := L2.out.cell 3
  have o1 : w2.cell? ⟨w.heap.size, 1, none⟩ = some (.int .i64 a) := O2.out.cell 1
  have o2 : w2.cell? ⟨w.heap.size, 2, none⟩ = some (.int .i64 b) := O2.out.cell 2
  clear kA kAp kB kBp kO kOp
  go_region
  go_wp2_with fail
  refine bodyPost_ret (by simp [results, Tryd.results20, go_sem, u0, u1, u2, u3]; try rfl) rfl ?_
  have lt := LT.out
  exact ⟨rfl, (((((H2.out.far lt (by first | omega | (dsimp only; omega)) _).far lt (by first | omega | (dsimp only; omega)) _).far lt (by first | omega | (dsimp only; omega)) _).far lt (by first | omega | (dsimp only; omega)) _).far lt (by first | omega | (dsimp only; omega)) _).drew, (((((C2.out.setCell (Or.inr (by first | omega | (dsimp only; omega))) _).setCell (Or.inr (by first | omega | (dsimp only; omega))) _).setCell (Or.inr (by first | omega | (dsimp only; omega))) _).setCell (Or.inr (by first | omega | (dsimp only; omega))) _).setCell (Or.inr (by first | omega | (dsimp only; omega))) _).drew⟩

theorem due_16 (p l : Nat) (g : PS) (n : Int) (a b cc : Int) (s t : ByteArray) (w : World) (hg : Good g n) (hn : n ≤ 4611686018427387904) (ha : I64 a) (hb : I64 b) (h : Sz w p l g) :
    Calls Tryd.prog 20 #[.pointer (some ⟨l, 0, none⟩), .pointer (some ⟨p, 0, none⟩), opV 16 a b cc s t] w fun e w' => e = .returned (ansV (fedP g a (wrap32 b)).1.e (fedP g a (wrap32 b)).1.n (fedP g a (wrap32 b)).1.k ⟨#[]⟩) ∧ Sz w' p l (fedP g a (wrap32 b)).2 ∧ Chg (fun k => k = p ∨ k = l) w w' := by
  unfold opV
  obtain ⟨T1, T2, T3⟩ := frame3 (T := 47) w (.cells #[.int .i64 16, .int .i64 a, .int .i64 b, .int .i64 cc, .string s, .string t] 50) [.int .i64 0, .int .i64 0, .int .i64 0, .string ⟨#[]⟩] [.int .i64 0, .int .i64 0, .int .i64 0, .string ⟨#[]⟩]
  have T0 := frame4 (T := 47) (U := 50) w [.int .i64 16, .int .i64 a, .int .i64 b, .int .i64 cc, .string s, .string t] [.int .i64 0, .int .i64 0, .int .i64 0, .string ⟨#[]⟩] [.int .i64 0, .int .i64 0, .int .i64 0, .string ⟨#[]⟩]
  have hp := h.sh.obj.lt
  have hl := Has.lt h.cv
  have LT : Hid (p < w.heap.size ∧ l < w.heap.size) := ⟨hp, hl⟩
  have H0 : Hid (Sz (((w.alloc (.cells #[.int .i64 16, .int .i64 a, .int .i64 b, .int .i64 cc, .string s, .string t] 50)).alloc (.cells #[.int .i64 0, .int .i64 0, .int .i64 0, .string ⟨#[]⟩] 47)).alloc (.cells #[.int .i64 0, .int .i64 0, .int .i64 0, .string ⟨#[]⟩] 47)) p l g) := h.nil T3
  have C0 : Hid (Chg (fun k => k = p ∨ k = l) w (((w.alloc (.cells #[.int .i64 16, .int .i64 a, .int .i64 b, .int .i64 cc, .string s, .string t] 50)).alloc (.cells #[.int .i64 0, .int .i64 0, .int .i64 0, .string ⟨#[]⟩] 47)).alloc (.cells #[.int .i64 0, .int .i64 0, .int .i64 0, .string ⟨#[]⟩] 47))) := chg_0 T3
  have HG : Hid (Good g n ∧ n ≤ 4611686018427387904 ∧ I64 a ∧ I64 b) := ⟨hg, hn, ha, hb⟩
  have i0 : w.cell? ⟨p, 0, none⟩ = some (.int .i64 g.depth) := h.sh.cell 0 (sh_get g h.len).1
  have z0 := h.sh.frozen 0
  have i1 : w.cell? ⟨p, 1, none⟩ = some (.int .i64 g.mode) := h.sh.cell 1 (sh_get g h.len).2.1
  have z1 := h.sh.frozen 1
  have i2 : w.cell? ⟨p, 2, none⟩ = some (.int .i64 g.sum) := h.sh.cell 2 (sh_get g h.len).2.2.1
  have z2 := h.sh.frozen 2
  have i3 : w.cell? ⟨p, 3, none⟩ = some (.int .i64 g.peak) := h.sh.cell 3 (sh_get g h.len).2.2.2.1
  have z3 := h.sh.frozen 3
  have i4 : w.cell? ⟨p, 4, none⟩ = some (.int .i64 g.dip) := h.sh.cell 4 (sh_get g h.len).2.2.2.2.1
  have z4 := h.sh.frozen 4
  have i5 : w.cell? ⟨p, 5, none⟩ = some (.int .i64 g.at_) := h.sh.cell 5 (sh_get g h.len).2.2.2.2.2.1
  have z5 := h.sh.frozen 5
  have i6 : w.cell? ⟨p, 6, none⟩ = some (.int .i64 g.seq) := h.sh.cell 6 (sh_get g h.len).2.2.2.2.2.2.1
  have z6 := h.sh.frozen 6
  have i7 : w.cell? ⟨p, 7, none⟩ = some (.int .i64 g.dropped) := h.sh.cell 7 (sh_get g h.len).2.2.2.2.2.2.2
  have z7 := h.sh.frozen 7
  have kA : ∀ (W : World) (i j : Nat) (v : Value), (W.setCell ⟨p, i, none⟩ v).cell? ⟨w.heap.size + 1, j, none⟩ = W.cell? ⟨w.heap.size + 1, j, none⟩ := fun W i j v => far_cell W (by omega) i j v
  have kAp : ∀ (W : World) (i j : Nat) (v : Value), (W.setCell ⟨w.heap.size + 1, i, none⟩ v).cell? ⟨p, j, none⟩ = W.cell? ⟨p, j, none⟩ := fun W i j v => far_cell W (by omega) i j v
  have kB : ∀ (W : World) (i j : Nat) (v : Value), (W.setCell ⟨p, i, none⟩ v).cell? ⟨w.heap.size + 1 + 1, j, none⟩ = W.cell? ⟨w.heap.size + 1 + 1, j, none⟩ := fun W i j v => far_cell W (by omega) i j v
  have kBp : ∀ (W : World) (i j : Nat) (v : Value), (W.setCell ⟨w.heap.size + 1 + 1, i, none⟩ v).cell? ⟨p, j, none⟩ = W.cell? ⟨p, j, none⟩ := fun W i j v => far_cell W (by omega) i j v
  have kO : ∀ (W : World) (i j : Nat) (v : Value), (W.setCell ⟨p, i, none⟩ v).cell? ⟨w.heap.size, j, none⟩ = W.cell? ⟨w.heap.size, j, none⟩ := fun W i j v => far_cell W (by omega) i j v
  have kOp : ∀ (W : World) (i j : Nat) (v : Value), (W.setCell ⟨w.heap.size, i, none⟩ v).cell? ⟨p, j, none⟩ = W.cell? ⟨p, j, none⟩ := fun W i j v => far_cell W (by omega) i j v
  have kF : ∀ (o1 o2 o3 : Obj) (j : Nat), (((w.alloc o1).alloc o2).alloc o3).cell? ⟨p, j, none⟩ = w.cell? ⟨p, j, none⟩ := fun o1 o2 o3 j => (((h.sh.obj.alloc o1).alloc o2).alloc o3).cell j |>.trans (h.sh.obj.cell j).symm
  have zF : ∀ (o1 o2 o3 : Obj) (j : Nat), (((w.alloc o1).alloc o2).alloc o3).frozen? ⟨p, j, none⟩ = false := fun o1 o2 o3 j => (((h.sh.obj.alloc o1).alloc o2).alloc o3).frozen j
  have HW : Hid (Sz w p l g) := h
  have q0 := hg.q0; have r0 := hg.r0; have A0 := hg.a0; have A8 := hg.a8
  have q1 : g.seq ≤ 4611686018427387904 := by have := hg.q1; omega
  have r1 : g.dropped ≤ 4611686018427387904 := by have := hg.r1; omega
  clear h hg hn ha hb hl
  have o1 := T0.cell 1
  have o2 := T0.cell 2
  have TK := take_any p l g n a b _ HG.out.1 HG.out.2.1 HG.out.2.2.1 HG.out.2.2.2 H0.out (wrap32 b) (fun v => by simp only [wrap32]; omega)
  generalize (fedP g a (wrap32 b)) = A at TK ⊢
  have HK : Hid (Calls _ _ _ _ _) := TK
  clear TK
  unfold ansV
  go_enter Tryd.func20, Tryd.ntmps20
  go_wp2_with fail
  refine (Calls.mono HK.out) ?_; rintro e w1 ⟨rfl, q1, c1⟩
  have hl := LT.out.2
  have K1 := T1.kept c1 (by omega)
  have K2 := T2.kept c1 (by omega)
  have f0 := K1.frozen 0
  have u0 : w1.cell? ⟨w.heap.size + 1, 0, none⟩ = some (.int .i64 0) := K1.cell 0
  have g0 := K2.frozen 0
  have v0 : w1.cell? ⟨w.heap.size + 1 + 1, 0, none⟩ = some (.int .i64 0) := K2.cell 0
  have f1 := K1.frozen 1
  have u1 : w1.cell? ⟨w.heap.size + 1, 1, none⟩ = some (.int .i64 0) := K1.cell 1
  have g1 := K2.frozen 1
  have v1 : w1.cell? ⟨w.heap.size + 1 + 1, 1, none⟩ = some (.int .i64 0) := K2.cell 1
  have f2 := K1.frozen 2
  have u2 : w1.cell? ⟨w.heap.size + 1, 2, none⟩ = some (.int .i64 0) := K1.cell 2
  have g2 := K2.frozen 2
  have v2 : w1.cell? ⟨w.heap.size + 1 + 1, 2, none⟩ = some (.int .i64 0) := K2.cell 2
  have f3 := K1.frozen 3
  have u3 : w1.cell? ⟨w.heap.size + 1, 3, none⟩ = some (.string ⟨#[]⟩) := K1.cell 3
  have g3 := K2.frozen 3
  have v3 : w1.cell? ⟨w.heap.size + 1 + 1, 3, none⟩ = some (.string ⟨#[]⟩) := K2.cell 3
  have C1 : Hid (Chg (fun k => k = p ∨ k = l) w w1) := C0.out.trans c1
  have H1 : Hid (Sz w1 p l A.2) := q1
  clear T1 T2 T3 K1 K2 c1 q1 C0 H0
  unfold ansV
  go_wp2_with fail
  refine bodyPost_ret (by simp [results, Tryd.results20, go_sem, u0, u1, u2, u3]; try rfl) rfl ?_
  have lt := LT.out
  exact ⟨rfl, ((((((((H1.out.far lt (by first | omega | (dsimp only; omega)) _).far lt (by first | omega | (dsimp only; omega)) _).far lt (by first | omega | (dsimp only; omega)) _).far lt (by first | omega | (dsimp only; omega)) _).far lt (by first | omega | (dsimp only; omega)) _).far lt (by first | omega | (dsimp only; omega)) _).far lt (by first | omega | (dsimp only; omega)) _).far lt (by first | omega | (dsimp only; omega)) _), ((((((((C1.out.setCell (Or.inr (by first | omega | (dsimp only; omega))) _).setCell (Or.inr (by first | omega | (dsimp only; omega))) _).setCell (Or.inr (by first | omega | (dsimp only; omega))) _).setCell (Or.inr (by first | omega | (dsimp only; omega))) _).setCell (Or.inr (by first | omega | (dsimp only; omega))) _).setCell (Or.inr (by first | omega | (dsimp only; omega))) _).setCell (Or.inr (by first | omega | (dsimp only; omega))) _).setCell (Or.inr (by first | omega | (dsimp only; omega))) _)⟩

theorem due_2 (p l : Nat) (g : PS) (n : Int) (a b cc : Int) (s t : ByteArray) (w : World) (hg : Good g n) (hn : n ≤ 4611686018427387904) (ha : I64 a) (hb : I64 b) (h : Sz w p l g) :
    Calls Tryd.prog 20 #[.pointer (some ⟨l, 0, none⟩), .pointer (some ⟨p, 0, none⟩), opV 2 a b cc s t] w fun e w' => e = .returned (ansV (fedP g a (6 * g.at_)).1.e (fedP g a (6 * g.at_)).1.n (fedP g a (6 * g.at_)).1.k ⟨#[]⟩) ∧ Sz w' p l (fedP g a (6 * g.at_)).2 ∧ Chg (fun k => k = p ∨ k = l) w w' := by
  unfold opV
  obtain ⟨T1, T2, T3⟩ := frame3 (T := 47) w (.cells #[.int .i64 2, .int .i64 a, .int .i64 b, .int .i64 cc, .string s, .string t] 50) [.int .i64 0, .int .i64 0, .int .i64 0, .string ⟨#[]⟩] [.int .i64 0, .int .i64 0, .int .i64 0, .string ⟨#[]⟩]
  have T0 := frame4 (T := 47) (U := 50) w [.int .i64 2, .int .i64 a, .int .i64 b, .int .i64 cc, .string s, .string t] [.int .i64 0, .int .i64 0, .int .i64 0, .string ⟨#[]⟩] [.int .i64 0, .int .i64 0, .int .i64 0, .string ⟨#[]⟩]
  have hp := h.sh.obj.lt
  have hl := Has.lt h.cv
  have LT : Hid (p < w.heap.size ∧ l < w.heap.size) := ⟨hp, hl⟩
  have H0 : Hid (Sz (((w.alloc (.cells #[.int .i64 2, .int .i64 a, .int .i64 b, .int .i64 cc, .string s, .string t] 50)).alloc (.cells #[.int .i64 0, .int .i64 0, .int .i64 0, .string ⟨#[]⟩] 47)).alloc (.cells #[.int .i64 0, .int .i64 0, .int .i64 0, .string ⟨#[]⟩] 47)) p l g) := h.nil T3
  have C0 : Hid (Chg (fun k => k = p ∨ k = l) w (((w.alloc (.cells #[.int .i64 2, .int .i64 a, .int .i64 b, .int .i64 cc, .string s, .string t] 50)).alloc (.cells #[.int .i64 0, .int .i64 0, .int .i64 0, .string ⟨#[]⟩] 47)).alloc (.cells #[.int .i64 0, .int .i64 0, .int .i64 0, .string ⟨#[]⟩] 47))) := chg_0 T3
  have HG : Hid (Good g n ∧ n ≤ 4611686018427387904 ∧ I64 a ∧ I64 b) := ⟨hg, hn, ha, hb⟩
  have i0 : w.cell? ⟨p, 0, none⟩ = some (.int .i64 g.depth) := h.sh.cell 0 (sh_get g h.len).1
  have z0 := h.sh.frozen 0
  have i1 : w.cell? ⟨p, 1, none⟩ = some (.int .i64 g.mode) := h.sh.cell 1 (sh_get g h.len).2.1
  have z1 := h.sh.frozen 1
  have i2 : w.cell? ⟨p, 2, none⟩ = some (.int .i64 g.sum) := h.sh.cell 2 (sh_get g h.len).2.2.1
  have z2 := h.sh.frozen 2
  have i3 : w.cell? ⟨p, 3, none⟩ = some (.int .i64 g.peak) := h.sh.cell 3 (sh_get g h.len).2.2.2.1
  have z3 := h.sh.frozen 3
  have i4 : w.cell? ⟨p, 4, none⟩ = some (.int .i64 g.dip) := h.sh.cell 4 (sh_get g h.len).2.2.2.2.1
  have z4 := h.sh.frozen 4
  have i5 : w.cell? ⟨p, 5, none⟩ = some (.int .i64 g.at_) := h.sh.cell 5 (sh_get g h.len).2.2.2.2.2.1
  have z5 := h.sh.frozen 5
  have i6 : w.cell? ⟨p, 6, none⟩ = some (.int .i64 g.seq) := h.sh.cell 6 (sh_get g h.len).2.2.2.2.2.2.1
  have z6 := h.sh.frozen 6
  have i7 : w.cell? ⟨p, 7, none⟩ = some (.int .i64 g.dropped) := h.sh.cell 7 (sh_get g h.len).2.2.2.2.2.2.2
  have z7 := h.sh.frozen 7
  have kA : ∀ (W : World) (i j : Nat) (v : Value), (W.setCell ⟨p, i, none⟩ v).cell? ⟨w.heap.size + 1, j, none⟩ = W.cell? ⟨w.heap.size + 1, j, none⟩ := fun W i j v => far_cell W (by omega) i j v
  have kAp : ∀ (W : World) (i j : Nat) (v : Value), (W.setCell ⟨w.heap.size + 1, i, none⟩ v).cell? ⟨p, j, none⟩ = W.cell? ⟨p, j, none⟩ := fun W i j v => far_cell W (by omega) i j v
  have kB : ∀ (W : World) (i j : Nat) (v : Value), (W.setCell ⟨p, i, none⟩ v).cell? ⟨w.heap.size + 1 + 1, j, none⟩ = W.cell? ⟨w.heap.size + 1 + 1, j, none⟩ := fun W i j v => far_cell W (by omega) i j v
  have kBp : ∀ (W : World) (i j : Nat) (v : Value), (W.setCell ⟨w.heap.size + 1 + 1, i, none⟩ v).cell? ⟨p, j, none⟩ = W.cell? ⟨p, j, none⟩ := fun W i j v => far_cell W (by omega) i j v
  have kO : ∀ (W : World) (i j : Nat) (v : Value), (W.setCell ⟨p, i, none⟩ v).cell? ⟨w.heap.size, j, none⟩ = W.cell? ⟨w.heap.size, j, none⟩ := fun W i j v => far_cell W (by omega) i j v
  have kOp : ∀ (W : World) (i j : Nat) (v : Value), (W.setCell ⟨w.heap.size, i, none⟩ v).cell? ⟨p, j, none⟩ = W.cell? ⟨p, j, none⟩ := fun W i j v => far_cell W (by omega) i j v
  have kF : ∀ (o1 o2 o3 : Obj) (j : Nat), (((w.alloc o1).alloc o2).alloc o3).cell? ⟨p, j, none⟩ = w.cell? ⟨p, j, none⟩ := fun o1 o2 o3 j => (((h.sh.obj.alloc o1).alloc o2).alloc o3).cell j |>.trans (h.sh.obj.cell j).symm
  have zF : ∀ (o1 o2 o3 : Obj) (j : Nat), (((w.alloc o1).alloc o2).alloc o3).frozen? ⟨p, j, none⟩ = false := fun o1 o2 o3 j => (((h.sh.obj.alloc o1).alloc o2).alloc o3).frozen j
  have HW : Hid (Sz w p l g) := h
  have q0 := hg.q0; have r0 := hg.r0; have A0 := hg.a0; have A8 := hg.a8
  have q1 : g.seq ≤ 4611686018427387904 := by have := hg.q1; omega
  have r1 : g.dropped ≤ 4611686018427387904 := by have := hg.r1; omega
  clear h hg hn ha hb hl
  have TK := fun w' (h' : Sz w' p l g) => take_any p l g n a (g.at_ * 6) w' HG.out.1 HG.out.2.1 HG.out.2.2.1 ⟨by omega, by omega⟩ h' (6 * g.at_) (fun v => by rw [show g.at_ * 6 = 6 * g.at_ by omega])
  generalize (fedP g a (6 * g.at_)) = A at TK ⊢
  have HK : Hid (∀ w' (h' : Sz w' p l g), Calls _ _ _ _ _) := TK
  clear TK
  unfold ansV
  unfold ansV at HK
  go_enter Tryd.func20, Tryd.ntmps20
  go_wp2_with fail
  have H2 : Hid (Sz (((w.alloc (.cells #[.int .i64 2, .int .i64 a, .int .i64 b, .int .i64 cc, .string s, .string t] 50)).alloc (.cells #[.int .i64 0, .int .i64 0, .int .i64 0, .string ⟨#[]⟩] 47)).alloc (.cells #[.int .i64 0, .int .i64 0, .int .i64 0, .string ⟨#[]⟩] 47)) p l g) := (HW.out.nil ((((Chg.refl _ w).alloc _).alloc _).alloc _))
  have C2 : Hid (Chg (fun k => k = p ∨ k = l) w (((w.alloc (.cells #[.int .i64 2, .int .i64 a, .int .i64 b, .int .i64 cc, .string s, .string t] 50)).alloc (.cells #[.int .i64 0, .int .i64 0, .int .i64 0, .string ⟨#[]⟩] 47)).alloc (.cells #[.int .i64 0, .int .i64 0, .int .i64 0, .string ⟨#[]⟩] 47))) := ((((Chg.refl _ w).alloc _).alloc _).alloc _)
  have O2 : Hid (Has 50 (((w.alloc (.cells #[.int .i64 2, .int .i64 a, .int .i64 b, .int .i64 cc, .string s, .string t] 50)).alloc (.cells #[.int .i64 0, .int .i64 0, .int .i64 0, .string ⟨#[]⟩] 47)).alloc (.cells #[.int .i64 0, .int .i64 0, .int .i64 0, .string ⟨#[]⟩] 47)) w.heap.size [.int .i64 2, .int .i64 a, .int .i64 b, .int .i64 cc, .string s, .string t]) := T0
  have R2 : Hid (Has 47 (((w.alloc (.cells #[.int .i64 2, .int .i64 a, .int .i64 b, .int .i64 cc, .string s, .string t] 50)).alloc (.cells #[.int .i64 0, .int .i64 0, .int .i64 0, .string ⟨#[]⟩] 47)).alloc (.cells #[.int .i64 0, .int .i64 0, .int .i64 0, .string ⟨#[]⟩] 47)) (w.heap.size + 1) [.int .i64 0, .int .i64 0, .int .i64 0, .string ⟨#[]⟩]) := T1
  have L2 : Hid (Has 47 (((w.alloc (.cells #[.int .i64 2, .int .i64 a, .int .i64 b, .int .i64 cc, .string s, .string t] 50)).alloc (.cells #[.int .i64 0, .int .i64 0, .int .i64 0, .string ⟨#[]⟩] 47)).alloc (.cells #[.int .i64 0, .int .i64 0, .int .i64 0, .string ⟨#[]⟩] 47)) (w.heap.size + 1 + 1) [.int .i64 0, .int .i64 0, .int .i64 0, .string ⟨#[]⟩]) := T2
  clear T0 T1 T2 T3 H0 C0 i0 i1 i2 i3 i4 i5 i6 i7 z0 z1 z2 z3 z4 z5 z6 z7 kF zF
  generalize (((w.alloc (.cells #[.int .i64 2, .int .i64 a, .int .i64 b, .int .i64 cc, .string s, .string t] 50)).alloc (.cells #[.int .i64 0, .int .i64 0, .int .i64 0, .string ⟨#[]⟩] 47)).alloc (.cells #[.int .i64 0, .int .i64 0, .int .i64 0, .string ⟨#[]⟩] 47)) = w2 at H2 C2 O2 R2 L2 ⊢
  have i0 : w2.cell? ⟨p, 0, none⟩ = some (.int .i64 g.depth) := H2.out.sh.cell 0 (sh_get _ H2.out.len).1
  have z0 := H2.out.sh.frozen 0
  have i1 : w2.cell? ⟨p, 1, none⟩ = some (.int .i64 g.mode) := H2.out.sh.cell 1 (sh_get _ H2.out.len).2.1
  have z1 := H2.out.sh.frozen 1
  have i2 : w2.cell? ⟨p, 2, none⟩ = some (.int .i64 g.sum) := H2.out.sh.cell 2 (sh_get _ H2.out.len).2.2.1
  have z2 := H2.out.sh.frozen 2
  have i3 : w2.cell? ⟨p, 3, none⟩ = some (.int .i64 g.peak) := H2.out.sh.cell 3 (sh_get _ H2.out.len).2.2.2.1
  have z3 := H2.out.sh.frozen 3
  have i4 : w2.cell? ⟨p, 4, none⟩ = some (.int .i64 g.dip) := H2.out.sh.cell 4 (sh_get _ H2.out.len).2.2.2.2.1
  have z4 := H2.out.sh.frozen 4
  have i5 : w2.cell? ⟨p, 5, none⟩ = some (.int .i64 g.at_) := H2.out.sh.cell 5 (sh_get _ H2.out.len).2.2.2.2.2.1
  have z5 := H2.out.sh.frozen 5
  have i6 : w2.cell? ⟨p, 6, none⟩ = some (.int .i64 g.seq) := H2.out.sh.cell 6 (sh_get _ H2.out.len).2.2.2.2.2.2.1
  have z6 := H2.out.sh.frozen 6
  have i7 : w2.cell? ⟨p, 7, none⟩ = some (.int .i64 g.dropped) := H2.out.sh.cell 7 (sh_get _ H2.out.len).2.2.2.2.2.2.2
  have z7 := H2.out.sh.frozen 7
  have f0 := R2.out.frozen 0
  have u0 : w2.cell? ⟨w.heap.size + 1, 0, none⟩ = some (.int .i64 0) := R2.out.cell 0
  have g0 := L2.out.frozen 0
  have v0 : w2.cell? ⟨w.heap.size + 1 + 1, 0, none⟩ = some (.int .i64 0) := L2.out.cell 0
  have f1 := R2.out.frozen 1
  have u1 : w2.cell? ⟨w.heap.size + 1, 1, none⟩ = some (.int .i64 0) := R2.out.cell 1
  have g1 := L2.out.frozen 1
  have v1 : w2.cell? ⟨w.heap.size + 1 + 1, 1, none⟩ = some (.int .i64 0) := L2.out.cell 1
  have f2 := R2.out.frozen 2
  have u2 : w2.cell? ⟨w.heap.size + 1, 2, none⟩ = some (.int .i64 0) := R2.out.cell 2
  have g2 := L2.out.frozen 2
  have v2 : w2.cell? ⟨w.heap.size + 1 + 1, 2, none⟩ = some (.int .i64 0) := L2.out.cell 2
  have f3 := R2.out.frozen 3
  have u3 : w2.cell? ⟨w.heap.size + 1, 3, none⟩ = some (.string ⟨#[]⟩) := R2.out.cell 3
  have g3 := L2.out.frozen 3
  have v3 : w2.cell? ⟨w.heap.size + 1 + 1, 3, none⟩ = some (.string ⟨#[]⟩) := L2.out.cell 3
  have o1 : w2.cell? ⟨w.heap.size, 1, none⟩ = some (.int .i64 a) := O2.out.cell 1
  have o2 : w2.cell? ⟨w.heap.size, 2, none⟩ = some (.int .i64 b) := O2.out.cell 2
  clear kA kAp kB kBp kO kOp
  have eW : IntKind.i64.wrap (g.at_ * 6) = g.at_ * 6 := by rw [IntKind.wrap_i64]; omega
  go_region_with (go_at_call 41; refine (HK.out _ (by exact H2.out.drew)).mono ?_; rintro e w3 ⟨rfl, q3, c3⟩; have H3 : Hid (Sz w3 p l A.2) := q3; have C3 : Hid (Chg (fun k => k = p ∨ k = l) w2.drew w3) := c3; have K1 := R2.out.drew.kept c3 (by have := LT.out; omega); have K2 := L2.out.drew.kept c3 (by have := LT.out; omega); have y0 := K2.frozen 0; have y1 := K2.frozen 1; have y2 := K2.frozen 2; have y3 := K2.frozen 3; have x0 : w3.cell? ⟨w.heap.size + 1 + 1, 0, none⟩ = some (.int .i64 0) := K2.cell 0; have x1 : w3.cell? ⟨w.heap.size + 1 + 1, 1, none⟩ = some (.int .i64 0) := K2.cell 1; have x2 : w3.cell? ⟨w.heap.size + 1 + 1, 2, none⟩ = some (.int .i64 0) := K2.cell 2; have x3 : w3.cell? ⟨w.heap.size + 1 + 1, 3, none⟩ = some (.string ⟨#[]⟩) := K2.cell 3; have r0 : w3.cell? ⟨w.heap.size + 1, 0, none⟩ = some (.int .i64 0) := K1.cell 0; have r1 : w3.cell? ⟨w.heap.size + 1, 1, none⟩ = some (.int .i64 0) := K1.cell 1; have r2 : w3.cell? ⟨w.heap.size + 1, 2, none⟩ = some (.int .i64 0) := K1.cell 2; have r3 : w3.cell? ⟨w.heap.size + 1, 3, none⟩ = some (.string ⟨#[]⟩) := K1.cell 3; have s0 := K1.frozen 0; have s1 := K1.frozen 1; have s2 := K1.frozen 2; have s3 := K1.frozen 3; clear q3 c3 K1 K2)
  all_goals (
  go_wp2_with fail
  refine bodyPost_ret (by simp [results, Tryd.results20, go_sem, r0, r1, r2, r3]; try rfl) rfl ?_
  have lt := LT.out
  exact ⟨rfl, ((((((((H3.out.far lt (by first | omega | (dsimp only; omega)) _).far lt (by first | omega | (dsimp only; omega)) _).far lt (by first | omega | (dsimp only; omega)) _).far lt (by first | omega | (dsimp only; omega)) _).far lt (by first | omega | (dsimp only; omega)) _).far lt (by first | omega | (dsimp only; omega)) _).far lt (by first | omega | (dsimp only; omega)) _).far lt (by first | omega | (dsimp only; omega)) _), (((((((((C2.out.drew.trans C3.out).setCell (Or.inr (by first | omega | (dsimp only; omega))) _).setCell (Or.inr (by first | omega | (dsimp only; omega))) _).setCell (Or.inr (by first | omega | (dsimp only; omega))) _).setCell (Or.inr (by first | omega | (dsimp only; omega))) _).setCell (Or.inr (by first | omega | (dsimp only; omega))) _).setCell (Or.inr (by first | omega | (dsimp only; omega))) _).setCell (Or.inr (by first | omega | (dsimp only; omega))) _).setCell (Or.inr (by first | omega | (dsimp only; omega))) _)⟩)

theorem due_7 (p l : Nat) (g : PS) (n : Int) (a b cc : Int) (s t : ByteArray) (w : World) (hg : Good g n) (hn : n ≤ 4611686018427387904) (ha : I64 a) (hb : I64 b) (h : Sz w p l g) :
    Calls Tryd.prog 20 #[.pointer (some ⟨l, 0, none⟩), .pointer (some ⟨p, 0, none⟩), opV 7 a b cc s t] w fun e w' => e = .returned (ansV 0 (isq (sumSq g.ring / 16384).toNat) 0 ⟨#[]⟩) ∧ Sz w' p l g ∧ Chg (fun k => k = p ∨ k = l) w w' := by
  unfold opV
  obtain ⟨T1, T2, T3⟩ := frame3 (T := 47) w (.cells #[.int .i64 7, .int .i64 a, .int .i64 b, .int .i64 cc, .string s, .string t] 50) [.int .i64 0, .int .i64 0, .int .i64 0, .string ⟨#[]⟩] [.int .i64 0, .int .i64 0, .int .i64 0, .string ⟨#[]⟩]
  have T0 := frame4 (T := 47) (U := 50) w [.int .i64 7, .int .i64 a, .int .i64 b, .int .i64 cc, .string s, .string t] [.int .i64 0, .int .i64 0, .int .i64 0, .string ⟨#[]⟩] [.int .i64 0, .int .i64 0, .int .i64 0, .string ⟨#[]⟩]
  have hp := h.sh.obj.lt
  have hl := Has.lt h.cv
  have LT : Hid (p < w.heap.size ∧ l < w.heap.size) := ⟨hp, hl⟩
  have H0 : Hid (Sz (((w.alloc (.cells #[.int .i64 7, .int .i64 a, .int .i64 b, .int .i64 cc, .string s, .string t] 50)).alloc (.cells #[.int .i64 0, .int .i64 0, .int .i64 0, .string ⟨#[]⟩] 47)).alloc (.cells #[.int .i64 0, .int .i64 0, .int .i64 0, .string ⟨#[]⟩] 47)) p l g) := h.nil T3
  have C0 : Hid (Chg (fun k => k = p ∨ k = l) w (((w.alloc (.cells #[.int .i64 7, .int .i64 a, .int .i64 b, .int .i64 cc, .string s, .string t] 50)).alloc (.cells #[.int .i64 0, .int .i64 0, .int .i64 0, .string ⟨#[]⟩] 47)).alloc (.cells #[.int .i64 0, .int .i64 0, .int .i64 0, .string ⟨#[]⟩] 47))) := chg_0 T3
  have HG : Hid (Good g n ∧ n ≤ 4611686018427387904 ∧ I64 a ∧ I64 b) := ⟨hg, hn, ha, hb⟩
  have i0 : w.cell? ⟨p, 0, none⟩ = some (.int .i64 g.depth) := h.sh.cell 0 (sh_get g h.len).1
  have z0 := h.sh.frozen 0
  have i1 : w.cell? ⟨p, 1, none⟩ = some (.int .i64 g.mode) := h.sh.cell 1 (sh_get g h.len).2.1
  have z1 := h.sh.frozen 1
  have i2 : w.cell? ⟨p, 2, none⟩ = some (.int .i64 g.sum) := h.sh.cell 2 (sh_get g h.len).2.2.1
  have z2 := h.sh.frozen 2
  have i3 : w.cell? ⟨p, 3, none⟩ = some (.int .i64 g.peak) := h.sh.cell 3 (sh_get g h.len).2.2.2.1
  have z3 := h.sh.frozen 3
  have i4 : w.cell? ⟨p, 4, none⟩ = some (.int .i64 g.dip) := h.sh.cell 4 (sh_get g h.len).2.2.2.2.1
  have z4 := h.sh.frozen 4
  have i5 : w.cell? ⟨p, 5, none⟩ = some (.int .i64 g.at_) := h.sh.cell 5 (sh_get g h.len).2.2.2.2.2.1
  have z5 := h.sh.frozen 5
  have i6 : w.cell? ⟨p, 6, none⟩ = some (.int .i64 g.seq) := h.sh.cell 6 (sh_get g h.len).2.2.2.2.2.2.1
  have z6 := h.sh.frozen 6
  have i7 : w.cell? ⟨p, 7, none⟩ = some (.int .i64 g.dropped) := h.sh.cell 7 (sh_get g h.len).2.2.2.2.2.2.2
  have z7 := h.sh.frozen 7
  have kA : ∀ (W : World) (i j : Nat) (v : Value), (W.setCell ⟨p, i, none⟩ v).cell? ⟨w.heap.size + 1, j, none⟩ = W.cell? ⟨w.heap.size + 1, j, none⟩ := fun W i j v => far_cell W (by omega) i j v
  have kAp : ∀ (W : World) (i j : Nat) (v : Value), (W.setCell ⟨w.heap.size + 1, i, none⟩ v).cell? ⟨p, j, none⟩ = W.cell? ⟨p, j, none⟩ := fun W i j v => far_cell W (by omega) i j v
  have kB : ∀ (W : World) (i j : Nat) (v : Value), (W.setCell ⟨p, i, none⟩ v).cell? ⟨w.heap.size + 1 + 1, j, none⟩ = W.cell? ⟨w.heap.size + 1 + 1, j, none⟩ := fun W i j v => far_cell W (by omega) i j v
  have kBp : ∀ (W : World) (i j : Nat) (v : Value), (W.setCell ⟨w.heap.size + 1 + 1, i, none⟩ v).cell? ⟨p, j, none⟩ = W.cell? ⟨p, j, none⟩ := fun W i j v => far_cell W (by omega) i j v
  have kO : ∀ (W : World) (i j : Nat) (v : Value), (W.setCell ⟨p, i, none⟩ v).cell? ⟨w.heap.size, j, none⟩ = W.cell? ⟨w.heap.size, j, none⟩ := fun W i j v => far_cell W (by omega) i j v
  have kOp : ∀ (W : World) (i j : Nat) (v : Value), (W.setCell ⟨w.heap.size, i, none⟩ v).cell? ⟨p, j, none⟩ = W.cell? ⟨p, j, none⟩ := fun W i j v => far_cell W (by omega) i j v
  have kF : ∀ (o1 o2 o3 : Obj) (j : Nat), (((w.alloc o1).alloc o2).alloc o3).cell? ⟨p, j, none⟩ = w.cell? ⟨p, j, none⟩ := fun o1 o2 o3 j => (((h.sh.obj.alloc o1).alloc o2).alloc o3).cell j |>.trans (h.sh.obj.cell j).symm
  have zF : ∀ (o1 o2 o3 : Obj) (j : Nat), (((w.alloc o1).alloc o2).alloc o3).frozen? ⟨p, j, none⟩ = false := fun o1 o2 o3 j => (((h.sh.obj.alloc o1).alloc o2).alloc o3).frozen j
  have HW : Hid (Sz w p l g) := h
  have q0 := hg.q0; have r0 := hg.r0; have A0 := hg.a0; have A8 := hg.a8
  have q1 : g.seq ≤ 4611686018427387904 := by have := hg.q1; omega
  have r1 : g.dropped ≤ 4611686018427387904 := by have := hg.r1; omega
  clear h hg hn ha hb hl
  have SQ := squares_any p g n _ HG.out.1 H0.out.sh
  have en := HG.out.1.en
  obtain ⟨E, hE⟩ : ∃ E : Nat, sumSq g.ring = E := ⟨(sumSq g.ring).toNat, by omega⟩
  rw [hE] at SQ en ⊢
  have hN : bits .or .i64 (((E : Int) / 4294967296) * 262144) ((E : Int) % 4294967296 / 16384) = ((E / 16384 : Nat) : Int) := by
    have := or_sum (((E : Int) / 4294967296) * 262144) (E % 4294967296 / 16384) 18 (by omega) (by omega) (by omega) (by omega) (by omega)
    rw [show (((E % 4294967296 / 16384 : Nat)) : Int) = (E : Int) % 4294967296 / 16384 by omega] at this
    rw [this]; omega
  rw [show ((E : Int) / 16384).toNat = E / 16384 by omega]
  have h52 : E / 16384 ≤ 2251799813685248 := by omega
  have y0 : 0 ≤ (E : Int) / 4294967296 := by omega
  have y1 : (E : Int) / 4294967296 ≤ 8589934592 := by omega
  have y2 : 0 ≤ (E : Int) % 4294967296 := by omega
  have y3 : (E : Int) % 4294967296 ≤ 4294967295 := by omega
  generalize (E : Int) / 4294967296 = A at *
  generalize (E : Int) % 4294967296 = B at *
  generalize E / 16384 = N at *
  have NI : (N : Int) ≤ 2251799813685248 := by omega
  have N0 : 0 ≤ (N : Int) := by omega
  have HN : Hid (N ≤ 2251799813685248) := h52
  obtain ⟨NN, hNN⟩ : ∃ NN : Int, (N : Int) = NN := ⟨_, rfl⟩
  rw [hNN] at hN NI N0
  have HNN : Hid ((N : Int) = NN) := hNN
  have HIS : Hid (isq N * isq N ≤ N ∧ N < (isq N + 1) * (isq N + 1)) := isq_ok (by omega)
  obtain ⟨R, hR⟩ : ∃ R : Int, (isq N : Int) = R := ⟨_, rfl⟩
  have HR : Hid ((isq N : Int) = R) := hR
  rw [hR]
  have HK : Hid (Calls _ _ _ _ _) := SQ
  clear SQ hNN h52 en hE hR
  go_enter Tryd.func20, Tryd.ntmps20
  go_wp2_with fail
  refine (Calls.mono HK.out) ?_; rintro e w1 ⟨rfl, s1, c2⟩
  have hl := LT.out.2
  have q1 : Sz w1 p l g := ⟨s1, Has.kept H0.out.cv c2 (fun e => H0.out.ne e.symm), H0.out.ne⟩
  have c1 : Chg (fun k => k = p ∨ k = l) _ w1 := chg_p c2
  clear s1 c2
  have K1 : Hid (Has _ _ _ _) := T1.kept c1 (by omega)
  have K2 : Hid (Has _ _ _ _) := T2.kept c1 (by omega)
  have C1 : Hid (Chg (fun k => k = p ∨ k = l) w w1) := C0.out.trans c1
  have H1 : Hid (Sz w1 p l g) := q1
  clear T0 T1 T2 T3 c1 q1 C0 H0 hl kA kAp kB kBp kO kOp kF zF
  clear i0 i1 i2 i3 i4 i5 i6 i7 z0 z1 z2 z3 z4 z5 z6 z7
  go_wp2_with fail
  go_loopg [] 67112961 (fun gk wr => ∃ M : Nat, gk = 67112961 - M ∧ M ≤ 67112960 ∧ Has 47 wr (w.heap.size + 1) [.int .i64 0, .int .i64 0, .int .i64 0, .string ⟨#[]⟩] ∧ Has 47 wr (w.heap.size + 1 + 1) [.int .i64 0, .int .i64 (M : Nat), .int .i64 0, .string ⟨#[]⟩] ∧ Sz wr p l g ∧ Chg (fun k => k = p ∨ k = l) w wr)
  case atStart => exact ⟨0, rfl, by omega, K1.out, K2.out, H1.out, C1.out⟩
  case round =>
    obtain ⟨M, rfl, hM, k1, k2, q3, c3⟩ := hrel
    clear K1 K2 C1 H1
    obtain ⟨m, hm⟩ : ∃ m : Int, (M : Int) = m := ⟨_, rfl⟩
    rw [hm] at k2
    have sq : M * M ≤ 67112960 * 67112960 := Nat.mul_le_mul hM hM
    have hmm : ((M * M : Nat) : Int) = m * m := by rw [Int.natCast_mul, hm]
    have X0 : 0 ≤ m * m := by rw [← hmm]; omega
    have X1 : m * m ≤ 4504149400000000 := by rw [← hmm]; omega
    have m0 : 0 ≤ m := by omega
    have m1 : m ≤ 67112960 := by omega
    have em : wrap64 (m * m) = m * m := by rw [wrap64]; omega
    have v0 : wr.cell? ⟨w.heap.size + 1 + 1, 0, none⟩ = some (.int .i64 0) := k2.cell 0
    have g0 := k2.frozen 0
    have u0 : wr.cell? ⟨w.heap.size + 1, 0, none⟩ = some (.int .i64 0) := k1.cell 0
    have f0 := k1.frozen 0
    have v1 : wr.cell? ⟨w.heap.size + 1 + 1, 1, none⟩ = some (.int .i64 m) := k2.cell 1
    have g1 := k2.frozen 1
    have u1 : wr.cell? ⟨w.heap.size + 1, 1, none⟩ = some (.int .i64 0) := k1.cell 1
    have f1 := k1.frozen 1
    have v2 : wr.cell? ⟨w.heap.size + 1 + 1, 2, none⟩ = some (.int .i64 0) := k2.cell 2
    have g2 := k2.frozen 2
    have u2 : wr.cell? ⟨w.heap.size + 1, 2, none⟩ = some (.int .i64 0) := k1.cell 2
    have f2 := k1.frozen 2
    have v3 : wr.cell? ⟨w.heap.size + 1 + 1, 3, none⟩ = some (.string ⟨#[]⟩) := k2.cell 3
    have g3 := k2.frozen 3
    have u3 : wr.cell? ⟨w.heap.size + 1, 3, none⟩ = some (.string ⟨#[]⟩) := k1.cell 3
    have f3 := k1.frozen 3
    have K1 : Hid (Has 47 wr (w.heap.size + 1) [.int .i64 0, .int .i64 0, .int .i64 0, .string ⟨#[]⟩]) := k1
    have K2 : Hid (Has 47 wr (w.heap.size + 1 + 1) [.int .i64 0, .int .i64 (m), .int .i64 0, .string ⟨#[]⟩]) := k2
    have H3 : Hid (Sz wr p l g) := q3
    have C3 : Hid (Chg (fun k => k = p ∨ k = l) w wr) := c3
    have HM : Hid ((M : Int) = m ∧ M ≤ 67112960 ∧ ((M * M : Nat) : Int) = m * m) := ⟨hm, hM, hmm ⟩
    clear k1 k2 q3 c3 hm hM hmm sq 
    by_cases hle : m * m ≤ NN
    · go_wp2_with fail
      obtain ⟨x1, x2, x3⟩ := HM.out
      have hnn := HNN.out
      have hn := HN.out
      have lt := LT.out
      have hM2 : M < 67108864 := by
        rcases Nat.lt_or_ge M 67108864 with h | h
        · exact h
        · have := Nat.mul_le_mul h h; omega
      go_roundg (67112961 - (M + 4096))
      case measure => omega
      case rel => exact ⟨M + 4096, rfl, by omega, K1.out.setOther (by show w.heap.size + 1 + 1 ≠ _; omega) _, by rw [show ((M + 4096 : Nat) : Int) = m + 4096 by omega]; exact K2.out.setCell 1 _, H3.out.far lt (by dsimp only; omega) _, C3.out.setCell (Or.inr (by dsimp only; omega)) _⟩
    · have hlt : NN < m * m := by omega
      go_wp2_with fail
      go_loopg [] M (fun gk wr => ∃ M : Nat, (gk = M + 0 ∧ N < (M + 1) * (M + 1)) ∧ M ≤ 67112960 ∧ Has 47 wr (w.heap.size + 1) [.int .i64 0, .int .i64 0, .int .i64 0, .string ⟨#[]⟩] ∧ Has 47 wr (w.heap.size + 1 + 1) [.int .i64 0, .int .i64 (M : Nat), .int .i64 0, .string ⟨#[]⟩] ∧ Sz wr p l g ∧ Chg (fun k => k = p ∨ k = l) w wr)
      case atStart => exact ⟨M, ⟨rfl, by have := HM.out; have := HNN.out; have : (M + 1) * (M + 1) = M * M + 2 * M + 1 := by rw [Nat.add_mul, Nat.mul_add]; omega
                                         omega⟩, HM.out.2.1, K1.out, by rw [HM.out.1]; exact K2.out, H3.out, C3.out⟩
      case round =>
        clear K1 K2 C3 H3 v0 v1 v2 v3 u0 u1 u2 u3 f0 f1 f2 f3 g0 g1 g2 g3 HM X0 X1 m0 m1 em hle hlt
        obtain ⟨M, ⟨hgk, hlo⟩, hM, k1, k2, q3, c3⟩ := hrel
        have HGK : Hid (gk = M + 0) := hgk
        clear hgk
        obtain ⟨m, hm⟩ : ∃ m : Int, (M : Int) = m := ⟨_, rfl⟩
        rw [hm] at k2
        have sq : M * M ≤ 67112960 * 67112960 := Nat.mul_le_mul hM hM
        have hmm : ((M * M : Nat) : Int) = m * m := by rw [Int.natCast_mul, hm]
        have X0 : 0 ≤ m * m := by rw [← hmm]; omega
        have X1 : m * m ≤ 4504149400000000 := by rw [← hmm]; omega
        have m0 : 0 ≤ m := by omega
        have m1 : m ≤ 67112960 := by omega
        have em : wrap64 (m * m) = m * m := by rw [wrap64]; omega
        have v0 : wr.cell? ⟨w.heap.size + 1 + 1, 0, none⟩ = some (.int .i64 0) := k2.cell 0
        have g0 := k2.frozen 0
        have u0 : wr.cell? ⟨w.heap.size + 1, 0, none⟩ = some (.int .i64 0) := k1.cell 0
        have f0 := k1.frozen 0
        have v1 : wr.cell? ⟨w.heap.size + 1 + 1, 1, none⟩ = some (.int .i64 m) := k2.cell 1
        have g1 := k2.frozen 1
        have u1 : wr.cell? ⟨w.heap.size + 1, 1, none⟩ = some (.int .i64 0) := k1.cell 1
        have f1 := k1.frozen 1
        have v2 : wr.cell? ⟨w.heap.size + 1 + 1, 2, none⟩ = some (.int .i64 0) := k2.cell 2
        have g2 := k2.frozen 2
        have u2 : wr.cell? ⟨w.heap.size + 1, 2, none⟩ = some (.int .i64 0) := k1.cell 2
        have f2 := k1.frozen 2
        have v3 : wr.cell? ⟨w.heap.size + 1 + 1, 3, none⟩ = some (.string ⟨#[]⟩) := k2.cell 3
        have g3 := k2.frozen 3
        have u3 : wr.cell? ⟨w.heap.size + 1, 3, none⟩ = some (.string ⟨#[]⟩) := k1.cell 3
        have f3 := k1.frozen 3
        have K1 : Hid (Has 47 wr (w.heap.size + 1) [.int .i64 0, .int .i64 0, .int .i64 0, .string ⟨#[]⟩]) := k1
        have K2 : Hid (Has 47 wr (w.heap.size + 1 + 1) [.int .i64 0, .int .i64 (m), .int .i64 0, .string ⟨#[]⟩]) := k2
        have H3 : Hid (Sz wr p l g) := q3
        have C3 : Hid (Chg (fun k => k = p ∨ k = l) w wr) := c3
        have HM : Hid ((M : Int) = m ∧ M ≤ 67112960 ∧ ((M * M : Nat) : Int) = m * m ∧ N < (M + 1) * (M + 1)) := ⟨hm, hM, hmm , hlo⟩
        clear k1 k2 q3 c3 hm hM hmm sq hlo
        by_cases hle : NN < m * m
        · have mp : 0 < m := by
            rcases Int.lt_or_le 0 m with h | h
            · exact h
            · have : m = 0 := by omega
              subst this; omega
          go_wp2_with fail
          obtain ⟨x1, x2, x3, x4⟩ := HM.out
          have hnn := HNN.out
          have hn := HN.out
          have lt := LT.out
          have hgk := HGK.out
          go_roundg (M - 1)
          case measure => omega
          case rel => exact ⟨M - 1, ⟨rfl, by rw [show M - 1 + 1 = M by omega]; omega⟩, by omega, K1.out.setOther (by show w.heap.size + 1 + 1 ≠ _; omega) _, by rw [show ((M - 1 : Nat) : Int) = m - 1 by omega]; exact K2.out.setCell 1 _, H3.out.far lt (by dsimp only; omega) _, C3.out.setCell (Or.inr (by dsimp only; omega)) _⟩
        · have hle2 : m * m ≤ NN := by omega
          have hx : m = R := by
            have := HM.out; have := HNN.out; have hi := HIS.out
            rw [← HR.out, ← HM.out.1]
            exact congrArg Int.ofNat (isq_unique (by omega) HM.out.2.2.2 hi.1 hi.2)
          subst hx
          clear HR HIS
          go_wp2_with fail
          refine bodyPost_ret (by simp [results, Tryd.results20, go_sem, u0, u1, u2, u3]; try rfl) rfl ?_
          have lt := LT.out
          exact ⟨rfl, ((((H3.out.far lt (by first | omega | (dsimp only; omega)) _).far lt (by first | omega | (dsimp only; omega)) _).far lt (by first | omega | (dsimp only; omega)) _).far lt (by first | omega | (dsimp only; omega)) _), ((((C3.out.setCell (Or.inr (by first | omega | (dsimp only; omega))) _).setCell (Or.inr (by first | omega | (dsimp only; omega))) _).setCell (Or.inr (by first | omega | (dsimp only; omega))) _).setCell (Or.inr (by first | omega | (dsimp only; omega))) _)⟩

theorem due_8 (p l : Nat) (g : PS) (n : Int) (a b cc : Int) (s t : ByteArray) (w : World) (hg : Good g n) (hn : n ≤ 4611686018427387904) (ha : I64 a) (hb : I64 b) (h : Sz w p l g) :
    Calls Tryd.prog 20 #[.pointer (some ⟨l, 0, none⟩), .pointer (some ⟨p, 0, none⟩), opV 8 a b cc s t] w fun e w' => e = .returned (ansV 0 (spanP g).n (spanP g).k ⟨#[]⟩) ∧ Sz w' p l g ∧ Chg (fun k => k = p ∨ k = l) w w' := by
  unfold opV
  obtain ⟨T1, T2, T3⟩ := frame3 (T := 47) w (.cells #[.int .i64 8, .int .i64 a, .int .i64 b, .int .i64 cc, .string s, .string t] 50) [.int .i64 0, .int .i64 0, .int .i64 0, .string ⟨#[]⟩] [.int .i64 0, .int .i64 0, .int .i64 0, .string ⟨#[]⟩]
  have T0 := frame4 (T := 47) (U := 50) w [.int .i64 8, .int .i64 a, .int .i64 b, .int .i64 cc, .string s, .string t] [.int .i64 0, .int .i64 0, .int .i64 0, .string ⟨#[]⟩] [.int .i64 0, .int .i64 0, .int .i64 0, .string ⟨#[]⟩]
  have hp := h.sh.obj.lt
  have hl := Has.lt h.cv
  have LT : Hid (p < w.heap.size ∧ l < w.heap.size) := ⟨hp, hl⟩
  have H0 : Hid (Sz (((w.alloc (.cells #[.int .i64 8, .int .i64 a, .int .i64 b, .int .i64 cc, .string s, .string t] 50)).alloc (.cells #[.int .i64 0, .int .i64 0, .int .i64 0, .string ⟨#[]⟩] 47)).alloc (.cells #[.int .i64 0, .int .i64 0, .int .i64 0, .string ⟨#[]⟩] 47)) p l g) := h.nil T3
  have C0 : Hid (Chg (fun k => k = p ∨ k = l) w (((w.alloc (.cells #[.int .i64 8, .int .i64 a, .int .i64 b, .int .i64 cc, .string s, .string t] 50)).alloc (.cells #[.int .i64 0, .int .i64 0, .int .i64 0, .string ⟨#[]⟩] 47)).alloc (.cells #[.int .i64 0, .int .i64 0, .int .i64 0, .string ⟨#[]⟩] 47))) := chg_0 T3
  have HG : Hid (Good g n ∧ n ≤ 4611686018427387904 ∧ I64 a ∧ I64 b) := ⟨hg, hn, ha, hb⟩
  have i0 : w.cell? ⟨p, 0, none⟩ = some (.int .i64 g.depth) := h.sh.cell 0 (sh_get g h.len).1
  have z0 := h.sh.frozen 0
  have i1 : w.cell? ⟨p, 1, none⟩ = some (.int .i64 g.mode) := h.sh.cell 1 (sh_get g h.len).2.1
  have z1 := h.sh.frozen 1
  have i2 : w.cell? ⟨p, 2, none⟩ = some (.int .i64 g.sum) := h.sh.cell 2 (sh_get g h.len).2.2.1
  have z2 := h.sh.frozen 2
  have i3 : w.cell? ⟨p, 3, none⟩ = some (.int .i64 g.peak) := h.sh.cell 3 (sh_get g h.len).2.2.2.1
  have z3 := h.sh.frozen 3
  have i4 : w.cell? ⟨p, 4, none⟩ = some (.int .i64 g.dip) := h.sh.cell 4 (sh_get g h.len).2.2.2.2.1
  have z4 := h.sh.frozen 4
  have i5 : w.cell? ⟨p, 5, none⟩ = some (.int .i64 g.at_) := h.sh.cell 5 (sh_get g h.len).2.2.2.2.2.1
  have z5 := h.sh.frozen 5
  have i6 : w.cell? ⟨p, 6, none⟩ = some (.int .i64 g.seq) := h.sh.cell 6 (sh_get g h.len).2.2.2.2.2.2.1
  have z6 := h.sh.frozen 6
  have i7 : w.cell? ⟨p, 7, none⟩ = some (.int .i64 g.dropped) := h.sh.cell 7 (sh_get g h.len).2.2.2.2.2.2.2
  have z7 := h.sh.frozen 7
  have kA : ∀ (W : World) (i j : Nat) (v : Value), (W.setCell ⟨p, i, none⟩ v).cell? ⟨w.heap.size + 1, j, none⟩ = W.cell? ⟨w.heap.size + 1, j, none⟩ := fun W i j v => far_cell W (by omega) i j v
  have kAp : ∀ (W : World) (i j : Nat) (v : Value), (W.setCell ⟨w.heap.size + 1, i, none⟩ v).cell? ⟨p, j, none⟩ = W.cell? ⟨p, j, none⟩ := fun W i j v => far_cell W (by omega) i j v
  have kB : ∀ (W : World) (i j : Nat) (v : Value), (W.setCell ⟨p, i, none⟩ v).cell? ⟨w.heap.size + 1 + 1, j, none⟩ = W.cell? ⟨w.heap.size + 1 + 1, j, none⟩ := fun W i j v => far_cell W (by omega) i j v
  have kBp : ∀ (W : World) (i j : Nat) (v : Value), (W.setCell ⟨w.heap.size + 1 + 1, i, none⟩ v).cell? ⟨p, j, none⟩ = W.cell? ⟨p, j, none⟩ := fun W i j v => far_cell W (by omega) i j v
  have kO : ∀ (W : World) (i j : Nat) (v : Value), (W.setCell ⟨p, i, none⟩ v).cell? ⟨w.heap.size, j, none⟩ = W.cell? ⟨w.heap.size, j, none⟩ := fun W i j v => far_cell W (by omega) i j v
  have kOp : ∀ (W : World) (i j : Nat) (v : Value), (W.setCell ⟨w.heap.size, i, none⟩ v).cell? ⟨p, j, none⟩ = W.cell? ⟨p, j, none⟩ := fun W i j v => far_cell W (by omega) i j v
  have kF : ∀ (o1 o2 o3 : Obj) (j : Nat), (((w.alloc o1).alloc o2).alloc o3).cell? ⟨p, j, none⟩ = w.cell? ⟨p, j, none⟩ := fun o1 o2 o3 j => (((h.sh.obj.alloc o1).alloc o2).alloc o3).cell j |>.trans (h.sh.obj.cell j).symm
  have zF : ∀ (o1 o2 o3 : Obj) (j : Nat), (((w.alloc o1).alloc o2).alloc o3).frozen? ⟨p, j, none⟩ = false := fun o1 o2 o3 j => (((h.sh.obj.alloc o1).alloc o2).alloc o3).frozen j
  have HW : Hid (Sz w p l g) := h
  have q0 := hg.q0; have r0 := hg.r0; have A0 := hg.a0; have A8 := hg.a8
  have q1 : g.seq ≤ 4611686018427387904 := by have := hg.q1; omega
  have r1 : g.dropped ≤ 4611686018427387904 := by have := hg.r1; omega
  clear h hg hn ha hb hl
  have xs := xor_sign g.dip HG.out.1.dp
  obtain ⟨D, hD⟩ : ∃ D, negI g.dip = D := ⟨_, rfl⟩
  have KP : Hid (∀ w, Calls _ _ _ _ _) := fun w => rank_any g.peak w
  have KD : Hid (∀ w, Calls _ _ _ _ _) := fun w => rank_any (negI g.dip) w
  obtain ⟨kp, hkp⟩ : ∃ k, keyI g.peak = k := ⟨_, rfl⟩
  obtain ⟨kd, hkd⟩ : ∃ k, keyI (negI g.dip) = k := ⟨_, rfl⟩
  unfold spanP
  rw [hkp] at KP ⊢
  rw [hkd] at KD ⊢
  rw [hD] at KD xs ⊢
  clear hD hkp hkd
  by_cases hlt : kp < kd
  · rw [if_pos hlt]
    dsimp only
    go_enter Tryd.func20, Tryd.ntmps20
    go_wp2_with fail
    have H2 : Hid (Sz (((w.alloc (.cells #[.int .i64 8, .int .i64 a, .int .i64 b, .int .i64 cc, .string s, .string t] 50)).alloc (.cells #[.int .i64 0, .int .i64 0, .int .i64 0, .string ⟨#[]⟩] 47)).alloc (.cells #[.int .i64 0, .int .i64 g.peak, .int .i64 D, .string ⟨#[]⟩] 47)) p l g) := HW.out.nil ((((Chg.refl _ w).alloc _).alloc _).alloc _)
    have C2 : Hid (Chg (fun k => k = p ∨ k = l) w (((w.alloc (.cells #[.int .i64 8, .int .i64 a, .int .i64 b, .int .i64 cc, .string s, .string t] 50)).alloc (.cells #[.int .i64 0, .int .i64 0, .int .i64 0, .string ⟨#[]⟩] 47)).alloc (.cells #[.int .i64 0, .int .i64 g.peak, .int .i64 D, .string ⟨#[]⟩] 47))) := ((((Chg.refl _ w).alloc _).alloc _).alloc _)
    have R2 : Hid (Has 47 (((w.alloc (.cells #[.int .i64 8, .int .i64 a, .int .i64 b, .int .i64 cc, .string s, .string t] 50)).alloc (.cells #[.int .i64 0, .int .i64 0, .int .i64 0, .string ⟨#[]⟩] 47)).alloc (.cells #[.int .i64 0, .int .i64 g.peak, .int .i64 D, .string ⟨#[]⟩] 47)) (w.heap.size + 1) [.int .i64 0, .int .i64 0, .int .i64 0, .string ⟨#[]⟩]) := (frame3 (T := 47) w _ [.int .i64 0, .int .i64 0, .int .i64 0, .string ⟨#[]⟩] [.int .i64 0, .int .i64 g.peak, .int .i64 D, .string ⟨#[]⟩]).1
    have L2 : Hid (Has 47 (((w.alloc (.cells #[.int .i64 8, .int .i64 a, .int .i64 b, .int .i64 cc, .string s, .string t] 50)).alloc (.cells #[.int .i64 0, .int .i64 0, .int .i64 0, .string ⟨#[]⟩] 47)).alloc (.cells #[.int .i64 0, .int .i64 g.peak, .int .i64 D, .string ⟨#[]⟩] 47)) (w.heap.size + 1 + 1) [.int .i64 0, .int .i64 g.peak, .int .i64 D, .string ⟨#[]⟩]) := (frame3 (T := 47) w _ [.int .i64 0, .int .i64 0, .int .i64 0, .string ⟨#[]⟩] [.int .i64 0, .int .i64 g.peak, .int .i64 D, .string ⟨#[]⟩]).2.1
    clear T0 T1 T2 T3 H0 C0 i0 i1 i2 i3 i4 i5 i6 i7 z0 z1 z2 z3 z4 z5 z6 z7 kF zF kA kAp kB kBp kO kOp
    generalize (((w.alloc (.cells #[.int .i64 8, .int .i64 a, .int .i64 b, .int .i64 cc, .string s, .string t] 50)).alloc (.cells #[.int .i64 0, .int .i64 0, .int .i64 0, .string ⟨#[]⟩] 47)).alloc (.cells #[.int .i64 0, .int .i64 g.peak, .int .i64 D, .string ⟨#[]⟩] 47)) = w2 at H2 C2 R2 L2 ⊢
    have f0 := R2.out.frozen 0
    have u0 : w2.cell? ⟨w.heap.size + 1, 0, none⟩ = some (.int .i64 0) := R2.out.cell 0
    have g0 := L2.out.frozen 0
    have v0 : w2.cell? ⟨w.heap.size + 1 + 1, 0, none⟩ = some (.int .i64 0) := L2.out.cell 0
    have f1 := R2.out.frozen 1
    have u1 : w2.cell? ⟨w.heap.size + 1, 1, none⟩ = some (.int .i64 0) := R2.out.cell 1
    have g1 := L2.out.frozen 1
    have v1 : w2.cell? ⟨w.heap.size + 1 + 1, 1, none⟩ = some (.int .i64 g.peak) := L2.out.cell 1
    have f2 := R2.out.frozen 2
    have u2 : w2.cell? ⟨w.heap.size + 1, 2, none⟩ = some (.int .i64 0) := R2.out.cell 2
    have g2 := L2.out.frozen 2
    have v2 : w2.cell? ⟨w.heap.size + 1 + 1, 2, none⟩ = some (.int .i64 D) := L2.out.cell 2
    have f3 := R2.out.frozen 3
    have u3 : w2.cell? ⟨w.heap.size + 1, 3, none⟩ = some (.string ⟨#[]⟩) := R2.out.cell 3
    have g3 := L2.out.frozen 3
    have v3 : w2.cell? ⟨w.heap.size + 1 + 1, 3, none⟩ = some (.string ⟨#[]⟩) := L2.out.cell 3
    go_quiet ((first | (go_at_call_of 43 g.peak; exact Calls.quiet_of_same (KP.out _)) | (go_at_call_of 43 D; exact Calls.quiet_of_same (KD.out _))))
    go_wp2_with fail
    refine bodyPost_ret (by simp [results, Tryd.results20, go_sem, u0, u1, u2, u3]; try rfl) rfl ?_
    have lt := LT.out
    exact ⟨rfl, (((((((H2.out.drewN _).far lt (by first | omega | (dsimp only; omega)) _).far lt (by first | omega | (dsimp only; omega)) _).far lt (by first | omega | (dsimp only; omega)) _).far lt (by first | omega | (dsimp only; omega)) _).far lt (by first | omega | (dsimp only; omega)) _).far lt (by first | omega | (dsimp only; omega)) _), (((((((C2.out.drewN _).setCell (Or.inr (by first | omega | (dsimp only; omega))) _).setCell (Or.inr (by first | omega | (dsimp only; omega))) _).setCell (Or.inr (by first | omega | (dsimp only; omega))) _).setCell (Or.inr (by first | omega | (dsimp only; omega))) _).setCell (Or.inr (by first | omega | (dsimp only; omega))) _).setCell (Or.inr (by first | omega | (dsimp only; omega))) _)⟩
  · rw [if_neg hlt]
    dsimp only
    go_enter Tryd.func20, Tryd.ntmps20
    go_wp2_with fail
    have H2 : Hid (Sz (((w.alloc (.cells #[.int .i64 8, .int .i64 a, .int .i64 b, .int .i64 cc, .string s, .string t] 50)).alloc (.cells #[.int .i64 0, .int .i64 0, .int .i64 0, .string ⟨#[]⟩] 47)).alloc (.cells #[.int .i64 0, .int .i64 g.peak, .int .i64 D, .string ⟨#[]⟩] 47)) p l g) := HW.out.nil ((((Chg.refl _ w).alloc _).alloc _).alloc _)
    have C2 : Hid (Chg (fun k => k = p ∨ k = l) w (((w.alloc (.cells #[.int .i64 8, .int .i64 a, .int .i64 b, .int .i64 cc, .string s, .string t] 50)).alloc (.cells #[.int .i64 0, .int .i64 0, .int .i64 0, .string ⟨#[]⟩] 47)).alloc (.cells #[.int .i64 0, .int .i64 g.peak, .int .i64 D, .string ⟨#[]⟩] 47))) := ((((Chg.refl _ w).alloc _).alloc _).alloc _)
    have R2 : Hid (Has 47 (((w.alloc (.cells #[.int .i64 8, .int .i64 a, .int .i64 b, .int .i64 cc, .string s, .string t] 50)).alloc (.cells #[.int .i64 0, .int .i64 0, .int .i64 0, .string ⟨#[]⟩] 47)).alloc (.cells #[.int .i64 0, .int .i64 g.peak, .int .i64 D, .string ⟨#[]⟩] 47)) (w.heap.size + 1) [.int .i64 0, .int .i64 0, .int .i64 0, .string ⟨#[]⟩]) := (frame3 (T := 47) w _ [.int .i64 0, .int .i64 0, .int .i64 0, .string ⟨#[]⟩] [.int .i64 0, .int .i64 g.peak, .int .i64 D, .string ⟨#[]⟩]).1
    have L2 : Hid (Has 47 (((w.alloc (.cells #[.int .i64 8, .int .i64 a, .int .i64 b, .int .i64 cc, .string s, .string t] 50)).alloc (.cells #[.int .i64 0, .int .i64 0, .int .i64 0, .string ⟨#[]⟩] 47)).alloc (.cells #[.int .i64 0, .int .i64 g.peak, .int .i64 D, .string ⟨#[]⟩] 47)) (w.heap.size + 1 + 1) [.int .i64 0, .int .i64 g.peak, .int .i64 D, .string ⟨#[]⟩]) := (frame3 (T := 47) w _ [.int .i64 0, .int .i64 0, .int .i64 0, .string ⟨#[]⟩] [.int .i64 0, .int .i64 g.peak, .int .i64 D, .string ⟨#[]⟩]).2.1
    clear T0 T1 T2 T3 H0 C0 i0 i1 i2 i3 i4 i5 i6 i7 z0 z1 z2 z3 z4 z5 z6 z7 kF zF kA kAp kB kBp kO kOp
    generalize (((w.alloc (.cells #[.int .i64 8, .int .i64 a, .int .i64 b, .int .i64 cc, .string s, .string t] 50)).alloc (.cells #[.int .i64 0, .int .i64 0, .int .i64 0, .string ⟨#[]⟩] 47)).alloc (.cells #[.int .i64 0, .int .i64 g.peak, .int .i64 D, .string ⟨#[]⟩] 47)) = w2 at H2 C2 R2 L2 ⊢
    have f0 := R2.out.frozen 0
    have u0 : w2.cell? ⟨w.heap.size + 1, 0, none⟩ = some (.int .i64 0) := R2.out.cell 0
    have g0 := L2.out.frozen 0
    have v0 : w2.cell? ⟨w.heap.size + 1 + 1, 0, none⟩ = some (.int .i64 0) := L2.out.cell 0
    have f1 := R2.out.frozen 1
    have u1 : w2.cell? ⟨w.heap.size + 1, 1, none⟩ = some (.int .i64 0) := R2.out.cell 1
    have g1 := L2.out.frozen 1
    have v1 : w2.cell? ⟨w.heap.size + 1 + 1, 1, none⟩ = some (.int .i64 g.peak) := L2.out.cell 1
    have f2 := R2.out.frozen 2
    have u2 : w2.cell? ⟨w.heap.size + 1, 2, none⟩ = some (.int .i64 0) := R2.out.cell 2
    have g2 := L2.out.frozen 2
    have v2 : w2.cell? ⟨w.heap.size + 1 + 1, 2, none⟩ = some (.int .i64 D) := L2.out.cell 2
    have f3 := R2.out.frozen 3
    have u3 : w2.cell? ⟨w.heap.size + 1, 3, none⟩ = some (.string ⟨#[]⟩) := R2.out.cell 3
    have g3 := L2.out.frozen 3
    have v3 : w2.cell? ⟨w.heap.size + 1 + 1, 3, none⟩ = some (.string ⟨#[]⟩) := L2.out.cell 3
    go_quiet ((first | (go_at_call_of 43 g.peak; exact Calls.quiet_of_same (KP.out _)) | (go_at_call_of 43 D; exact Calls.quiet_of_same (KD.out _))))
    go_wp2_with fail
    refine bodyPost_ret (by simp [results, Tryd.results20, go_sem, u0, u1, u2, u3]; try rfl) rfl ?_
    have lt := LT.out
    exact ⟨rfl, (((((H2.out.drewN _).far lt (by first | omega | (dsimp only; omega)) _).far lt (by first | omega | (dsimp only; omega)) _).far lt (by first | omega | (dsimp only; omega)) _).far lt (by first | omega | (dsimp only; omega)) _), (((((C2.out.drewN _).setCell (Or.inr (by first | omega | (dsimp only; omega))) _).setCell (Or.inr (by first | omega | (dsimp only; omega))) _).setCell (Or.inr (by first | omega | (dsimp only; omega))) _).setCell (Or.inr (by first | omega | (dsimp only; omega))) _)⟩

end Go.Proofs.Qxb6500376aDoor

/- KeepsQuiet: due, kind by kind (written by tools/gendue.py). -/
import Derived.Test.Qxb6500376aDoorKqFar
namespace Go.Proofs.Qxb6500376aDoor
set_option linter.unusedVariables false
set_option linter.unusedSimpArgs false
set_option maxHeartbeats 4000000
set_option maxRecDepth 100000
open Go.RowKit Go.Qu Ieee
theorem due_3 (p l : Nat) (g : PS) (n : Int) (a b cc : Int) (s t : ByteArray) (w : World) (hg : Good g n) (hn : n ≤ 4611686018427387904) (ha : I64 a) (hb : I64 b) (h : Sz w p l g) :
    Calls Tryd.prog 20 #[.pointer (some ⟨l, 0, none⟩), .pointer (some ⟨p, 0, none⟩), opV 3 a b cc s t] w fun e w' => e = .returned (ansV 0 g.sum 0 ⟨#[]⟩) ∧ Sz w' p l g ∧ Chg (fun k => k = p ∨ k = l) w w' := by
  unfold opV
  obtain ⟨T1, T2, T3⟩ := frame3 (T := 47) w (.cells #[.int .i64 3, .int .i64 a, .int .i64 b, .int .i64 cc, .string s, .string t] 50) [.int .i64 0, .int .i64 0, .int .i64 0, .string ⟨#[]⟩] [.int .i64 0, .int .i64 0, .int .i64 0, .string ⟨#[]⟩]
  have T0 := frame4 (T := 47) (U := 50) w [.int .i64 3, .int .i64 a, .int .i64 b, .int .i64 cc, .string s, .string t] [.int .i64 0, .int .i64 0, .int .i64 0, .string ⟨#[]⟩] [.int .i64 0, .int .i64 0, .int .i64 0, .string ⟨#[]⟩]
  have hp := h.sh.obj.lt
  have hl := Has.lt h.cv
  have LT : Hid (p < w.heap.size ∧ l < w.heap.size) := ⟨hp, hl⟩
  have H0 : Hid (Sz (((w.alloc (.cells #[.int .i64 3, .int .i64 a, .int .i64 b, .int .i64 cc, .string s, .string t] 50)).alloc (.cells #[.int .i64 0, .int .i64 0, .int .i64 0, .string ⟨#[]⟩] 47)).alloc (.cells #[.int .i64 0, .int .i64 0, .int .i64 0, .string ⟨#[]⟩] 47)) p l g) := h.nil T3
  have C0 : Hid (Chg (fun k => k = p ∨ k = l) w (((w.alloc (.cells #[.int .i64 3, .int .i64 a, .int .i64 b, .int .i64 cc, .string s, .string t] 50)).alloc (.cells #[.int .i64 0, .int .i64 0, .int .i64 0, .string ⟨#[]⟩] 47)).alloc (.cells #[.int .i64 0, .int .i64 0, .int .i64 0, .string ⟨#[]⟩] 47))) := chg_0 T3
  have HG : Hid (Good g n ∧ n ≤ 4611686018427387904 ∧ I64 a ∧ I64 b) := ⟨hg, hn, ha, hb⟩
  have i0 : w.cell? ⟨p, 0, none⟩ = some (.int .i64 g.depth) := h.sh.cell 0 (sh_get g h.len).1
  have z0 := h.sh.frozen 0
  have i1 : w.cell? ⟨p, 1, none⟩ = some (.int .i64 g.mode) := h.sh.cell 1 (sh_get g h.len).2.1
  have z1 := h.sh.frozen 1
  have i2 : w.cell? ⟨p, 2, none⟩ = some (.int .i64 g.sum) := h.sh.cell 2 (sh_get g h.len).2.2.1
  have z2 := h.sh.frozen 2
  have i3 : w.cell? ⟨p, 3, none⟩ = some (.int .i64 g.peak) := h.sh.cell 3 (sh_get g h.len).2.2.2.1
  have z3 := h.sh.frozen 3
  have i4 : w.cell? ⟨p, 4, none⟩ = some (.int .i64 g.dip) := h.sh.cell 4 (sh_get g h.len).2.2.2.2.1
  have z4 := h.sh.frozen 4
  have i5 : w.cell? ⟨p, 5, none⟩ = some (.int .i64 g.at_) := h.sh.cell 5 (sh_get g h.len).2.2.2.2.2.1
  have z5 := h.sh.frozen 5
  have i6 : w.cell? ⟨p, 6, none⟩ = some (.int .i64 g.seq) := h.sh.cell 6 (sh_get g h.len).2.2.2.2.2.2.1
  have z6 := h.sh.frozen 6
  have i7 : w.cell? ⟨p, 7, none⟩ = some (.int .i64 g.dropped) := h.sh.cell 7 (sh_get g h.len).2.2.2.2.2.2.2
  have z7 := h.sh.frozen 7
  have kA : ∀ (W : World) (i j : Nat) (v : Value), (W.setCell ⟨p, i, none⟩ v).cell? ⟨w.heap.size + 1, j, none⟩ = W.cell? ⟨w.heap.size + 1, j, none⟩ := fun W i j v => far_cell W (by omega) i j v
  have kAp : ∀ (W : World) (i j : Nat) (v : Value), (W.setCell ⟨w.heap.size + 1, i, none⟩ v).cell? ⟨p, j, none⟩ = W.cell? ⟨p, j, none⟩ := fun W i j v => far_cell W (by omega) i j v
  have kB : ∀ (W : World) (i j : Nat) (v : Value), (W.setCell ⟨p, i, none⟩ v).cell? ⟨w.heap.size + 1 + 1, j, none⟩ = W.cell? ⟨w.heap.size + 1 + 1, j, none⟩ := fun W i j v => far_cell W (by omega) i j v
  have kBp : ∀ (W : World) (i j : Nat) (v : Value), (W.setCell ⟨w.heap.size + 1 + 1, i, none⟩ v).cell? ⟨p, j, none⟩ = W.cell? ⟨p, j, none⟩ := fun W i j v => far_cell W (by omega) i j v
  have kO : ∀ (W : World) (i j : Nat) (v : Value), (W.setCell ⟨p, i, none⟩ v).cell? ⟨w.heap.size, j, none⟩ = W.cell? ⟨w.heap.size, j, none⟩ := fun W i j v => far_cell W (by omega) i j v
  have kOp : ∀ (W : World) (i j : Nat) (v : Value), (W.setCell ⟨w.heap.size, i, none⟩ v).cell? ⟨p, j, none⟩ = W.cell? ⟨p, j, none⟩ := fun W i j v => far_cell W (by omega) i j v
  have kF : ∀ (o1 o2 o3 : Obj) (j : Nat), (((w.alloc o1).alloc o2).alloc o3).cell? ⟨p, j, none⟩ = w.cell? ⟨p, j, none⟩ := fun o1 o2 o3 j => (((h.sh.obj.alloc o1).alloc o2).alloc o3).cell j |>.trans (h.sh.obj.cell j).symm
  have zF : ∀ (o1 o2 o3 : Obj) (j : Nat), (((w.alloc o1).alloc o2).alloc o3).frozen? ⟨p, j, none⟩ = false := fun o1 o2 o3 j => (((h.sh.obj.alloc o1).alloc o2).alloc o3).frozen j
  have HW : Hid (Sz w p l g) := h
  have q0 := hg.q0; have r0 := hg.r0; have A0 := hg.a0; have A8 := hg.a8
  have q1 : g.seq ≤ 4611686018427387904 := by have := hg.q1; omega
  have r1 : g.dropped ≤ 4611686018427387904 := by have := hg.r1; omega
  clear h hg hn ha hb hl
  go_enter Tryd.func20, Tryd.ntmps20
  go_wp2_with fail
  refine bodyPost_ret (by simp [results, Tryd.results20, go_sem]; try rfl) rfl ?_
  have lt := LT.out
  exact ⟨rfl, (HW.out.nil ((((Chg.refl _ w).alloc _).alloc _).alloc _)), ((((Chg.refl _ w).alloc _).alloc _).alloc _)⟩

theorem due_4 (p l : Nat) (g : PS) (n : Int) (a b cc : Int) (s t : ByteArray) (w : World) (hg : Good g n) (hn : n ≤ 4611686018427387904) (ha : I64 a) (hb : I64 b) (h : Sz w p l g) :
    Calls Tryd.prog 20 #[.pointer (some ⟨l, 0, none⟩), .pointer (some ⟨p, 0, none⟩), opV 4 a b cc s t] w fun e w' => e = .returned (ansV 0 g.peak 0 ⟨#[]⟩) ∧ Sz w' p l g ∧ Chg (fun k => k = p ∨ k = l) w w' := by
  unfold opV
  obtain ⟨T1, T2, T3⟩ := frame3 (T := 47) w (.cells #[.int .i64 4, .int .i64 a, .int .i64 b, .int .i64 cc, .string s, .string t] 50) [.int .i64 0, .int .i64 0, .int .i64 0, .string ⟨#[]⟩] [.int .i64 0, .int .i64 0, .int .i64 0, .string ⟨#[]⟩]
  have T0 := frame4 (T := 47) (U := 50) w [.int .i64 4, .int .i64 a, .int .i64 b, .int .i64 cc, .string s, .string t] [.int .i64 0, .int .i64 0, .int .i64 0, .string ⟨#[]⟩] [.int .i64 0, .int .i64 0, .int .i64 0, .string ⟨#[]⟩]
  have hp := h.sh.obj.lt
  have hl := Has.lt h.cv
  have LT : Hid (p < w.heap.size ∧ l < w.heap.size) := ⟨hp, hl⟩
  have H0 : Hid (Sz (((w.alloc (.cells #[.int .i64 4, .int .i64 a, .int .i64 b, .int .i64 cc, .string s, .string t] 50)).alloc (.cells #[.int .i64 0, .int .i64 0, .int .i64 0, .string ⟨#[]⟩] 47)).alloc (.cells #[.int .i64 0, .int .i64 0, .int .i64 0, .string ⟨#[]⟩] 47)) p l g) := h.nil T3
  have C0 : Hid (Chg (fun k => k = p ∨ k = l) w (((w.alloc (.cells #[.int .i64 4, .int .i64 a, .int .i64 b, .int .i64 cc, .string s, .string t] 50)).alloc (.cells #[.int .i64 0, .int .i64 0, .int .i64 0, .string ⟨#[]⟩] 47)).alloc (.cells #[.int .i64 0, .int .i64 0, .int .i64 0, .string ⟨#[]⟩] 47))) := chg_0 T3
  have HG : Hid (Good g n ∧ n ≤ 4611686018427387904 ∧ I64 a ∧ I64 b) := ⟨hg, hn, ha, hb⟩
  have i0 : w.cell? ⟨p, 0, none⟩ = some (.int .i64 g.depth) := h.sh.cell 0 (sh_get g h.len).1
  have z0 := h.sh.frozen 0
  have i1 : w.cell? ⟨p, 1, none⟩ = some (.int .i64 g.mode) := h.sh.cell 1 (sh_get g h.len).2.1
  have z1 := h.sh.frozen 1
  have i2 : w.cell? ⟨p, 2, none⟩ = some (.int .i64 g.sum) := h.sh.cell 2 (sh_get g h.len).2.2.1
  have z2 := h.sh.frozen 2
  have i3 : w.cell? ⟨p, 3, none⟩ = some (.int .i64 g.peak) := h.sh.cell 3 (sh_get g h.len).2.2.2.1
  have z3 := h.sh.frozen 3
  have i4 : w.cell? ⟨p, 4, none⟩ = some (.int .i64 g.dip) := h.sh.cell 4 (sh_get g h.len).2.2.2.2.1
  have z4 := h.sh.frozen 4
  have i5 : w.cell? ⟨p, 5, none⟩ = some (.int .i64 g.at_) := h.sh.cell 5 (sh_get g h.len).2.2.2.2.2.1
  have z5 := h.sh.frozen 5
  have i6 : w.cell? ⟨p, 6, none⟩ = some (.int .i64 g.seq) := h.sh.cell 6 (sh_get g h.len).2.2.2.2.2.2.1
  have z6 := h.sh.frozen 6
  have i7 : w.cell? ⟨p, 7, none⟩ = some (.int .i64 g.dropped) := h.sh.cell 7 (sh_get g h.len).2.2.2.2.2.2.2
  have z7 := h.sh.frozen 7
  have kA : ∀ (W : World) (i j : Nat) (v : Value), (W.setCell ⟨p, i, none⟩ v).cell? ⟨w.heap.size + 1, j, none⟩ = W.cell? ⟨w.heap.size + 1, j, none⟩ := fun W i j v => far_cell W (by omega) i j v
  have kAp : ∀ (W : World) (i j : Nat) (v : Value), (W.setCell ⟨w.heap.size + 1, i, none⟩ v).cell? ⟨p, j, none⟩ = W.cell? ⟨p, j, none⟩ := fun W i j v => far_cell W (by omega) i j v
  have kB : ∀ (W : World) (i j : Nat) (v : Value), (W.setCell ⟨p, i, none⟩ v).cell? ⟨w.heap.size + 1 + 1, j, none⟩ = W.cell? ⟨w.heap.size + 1 + 1, j, none⟩ := fun W i j v => far_cell W (by omega) i j v
  have kBp : ∀ (W : World) (i j : Nat) (v : Value), (W.setCell ⟨w.heap.size + 1 + 1, i, none⟩ v).cell? ⟨p, j, none⟩ = W.cell? ⟨p, j, none⟩ := fun W i j v => far_cell W (by omega) i j v
  have kO : ∀ (W : World) (i j : Nat) (v : Value), (W.setCell ⟨p, i, none⟩ v).cell? ⟨w.heap.size, j, none⟩ = W.cell? ⟨w.heap.size, j, none⟩ := fun W i j v => far_cell W (by omega) i j v
  have kOp : ∀ (W : World) (i j : Nat) (v : Value), (W.setCell ⟨w.heap.size, i, none⟩ v).cell? ⟨p, j, none⟩ = W.cell? ⟨p, j, none⟩ := fun W i j v => far_cell W (by omega) i j v
  have kF : ∀ (o1 o2 o3 : Obj) (j : Nat), (((w.alloc o1).alloc o2).alloc o3).cell? ⟨p, j, none⟩ = w.cell? ⟨p, j, none⟩ := fun o1 o2 o3 j => (((h.sh.obj.alloc o1).alloc o2).alloc o3).cell j |>.trans (h.sh.obj.cell j).symm
  have zF : ∀ (o1 o2 o3 : Obj) (j : Nat), (((w.alloc o1).alloc o2).alloc o3).frozen? ⟨p, j, none⟩ = false := fun o1 o2 o3 j => (((h.sh.obj.alloc o1).alloc o2).alloc o3).frozen j
  have HW : Hid (Sz w p l g) := h
  have q0 := hg.q0; have r0 := hg.r0; have A0 := hg.a0; have A8 := hg.a8
  have q1 : g.seq ≤ 4611686018427387904 := by have := hg.q1; omega
  have r1 : g.dropped ≤ 4611686018427387904 := by have := hg.r1; omega
  clear h hg hn ha hb hl
  go_enter Tryd.func20, Tryd.ntmps20
  go_wp2_with fail
  refine bodyPost_ret (by simp [results, Tryd.results20, go_sem]; try rfl) rfl ?_
  have lt := LT.out
  exact ⟨rfl, (HW.out.nil ((((Chg.refl _ w).alloc _).alloc _).alloc _)), ((((Chg.refl _ w).alloc _).alloc _).alloc _)⟩

theorem due_5 (p l : Nat) (g : PS) (n : Int) (a b cc : Int) (s t : ByteArray) (w : World) (hg : Good g n) (hn : n ≤ 4611686018427387904) (ha : I64 a) (hb : I64 b) (h : Sz w p l g) :
    Calls Tryd.prog 20 #[.pointer (some ⟨l, 0, none⟩), .pointer (some ⟨p, 0, none⟩), opV 5 a b cc s t] w fun e w' => e = .returned (ansV 0 g.dip 0 ⟨#[]⟩) ∧ Sz w' p l g ∧ Chg (fun k => k = p ∨ k = l) w w' := by
  unfold opV
  obtain ⟨T1, T2, T3⟩ := frame3 (T := 47) w (.cells #[.int .i64 5, .int .i64 a, .int .i64 b, .int .i64 cc, .string s, .string t] 50) [.int .i64 0, .int .i64 0, .int .i64 0, .string ⟨#[]⟩] [.int .i64 0, .int .i64 0, .int .i64 0, .string ⟨#[]⟩]
  have T0 := frame4 (T := 47) (U := 50) w [.int .i64 5, .int .i64 a, .int .i64 b, .int .i64 cc, .string s, .string t] [.int .i64 0, .int .i64 0, .int .i64 0, .string ⟨#[]⟩] [.int .i64 0, .int .i64 0, .int .i64 0, .string ⟨#[]⟩]
  have hp := h.sh.obj.lt
  have hl := Has.lt h.cv
  have LT : Hid (p < w.heap.size ∧ l < w.heap.size) := ⟨hp, hl⟩
  have H0 : Hid (Sz (((w.alloc (.cells #[.int .i64 5, .int .i64 a, .int .i64 b, .int .i64 cc, .string s, .string t] 50)).alloc (.cells #[.int .i64 0, .int .i64 0, .int .i64 0, .string ⟨#[]⟩] 47)).alloc (.cells #[.int .i64 0, .int .i64 0, .int .i64 0, .string ⟨#[]⟩] 47)) p l g) := h.nil T3
  have C0 : Hid (Chg (fun k => k = p ∨ k = l) w (((w.alloc (.cells #[.int .i64 5, .int .i64 a, .int .i64 b, .int .i64 cc, .string s, .string t] 50)).alloc (.cells #[.int .i64 0, .int .i64 0, .int .i64 0, .string ⟨#[]⟩] 47)).alloc (.cells #[.int .i64 0, .int .i64 0, .int .i64 0, .string ⟨#[]⟩] 47))) := chg_0 T3
  have HG : Hid (Good g n ∧ n ≤ 4611686018427387904 ∧ I64 a ∧ I64 b) := ⟨hg, hn, ha, hb⟩
  have i0 : w.cell? ⟨p, 0, none⟩ = some (.int .i64 g.depth) := h.sh.cell 0 (sh_get g h.len).1
  have z0 := h.sh.frozen 0
  have i1 : w.cell? ⟨p, 1, none⟩ = some (.int .i64 g.mode) := h.sh.cell 1 (sh_get g h.len).2.1
  have z1 := h.sh.frozen 1
  have i2 : w.cell? ⟨p, 2, none⟩ = some (.int .i64 g.sum) := h.sh.cell 2 (sh_get g h.len).2.2.1
  have z2 := h.sh.frozen 2
  have i3 : w.cell? ⟨p, 3, none⟩ = some (.int .i64 g.peak) := h.sh.cell 3 (sh_get g h.len).2.2.2.1
  have z3 := h.sh.frozen 3
  have i4 : w.cell? ⟨p, 4, none⟩ = some (.int .i64 g.dip) := h.sh.cell 4 (sh_get g h.len).2.2.2.2.1
  have z4 := h.sh.frozen 4
  have i5 : w.cell? ⟨p, 5, none⟩ = some (.int .i64 g.at_) := h.sh.cell 5 (sh_get g h.len).2.2.2.2.2.1
  have z5 := h.sh.frozen 5
  have i6 : w.cell? ⟨p, 6, none⟩ = some (.int .i64 g.seq) := h.sh.cell 6 (sh_get g h.len).2.2.2.2.2.2.1
  have z6 := h.sh.frozen 6
  have i7 : w.cell? ⟨p, 7, none⟩ = some (.int .i64 g.dropped) := h.sh.cell 7 (sh_get g h.len).2.2.2.2.2.2.2
  have z7 := h.sh.frozen 7
  have kA : ∀ (W : World) (i j : Nat) (v : Value), (W.setCell ⟨p, i, none⟩ v).cell? ⟨w.heap.size + 1, j, none⟩ = W.cell? ⟨w.heap.size + 1, j, none⟩ := fun W i j v => far_cell W (by omega) i j v
  have kAp : ∀ (W : World) (i j : Nat) (v : Value), (W.setCell ⟨w.heap.size + 1, i, none⟩ v).cell? ⟨p, j, none⟩ = W.cell? ⟨p, j, none⟩ := fun W i j v => far_cell W (by omega) i j v
  have kB : ∀ (W : World) (i j : Nat) (v : Value), (W.setCell ⟨p, i, none⟩ v).cell? ⟨w.heap.size + 1 + 1, j, none⟩ = W.cell? ⟨w.heap.size + 1 + 1, j, none⟩ := fun W i j v => far_cell W (by omega) i j v
  have kBp : ∀ (W : World) (i j : Nat) (v : Value), (W.setCell ⟨w.heap.size + 1 + 1, i, none⟩ v).cell? ⟨p, j, none⟩ = W.cell? ⟨p, j, none⟩ := fun W i j v => far_cell W (by omega) i j v
  have kO : ∀ (W : World) (i j : Nat) (v : Value), (W.setCell ⟨p, i, none⟩ v).cell? ⟨w.heap.size, j, none⟩ = W.cell? ⟨w.heap.size, j, none⟩ := fun W i j v => far_cell W (by omega) i j v
  have kOp : ∀ (W : World) (i j : Nat) (v : Value), (W.setCell ⟨w.heap.size, i, none⟩ v).cell? ⟨p, j, none⟩ = W.cell? ⟨p, j, none⟩ := fun W i j v => far_cell W (by omega) i j v
  have kF : ∀ (o1 o2 o3 : Obj) (j : Nat), (((w.alloc o1).alloc o2).alloc o3).cell? ⟨p, j, none⟩ = w.cell? ⟨p, j, none⟩ := fun o1 o2 o3 j => (((h.sh.obj.alloc o1).alloc o2).alloc o3).cell j |>.trans (h.sh.obj.cell j).symm
  have zF : ∀ (o1 o2 o3 : Obj) (j : Nat), (((w.alloc o1).alloc o2).alloc o3).frozen? ⟨p, j, none⟩ = false := fun o1 o2 o3 j => (((h.sh.obj.alloc o1).alloc o2).alloc o3).frozen j
  have HW : Hid (Sz w p l g) := h
  have q0 := hg.q0; have r0 := hg.r0; have A0 := hg.a0; have A8 := hg.a8
  have q1 : g.seq ≤ 4611686018427387904 := by have := hg.q1; omega
  have r1 : g.dropped ≤ 4611686018427387904 := by have := hg.r1; omega
  clear h hg hn ha hb hl
  go_enter Tryd.func20, Tryd.ntmps20
  go_wp2_with fail
  refine bodyPost_ret (by simp [results, Tryd.results20, go_sem]; try rfl) rfl ?_
  have lt := LT.out
  exact ⟨rfl, (HW.out.nil ((((Chg.refl _ w).alloc _).alloc _).alloc _)), ((((Chg.refl _ w).alloc _).alloc _).alloc _)⟩

theorem due_12 (p l : Nat) (g : PS) (n : Int) (a b cc : Int) (s t : ByteArray) (w : World) (hg : Good g n) (hn : n ≤ 4611686018427387904) (ha : I64 a) (hb : I64 b) (h : Sz w p l g) :
    Calls Tryd.prog 20 #[.pointer (some ⟨l, 0, none⟩), .pointer (some ⟨p, 0, none⟩), opV 12 a b cc s t] w fun e w' => e = .returned (ansV 0 g.dropped 0 ⟨#[]⟩) ∧ Sz w' p l g ∧ Chg (fun k => k = p ∨ k = l) w w' := by
  unfold opV
  obtain ⟨T1, T2, T3⟩ := frame3 (T := 47) w (.cells #[.int .i64 12, .int .i64 a, .int .i64 b, .int .i64 cc, .string s, .string t] 50) [.int .i64 0, .int .i64 0, .int .i64 0, .string ⟨#[]⟩] [.int .i64 0, .int .i64 0, .int .i64 0, .string ⟨#[]⟩]
  have T0 := frame4 (T := 47) (U := 50) w [.int .i64 12, .int .i64 a, .int .i64 b, .int .i64 cc, .string s, .string t] [.int .i64 0, .int .i64 0, .int .i64 0, .string ⟨#[]⟩] [.int .i64 0, .int .i64 0, .int .i64 0, .string ⟨#[]⟩]
  have hp := h.sh.obj.lt
  have hl := Has.lt h.cv
  have LT : Hid (p < w.heap.size ∧ l < w.heap.size) := ⟨hp, hl⟩
  have H0 : Hid (Sz (((w.alloc (.cells #[.int .i64 12, .int .i64 a, .int .i64 b, .int .i64 cc, .string s, .string t] 50)).alloc (.cells #[.int .i64 0, .int .i64 0, .int .i64 0, .string ⟨#[]⟩] 47)).alloc (.cells #[.int .i64 0, .int .i64 0, .int .i64 0, .string ⟨#[]⟩] 47)) p l g) := h.nil T3
  have C0 : Hid (Chg (fun k => k = p ∨ k = l) w (((w.alloc (.cells #[.int .i64 12, .int .i64 a, .int .i64 b, .int .i64 cc, .string s, .string t] 50)).alloc (.cells #[.int .i64 0, .int .i64 0, .int .i64 0, .string ⟨#[]⟩] 47)).alloc (.cells #[.int .i64 0, .int .i64 0, .int .i64 0, .string ⟨#[]⟩] 47))) := chg_0 T3
  have HG : Hid (Good g n ∧ n ≤ 4611686018427387904 ∧ I64 a ∧ I64 b) := ⟨hg, hn, ha, hb⟩
  have i0 : w.cell? ⟨p, 0, none⟩ = some (.int .i64 g.depth) := h.sh.cell 0 (sh_get g h.len).1
  have z0 := h.sh.frozen 0
  have i1 : w.cell? ⟨p, 1, none⟩ = some (.int .i64 g.mode) := h.sh.cell 1 (sh_get g h.len).2.1
  have z1 := h.sh.frozen 1
  have i2 : w.cell? ⟨p, 2, none⟩ = some (.int .i64 g.sum) := h.sh.cell 2 (sh_get g h.len).2.2.1
  have z2 := h.sh.frozen 2
  have i3 : w.cell? ⟨p, 3, none⟩ = some (.int .i64 g.peak) := h.sh.cell 3 (sh_get g h.len).2.2.2.1
  have z3 := h.sh.frozen 3
  have i4 : w.cell? ⟨p, 4, none⟩ = some (.int .i64 g.dip) := h.sh.cell 4 (sh_get g h.len).2.2.2.2.1
  have z4 := h.sh.frozen 4
  have i5 : w.cell? ⟨p, 5, none⟩ = some (.int .i64 g.at_) := h.sh.cell 5 (sh_get g h.len).2.2.2.2.2.1
  have z5 := h.sh.frozen 5
  have i6 : w.cell? ⟨p, 6, none⟩ = some (.int .i64 g.seq) := h.sh.cell 6 (sh_get g h.len).2.2.2.2.2.2.1
  have z6 := h.sh.frozen 6
  have i7 : w.cell? ⟨p, 7, none⟩ = some (.int .i64 g.dropped) := h.sh.cell 7 (sh_get g h.len).2.2.2.2.2.2.2
  have z7 := h.sh.frozen 7
  have kA : ∀ (W : World) (i j : Nat) (v : Value), (W.setCell ⟨p, i, none⟩ v).cell? ⟨w.heap.size + 1, j, none⟩ = W.cell? ⟨w.heap.size + 1, j, none⟩ := fun W i j v => far_cell W (by omega) i j v
  have kAp : ∀ (W : World) (i j : Nat) (v : Value), (W.setCell ⟨w.heap.size + 1, i, none⟩ v).cell? ⟨p, j, none⟩ = W.cell? ⟨p, j, none⟩ := fun W i j v => far_cell W (by omega) i j v
  have kB : ∀ (W : World) (i j : Nat) (v : Value), (W.setCell ⟨p, i, none⟩ v).cell? ⟨w.heap.size + 1 + 1, j, none⟩ = W.cell? ⟨w.heap.size + 1 + 1, j, none⟩ := fun W i j v => far_cell W (by omega) i j v
  have kBp : ∀ (W : World) (i j : Nat) (v : Value), (W.setCell ⟨w.heap.size + 1 + 1, i, none⟩ v).cell? ⟨p, j, none⟩ = W.cell? ⟨p, j, none⟩ := fun W i j v => far_cell W (by omega) i j v
  have kO : ∀ (W : World) (i j : Nat) (v : Value), (W.setCell ⟨p, i, none⟩ v).cell? ⟨w.heap.size, j, none⟩ = W.cell? ⟨w.heap.size, j, none⟩ := fun W i j v => far_cell W (by omega) i j v
  have kOp : ∀ (W : World) (i j : Nat) (v : Value), (W.setCell ⟨w.heap.size, i, none⟩ v).cell? ⟨p, j, none⟩ = W.cell? ⟨p, j, none⟩ := fun W i j v => far_cell W (by omega) i j v
  have kF : ∀ (o1 o2 o3 : Obj) (j : Nat), (((w.alloc o1).alloc o2).alloc o3).cell? ⟨p, j, none⟩ = w.cell? ⟨p, j, none⟩ := fun o1 o2 o3 j => (((h.sh.obj.alloc o1).alloc o2).alloc o3).cell j |>.trans (h.sh.obj.cell j).symm
  have zF : ∀ (o1 o2 o3 : Obj) (j : Nat), (((w.alloc o1).alloc o2).alloc o3).frozen? ⟨p, j, none⟩ = false := fun o1 o2 o3 j => (((h.sh.obj.alloc o1).alloc o2).alloc o3).frozen j
  have HW : Hid (Sz w p l g) := h
  have q0 := hg.q0; have r0 := hg.r0; have A0 := hg.a0; have A8 := hg.a8
  have q1 : g.seq ≤ 4611686018427387904 := by have := hg.q1; omega
  have r1 : g.dropped ≤ 4611686018427387904 := by have := hg.r1; omega
  clear h hg hn ha hb hl
  go_enter Tryd.func20, Tryd.ntmps20
  go_wp2_with fail
  refine bodyPost_ret (by simp [results, Tryd.results20, go_sem]; try rfl) rfl ?_
  have lt := LT.out
  exact ⟨rfl, (HW.out.nil ((((Chg.refl _ w).alloc _).alloc _).alloc _)), ((((Chg.refl _ w).alloc _).alloc _).alloc _)⟩

theorem due_13 (p l : Nat) (g : PS) (n : Int) (a b cc : Int) (s t : ByteArray) (w : World) (hg : Good g n) (hn : n ≤ 4611686018427387904) (ha : I64 a) (hb : I64 b) (h : Sz w p l g) :
    Calls Tryd.prog 20 #[.pointer (some ⟨l, 0, none⟩), .pointer (some ⟨p, 0, none⟩), opV 13 a b cc s t] w fun e w' => e = .returned (ansV 0 g.seq 0 ⟨#[]⟩) ∧ Sz w' p l g ∧ Chg (fun k => k = p ∨ k = l) w w' := by
  unfold opV
  obtain ⟨T1, T2, T3⟩ := frame3 (T := 47) w (.cells #[.int .i64 13, .int .i64 a, .int .i64 b, .int .i64 cc, .string s, .string t] 50) [.int .i64 0, .int .i64 0, .int .i64 0, .string ⟨#[]⟩] [.int .i64 0, .int .i64 0, .int .i64 0, .string ⟨#[]⟩]
  have T0 := frame4 (T := 47) (U := 50) w [.int .i64 13, .int .i64 a, .int .i64 b, .int .i64 cc, .string s, .string t] [.int .i64 0, .int .i64 0, .int .i64 0, .string ⟨#[]⟩] [.int .i64 0, .int .i64 0, .int .i64 0, .string ⟨#[]⟩]
  have hp := h.sh.obj.lt
  have hl := Has.lt h.cv
  have LT : Hid (p < w.heap.size ∧ l < w.heap.size) := ⟨hp, hl⟩
  have H0 : Hid (Sz (((w.alloc (.cells #[.int .i64 13, .int .i64 a, .int .i64 b, .int .i64 cc, .string s, .string t] 50)).alloc (.cells #[.int .i64 0, .int .i64 0, .int .i64 0, .string ⟨#[]⟩] 47)).alloc (.cells #[.int .i64 0, .int .i64 0, .int .i64 0, .string ⟨#[]⟩] 47)) p l g) := h.nil T3
  have C0 : Hid (Chg (fun k => k = p ∨ k = l) w (((w.alloc (.cells #[.int .i64 13, .int .i64 a, .int .i64 b, .int .i64 cc, .string s, .string t] 50)).alloc (.cells #[.int .i64 0, .int .i64 0, .int .i64 0, .string ⟨#[]⟩] 47)).alloc (.cells #[.int .i64 0, .int .i64 0, .int .i64 0, .string ⟨#[]⟩] 47))) := chg_0 T3
  have HG : Hid (Good g n ∧ n ≤ 4611686018427387904 ∧ I64 a ∧ I64 b) := ⟨hg, hn, ha, hb⟩
  have i0 : w.cell? ⟨p, 0, none⟩ = some (.int .i64 g.depth) := h.sh.cell 0 (sh_get g h.len).1
  have z0 := h.sh.frozen 0
  have i1 : w.cell? ⟨p, 1, none⟩ = some (.int .i64 g.mode) := h.sh.cell 1 (sh_get g h.len).2.1
  have z1 := h.sh.frozen 1
  have i2 : w.cell? ⟨p, 2, none⟩ = some (.int .i64 g.sum) := h.sh.cell 2 (sh_get g h.len).2.2.1
  have z2 := h.sh.frozen 2
  have i3 : w.cell? ⟨p, 3, none⟩ = some (.int .i64 g.peak) := h.sh.cell 3 (sh_get g h.len).2.2.2.1
  have z3 := h.sh.frozen 3
  have i4 : w.cell? ⟨p, 4, none⟩ = some (.int .i64 g.dip) := h.sh.cell 4 (sh_get g h.len).2.2.2.2.1
  have z4 := h.sh.frozen 4
  have i5 : w.cell? ⟨p, 5, none⟩ = some (.int .i64 g.at_) := h.sh.cell 5 (sh_get g h.len).2.2.2.2.2.1
  have z5 := h.sh.frozen 5
  have i6 : w.cell? ⟨p, 6, none⟩ = some (.int .i64 g.seq) := h.sh.cell 6 (sh_get g h.len).2.2.2.2.2.2.1
  have z6 := h.sh.frozen 6
  have i7 : w.cell? ⟨p, 7, none⟩ = some (.int .i64 g.dropped) := h.sh.cell 7 (sh_get g h.len).2.2.2.2.2.2.2
  have z7 := h.sh.frozen 7
  have kA : ∀ (W : World) (i j : Nat) (v : Value), (W.setCell ⟨p, i, none⟩ v).cell? ⟨w.heap.size + 1, j, none⟩ = W.cell? ⟨w.heap.size + 1, j, none⟩ := fun W i j v => far_cell W (by omega) i j v
  have kAp : ∀ (W : World) (i j : Nat) (v : Value), (W.setCell ⟨w.heap.size + 1, i, none⟩ v).cell? ⟨p, j, none⟩ = W.cell? ⟨p, j, none⟩ := fun W i j v => far_cell W (by omega) i j v
  have kB : ∀ (W : World) (i j : Nat) (v : Value), (W.setCell ⟨p, i, none⟩ v).cell? ⟨w.heap.size + 1 + 1, j, none⟩ = W.cell? ⟨w.heap.size + 1 + 1, j, none⟩ := fun W i j v => far_cell W (by omega) i j v
  have kBp : ∀ (W : World) (i j : Nat) (v : Value), (W.setCell ⟨w.heap.size + 1 + 1, i, none⟩ v).cell? ⟨p, j, none⟩ = W.cell? ⟨p, j, none⟩ := fun W i j v => far_cell W (by omega) i j v
  have kO : ∀ (W : World) (i j : Nat) (v : Value), (W.setCell ⟨p, i, none⟩ v).cell? ⟨w.heap.size, j, none⟩ = W.cell? ⟨w.heap.size, j, none⟩ := fun W i j v => far_cell W (by omega) i j v
  have kOp : ∀ (W : World) (i j : Nat) (v : Value), (W.setCell ⟨w.heap.size, i, none⟩ v).cell? ⟨p, j, none⟩ = W.cell? ⟨p, j, none⟩ := fun W i j v => far_cell W (by omega) i j v
  have kF : ∀ (o1 o2 o3 : Obj) (j : Nat), (((w.alloc o1).alloc o2).alloc o3).cell? ⟨p, j, none⟩ = w.cell? ⟨p, j, none⟩ := fun o1 o2 o3 j => (((h.sh.obj.alloc o1).alloc o2).alloc o3).cell j |>.trans (h.sh.obj.cell j).symm
  have zF : ∀ (o1 o2 o3 : Obj) (j : Nat), (((w.alloc o1).alloc o2).alloc o3).frozen? ⟨p, j, none⟩ = false := fun o1 o2 o3 j => (((h.sh.obj.alloc o1).alloc o2).alloc o3).frozen j
  have HW : Hid (Sz w p l g) := h
  have q0 := hg.q0; have r0 := hg.r0; have A0 := hg.a0; have A8 := hg.a8
  have q1 : g.seq ≤ 4611686018427387904 := by have := hg.q1; omega
  have r1 : g.dropped ≤ 4611686018427387904 := by have := hg.r1; omega
  clear h hg hn ha hb hl
  go_enter Tryd.func20, Tryd.ntmps20
  go_wp2_with fail
  refine bodyPost_ret (by simp [results, Tryd.results20, go_sem]; try rfl) rfl ?_
  have lt := LT.out
  exact ⟨rfl, (HW.out.nil ((((Chg.refl _ w).alloc _).alloc _).alloc _)), ((((Chg.refl _ w).alloc _).alloc _).alloc _)⟩

theorem due_15 (p l : Nat) (g : PS) (n : Int) (a b cc : Int) (s t : ByteArray) (w : World) (hg : Good g n) (hn : n ≤ 4611686018427387904) (ha : I64 a) (hb : I64 b) (h : Sz w p l g) :
    Calls Tryd.prog 20 #[.pointer (some ⟨l, 0, none⟩), .pointer (some ⟨p, 0, none⟩), opV 15 a b cc s t] w fun e w' => e = .returned (ansV 0 1 0 ⟨#[]⟩) ∧ Sz w' p l g ∧ Chg (fun k => k = p ∨ k = l) w w' := by
  unfold opV
  obtain ⟨T1, T2, T3⟩ := frame3 (T := 47) w (.cells #[.int .i64 15, .int .i64 a, .int .i64 b, .int .i64 cc, .string s, .string t] 50) [.int .i64 0, .int .i64 0, .int .i64 0, .string ⟨#[]⟩] [.int .i64 0, .int .i64 0, .int .i64 0, .string ⟨#[]⟩]
  have T0 := frame4 (T := 47) (U := 50) w [.int .i64 15, .int .i64 a, .int .i64 b, .int .i64 cc, .string s, .string t] [.int .i64 0, .int .i64 0, .int .i64 0, .string ⟨#[]⟩] [.int .i64 0, .int .i64 0, .int .i64 0, .string ⟨#[]⟩]
  have hp := h.sh.obj.lt
  have hl := Has.lt h.cv
  have LT : Hid (p < w.heap.size ∧ l < w.heap.size) := ⟨hp, hl⟩
  have H0 : Hid (Sz (((w.alloc (.cells #[.int .i64 15, .int .i64 a, .int .i64 b, .int .i64 cc, .string s, .string t] 50)).alloc (.cells #[.int .i64 0, .int .i64 0, .int .i64 0, .string ⟨#[]⟩] 47)).alloc (.cells #[.int .i64 0, .int .i64 0, .int .i64 0, .string ⟨#[]⟩] 47)) p l g) := h.nil T3
  have C0 : Hid (Chg (fun k => k = p ∨ k = l) w (((w.alloc (.cells #[.int .i64 15, .int .i64 a, .int .i64 b, .int .i64 cc, .string s, .string t] 50)).alloc (.cells #[.int .i64 0, .int .i64 0, .int .i64 0, .string ⟨#[]⟩] 47)).alloc (.cells #[.int .i64 0, .int .i64 0, .int .i64 0, .string ⟨#[]⟩] 47))) := chg_0 T3
  have HG : Hid (Good g n ∧ n ≤ 4611686018427387904 ∧ I64 a ∧ I64 b) := ⟨hg, hn, ha, hb⟩
  have i0 : w.cell? ⟨p, 0, none⟩ = some (.int .i64 g.depth) := h.sh.cell 0 (sh_get g h.len).1
  have z0 := h.sh.frozen 0
  have i1 : w.cell? ⟨p, 1, none⟩ = some (.int .i64 g.mode) := h.sh.cell 1 (sh_get g h.len).2.1
  have z1 := h.sh.frozen 1
  have i2 : w.cell? ⟨p, 2, none⟩ = some (.int .i64 g.sum) := h.sh.cell 2 (sh_get g h.len).2.2.1
  have z2 := h.sh.frozen 2
  have i3 : w.cell? ⟨p, 3, none⟩ = some (.int .i64 g.peak) := h.sh.cell 3 (sh_get g h.len).2.2.2.1
  have z3 := h.sh.frozen 3
  have i4 : w.cell? ⟨p, 4, none⟩ = some (.int .i64 g.dip) := h.sh.cell 4 (sh_get g h.len).2.2.2.2.1
  have z4 := h.sh.frozen 4
  have i5 : w.cell? ⟨p, 5, none⟩ = some (.int .i64 g.at_) := h.sh.cell 5 (sh_get g h.len).2.2.2.2.2.1
  have z5 := h.sh.frozen 5
  have i6 : w.cell? ⟨p, 6, none⟩ = some (.int .i64 g.seq) := h.sh.cell 6 (sh_get g h.len).2.2.2.2.2.2.1
  have z6 := h.sh.frozen 6
  have i7 : w.cell? ⟨p, 7, none⟩ = some (.int .i64 g.dropped) := h.sh.cell 7 (sh_get g h.len).2.2.2.2.2.2.2
  have z7 := h.sh.frozen 7
  have kA : ∀ (W : World) (i j : Nat) (v : Value), (W.setCell ⟨p, i, none⟩ v).cell? ⟨w.heap.size + 1, j, none⟩ = W.cell? ⟨w.heap.size + 1, j, none⟩ := fun W i j v => far_cell W (by omega) i j v
  have kAp : ∀ (W : World) (i j : Nat) (v : Value), (W.setCell ⟨w.heap.size + 1, i, none⟩ v).cell? ⟨p, j, none⟩ = W.cell? ⟨p, j, none⟩ := fun W i j v => far_cell W (by omega) i j v
  have kB : ∀ (W : World) (i j : Nat) (v : Value), (W.setCell ⟨p, i, none⟩ v).cell? ⟨w.heap.size + 1 + 1, j, none⟩ = W.cell? ⟨w.heap.size + 1 + 1, j, none⟩ := fun W i j v => far_cell W (by omega) i j v
  have kBp : ∀ (W : World) (i j : Nat) (v : Value), (W.setCell ⟨w.heap.size + 1 + 1, i, none⟩ v).cell? ⟨p, j, none⟩ = W.cell? ⟨p, j, none⟩ := fun W i j v => far_cell W (by omega) i j v
  have kO : ∀ (W : World) (i j : Nat) (v : Value), (W.setCell ⟨p, i, none⟩ v).cell? ⟨w.heap.size, j, none⟩ = W.cell? ⟨w.heap.size, j, none⟩ := fun W i j v => far_cell W (by omega) i j v
  have kOp : ∀ (W : World) (i j : Nat) (v : Value), (W.setCell ⟨w.heap.size, i, none⟩ v).cell? ⟨p, j, none⟩ = W.cell? ⟨p, j, none⟩ := fun W i j v => far_cell W (by omega) i j v
  have kF : ∀ (o1 o2 o3 : Obj) (j : Nat), (((w.alloc o1).alloc o2).alloc o3).cell? ⟨p, j, none⟩ = w.cell? ⟨p, j, none⟩ := fun o1 o2 o3 j => (((h.sh.obj.alloc o1).alloc o2).alloc o3).cell j |>.trans (h.sh.obj.cell j).symm
  have zF : ∀ (o1 o2 o3 : Obj) (j : Nat), (((w.alloc o1).alloc o2).alloc o3).frozen? ⟨p, j, none⟩ = false := fun o1 o2 o3 j => (((h.sh.obj.alloc o1).alloc o2).alloc o3).frozen j
  have HW : Hid (Sz w p l g) := h
  have q0 := hg.q0; have r0 := hg.r0; have A0 := hg.a0; have A8 := hg.a8
  have q1 : g.seq ≤ 4611686018427387904 := by have := hg.q1; omega
  have r1 : g.dropped ≤ 4611686018427387904 := by have := hg.r1; omega
  clear h hg hn ha hb hl
  go_enter Tryd.func20, Tryd.ntmps20
  go_wp2_with fail
  refine bodyPost_ret (by simp [results, Tryd.results20, go_sem]; try rfl) rfl ?_
  have lt := LT.out
  exact ⟨rfl, (HW.out.nil ((((Chg.refl _ w).alloc _).alloc _).alloc _)), ((((Chg.refl _ w).alloc _).alloc _).alloc _)⟩

theorem due_0 (p l : Nat) (g : PS) (n : Int) (kd a b cc : Int) (s t : ByteArray) (w : World) (hg : Good g n) (hn : n ≤ 4611686018427387904) (ha : I64 a) (hb : I64 b) (h : Sz w p l g) (h1 : kd ≠ 1) (h2 : kd ≠ 2) (h3 : kd ≠ 3) (h4 : kd ≠ 4) (h5 : kd ≠ 5) (h6 : kd ≠ 6) (h7 : kd ≠ 7) (h8 : kd ≠ 8) (h9 : kd ≠ 9) (h10 : kd ≠ 10) (h11 : kd ≠ 11) (h12 : kd ≠ 12) (h13 : kd ≠ 13) (h14 : kd ≠ 14) (h15 : kd ≠ 15) (h16 : kd ≠ 16) :
    Calls Tryd.prog 20 #[.pointer (some ⟨l, 0, none⟩), .pointer (some ⟨p, 0, none⟩), opV kd a b cc s t] w fun e w' => e = .returned (ansV 0 0 0 ⟨#[]⟩) ∧ Sz w' p l g ∧ Chg (fun k => k = p ∨ k = l) w w' := by
  unfold opV
  obtain ⟨T1, T2, T3⟩ := frame3 (T := 47) w (.cells #[.int .i64 kd, .int .i64 a, .int .i64 b, .int .i64 cc, .string s, .string t] 50) [.int .i64 0, .int .i64 0, .int .i64 0, .string ⟨#[]⟩] [.int .i64 0, .int .i64 0, .int .i64 0, .string ⟨#[]⟩]
  have T0 := frame4 (T := 47) (U := 50) w [.int .i64 kd, .int .i64 a, .int .i64 b, .int .i64 cc, .string s, .string t] [.int .i64 0, .int .i64 0, .int .i64 0, .string ⟨#[]⟩] [.int .i64 0, .int .i64 0, .int .i64 0, .string ⟨#[]⟩]
  have hp := h.sh.obj.lt
  have hl := Has.lt h.cv
  have LT : Hid (p < w.heap.size ∧ l < w.heap.size) := ⟨hp, hl⟩
  have H0 : Hid (Sz (((w.alloc (.cells #[.int .i64 kd, .int .i64 a, .int .i64 b, .int .i64 cc, .string s, .string t] 50)).alloc (.cells #[.int .i64 0, .int .i64 0, .int .i64 0, .string ⟨#[]⟩] 47)).alloc (.cells #[.int .i64 0, .int .i64 0, .int .i64 0, .string ⟨#[]⟩] 47)) p l g) := h.nil T3
  have C0 : Hid (Chg (fun k => k = p ∨ k = l) w (((w.alloc (.cells #[.int .i64 kd, .int .i64 a, .int .i64 b, .int .i64 cc, .string s, .string t] 50)).alloc (.cells #[.int .i64 0, .int .i64 0, .int .i64 0, .string ⟨#[]⟩] 47)).alloc (.cells #[.int .i64 0, .int .i64 0, .int .i64 0, .string ⟨#[]⟩] 47))) := chg_0 T3
  have HG : Hid (Good g n ∧ n ≤ 4611686018427387904 ∧ I64 a ∧ I64 b) := ⟨hg, hn, ha, hb⟩
  have i0 : w.cell? ⟨p, 0, none⟩ = some (.int .i64 g.depth) := h.sh.cell 0 (sh_get g h.len).1
  have z0 := h.sh.frozen 0
  have i1 : w.cell? ⟨p, 1, none⟩ = some (.int .i64 g.mode) := h.sh.cell 1 (sh_get g h.len).2.1
  have z1 := h.sh.frozen 1
  have i2 : w.cell? ⟨p, 2, none⟩ = some (.int .i64 g.sum) := h.sh.cell 2 (sh_get g h.len).2.2.1
  have z2 := h.sh.frozen 2
  have i3 : w.cell? ⟨p, 3, none⟩ = some (.int .i64 g.peak) := h.sh.cell 3 (sh_get g h.len).2.2.2.1
  have z3 := h.sh.frozen 3
  have i4 : w.cell? ⟨p, 4, none⟩ = some (.int .i64 g.dip) := h.sh.cell 4 (sh_get g h.len).2.2.2.2.1
  have z4 := h.sh.frozen 4
  have i5 : w.cell? ⟨p, 5, none⟩ = some (.int .i64 g.at_) := h.sh.cell 5 (sh_get g h.len).2.2.2.2.2.1
  have z5 := h.sh.frozen 5
  have i6 : w.cell? ⟨p, 6, none⟩ = some (.int .i64 g.seq) := h.sh.cell 6 (sh_get g h.len).2.2.2.2.2.2.1
  have z6 := h.sh.frozen 6
  have i7 : w.cell? ⟨p, 7, none⟩ = some (.int .i64 g.dropped) := h.sh.cell 7 (sh_get g h.len).2.2.2.2.2.2.2
  have z7 := h.sh.frozen 7
  have kA : ∀ (W : World) (i j : Nat) (v : Value), (W.setCell ⟨p, i, none⟩ v).cell? ⟨w.heap.size + 1, j, none⟩ = W.cell? ⟨w.heap.size + 1, j, none⟩ := fun W i j v => far_cell W (by omega) i j v
  have kAp : ∀ (W : World) (i j : Nat) (v : Value), (W.setCell ⟨w.heap.size + 1, i, none⟩ v).cell? ⟨p, j, none⟩ = W.cell? ⟨p, j, none⟩ := fun W i j v => far_cell W (by omega) i j v
  have kB : ∀ (W : World) (i j : Nat) (v : Value), (W.setCell ⟨p, i, none⟩ v).cell? ⟨w.heap.size + 1 + 1, j, none⟩ = W.cell? ⟨w.heap.size + 1 + 1, j, none⟩ := fun W i j v => far_cell W (by omega) i j v
  have kBp : ∀ (W : World) (i j : Nat) (v : Value), (W.setCell ⟨w.heap.size + 1 + 1, i, none⟩ v).cell? ⟨p, j, none⟩ = W.cell? ⟨p, j, none⟩ := fun W i j v => far_cell W (by omega) i j v
  have kO : ∀ (W : World) (i j : Nat) (v : Value), (W.setCell ⟨p, i, none⟩ v).cell? ⟨w.heap.size, j, none⟩ = W.cell? ⟨w.heap.size, j, none⟩ := fun W i j v => far_cell W (by omega) i j v
  have kOp : ∀ (W : World) (i j : Nat) (v : Value), (W.setCell ⟨w.heap.size, i, none⟩ v).cell? ⟨p, j, none⟩ = W.cell? ⟨p, j, none⟩ := fun W i j v => far_cell W (by omega) i j v
  have kF : ∀ (o1 o2 o3 : Obj) (j : Nat), (((w.alloc o1).alloc o2).alloc o3).cell? ⟨p, j, none⟩ = w.cell? ⟨p, j, none⟩ := fun o1 o2 o3 j => (((h.sh.obj.alloc o1).alloc o2).alloc o3).cell j |>.trans (h.sh.obj.cell j).symm
  have zF : ∀ (o1 o2 o3 : Obj) (j : Nat), (((w.alloc o1).alloc o2).alloc o3).frozen? ⟨p, j, none⟩ = false := fun o1 o2 o3 j => (((h.sh.obj.alloc o1).alloc o2).alloc o3).frozen j
  have HW : Hid (Sz w p l g) := h
  have q0 := hg.q0; have r0 := hg.r0; have A0 := hg.a0; have A8 := hg.a8
  have q1 : g.seq ≤ 4611686018427387904 := by have := hg.q1; omega
  have r1 : g.dropped ≤ 4611686018427387904 := by have := hg.r1; omega
  have k1 : (kd == 1) = false := by simpa using h1
  have k2 : (kd == 2) = false := by simpa using h2
  have k3 : (kd == 3) = false := by simpa using h3
  have k4 : (kd == 4) = false := by simpa using h4
  have k5 : (kd == 5) = false := by simpa using h5
  have k6 : (kd == 6) = false := by simpa using h6
  have k7 : (kd == 7) = false := by simpa using h7
  have k8 : (kd == 8) = false := by simpa using h8
  have k9 : (kd == 9) = false := by simpa using h9
  have k10 : (kd == 10) = false := by simpa using h10
  have k11 : (kd == 11) = false := by simpa using h11
  have k12 : (kd == 12) = false := by simpa using h12
  have k13 : (kd == 13) = false := by simpa using h13
  have k14 : (kd == 14) = false := by simpa using h14
  have k15 : (kd == 15) = false := by simpa using h15
  have k16 : (kd == 16) = false := by simpa using h16
  clear h1 h2 h3 h4 h5 h6 h7 h8 h9 h10 h11 h12 h13 h14 h15 h16
  clear h hg hn ha hb hl
  go_enter Tryd.func20, Tryd.ntmps20
  go_wp2_with fail
  refine bodyPost_ret (by simp [results, Tryd.results20, go_sem]; try rfl) rfl ?_
  have lt := LT.out
  exact ⟨rfl, (HW.out.nil ((((Chg.refl _ w).alloc _).alloc _).alloc _)), ((((Chg.refl _ w).alloc _).alloc _).alloc _)⟩

theorem due_1a (p l : Nat) (g : PS) (n : Int) (a b cc : Int) (s t : ByteArray) (w : World) (hg : Good g n) (hn : n ≤ 4611686018427387904) (ha : I64 a) (hb : I64 b) (h : Sz w p l g) (e1 : a < 1) :
    Calls Tryd.prog 20 #[.pointer (some ⟨l, 0, none⟩), .pointer (some ⟨p, 0, none⟩), opV 1 a b cc s t] w fun e w' => e = .returned (ansV 9 0 0 ⟨#[]⟩) ∧ Sz w' p l g ∧ Chg (fun k => k = p ∨ k = l) w w' := by
  unfold opV
  obtain ⟨T1, T2, T3⟩ := frame3 (T := 47) w (.cells #[.int .i64 1, .int .i64 a, .int .i64 b, .int .i64 cc, .string s, .string t] 50) [.int .i64 0, .int .i64 0, .int .i64 0, .string ⟨#[]⟩] [.int .i64 0, .int .i64 0, .int .i64 0, .string ⟨#[]⟩]
  have T0 := frame4 (T := 47) (U := 50) w [.int .i64 1, .int .i64 a, .int .i64 b, .int .i64 cc, .string s, .string t] [.int .i64 0, .int .i64 0, .int .i64 0, .string ⟨#[]⟩] [.int .i64 0, .int .i64 0, .int .i64 0, .string ⟨#[]⟩]
  have hp := h.sh.obj.lt
  have hl := Has.lt h.cv
  have LT : Hid (p < w.heap.size ∧ l < w.heap.size) := ⟨hp, hl⟩
  have H0 : Hid (Sz (((w.alloc (.cells #[.int .i64 1, .int .i64 a, .int .i64 b, .int .i64 cc, .string s, .string t] 50)).alloc (.cells #[.int .i64 0, .int .i64 0, .int .i64 0, .string ⟨#[]⟩] 47)).alloc (.cells #[.int .i64 0, .int .i64 0, .int .i64 0, .string ⟨#[]⟩] 47)) p l g) := h.nil T3
  have C0 : Hid (Chg (fun k => k = p ∨ k = l) w (((w.alloc (.cells #[.int .i64 1, .int .i64 a, .int .i64 b, .int .i64 cc, .string s, .string t] 50)).alloc (.cells #[.int .i64 0, .int .i64 0, .int .i64 0, .string ⟨#[]⟩] 47)).alloc (.cells #[.int .i64 0, .int .i64 0, .int .i64 0, .string ⟨#[]⟩] 47))) := chg_0 T3
  have HG : Hid (Good g n ∧ n ≤ 4611686018427387904 ∧ I64 a ∧ I64 b) := ⟨hg, hn, ha, hb⟩
  have i0 : w.cell? ⟨p, 0, none⟩ = some (.int .i64 g.depth) := h.sh.cell 0 (sh_get g h.len).1
  have z0 := h.sh.frozen 0
  have i1 : w.cell? ⟨p, 1, none⟩ = some (.int .i64 g.mode) := h.sh.cell 1 (sh_get g h.len).2.1
  have z1 := h.sh.frozen 1
  have i2 : w.cell? ⟨p, 2, none⟩ = some (.int .i64 g.sum) := h.sh.cell 2 (sh_get g h.len).2.2.1
  have z2 := h.sh.frozen 2
  have i3 : w.cell? ⟨p, 3, none⟩ = some (.int .i64 g.peak) := h.sh.cell 3 (sh_get g h.len).2.2.2.1
  have z3 := h.sh.frozen 3
  have i4 : w.cell? ⟨p, 4, none⟩ = some (.int .i64 g.dip) := h.sh.cell 4 (sh_get g h.len).2.2.2.2.1
  have z4 := h.sh.frozen 4
  have i5 : w.cell? ⟨p, 5, none⟩ = some (.int .i64 g.at_) := h.sh.cell 5 (sh_get g h.len).2.2.2.2.2.1
  have z5 := h.sh.frozen 5
  have i6 : w.cell? ⟨p, 6, none⟩ = some (.int .i64 g.seq) := h.sh.cell 6 (sh_get g h.len).2.2.2.2.2.2.1
  have z6 := h.sh.frozen 6
  have i7 : w.cell? ⟨p, 7, none⟩ = some (.int .i64 g.dropped) := h.sh.cell 7 (sh_get g h.len).2.2.2.2.2.2.2
  have z7 := h.sh.frozen 7
  have kA : ∀ (W : World) (i j : Nat) (v : Value), (W.setCell ⟨p, i, none⟩ v).cell? ⟨w.heap.size + 1, j, none⟩ = W.cell? ⟨w.heap.size + 1, j, none⟩ := fun W i j v => far_cell W (by omega) i j v
  have kAp : ∀ (W : World) (i j : Nat) (v : Value), (W.setCell ⟨w.heap.size + 1, i, none⟩ v).cell? ⟨p, j, none⟩ = W.cell? ⟨p, j, none⟩ := fun W i j v => far_cell W (by omega) i j v
  have kB : ∀ (W : World) (i j : Nat) (v : Value), (W.setCell ⟨p, i, none⟩ v).cell? ⟨w.heap.size + 1 + 1, j, none⟩ = W.cell? ⟨w.heap.size + 1 + 1, j, none⟩ := fun W i j v => far_cell W (by omega) i j v
  have kBp : ∀ (W : World) (i j : Nat) (v : Value), (W.setCell ⟨w.heap.size + 1 + 1, i, none⟩ v).cell? ⟨p, j, none⟩ = W.cell? ⟨p, j, none⟩ := fun W i j v => far_cell W (by omega) i j v
  have kO : ∀ (W : World) (i j : Nat) (v : Value), (W.setCell ⟨p, i, none⟩ v).cell? ⟨w.heap.size, j, none⟩ = W.cell? ⟨w.heap.size, j, none⟩ := fun W i j v => far_cell W (by omega) i j v
  have kOp : ∀ (W : World) (i j : Nat) (v : Value), (W.setCell ⟨w.heap.size, i, none⟩ v).cell? ⟨p, j, none⟩ = W.cell? ⟨p, j, none⟩ := fun W i j v => far_cell W (by omega) i j v
  have kF : ∀ (o1 o2 o3 : Obj) (j : Nat), (((w.alloc o1).alloc o2).alloc o3).cell? ⟨p, j, none⟩ = w.cell? ⟨p, j, none⟩ := fun o1 o2 o3 j => (((h.sh.obj.alloc o1).alloc o2).alloc o3).cell j |>.trans (h.sh.obj.cell j).symm
  have zF : ∀ (o1 o2 o3 : Obj) (j : Nat), (((w.alloc o1).alloc o2).alloc o3).frozen? ⟨p, j, none⟩ = false := fun o1 o2 o3 j => (((h.sh.obj.alloc o1).alloc o2).alloc o3).frozen j
  have HW : Hid (Sz w p l g) := h
  have q0 := hg.q0; have r0 := hg.r0; have A0 := hg.a0; have A8 := hg.a8
  have q1 : g.seq ≤ 4611686018427387904 := by have := hg.q1; omega
  have r1 : g.dropped ≤ 4611686018427387904 := by have := hg.r1; omega
  clear h hg hn ha hb hl
  go_enter Tryd.func20, Tryd.ntmps20
  go_wp2_with fail
  refine bodyPost_ret (by simp [results, Tryd.results20, go_sem]; try rfl) rfl ?_
  have lt := LT.out
  exact ⟨rfl, (HW.out.nil ((((Chg.refl _ w).alloc _).alloc _).alloc _)), ((((Chg.refl _ w).alloc _).alloc _).alloc _)⟩

theorem due_1b (p l : Nat) (g : PS) (n : Int) (a b cc : Int) (s t : ByteArray) (w : World) (hg : Good g n) (hn : n ≤ 4611686018427387904) (ha : I64 a) (hb : I64 b) (h : Sz w p l g) (e1 : 32 < a) :
    Calls Tryd.prog 20 #[.pointer (some ⟨l, 0, none⟩), .pointer (some ⟨p, 0, none⟩), opV 1 a b cc s t] w fun e w' => e = .returned (ansV 9 0 0 ⟨#[]⟩) ∧ Sz w' p l g ∧ Chg (fun k => k = p ∨ k = l) w w' := by
  unfold opV
  obtain ⟨T1, T2, T3⟩ := frame3 (T := 47) w (.cells #[.int .i64 1, .int .i64 a, .int .i64 b, .int .i64 cc, .string s, .string t] 50) [.int .i64 0, .int .i64 0, .int .i64 0, .string ⟨#[]⟩] [.int .i64 0, .int .i64 0, .int .i64 0, .string ⟨#[]⟩]
  have T0 := frame4 (T := 47) (U := 50) w [.int .i64 1, .int .i64 a, .int .i64 b, .int .i64 cc, .string s, .string t] [.int .i64 0, .int .i64 0, .int .i64 0, .string ⟨#[]⟩] [.int .i64 0, .int .i64 0, .int .i64 0, .string ⟨#[]⟩]
  have hp := h.sh.obj.lt
  have hl := Has.lt h.cv
  have LT : Hid (p < w.heap.size ∧ l < w.heap.size) := ⟨hp, hl⟩
  have H0 : Hid (Sz (((w.alloc (.cells #[.int .i64 1, .int .i64 a, .int .i64 b, .int .i64 cc, .string s, .string t] 50)).alloc (.cells #[.int .i64 0, .int .i64 0, .int .i64 0, .string ⟨#[]⟩] 47)).alloc (.cells #[.int .i64 0, .int .i64 0, .int .i64 0, .string ⟨#[]⟩] 47)) p l g) := h.nil T3
  have C0 : Hid (Chg (fun k => k = p ∨ k = l) w (((w.alloc (.cells #[.int .i64 1, .int .i64 a, .int .i64 b, .int .i64 cc, .string s, .string t] 50)).alloc (.cells #[.int .i64 0, .int .i64 0, .int .i64 0, .string ⟨#[]⟩] 47)).alloc (.cells #[.int .i64 0, .int .i64 0, .int .i64 0, .string ⟨#[]⟩] 47))) := chg_0 T3
  have HG : Hid (Good g n ∧ n ≤ 4611686018427387904 ∧ I64 a ∧ I64 b) := ⟨hg, hn, ha, hb⟩
  have i0 : w.cell? ⟨p, 0, none⟩ = some (.int .i64 g.depth) := h.sh.cell 0 (sh_get g h.len).1
  have z0 := h.sh.frozen 0
  have i1 : w.cell? ⟨p, 1, none⟩ = some (.int .i64 g.mode) := h.sh.cell 1 (sh_get g h.len).2.1
  have z1 := h.sh.frozen 1
  have i2 : w.cell? ⟨p, 2, none⟩ = some (.int .i64 g.sum) := h.sh.cell 2 (sh_get g h.len).2.2.1
  have z2 := h.sh.frozen 2
  have i3 : w.cell? ⟨p, 3, none⟩ = some (.int .i64 g.peak) := h.sh.cell 3 (sh_get g h.len).2.2.2.1
  have z3 := h.sh.frozen 3
  have i4 : w.cell? ⟨p, 4, none⟩ = some (.int .i64 g.dip) := h.sh.cell 4 (sh_get g h.len).2.2.2.2.1
  have z4 := h.sh.frozen 4
  have i5 : w.cell? ⟨p, 5, none⟩ = some (.int .i64 g.at_) := h.sh.cell 5 (sh_get g h.len).2.2.2.2.2.1
  have z5 := h.sh.frozen 5
  have i6 : w.cell? ⟨p, 6, none⟩ = some (.int .i64 g.seq) := h.sh.cell 6 (sh_get g h.len).2.2.2.2.2.2.1
  have z6 := h.sh.frozen 6
  have i7 : w.cell? ⟨p, 7, none⟩ = some (.int .i64 g.dropped) := h.sh.cell 7 (sh_get g h.len).2.2.2.2.2.2.2
  have z7 := h.sh.frozen 7
  have kA : ∀ (W : World) (i j : Nat) (v : Value), (W.setCell ⟨p, i, none⟩ v).cell? ⟨w.heap.size + 1, j, none⟩ = W.cell? ⟨w.heap.size + 1, j, none⟩ := fun W i j v => far_cell W (by omega) i j v
  have kAp : ∀ (W : World) (i j : Nat) (v : Value), (W.setCell ⟨w.heap.size + 1, i, none⟩ v).cell? ⟨p, j, none⟩ = W.cell? ⟨p, j, none⟩ := fun W i j v => far_cell W (by omega) i j v
  have kB : ∀ (W : World) (i j : Nat) (v : Value), (W.setCell ⟨p, i, none⟩ v).cell? ⟨w.heap.size + 1 + 1, j, none⟩ = W.cell? ⟨w.heap.size + 1 + 1, j, none⟩ := fun W i j v => far_cell W (by omega) i j v
  have kBp : ∀ (W : World) (i j : Nat) (v : Value), (W.setCell ⟨w.heap.size + 1 + 1, i, none⟩ v).cell? ⟨p, j, none⟩ = W.cell? ⟨p, j, none⟩ := fun W i j v => far_cell W (by omega) i j v
  have kO : ∀ (W : World) (i j : Nat) (v : Value), (W.setCell ⟨p, i, none⟩ v).cell? ⟨w.heap.size, j, none⟩ = W.cell? ⟨w.heap.size, j, none⟩ := fun W i j v => far_cell W (by omega) i j v
  have kOp : ∀ (W : World) (i j : Nat) (v : Value), (W.setCell ⟨w.heap.size, i, none⟩ v).cell? ⟨p, j, none⟩ = W.cell? ⟨p, j, none⟩ := fun W i j v => far_cell W (by omega) i j v
  have kF : ∀ (o1 o2 o3 : Obj) (j : Nat), (((w.alloc o1).alloc o2).alloc o3).cell? ⟨p, j, none⟩ = w.cell? ⟨p, j, none⟩ := fun o1 o2 o3 j => (((h.sh.obj.alloc o1).alloc o2).alloc o3).cell j |>.trans (h.sh.obj.cell j).symm
  have zF : ∀ (o1 o2 o3 : Obj) (j : Nat), (((w.alloc o1).alloc o2).alloc o3).frozen? ⟨p, j, none⟩ = false := fun o1 o2 o3 j => (((h.sh.obj.alloc o1).alloc o2).alloc o3).frozen j
  have HW : Hid (Sz w p l g) := h
  have q0 := hg.q0; have r0 := hg.r0; have A0 := hg.a0; have A8 := hg.a8
  have q1 : g.seq ≤ 4611686018427387904 := by have := hg.q1; omega
  have r1 : g.dropped ≤ 4611686018427387904 := by have := hg.r1; omega
  clear h hg hn ha hb hl
  go_enter Tryd.func20, Tryd.ntmps20
  go_wp2_with fail
  refine bodyPost_ret (by simp [results, Tryd.results20, go_sem]; try rfl) rfl ?_
  have lt := LT.out
  exact ⟨rfl, (HW.out.nil ((((Chg.refl _ w).alloc _).alloc _).alloc _)), ((((Chg.refl _ w).alloc _).alloc _).alloc _)⟩

theorem due_1c (p l : Nat) (g : PS) (n : Int) (a b cc : Int) (s t : ByteArray) (w : World) (hg : Good g n) (hn : n ≤ 4611686018427387904) (ha : I64 a) (hb : I64 b) (h : Sz w p l g) (e1 : 1 ≤ a) (e2 : a ≤ 32) (e3 : b < 0) :
    Calls Tryd.prog 20 #[.pointer (some ⟨l, 0, none⟩), .pointer (some ⟨p, 0, none⟩), opV 1 a b cc s t] w fun e w' => e = .returned (ansV 2 0 0 ⟨#[]⟩) ∧ Sz w' p l g ∧ Chg (fun k => k = p ∨ k = l) w w' := by
  unfold opV
  obtain ⟨T1, T2, T3⟩ := frame3 (T := 47) w (.cells #[.int .i64 1, .int .i64 a, .int .i64 b, .int .i64 cc, .string s, .string t] 50) [.int .i64 0, .int .i64 0, .int .i64 0, .string ⟨#[]⟩] [.int .i64 0, .int .i64 0, .int .i64 0, .string ⟨#[]⟩]
  have T0 := frame4 (T := 47) (U := 50) w [.int .i64 1, .int .i64 a, .int .i64 b, .int .i64 cc, .string s, .string t] [.int .i64 0, .int .i64 0, .int .i64 0, .string ⟨#[]⟩] [.int .i64 0, .int .i64 0, .int .i64 0, .string ⟨#[]⟩]
  have hp := h.sh.obj.lt
  have hl := Has.lt h.cv
  have LT : Hid (p < w.heap.size ∧ l < w.heap.size) := ⟨hp, hl⟩
  have H0 : Hid (Sz (((w.alloc (.cells #[.int .i64 1, .int .i64 a, .int .i64 b, .int .i64 cc, .string s, .string t] 50)).alloc (.cells #[.int .i64 0, .int .i64 0, .int .i64 0, .string ⟨#[]⟩] 47)).alloc (.cells #[.int .i64 0, .int .i64 0, .int .i64 0, .string ⟨#[]⟩] 47)) p l g) := h.nil T3
  have C0 : Hid (Chg (fun k => k = p ∨ k = l) w (((w.alloc (.cells #[.int .i64 1, .int .i64 a, .int .i64 b, .int .i64 cc, .string s, .string t] 50)).alloc (.cells #[.int .i64 0, .int .i64 0, .int .i64 0, .string ⟨#[]⟩] 47)).alloc (.cells #[.int .i64 0, .int .i64 0, .int .i64 0, .string ⟨#[]⟩] 47))) := chg_0 T3
  have HG : Hid (Good g n ∧ n ≤ 4611686018427387904 ∧ I64 a ∧ I64 b) := ⟨hg, hn, ha, hb⟩
  have i0 : w.cell? ⟨p, 0, none⟩ = some (.int .i64 g.depth) := h.sh.cell 0 (sh_get g h.len).1
  have z0 := h.sh.frozen 0
  have i1 : w.cell? ⟨p, 1, none⟩ = some (.int .i64 g.mode) := h.sh.cell 1 (sh_get g h.len).2.1
  have z1 := h.sh.frozen 1
  have i2 : w.cell? ⟨p, 2, none⟩ = some (.int .i64 g.sum) := h.sh.cell 2 (sh_get g h.len).2.2.1
  have z2 := h.sh.frozen 2
  have i3 : w.cell? ⟨p, 3, none⟩ = some (.int .i64 g.peak) := h.sh.cell 3 (sh_get g h.len).2.2.2.1
  have z3 := h.sh.frozen 3
  have i4 : w.cell? ⟨p, 4, none⟩ = some (.int .i64 g.dip) := h.sh.cell 4 (sh_get g h.len).2.2.2.2.1
  have z4 := h.sh.frozen 4
  have i5 : w.cell? ⟨p, 5, none⟩ = some (.int .i64 g.at_) := h.sh.cell 5 (sh_get g h.len).2.2.2.2.2.1
  have z5 := h.sh.frozen 5
  have i6 : w.cell? ⟨p, 6, none⟩ = some (.int .i64 g.seq) := h.sh.cell 6 (sh_get g h.len).2.2.2.2.2.2.1
  have z6 := h.sh.frozen 6
  have i7 : w.cell? ⟨p, 7, none⟩ = some (.int .i64 g.dropped) := h.sh.cell 7 (sh_get g h.len).2.2.2.2.2.2.2
  have z7 := h.sh.frozen 7
  have kA : ∀ (W : World) (i j : Nat) (v : Value), (W.setCell ⟨p, i, none⟩ v).cell? ⟨w.heap.size + 1, j, none⟩ = W.cell? ⟨w.heap.size + 1, j, none⟩ := fun W i j v => far_cell W (by omega) i j v
  have kAp : ∀ (W : World) (i j : Nat) (v : Value), (W.setCell ⟨w.heap.size + 1, i, none⟩ v).cell? ⟨p, j, none⟩ = W.cell? ⟨p, j, none⟩ := fun W i j v => far_cell W (by omega) i j v
  have kB : ∀ (W : World) (i j : Nat) (v : Value), (W.setCell ⟨p, i, none⟩ v).cell? ⟨w.heap.size + 1 + 1, j, none⟩ = W.cell? ⟨w.heap.size + 1 + 1, j, none⟩ := fun W i j v => far_cell W (by omega) i j v
  have kBp : ∀ (W : World) (i j : Nat) (v : Value), (W.setCell ⟨w.heap.size + 1 + 1, i, none⟩ v).cell? ⟨p, j, none⟩ = W.cell? ⟨p, j, none⟩ := fun W i j v => far_cell W (by omega) i j v
  have kO : ∀ (W : World) (i j : Nat) (v : Value), (W.setCell ⟨p, i, none⟩ v).cell? ⟨w.heap.size, j, none⟩ = W.cell? ⟨w.heap.size, j, none⟩ := fun W i j v => far_cell W (by omega) i j v
  have kOp : ∀ (W : World) (i j : Nat) (v : Value), (W.setCell ⟨w.heap.size, i, none⟩ v).cell? ⟨p, j, none⟩ = W.cell? ⟨p, j, none⟩ := fun W i j v => far_cell W (by omega) i j v
  have kF : ∀ (o1 o2 o3 : Obj) (j : Nat), (((w.alloc o1).alloc o2).alloc o3).cell? ⟨p, j, none⟩ = w.cell? ⟨p, j, none⟩ := fun o1 o2 o3 j => (((h.sh.obj.alloc o1).alloc o2).alloc o3).cell j |>.trans (h.sh.obj.cell j).symm
  have zF : ∀ (o1 o2 o3 : Obj) (j : Nat), (((w.alloc o1).alloc o2).alloc o3).frozen? ⟨p, j, none⟩ = false := fun o1 o2 o3 j => (((h.sh.obj.alloc o1).alloc o2).alloc o3).frozen j
  have HW : Hid (Sz w p l g) := h
  have q0 := hg.q0; have r0 := hg.r0; have A0 := hg.a0; have A8 := hg.a8
  have q1 : g.seq ≤ 4611686018427387904 := by have := hg.q1; omega
  have r1 : g.dropped ≤ 4611686018427387904 := by have := hg.r1; omega
  clear h hg hn ha hb hl
  go_enter Tryd.func20, Tryd.ntmps20
  go_wp2_with fail
  refine bodyPost_ret (by simp [results, Tryd.results20, go_sem]; try rfl) rfl ?_
  have lt := LT.out
  exact ⟨rfl, (HW.out.nil ((((Chg.refl _ w).alloc _).alloc _).alloc _)), ((((Chg.refl _ w).alloc _).alloc _).alloc _)⟩

theorem due_1d (p l : Nat) (g : PS) (n : Int) (a b cc : Int) (s t : ByteArray) (w : World) (hg : Good g n) (hn : n ≤ 4611686018427387904) (ha : I64 a) (hb : I64 b) (h : Sz w p l g) (e1 : 1 ≤ a) (e2 : a ≤ 32) (e3 : 3 < b) :
    Calls Tryd.prog 20 #[.pointer (some ⟨l, 0, none⟩), .pointer (some ⟨p, 0, none⟩), opV 1 a b cc s t] w fun e w' => e = .returned (ansV 2 0 0 ⟨#[]⟩) ∧ Sz w' p l g ∧ Chg (fun k => k = p ∨ k = l) w w' := by
  unfold opV
  obtain ⟨T1, T2, T3⟩ := frame3 (T := 47) w (.cells #[.int .i64 1, .int .i64 a, .int .i64 b, .int .i64 cc, .string s, .string t] 50) [.int .i64 0, .int .i64 0, .int .i64 0, .string ⟨#[]⟩] [.int .i64 0, .int .i64 0, .int .i64 0, .string ⟨#[]⟩]
  have T0 := frame4 (T := 47) (U := 50) w [.int .i64 1, .int .i64 a, .int .i64 b, .int .i64 cc, .string s, .string t] [.int .i64 0, .int .i64 0, .int .i64 0, .string ⟨#[]⟩] [.int .i64 0, .int .i64 0, .int .i64 0, .string ⟨#[]⟩]
  have hp := h.sh.obj.lt
  have hl := Has.lt h.cv
  have LT : Hid (p < w.heap.size ∧ l < w.heap.size) := ⟨hp, hl⟩
  have H0 : Hid (Sz (((w.alloc (.cells #[.int .i64 1, .int .i64 a, .int .i64 b, .int .i64 cc, .string s, .string t] 50)).alloc (.cells #[.int .i64 0, .int .i64 0, .int .i64 0, .string ⟨#[]⟩] 47)).alloc (.cells #[.int .i64 0, .int .i64 0, .int .i64 0, .string ⟨#[]⟩] 47)) p l g) := h.nil T3
  have C0 : Hid (Chg (fun k => k = p ∨ k = l) w (((w.alloc (.cells #[.int .i64 1, .int .i64 a, .int .i64 b, .int .i64 cc, .string s, .string t] 50)).alloc (.cells #[.int .i64 0, .int .i64 0, .int .i64 0, .string ⟨#[]⟩] 47)).alloc (.cells #[.int .i64 0, .int .i64 0, .int .i64 0, .string ⟨#[]⟩] 47))) := chg_0 T3
  have HG : Hid (Good g n ∧ n ≤ 4611686018427387904 ∧ I64 a ∧ I64 b) := ⟨hg, hn, ha, hb⟩
  have i0 : w.cell? ⟨p, 0, none⟩ = some (.int .i64 g.depth) := h.sh.cell 0 (sh_get g h.len).1
  have z0 := h.sh.frozen 0
  have i1 : w.cell? ⟨p, 1, none⟩ = some (.int .i64 g.mode) := h.sh.cell 1 (sh_get g h.len).2.1
  have z1 := h.sh.frozen 1
  have i2 : w.cell? ⟨p, 2, none⟩ = some (.int .i64 g.sum) := h.sh.cell 2 (sh_get g h.len).2.2.1
  have z2 := h.sh.frozen 2
  have i3 : w.cell? ⟨p, 3, none⟩ = some (.int .i64 g.peak) := h.sh.cell 3 (sh_get g h.len).2.2.2.1
  have z3 := h.sh.frozen 3
  have i4 : w.cell? ⟨p, 4, none⟩ = some (.int .i64 g.dip) := h.sh.cell 4 (sh_get g h.len).2.2.2.2.1
  have z4 := h.sh.frozen 4
  have i5 : w.cell? ⟨p, 5, none⟩ = some (.int .i64 g.at_) := h.sh.cell 5 (sh_get g h.len).2.2.2.2.2.1
  have z5 := h.sh.frozen 5
  have i6 : w.cell? ⟨p, 6, none⟩ = some (.int .i64 g.seq) := h.sh.cell 6 (sh_get g h.len).2.2.2.2.2.2.1
  have z6 := h.sh.frozen 6
  have i7 : w.cell? ⟨p, 7, none⟩ = some (.int .i64 g.dropped) := h.sh.cell 7 (sh_get g h.len).2.2.2.2.2.2.2
  have z7 := h.sh.frozen 7
  have kA : ∀ (W : World) (i j : Nat) (v : Value), (W.setCell ⟨p, i, none⟩ v).cell? ⟨w.heap.size + 1, j, none⟩ = W.cell? ⟨w.heap.size + 1, j, none⟩ := fun W i j v => far_cell W (by omega) i j v
  have kAp : ∀ (W : World) (i j : Nat) (v : Value), (W.setCell ⟨w.heap.size + 1, i, none⟩ v).cell? ⟨p, j, none⟩ = W.cell? ⟨p, j, none⟩ := fun W i j v => far_cell W (by omega) i j v
  have kB : ∀ (W : World) (i j : Nat) (v : Value), (W.setCell ⟨p, i, none⟩ v).cell? ⟨w.heap.size + 1 + 1, j, none⟩ = W.cell? ⟨w.heap.size + 1 + 1, j, none⟩ := fun W i j v => far_cell W (by omega) i j v
  have kBp : ∀ (W : World) (i j : Nat) (v : Value), (W.setCell ⟨w.heap.size + 1 + 1, i, none⟩ v).cell? ⟨p, j, none⟩ = W.cell? ⟨p, j, none⟩ := fun W i j v => far_cell W (by omega) i j v
  have kO : ∀ (W : World) (i j : Nat) (v : Value), (W.setCell ⟨p, i, none⟩ v).cell? ⟨w.heap.size, j, none⟩ = W.cell? ⟨w.heap.size, j, none⟩ := fun W i j v => far_cell W (by omega) i j v
  have kOp : ∀ (W : World) (i j : Nat) (v : Value), (W.setCell ⟨w.heap.size, i, none⟩ v).cell? ⟨p, j, none⟩ = W.cell? ⟨p, j, none⟩ := fun W i j v => far_cell W (by omega) i j v
  have kF : ∀ (o1 o2 o3 : Obj) (j : Nat), (((w.alloc o1).alloc o2).alloc o3).cell? ⟨p, j, none⟩ = w.cell? ⟨p, j, none⟩ := fun o1 o2 o3 j => (((h.sh.obj.alloc o1).alloc o2).alloc o3).cell j |>.trans (h.sh.obj.cell j).symm
  have zF : ∀ (o1 o2 o3 : Obj) (j : Nat), (((w.alloc o1).alloc o2).alloc o3).frozen? ⟨p, j, none⟩ = false := fun o1 o2 o3 j => (((h.sh.obj.alloc o1).alloc o2).alloc o3).frozen j
  have HW : Hid (Sz w p l g) := h
  have q0 := hg.q0; have r0 := hg.r0; have A0 := hg.a0; have A8 := hg.a8
  have q1 : g.seq ≤ 4611686018427387904 := by have := hg.q1; omega
  have r1 : g.dropped ≤ 4611686018427387904 := by have := hg.r1; omega
  clear h hg hn ha hb hl
  go_enter Tryd.func20, Tryd.ntmps20
  go_wp2_with fail
  refine bodyPost_ret (by simp [results, Tryd.results20, go_sem]; try rfl) rfl ?_
  have lt := LT.out
  exact ⟨rfl, (HW.out.nil ((((Chg.refl _ w).alloc _).alloc _).alloc _)), ((((Chg.refl _ w).alloc _).alloc _).alloc _)⟩

theorem due_1e (p l : Nat) (g : PS) (n : Int) (a b cc : Int) (s t : ByteArray) (w : World) (hg : Good g n) (hn : n ≤ 4611686018427387904) (ha : I64 a) (hb : I64 b) (h : Sz w p l g) (e1 : 1 ≤ a) (e2 : a ≤ 32) (e3 : 0 ≤ b) (e4 : b ≤ 3) :
    Calls Tryd.prog 20 #[.pointer (some ⟨l, 0, none⟩), .pointer (some ⟨p, 0, none⟩), opV 1 a b cc s t] w fun e w' => e = .returned (ansV 0 0 0 ⟨#[]⟩) ∧ Sz w' p l { g with depth := a, mode := b } ∧ Chg (fun k => k = p ∨ k = l) w w' := by
  unfold opV
  obtain ⟨T1, T2, T3⟩ := frame3 (T := 47) w (.cells #[.int .i64 1, .int .i64 a, .int .i64 b, .int .i64 cc, .string s, .string t] 50) [.int .i64 0, .int .i64 0, .int .i64 0, .string ⟨#[]⟩] [.int .i64 0, .int .i64 0, .int .i64 0, .string ⟨#[]⟩]
  have T0 := frame4 (T := 47) (U := 50) w [.int .i64 1, .int .i64 a, .int .i64 b, .int .i64 cc, .string s, .string t] [.int .i64 0, .int .i64 0, .int .i64 0, .string ⟨#[]⟩] [.int .i64 0, .int .i64 0, .int .i64 0, .string ⟨#[]⟩]
  have hp := h.sh.obj.lt
  have hl := Has.lt h.cv
  have LT : Hid (p < w.heap.size ∧ l < w.heap.size) := ⟨hp, hl⟩
  have H0 : Hid (Sz (((w.alloc (.cells #[.int .i64 1, .int .i64 a, .int .i64 b, .int .i64 cc, .string s, .string t] 50)).alloc (.cells #[.int .i64 0, .int .i64 0, .int .i64 0, .string ⟨#[]⟩] 47)).alloc (.cells #[.int .i64 0, .int .i64 0, .int .i64 0, .string ⟨#[]⟩] 47)) p l g) := h.nil T3
  have C0 : Hid (Chg (fun k => k = p ∨ k = l) w (((w.alloc (.cells #[.int .i64 1, .int .i64 a, .int .i64 b, .int .i64 cc, .string s, .string t] 50)).alloc (.cells #[.int .i64 0, .int .i64 0, .int .i64 0, .string ⟨#[]⟩] 47)).alloc (.cells #[.int .i64 0, .int .i64 0, .int .i64 0, .string ⟨#[]⟩] 47))) := chg_0 T3
  have HG : Hid (Good g n ∧ n ≤ 4611686018427387904 ∧ I64 a ∧ I64 b) := ⟨hg, hn, ha, hb⟩
  have i0 : w.cell? ⟨p, 0, none⟩ = some (.int .i64 g.depth) := h.sh.cell 0 (sh_get g h.len).1
  have z0 := h.sh.frozen 0
  have i1 : w.cell? ⟨p, 1, none⟩ = some (.int .i64 g.mode) := h.sh.cell 1 (sh_get g h.len).2.1
  have z1 := h.sh.frozen 1
  have i2 : w.cell? ⟨p, 2, none⟩ = some (.int .i64 g.sum) := h.sh.cell 2 (sh_get g h.len).2.2.1
  have z2 := h.sh.frozen 2
  have i3 : w.cell? ⟨p, 3, none⟩ = some (.int .i64 g.peak) := h.sh.cell 3 (sh_get g h.len).2.2.2.1
  have z3 := h.sh.frozen 3
  have i4 : w.cell? ⟨p, 4, none⟩ = some (.int .i64 g.dip) := h.sh.cell 4 (sh_get g h.len).2.2.2.2.1
  have z4 := h.sh.frozen 4
  have i5 : w.cell? ⟨p, 5, none⟩ = some (.int .i64 g.at_) := h.sh.cell 5 (sh_get g h.len).2.2.2.2.2.1
  have z5 := h.sh.frozen 5
  have i6 : w.cell? ⟨p, 6, none⟩ = some (.int .i64 g.seq) := h.sh.cell 6 (sh_get g h.len).2.2.2.2.2.2.1
  have z6 := h.sh.frozen 6
  have i7 : w.cell? ⟨p, 7, none⟩ = some (.int .i64 g.dropped) := h.sh.cell 7 (sh_get g h.len).2.2.2.2.2.2.2
  have z7 := h.sh.frozen 7
  have kA : ∀ (W : World) (i j : Nat) (v : Value), (W.setCell ⟨p, i, none⟩ v).cell? ⟨w.heap.size + 1, j, none⟩ = W.cell? ⟨w.heap.size + 1, j, none⟩ := fun W i j v => far_cell W (by omega) i j v
  have kAp : ∀ (W : World) (i j : Nat) (v : Value), (W.setCell ⟨w.heap.size + 1, i, none⟩ v).cell? ⟨p, j, none⟩ = W.cell? ⟨p, j, none⟩ := fun W i j v => far_cell W (by omega) i j v
  have kB : ∀ (W : World) (i j : Nat) (v : Value), (W.setCell ⟨p, i, none⟩ v).cell? ⟨w.heap.size + 1 + 1, j, none⟩ = W.cell? ⟨w.heap.size + 1 + 1, j, none⟩ := fun W i j v => far_cell W (by omega) i j v
  have kBp : ∀ (W : World) (i j : Nat) (v : Value), (W.setCell ⟨w.heap.size + 1 + 1, i, none⟩ v).cell? ⟨p, j, none⟩ = W.cell? ⟨p, j, none⟩ := fun W i j v => far_cell W (by omega) i j v
  have kO : ∀ (W : World) (i j : Nat) (v : Value), (W.setCell ⟨p, i, none⟩ v).cell? ⟨w.heap.size, j, none⟩ = W.cell? ⟨w.heap.size, j, none⟩ := fun W i j v => far_cell W (by omega) i j v
  have kOp : ∀ (W : World) (i j : Nat) (v : Value), (W.setCell ⟨w.heap.size, i, none⟩ v).cell? ⟨p, j, none⟩ = W.cell? ⟨p, j, none⟩ := fun W i j v => far_cell W (by omega) i j v
  have kF : ∀ (o1 o2 o3 : Obj) (j : Nat), (((w.alloc o1).alloc o2).alloc o3).cell? ⟨p, j, none⟩ = w.cell? ⟨p, j, none⟩ := fun o1 o2 o3 j => (((h.sh.obj.alloc o1).alloc o2).alloc o3).cell j |>.trans (h.sh.obj.cell j).symm
  have zF : ∀ (o1 o2 o3 : Obj) (j : Nat), (((w.alloc o1).alloc o2).alloc o3).frozen? ⟨p, j, none⟩ = false := fun o1 o2 o3 j => (((h.sh.obj.alloc o1).alloc o2).alloc o3).frozen j
  have HW : Hid (Sz w p l g) := h
  have q0 := hg.q0; have r0 := hg.r0; have A0 := hg.a0; have A8 := hg.a8
  have q1 : g.seq ≤ 4611686018427387904 := by have := hg.q1; omega
  have r1 : g.dropped ≤ 4611686018427387904 := by have := hg.r1; omega
  clear h hg hn ha hb hl
  go_enter Tryd.func20, Tryd.ntmps20
  go_wp2_with fail
  refine bodyPost_ret (by simp [results, Tryd.results20, go_sem]; try rfl) rfl ?_
  have lt := LT.out
  exact ⟨rfl, (((((((HW.out.nil ((((Chg.refl _ w).alloc _).alloc _).alloc _)).setDepth a).setMode b).far lt (by first | omega | (dsimp only; omega)) _).far lt (by first | omega | (dsimp only; omega)) _).far lt (by first | omega | (dsimp only; omega)) _).far lt (by first | omega | (dsimp only; omega)) _), (((((chg_at (chg_at ((((Chg.refl _ w).alloc _).alloc _).alloc _) _ _) _ _).setCell (Or.inr (by first | omega | (dsimp only; omega))) _).setCell (Or.inr (by first | omega | (dsimp only; omega))) _).setCell (Or.inr (by first | omega | (dsimp only; omega))) _).setCell (Or.inr (by first | omega | (dsimp only; omega))) _)⟩

theorem due_9 (p l : Nat) (g : PS) (n : Int) (a b cc : Int) (s t : ByteArray) (w : World) (hg : Good g n) (hn : n ≤ 4611686018427387904) (ha : I64 a) (hb : I64 b) (h : Sz w p l g) :
    Calls Tryd.prog 20 #[.pointer (some ⟨l, 0, none⟩), .pointer (some ⟨p, 0, none⟩), opV 9 a b cc s t] w fun e w' => e = .returned (ansV 0 g.seq (g.seq + 1) ⟨#[]⟩) ∧ Sz w' p l { g with seq := g.seq + 1 } ∧ Chg (fun k => k = p ∨ k = l) w w' := by
  unfold opV
  obtain ⟨T1, T2, T3⟩ := frame3 (T := 47) w (.cells #[.int .i64 9, .int .i64 a, .int .i64 b, .int .i64 cc, .string s, .string t] 50) [.int .i64 0, .int .i64 0, .int .i64 0, .string ⟨#[]⟩] [.int .i64 0, .int .i64 0, .int .i64 0, .string ⟨#[]⟩]
  have T0 := frame4 (T := 47) (U := 50) w [.int .i64 9, .int .i64 a, .int .i64 b, .int .i64 cc, .string s, .string t] [.int .i64 0, .int .i64 0, .int .i64 0, .string ⟨#[]⟩] [.int .i64 0, .int .i64 0, .int .i64 0, .string ⟨#[]⟩]
  have hp := h.sh.obj.lt
  have hl := Has.lt h.cv
  have LT : Hid (p < w.heap.size ∧ l < w.heap.size) := ⟨hp, hl⟩
  have H0 : Hid (Sz (((w.alloc (.cells #[.int .i64 9, .int .i64 a, .int .i64 b, .int .i64 cc, .string s, .string t] 50)).alloc (.cells #[.int .i64 0, .int .i64 0, .int .i64 0, .string ⟨#[]⟩] 47)).alloc (.cells #[.int .i64 0, .int .i64 0, .int .i64 0, .string ⟨#[]⟩] 47)) p l g) := h.nil T3
  have C0 : Hid (Chg (fun k => k = p ∨ k = l) w (((w.alloc (.cells #[.int .i64 9, .int .i64 a, .int .i64 b, .int .i64 cc, .string s, .string t] 50)).alloc (.cells #[.int .i64 0, .int .i64 0, .int .i64 0, .string ⟨#[]⟩] 47)).alloc (.cells #[.int .i64 0, .int .i64 0, .int .i64 0, .string ⟨#[]⟩] 47))) := chg_0 T3
  have HG : Hid (Good g n ∧ n ≤ 4611686018427387904 ∧ I64 a ∧ I64 b) := ⟨hg, hn, ha, hb⟩
  have i0 : w.cell? ⟨p, 0, none⟩ = some (.int .i64 g.depth) := h.sh.cell 0 (sh_get g h.len).1
  have z0 := h.sh.frozen 0
  have i1 : w.cell? ⟨p, 1, none⟩ = some (.int .i64 g.mode) := h.sh.cell 1 (sh_get g h.len).2.1
  have z1 := h.sh.frozen 1
  have i2 : w.cell? ⟨p, 2, none⟩ = some (.int .i64 g.sum) := h.sh.cell 2 (sh_get g h.len).2.2.1
  have z2 := h.sh.frozen 2
  have i3 : w.cell? ⟨p, 3, none⟩ = some (.int .i64 g.peak) := h.sh.cell 3 (sh_get g h.len).2.2.2.1
  have z3 := h.sh.frozen 3
  have i4 : w.cell? ⟨p, 4, none⟩ = some (.int .i64 g.dip) := h.sh.cell 4 (sh_get g h.len).2.2.2.2.1
  have z4 := h.sh.frozen 4
  have i5 : w.cell? ⟨p, 5, none⟩ = some (.int .i64 g.at_) := h.sh.cell 5 (sh_get g h.len).2.2.2.2.2.1
  have z5 := h.sh.frozen 5
  have i6 : w.cell? ⟨p, 6, none⟩ = some (.int .i64 g.seq) := h.sh.cell 6 (sh_get g h.len).2.2.2.2.2.2.1
  have z6 := h.sh.frozen 6
  have i7 : w.cell? ⟨p, 7, none⟩ = some (.int .i64 g.dropped) := h.sh.cell 7 (sh_get g h.len).2.2.2.2.2.2.2
  have z7 := h.sh.frozen 7
  have kA : ∀ (W : World) (i j : Nat) (v : Value), (W.setCell ⟨p, i, none⟩ v).cell? ⟨w.heap.size + 1, j, none⟩ = W.cell? ⟨w.heap.size + 1, j, none⟩ := fun W i j v => far_cell W (by omega) i j v
  have kAp : ∀ (W : World) (i j : Nat) (v : Value), (W.setCell ⟨w.heap.size + 1, i, none⟩ v).cell? ⟨p, j, none⟩ = W.cell? ⟨p, j, none⟩ := fun W i j v => far_cell W (by omega) i j v
  have kB : ∀ (W : World) (i j : Nat) (v : Value), (W.setCell ⟨p, i, none⟩ v).cell? ⟨w.heap.size + 1 + 1, j, none⟩ = W.cell? ⟨w.heap.size + 1 + 1, j, none⟩ := fun W i j v => far_cell W (by omega) i j v
  have kBp : ∀ (W : World) (i j : Nat) (v : Value), (W.setCell ⟨w.heap.size + 1 + 1, i, none⟩ v).cell? ⟨p, j, none⟩ = W.cell? ⟨p, j, none⟩ := fun W i j v => far_cell W (by omega) i j v
  have kO : ∀ (W : World) (i j : Nat) (v : Value), (W.setCell ⟨p, i, none⟩ v).cell? ⟨w.heap.size, j, none⟩ = W.cell? ⟨w.heap.size, j, none⟩ := fun W i j v => far_cell W (by omega) i j v
  have kOp : ∀ (W : World) (i j : Nat) (v : Value), (W.setCell ⟨w.heap.size, i, none⟩ v).cell? ⟨p, j, none⟩ = W.cell? ⟨p, j, none⟩ := fun W i j v => far_cell W (by omega) i j v
  have kF : ∀ (o1 o2 o3 : Obj) (j : Nat), (((w.alloc o1).alloc o2).alloc o3).cell? ⟨p, j, none⟩ = w.cell? ⟨p, j, none⟩ := fun o1 o2 o3 j => (((h.sh.obj.alloc o1).alloc o2).alloc o3).cell j |>.trans (h.sh.obj.cell j).symm
  have zF : ∀ (o1 o2 o3 : Obj) (j : Nat), (((w.alloc o1).alloc o2).alloc o3).frozen? ⟨p, j, none⟩ = false := fun o1 o2 o3 j => (((h.sh.obj.alloc o1).alloc o2).alloc o3).frozen j
  have HW : Hid (Sz w p l g) := h
  have q0 := hg.q0; have r0 := hg.r0; have A0 := hg.a0; have A8 := hg.a8
  have q1 : g.seq ≤ 4611686018427387904 := by have := hg.q1; omega
  have r1 : g.dropped ≤ 4611686018427387904 := by have := hg.r1; omega
  clear h hg hn ha hb hl
  go_enter Tryd.func20, Tryd.ntmps20
  go_wp2_with fail
  refine bodyPost_ret (by simp [results, Tryd.results20, go_sem]; try rfl) rfl ?_
  have lt := LT.out
  exact ⟨rfl, (((((((HW.out.nil ((((Chg.refl _ w).alloc _).alloc _).alloc _)).setSeq (g.seq + 1)).far lt (by first | omega | (dsimp only; omega)) _).far lt (by first | omega | (dsimp only; omega)) _).far lt (by first | omega | (dsimp only; omega)) _).far lt (by first | omega | (dsimp only; omega)) _).far lt (by first | omega | (dsimp only; omega)) _), ((((((chg_at ((((Chg.refl _ w).alloc _).alloc _).alloc _) _ _).setCell (Or.inr (by first | omega | (dsimp only; omega))) _).setCell (Or.inr (by first | omega | (dsimp only; omega))) _).setCell (Or.inr (by first | omega | (dsimp only; omega))) _).setCell (Or.inr (by first | omega | (dsimp only; omega))) _).setCell (Or.inr (by first | omega | (dsimp only; omega))) _)⟩

theorem due_10a (p l : Nat) (g : PS) (n : Int) (a b cc : Int) (s t : ByteArray) (w : World) (hg : Good g n) (hn : n ≤ 4611686018427387904) (ha : I64 a) (hb : I64 b) (h : Sz w p l g) (e1 : a < 0) :
    Calls Tryd.prog 20 #[.pointer (some ⟨l, 0, none⟩), .pointer (some ⟨p, 0, none⟩), opV 10 a b cc s t] w fun e w' => e = .returned (ansV 10 0 0 ⟨#[]⟩) ∧ Sz w' p l g ∧ Chg (fun k => k = p ∨ k = l) w w' := by
  unfold opV
  obtain ⟨T1, T2, T3⟩ := frame3 (T := 47) w (.cells #[.int .i64 10, .int .i64 a, .int .i64 b, .int .i64 cc, .string s, .string t] 50) [.int .i64 0, .int .i64 0, .int .i64 0, .string ⟨#[]⟩] [.int .i64 0, .int .i64 0, .int .i64 0, .string ⟨#[]⟩]
  have T0 := frame4 (T := 47) (U := 50) w [.int .i64 10, .int .i64 a, .int .i64 b, .int .i64 cc, .string s, .string t] [.int .i64 0, .int .i64 0, .int .i64 0, .string ⟨#[]⟩] [.int .i64 0, .int .i64 0, .int .i64 0, .string ⟨#[]⟩]
  have hp := h.sh.obj.lt
  have hl := Has.lt h.cv
  have LT : Hid (p < w.heap.size ∧ l < w.heap.size) := ⟨hp, hl⟩
  have H0 : Hid (Sz (((w.alloc (.cells #[.int .i64 10, .int .i64 a, .int .i64 b, .int .i64 cc, .string s, .string t] 50)).alloc (.cells #[.int .i64 0, .int .i64 0, .int .i64 0, .string ⟨#[]⟩] 47)).alloc (.cells #[.int .i64 0, .int .i64 0, .int .i64 0, .string ⟨#[]⟩] 47)) p l g) := h.nil T3
  have C0 : Hid (Chg (fun k => k = p ∨ k = l) w (((w.alloc (.cells #[.int .i64 10, .int .i64 a, .int .i64 b, .int .i64 cc, .string s, .string t] 50)).alloc (.cells #[.int .i64 0, .int .i64 0, .int .i64 0, .string ⟨#[]⟩] 47)).alloc (.cells #[.int .i64 0, .int .i64 0, .int .i64 0, .string ⟨#[]⟩] 47))) := chg_0 T3
  have HG : Hid (Good g n ∧ n ≤ 4611686018427387904 ∧ I64 a ∧ I64 b) := ⟨hg, hn, ha, hb⟩
  have i0 : w.cell? ⟨p, 0, none⟩ = some (.int .i64 g.depth) := h.sh.cell 0 (sh_get g h.len).1
  have z0 := h.sh.frozen 0
  have i1 : w.cell? ⟨p, 1, none⟩ = some (.int .i64 g.mode) := h.sh.cell 1 (sh_get g h.len).2.1
  have z1 := h.sh.frozen 1
  have i2 : w.cell? ⟨p, 2, none⟩ = some (.int .i64 g.sum) := h.sh.cell 2 (sh_get g h.len).2.2.1
  have z2 := h.sh.frozen 2
  have i3 : w.cell? ⟨p, 3, none⟩ = some (.int .i64 g.peak) := h.sh.cell 3 (sh_get g h.len).2.2.2.1
  have z3 := h.sh.frozen 3
  have i4 : w.cell? ⟨p, 4, none⟩ = some (.int .i64 g.dip) := h.sh.cell 4 (sh_get g h.len).2.2.2.2.1
  have z4 := h.sh.frozen 4
  have i5 : w.cell? ⟨p, 5, none⟩ = some (.int .i64 g.at_) := h.sh.cell 5 (sh_get g h.len).2.2.2.2.2.1
  have z5 := h.sh.frozen 5
  have i6 : w.cell? ⟨p, 6, none⟩ = some (.int .i64 g.seq) := h.sh.cell 6 (sh_get g h.len).2.2.2.2.2.2.1
  have z6 := h.sh.frozen 6
  have i7 : w.cell? ⟨p, 7, none⟩ = some (.int .i64 g.dropped) := h.sh.cell 7 (sh_get g h.len).2.2.2.2.2.2.2
  have z7 := h.sh.frozen 7
  have kA : ∀ (W : World) (i j : Nat) (v : Value), (W.setCell ⟨p, i, none⟩ v).cell? ⟨w.heap.size + 1, j, none⟩ = W.cell? ⟨w.heap.size + 1, j, none⟩ := fun W i j v => far_cell W (by omega) i j v
  have kAp : ∀ (W : World) (i j : Nat) (v : Value), (W.setCell ⟨w.heap.size + 1, i, none⟩ v).cell? ⟨p, j, none⟩ = W.cell? ⟨p, j, none⟩ := fun W i j v => far_cell W (by omega) i j v
  have kB : ∀ (W : World) (i j : Nat) (v : Value), (W.setCell ⟨p, i, none⟩ v).cell? ⟨w.heap.size + 1 + 1, j, none⟩ = W.cell? ⟨w.heap.size + 1 + 1, j, none⟩ := fun W i j v => far_cell W (by omega) i j v
  have kBp : ∀ (W : World) (i j : Nat) (v : Value), (W.setCell ⟨w.heap.size + 1 + 1, i, none⟩ v).cell? ⟨p, j, none⟩ = W.cell? ⟨p, j, none⟩ := fun W i j v => far_cell W (by omega) i j v
  have kO : ∀ (W : World) (i j : Nat) (v : Value), (W.setCell ⟨p, i, none⟩ v).cell? ⟨w.heap.size, j, none⟩ = W.cell? ⟨w.heap.size, j, none⟩ := fun W i j v => far_cell W (by omega) i j v
  have kOp : ∀ (W : World) (i j : Nat) (v : Value), (W.setCell ⟨w.heap.size, i, none⟩ v).cell? ⟨p, j, none⟩ = W.cell? ⟨p, j, none⟩ := fun W i j v => far_cell W (by omega) i j v
  have kF : ∀ (o1 o2 o3 : Obj) (j : Nat), (((w.alloc o1).alloc o2).alloc o3).cell? ⟨p, j, none⟩ = w.cell? ⟨p, j, none⟩ := fun o1 o2 o3 j => (((h.sh.obj.alloc o1).alloc o2).alloc o3).cell j |>.trans (h.sh.obj.cell j).symm
  have zF : ∀ (o1 o2 o3 : Obj) (j : Nat), (((w.alloc o1).alloc o2).alloc o3).frozen? ⟨p, j, none⟩ = false := fun o1 o2 o3 j => (((h.sh.obj.alloc o1).alloc o2).alloc o3).frozen j
  have HW : Hid (Sz w p l g) := h
  have q0 := hg.q0; have r0 := hg.r0; have A0 := hg.a0; have A8 := hg.a8
  have q1 : g.seq ≤ 4611686018427387904 := by have := hg.q1; omega
  have r1 : g.dropped ≤ 4611686018427387904 := by have := hg.r1; omega
  clear h hg hn ha hb hl
  go_enter Tryd.func20, Tryd.ntmps20
  go_wp2_with fail
  refine bodyPost_ret (by simp [results, Tryd.results20, go_sem]; try rfl) rfl ?_
  have lt := LT.out
  exact ⟨rfl, (HW.out.nil ((((Chg.refl _ w).alloc _).alloc _).alloc _)), ((((Chg.refl _ w).alloc _).alloc _).alloc _)⟩

theorem due_10b (p l : Nat) (g : PS) (n : Int) (a b cc : Int) (s t : ByteArray) (w : World) (hg : Good g n) (hn : n ≤ 4611686018427387904) (ha : I64 a) (hb : I64 b) (h : Sz w p l g) (e1 : 8 ≤ a) :
    Calls Tryd.prog 20 #[.pointer (some ⟨l, 0, none⟩), .pointer (some ⟨p, 0, none⟩), opV 10 a b cc s t] w fun e w' => e = .returned (ansV 10 0 0 ⟨#[]⟩) ∧ Sz w' p l g ∧ Chg (fun k => k = p ∨ k = l) w w' := by
  unfold opV
  obtain ⟨T1, T2, T3⟩ := frame3 (T := 47) w (.cells #[.int .i64 10, .int .i64 a, .int .i64 b, .int .i64 cc, .string s, .string t] 50) [.int .i64 0, .int .i64 0, .int .i64 0, .string ⟨#[]⟩] [.int .i64 0, .int .i64 0, .int .i64 0, .string ⟨#[]⟩]
  have T0 := frame4 (T := 47) (U := 50) w [.int .i64 10, .int .i64 a, .int .i64 b, .int .i64 cc, .string s, .string t] [.int .i64 0, .int .i64 0, .int .i64 0, .string ⟨#[]⟩] [.int .i64 0, .int .i64 0, .int .i64 0, .string ⟨#[]⟩]
  have hp := h.sh.obj.lt
  have hl := Has.lt h.cv
  have LT : Hid (p < w.heap.size ∧ l < w.heap.size) := ⟨hp, hl⟩
  have H0 : Hid (Sz (((w.alloc (.cells #[.int .i64 10, .int .i64 a, .int .i64 b, .int .i64 cc, .string s, .string t] 50)).alloc (.cells #[.int .i64 0, .int .i64 0, .int .i64 0, .string ⟨#[]⟩] 47)).alloc (.cells #[.int .i64 0, .int .i64 0, .int .i64 0, .string ⟨#[]⟩] 47)) p l g) := h.nil T3
  have C0 : Hid (Chg (fun k => k = p ∨ k = l) w (((w.alloc (.cells #[.int .i64 10, .int .i64 a, .int .i64 b, .int .i64 cc, .string s, .string t] 50)).alloc (.cells #[.int .i64 0, .int .i64 0, .int .i64 0, .string ⟨#[]⟩] 47)).alloc (.cells #[.int .i64 0, .int .i64 0, .int .i64 0, .string ⟨#[]⟩] 47))) := chg_0 T3
  have HG : Hid (Good g n ∧ n ≤ 4611686018427387904 ∧ I64 a ∧ I64 b) := ⟨hg, hn, ha, hb⟩
  have i0 : w.cell? ⟨p, 0, none⟩ = some (.int .i64 g.depth) := h.sh.cell 0 (sh_get g h.len).1
  have z0 := h.sh.frozen 0
  have i1 : w.cell? ⟨p, 1, none⟩ = some (.int .i64 g.mode) := h.sh.cell 1 (sh_get g h.len).2.1
  have z1 := h.sh.frozen 1
  have i2 : w.cell? ⟨p, 2, none⟩ = some (.int .i64 g.sum) := h.sh.cell 2 (sh_get g h.len).2.2.1
  have z2 := h.sh.frozen 2
  have i3 : w.cell? ⟨p, 3, none⟩ = some (.int .i64 g.peak) := h.sh.cell 3 (sh_get g h.len).2.2.2.1
  have z3 := h.sh.frozen 3
  have i4 : w.cell? ⟨p, 4, none⟩ = some (.int .i64 g.dip) := h.sh.cell 4 (sh_get g h.len).2.2.2.2.1
  have z4 := h.sh.frozen 4
  have i5 : w.cell? ⟨p, 5, none⟩ = some (.int .i64 g.at_) := h.sh.cell 5 (sh_get g h.len).2.2.2.2.2.1
  have z5 := h.sh.frozen 5
  have i6 : w.cell? ⟨p, 6, none⟩ = some (.int .i64 g.seq) := h.sh.cell 6 (sh_get g h.len).2.2.2.2.2.2.1
  have z6 := h.sh.frozen 6
  have i7 : w.cell? ⟨p, 7, none⟩ = some (.int .i64 g.dropped) := h.sh.cell 7 (sh_get g h.len).2.2.2.2.2.2.2
  have z7 := h.sh.frozen 7
  have kA : ∀ (W : World) (i j : Nat) (v : Value), (W.setCell ⟨p, i, none⟩ v).cell? ⟨w.heap.size + 1, j, none⟩ = W.cell? ⟨w.heap.size + 1, j, none⟩ := fun W i j v => far_cell W (by omega) i j v
  have kAp : ∀ (W : World) (i j : Nat) (v : Value), (W.setCell ⟨w.heap.size + 1, i, none⟩ v).cell? ⟨p, j, none⟩ = W.cell? ⟨p, j, none⟩ := fun W i j v => far_cell W (by omega) i j v
  have kB : ∀ (W : World) (i j : Nat) (v : Value), (W.setCell ⟨p, i, none⟩ v).cell? ⟨w.heap.size + 1 + 1, j, none⟩ = W.cell? ⟨w.heap.size + 1 + 1, j, none⟩ := fun W i j v => far_cell W (by omega) i j v
  have kBp : ∀ (W : World) (i j : Nat) (v : Value), (W.setCell ⟨w.heap.size + 1 + 1, i, none⟩ v).cell? ⟨p, j, none⟩ = W.cell? ⟨p, j, none⟩ := fun W i j v => far_cell W (by omega) i j v
  have kO : ∀ (W : World) (i j : Nat) (v : Value), (W.setCell ⟨p, i, none⟩ v).cell? ⟨w.heap.size, j, none⟩ = W.cell? ⟨w.heap.size, j, none⟩ := fun W i j v => far_cell W (by omega) i j v
  have kOp : ∀ (W : World) (i j : Nat) (v : Value), (W.setCell ⟨w.heap.size, i, none⟩ v).cell? ⟨p, j, none⟩ = W.cell? ⟨p, j, none⟩ := fun W i j v => far_cell W (by omega) i j v
  have kF : ∀ (o1 o2 o3 : Obj) (j : Nat), (((w.alloc o1).alloc o2).alloc o3).cell? ⟨p, j, none⟩ = w.cell? ⟨p, j, none⟩ := fun o1 o2 o3 j => (((h.sh.obj.alloc o1).alloc o2).alloc o3).cell j |>.trans (h.sh.obj.cell j).symm
  have zF : ∀ (o1 o2 o3 : Obj) (j : Nat), (((w.alloc o1).alloc o2).alloc o3).frozen? ⟨p, j, none⟩ = false := fun o1 o2 o3 j => (((h.sh.obj.alloc o1).alloc o2).alloc o3).frozen j
  have HW : Hid (Sz w p l g) := h
  have q0 := hg.q0; have r0 := hg.r0; have A0 := hg.a0; have A8 := hg.a8
  have q1 : g.seq ≤ 4611686018427387904 := by have := hg.q1; omega
  have r1 : g.dropped ≤ 4611686018427387904 := by have := hg.r1; omega
  clear h hg hn ha hb hl
  go_enter Tryd.func20, Tryd.ntmps20
  go_wp2_with fail
  refine bodyPost_ret (by simp [results, Tryd.results20, go_sem]; try rfl) rfl ?_
  have lt := LT.out
  exact ⟨rfl, (HW.out.nil ((((Chg.refl _ w).alloc _).alloc _).alloc _)), ((((Chg.refl _ w).alloc _).alloc _).alloc _)⟩

theorem due_11a (p l : Nat) (g : PS) (n : Int) (a b cc : Int) (s t : ByteArray) (w : World) (hg : Good g n) (hn : n ≤ 4611686018427387904) (ha : I64 a) (hb : I64 b) (h : Sz w p l g) (e1 : a % 4294967296 = 0) :
    Calls Tryd.prog 20 #[.pointer (some ⟨l, 0, none⟩), .pointer (some ⟨p, 0, none⟩), opV 11 a b cc s t] w fun e w' => e = .returned (ansV 0 1 0 ⟨#[]⟩) ∧ Sz w' p l { g with dropped := g.dropped + 1 } ∧ Chg (fun k => k = p ∨ k = l) w w' := by
  unfold opV
  obtain ⟨T1, T2, T3⟩ := frame3 (T := 47) w (.cells #[.int .i64 11, .int .i64 a, .int .i64 b, .int .i64 cc, .string s, .string t] 50) [.int .i64 0, .int .i64 0, .int .i64 0, .string ⟨#[]⟩] [.int .i64 0, .int .i64 0, .int .i64 0, .string ⟨#[]⟩]
  have T0 := frame4 (T := 47) (U := 50) w [.int .i64 11, .int .i64 a, .int .i64 b, .int .i64 cc, .string s, .string t] [.int .i64 0, .int .i64 0, .int .i64 0, .string ⟨#[]⟩] [.int .i64 0, .int .i64 0, .int .i64 0, .string ⟨#[]⟩]
  have hp := h.sh.obj.lt
  have hl := Has.lt h.cv
  have LT : Hid (p < w.heap.size ∧ l < w.heap.size) := ⟨hp, hl⟩
  have H0 : Hid (Sz (((w.alloc (.cells #[.int .i64 11, .int .i64 a, .int .i64 b, .int .i64 cc, .string s, .string t] 50)).alloc (.cells #[.int .i64 0, .int .i64 0, .int .i64 0, .string ⟨#[]⟩] 47)).alloc (.cells #[.int .i64 0, .int .i64 0, .int .i64 0, .string ⟨#[]⟩] 47)) p l g) := h.nil T3
  have C0 : Hid (Chg (fun k => k = p ∨ k = l) w (((w.alloc (.cells #[.int .i64 11, .int .i64 a, .int .i64 b, .int .i64 cc, .string s, .string t] 50)).alloc (.cells #[.int .i64 0, .int .i64 0, .int .i64 0, .string ⟨#[]⟩] 47)).alloc (.cells #[.int .i64 0, .int .i64 0, .int .i64 0, .string ⟨#[]⟩] 47))) := chg_0 T3
  have HG : Hid (Good g n ∧ n ≤ 4611686018427387904 ∧ I64 a ∧ I64 b) := ⟨hg, hn, ha, hb⟩
  have i0 : w.cell? ⟨p, 0, none⟩ = some (.int .i64 g.depth) := h.sh.cell 0 (sh_get g h.len).1
  have z0 := h.sh.frozen 0
  have i1 : w.cell? ⟨p, 1, none⟩ = some (.int .i64 g.mode) := h.sh.cell 1 (sh_get g h.len).2.1
  have z1 := h.sh.frozen 1
  have i2 : w.cell? ⟨p, 2, none⟩ = some (.int .i64 g.sum) := h.sh.cell 2 (sh_get g h.len).2.2.1
  have z2 := h.sh.frozen 2
  have i3 : w.cell? ⟨p, 3, none⟩ = some (.int .i64 g.peak) := h.sh.cell 3 (sh_get g h.len).2.2.2.1
  have z3 := h.sh.frozen 3
  have i4 : w.cell? ⟨p, 4, none⟩ = some (.int .i64 g.dip) := h.sh.cell 4 (sh_get g h.len).2.2.2.2.1
  have z4 := h.sh.frozen 4
  have i5 : w.cell? ⟨p, 5, none⟩ = some (.int .i64 g.at_) := h.sh.cell 5 (sh_get g h.len).2.2.2.2.2.1
  have z5 := h.sh.frozen 5
  have i6 : w.cell? ⟨p, 6, none⟩ = some (.int .i64 g.seq) := h.sh.cell 6 (sh_get g h.len).2.2.2.2.2.2.1
  have z6 := h.sh.frozen 6
  have i7 : w.cell? ⟨p, 7, none⟩ = some (.int .i64 g.dropped) := h.sh.cell 7 (sh_get g h.len).2.2.2.2.2.2.2
  have z7 := h.sh.frozen 7
  have kA : ∀ (W : World) (i j : Nat) (v : Value), (W.setCell ⟨p, i, none⟩ v).cell? ⟨w.heap.size + 1, j, none⟩ = W.cell? ⟨w.heap.size + 1, j, none⟩ := fun W i j v => far_cell W (by omega) i j v
  have kAp : ∀ (W : World) (i j : Nat) (v : Value), (W.setCell ⟨w.heap.size + 1, i, none⟩ v).cell? ⟨p, j, none⟩ = W.cell? ⟨p, j, none⟩ := fun W i j v => far_cell W (by omega) i j v
  have kB : ∀ (W : World) (i j : Nat) (v : Value), (W.setCell ⟨p, i, none⟩ v).cell? ⟨w.heap.size + 1 + 1, j, none⟩ = W.cell? ⟨w.heap.size + 1 + 1, j, none⟩ := fun W i j v => far_cell W (by omega) i j v
  have kBp : ∀ (W : World) (i j : Nat) (v : Value), (W.setCell ⟨w.heap.size + 1 + 1, i, none⟩ v).cell? ⟨p, j, none⟩ = W.cell? ⟨p, j, none⟩ := fun W i j v => far_cell W (by omega) i j v
  have kO : ∀ (W : World) (i j : Nat) (v : Value), (W.setCell ⟨p, i, none⟩ v).cell? ⟨w.heap.size, j, none⟩ = W.cell? ⟨w.heap.size, j, none⟩ := fun W i j v => far_cell W (by omega) i j v
  have kOp : ∀ (W : World) (i j : Nat) (v : Value), (W.setCell ⟨w.heap.size, i, none⟩ v).cell? ⟨p, j, none⟩ = W.cell? ⟨p, j, none⟩ := fun W i j v => far_cell W (by omega) i j v
  have kF : ∀ (o1 o2 o3 : Obj) (j : Nat), (((w.alloc o1).alloc o2).alloc o3).cell? ⟨p, j, none⟩ = w.cell? ⟨p, j, none⟩ := fun o1 o2 o3 j => (((h.sh.obj.alloc o1).alloc o2).alloc o3).cell j |>.trans (h.sh.obj.cell j).symm
  have zF : ∀ (o1 o2 o3 : Obj) (j : Nat), (((w.alloc o1).alloc o2).alloc o3).frozen? ⟨p, j, none⟩ = false := fun o1 o2 o3 j => (((h.sh.obj.alloc o1).alloc o2).alloc o3).frozen j
  have HW : Hid (Sz w p l g) := h
  have q0 := hg.q0; have r0 := hg.r0; have A0 := hg.a0; have A8 := hg.a8
  have q1 : g.seq ≤ 4611686018427387904 := by have := hg.q1; omega
  have r1 : g.dropped ≤ 4611686018427387904 := by have := hg.r1; omega
  have e5 := and32 a
  rw [e1] at e5
  clear h hg hn ha hb hl
  go_enter Tryd.func20, Tryd.ntmps20
  go_wp2_with fail
  refine bodyPost_ret (by simp [results, Tryd.results20, go_sem]; try rfl) rfl ?_
  have lt := LT.out
  exact ⟨rfl, (((((((HW.out.nil ((((Chg.refl _ w).alloc _).alloc _).alloc _)).setDropped (g.dropped + 1)).far lt (by first | omega | (dsimp only; omega)) _).far lt (by first | omega | (dsimp only; omega)) _).far lt (by first | omega | (dsimp only; omega)) _).far lt (by first | omega | (dsimp only; omega)) _).far lt (by first | omega | (dsimp only; omega)) _), ((((((chg_at ((((Chg.refl _ w).alloc _).alloc _).alloc _) _ _).setCell (Or.inr (by first | omega | (dsimp only; omega))) _).setCell (Or.inr (by first | omega | (dsimp only; omega))) _).setCell (Or.inr (by first | omega | (dsimp only; omega))) _).setCell (Or.inr (by first | omega | (dsimp only; omega))) _).setCell (Or.inr (by first | omega | (dsimp only; omega))) _)⟩

theorem due_11b (p l : Nat) (g : PS) (n : Int) (a b cc : Int) (s t : ByteArray) (w : World) (hg : Good g n) (hn : n ≤ 4611686018427387904) (ha : I64 a) (hb : I64 b) (h : Sz w p l g) (e1 : a % 4294967296 ≠ 0) :
    Calls Tryd.prog 20 #[.pointer (some ⟨l, 0, none⟩), .pointer (some ⟨p, 0, none⟩), opV 11 a b cc s t] w fun e w' => e = .returned (ansV 0 0 0 ⟨#[]⟩) ∧ Sz w' p l g ∧ Chg (fun k => k = p ∨ k = l) w w' := by
  unfold opV
  obtain ⟨T1, T2, T3⟩ := frame3 (T := 47) w (.cells #[.int .i64 11, .int .i64 a, .int .i64 b, .int .i64 cc, .string s, .string t] 50) [.int .i64 0, .int .i64 0, .int .i64 0, .string ⟨#[]⟩] [.int .i64 0, .int .i64 0, .int .i64 0, .string ⟨#[]⟩]
  have T0 := frame4 (T := 47) (U := 50) w [.int .i64 11, .int .i64 a, .int .i64 b, .int .i64 cc, .string s, .string t] [.int .i64 0, .int .i64 0, .int .i64 0, .string ⟨#[]⟩] [.int .i64 0, .int .i64 0, .int .i64 0, .string ⟨#[]⟩]
  have hp := h.sh.obj.lt
  have hl := Has.lt h.cv
  have LT : Hid (p < w.heap.size ∧ l < w.heap.size) := ⟨hp, hl⟩
  have H0 : Hid (Sz (((w.alloc (.cells #[.int .i64 11, .int .i64 a, .int .i64 b, .int .i64 cc, .string s, .string t] 50)).alloc (.cells #[.int .i64 0, .int .i64 0, .int .i64 0, .string ⟨#[]⟩] 47)).alloc (.cells #[.int .i64 0, .int .i64 0, .int .i64 0, .string ⟨#[]⟩] 47)) p l g) := h.nil T3
  have C0 : Hid (Chg (fun k => k = p ∨ k = l) w (((w.alloc (.cells #[.int .i64 11, .int .i64 a, .int .i64 b, .int .i64 cc, .string s, .string t] 50)).alloc (.cells #[.int .i64 0, .int .i64 0, .int .i64 0, .string ⟨#[]⟩] 47)).alloc (.cells #[.int .i64 0, .int .i64 0, .int .i64 0, .string ⟨#[]⟩] 47))) := chg_0 T3
  have HG : Hid (Good g n ∧ n ≤ 4611686018427387904 ∧ I64 a ∧ I64 b) := ⟨hg, hn, ha, hb⟩
  have i0 : w.cell? ⟨p, 0, none⟩ = some (.int .i64 g.depth) := h.sh.cell 0 (sh_get g h.len).1
  have z0 := h.sh.frozen 0
  have i1 : w.cell? ⟨p, 1, none⟩ = some (.int .i64 g.mode) := h.sh.cell 1 (sh_get g h.len).2.1
  have z1 := h.sh.frozen 1
  have i2 : w.cell? ⟨p, 2, none⟩ = some (.int .i64 g.sum) := h.sh.cell 2 (sh_get g h.len).2.2.1
  have z2 := h.sh.frozen 2
  have i3 : w.cell? ⟨p, 3, none⟩ = some (.int .i64 g.peak) := h.sh.cell 3 (sh_get g h.len).2.2.2.1
  have z3 := h.sh.frozen 3
  have i4 : w.cell? ⟨p, 4, none⟩ = some (.int .i64 g.dip) := h.sh.cell 4 (sh_get g h.len).2.2.2.2.1
  have z4 := h.sh.frozen 4
  have i5 : w.cell? ⟨p, 5, none⟩ = some (.int .i64 g.at_) := h.sh.cell 5 (sh_get g h.len).2.2.2.2.2.1
  have z5 := h.sh.frozen 5
  have i6 : w.cell? ⟨p, 6, none⟩ = some (.int .i64 g.seq) := h.sh.cell 6 (sh_get g h.len).2.2.2.2.2.2.1
  have z6 := h.sh.frozen 6
  have i7 : w.cell? ⟨p, 7, none⟩ = some (.int .i64 g.dropped) := h.sh.cell 7 (sh_get g h.len).2.2.2.2.2.2.2
  have z7 := h.sh.frozen 7
  have kA : ∀ (W : World) (i j : Nat) (v : Value), (W.setCell ⟨p, i, none⟩ v).cell? ⟨w.heap.size + 1, j, none⟩ = W.cell? ⟨w.heap.size + 1, j, none⟩ := fun W i j v => far_cell W (by omega) i j v
  have kAp : ∀ (W : World) (i j : Nat) (v : Value), (W.setCell ⟨w.heap.size + 1, i, none⟩ v).cell? ⟨p, j, none⟩ = W.cell? ⟨p, j, none⟩ := fun W i j v => far_cell W (by omega) i j v
  have kB : ∀ (W : World) (i j : Nat) (v : Value), (W.setCell ⟨p, i, none⟩ v).cell? ⟨w.heap.size + 1 + 1, j, none⟩ = W.cell? ⟨w.heap.size + 1 + 1, j, none⟩ := fun W i j v => far_cell W (by omega) i j v
  have kBp : ∀ (W : World) (i j : Nat) (v : Value), (W.setCell ⟨w.heap.size + 1 + 1, i, none⟩ v).cell? ⟨p, j, none⟩ = W.cell? ⟨p, j, none⟩ := fun W i j v => far_cell W (by omega) i j v
  have kO : ∀ (W : World) (i j : Nat) (v : Value), (W.setCell ⟨p, i, none⟩ v).cell? ⟨w.heap.size, j, none⟩ = W.cell? ⟨w.heap.size, j, none⟩ := fun W i j v => far_cell W (by omega) i j v
  have kOp : ∀ (W : World) (i j : Nat) (v : Value), (W.setCell ⟨w.heap.size, i, none⟩ v).cell? ⟨p, j, none⟩ = W.cell? ⟨p, j, none⟩ := fun W i j v => far_cell W (by omega) i j v
  have kF : ∀ (o1 o2 o3 : Obj) (j : Nat), (((w.alloc o1).alloc o2).alloc o3).cell? ⟨p, j, none⟩ = w.cell? ⟨p, j, none⟩ := fun o1 o2 o3 j => (((h.sh.obj.alloc o1).alloc o2).alloc o3).cell j |>.trans (h.sh.obj.cell j).symm
  have zF : ∀ (o1 o2 o3 : Obj) (j : Nat), (((w.alloc o1).alloc o2).alloc o3).frozen? ⟨p, j, none⟩ = false := fun o1 o2 o3 j => (((h.sh.obj.alloc o1).alloc o2).alloc o3).frozen j
  have HW : Hid (Sz w p l g) := h
  have q0 := hg.q0; have r0 := hg.r0; have A0 := hg.a0; have A8 := hg.a8
  have q1 : g.seq ≤ 4611686018427387904 := by have := hg.q1; omega
  have r1 : g.dropped ≤ 4611686018427387904 := by have := hg.r1; omega
  have e5 := and32 a
  have e6 : (a % 4294967296 == 0) = false := by simpa using e1
  clear h hg hn ha hb hl
  go_enter Tryd.func20, Tryd.ntmps20
  go_wp2_with fail
  refine bodyPost_ret (by simp [results, Tryd.results20, go_sem]; try rfl) rfl ?_
  have lt := LT.out
  exact ⟨rfl, (HW.out.nil ((((Chg.refl _ w).alloc _).alloc _).alloc _)), ((((Chg.refl _ w).alloc _).alloc _).alloc _)⟩

theorem due_6 (p l : Nat) (g : PS) (n : Int) (a b cc : Int) (s t : ByteArray) (w : World) (hg : Good g n) (hn : n ≤ 4611686018427387904) (ha : I64 a) (hb : I64 b) (h : Sz w p l g) :
    Calls Tryd.prog 20 #[.pointer (some ⟨l, 0, none⟩), .pointer (some ⟨p, 0, none⟩), opV 6 a b cc s t] w fun e w' => e = .returned (ansV 0 (sumSq g.ring / 4294967296) (sumSq g.ring % 4294967296) ⟨#[]⟩) ∧ Sz w' p l g ∧ Chg (fun k => k = p ∨ k = l) w w' := by
  unfold opV
  obtain ⟨T1, T2, T3⟩ := frame3 (T := 47) w (.cells #[.int .i64 6, .int .i64 a, .int .i64 b, .int .i64 cc, .string s, .string t] 50) [.int .i64 0, .int .i64 0, .int .i64 0, .string ⟨#[]⟩] [.int .i64 0, .int .i64 0, .int .i64 0, .string ⟨#[]⟩]
  have T0 := frame4 (T := 47) (U := 50) w [.int .i64 6, .int .i64 a, .int .i64 b, .int .i64 cc, .string s, .string t] [.int .i64 0, .int .i64 0, .int .i64 0, .string ⟨#[]⟩] [.int .i64 0, .int .i64 0, .int .i64 0, .string ⟨#[]⟩]
  have hp := h.sh.obj.lt
  have hl := Has.lt h.cv
  have LT : Hid (p < w.heap.size ∧ l < w.heap.size) := ⟨hp, hl⟩
  have H0 : Hid (Sz (((w.alloc (.cells #[.int .i64 6, .int .i64 a, .int .i64 b, .int .i64 cc, .string s, .string t] 50)).alloc (.cells #[.int .i64 0, .int .i64 0, .int .i64 0, .string ⟨#[]⟩] 47)).alloc (.cells #[.int .i64 0, .int .i64 0, .int .i64 0, .string ⟨#[]⟩] 47)) p l g) := h.nil T3
  have C0 : Hid (Chg (fun k => k = p ∨ k = l) w (((w.alloc (.cells #[.int .i64 6, .int .i64 a, .int .i64 b, .int .i64 cc, .string s, .string t] 50)).alloc (.cells #[.int .i64 0, .int .i64 0, .int .i64 0, .string ⟨#[]⟩] 47)).alloc (.cells #[.int .i64 0, .int .i64 0, .int .i64 0, .string ⟨#[]⟩] 47))) := chg_0 T3
  have HG : Hid (Good g n ∧ n ≤ 4611686018427387904 ∧ I64 a ∧ I64 b) := ⟨hg, hn, ha, hb⟩
  have i0 : w.cell? ⟨p, 0, none⟩ = some (.int .i64 g.depth) := h.sh.cell 0 (sh_get g h.len).1
  have z0 := h.sh.frozen 0
  have i1 : w.cell? ⟨p, 1, none⟩ = some (.int .i64 g.mode) := h.sh.cell 1 (sh_get g h.len).2.1
  have z1 := h.sh.frozen 1
  have i2 : w.cell? ⟨p, 2, none⟩ = some (.int .i64 g.sum) := h.sh.cell 2 (sh_get g h.len).2.2.1
  have z2 := h.sh.frozen 2
  have i3 : w.cell? ⟨p, 3, none⟩ = some (.int .i64 g.peak) := h.sh.cell 3 (sh_get g h.len).2.2.2.1
  have z3 := h.sh.frozen 3
  have i4 : w.cell? ⟨p, 4, none⟩ = some (.int .i64 g.dip) := h.sh.cell 4 (sh_get g h.len).2.2.2.2.1
  have z4 := h.sh.frozen 4
  have i5 : w.cell? ⟨p, 5, none⟩ = some (.int .i64 g.at_) := h.sh.cell 5 (sh_get g h.len).2.2.2.2.2.1
  have z5 := h.sh.frozen 5
  have i6 : w.cell? ⟨p, 6, none⟩ = some (.int .i64 g.seq) := h.sh.cell 6 (sh_get g h.len).2.2.2.2.2.2.1
  have z6 := h.sh.frozen 6
  have i7 : w.cell? ⟨p, 7, none⟩ = some (.int .i64 g.dropped) := h.sh.cell 7 (sh_get g h.len).2.2.2.2.2.2.2
  have z7 := h.sh.frozen 7
  have kA : ∀ (W : World) (i j : Nat) (v : Value), (W.setCell ⟨p, i, none⟩ v).cell? ⟨w.heap.size + 1, j, none⟩ = W.cell? ⟨w.heap.size + 1, j, none⟩ := fun W i j v => far_cell W (by omega) i j v
  have kAp : ∀ (W : World) (i j : Nat) (v : Value), (W.setCell ⟨w.heap.size + 1, i, none⟩ v).cell? ⟨p, j, none⟩ = W.cell? ⟨p, j, none⟩ := fun W i j v => far_cell W (by omega) i j v
  have kB : ∀ (W : World) (i j : Nat) (v : Value), (W.setCell ⟨p, i, none⟩ v).cell? ⟨w.heap.size + 1 + 1, j, none⟩ = W.cell? ⟨w.heap.size + 1 + 1, j, none⟩ := fun W i j v => far_cell W (by omega) i j v
  have kBp : ∀ (W : World) (i j : Nat) (v : Value), (W.setCell ⟨w.heap.size + 1 + 1, i, none⟩ v).cell? ⟨p, j, none⟩ = W.cell? ⟨p, j, none⟩ := fun W i j v => far_cell W (by omega) i j v
  have kO : ∀ (W : World) (i j : Nat) (v : Value), (W.setCell ⟨p, i, none⟩ v).cell? ⟨w.heap.size, j, none⟩ = W.cell? ⟨w.heap.size, j, none⟩ := fun W i j v => far_cell W (by omega) i j v
  have kOp : ∀ (W : World) (i j : Nat) (v : Value), (W.setCell ⟨w.heap.size, i, none⟩ v).cell? ⟨p, j, none⟩ = W.cell? ⟨p, j, none⟩ := fun W i j v => far_cell W (by omega) i j v
  have kF : ∀ (o1 o2 o3 : Obj) (j : Nat), (((w.alloc o1).alloc o2).alloc o3).cell? ⟨p, j, none⟩ = w.cell? ⟨p, j, none⟩ := fun o1 o2 o3 j => (((h.sh.obj.alloc o1).alloc o2).alloc o3).cell j |>.trans (h.sh.obj.cell j).symm
  have zF : ∀ (o1 o2 o3 : Obj) (j : Nat), (((w.alloc o1).alloc o2).alloc o3).frozen? ⟨p, j, none⟩ = false := fun o1 o2 o3 j => (((h.sh.obj.alloc o1).alloc o2).alloc o3).frozen j
  have HW : Hid (Sz w p l g) := h
  have q0 := hg.q0; have r0 := hg.r0; have A0 := hg.a0; have A8 := hg.a8
  have q1 : g.seq ≤ 4611686018427387904 := by have := hg.q1; omega
  have r1 : g.dropped ≤ 4611686018427387904 := by have := hg.r1; omega
  clear h hg hn ha hb hl
  have SQ := squares_any p g n _ HG.out.1 H0.out.sh
  have HK : Hid (Calls _ _ _ _ _) := SQ
  clear SQ
  go_enter Tryd.func20, Tryd.ntmps20
  go_wp2_with fail
  refine (Calls.mono HK.out) ?_; rintro e w1 ⟨rfl, s1, c2⟩
  have hl := LT.out.2
  have q1 : Sz w1 p l g := ⟨s1, Has.kept H0.out.cv c2 (fun e => H0.out.ne e.symm), H0.out.ne⟩
  have c1 : Chg (fun k => k = p ∨ k = l) _ w1 := chg_p c2
  clear s1 c2
  have K1 := T1.kept c1 (by omega)
  have K2 := T2.kept c1 (by omega)
  have f0 := K1.frozen 0
  have u0 : w1.cell? ⟨w.heap.size + 1, 0, none⟩ = some (.int .i64 0) := K1.cell 0
  have g0 := K2.frozen 0
  have v0 : w1.cell? ⟨w.heap.size + 1 + 1, 0, none⟩ = some (.int .i64 0) := K2.cell 0
  have f1 := K1.frozen 1
  have u1 : w1.cell? ⟨w.heap.size + 1, 1, none⟩ = some (.int .i64 0) := K1.cell 1
  have g1 := K2.frozen 1
  have v1 : w1.cell? ⟨w.heap.size + 1 + 1, 1, none⟩ = some (.int .i64 0) := K2.cell 1
  have f2 := K1.frozen 2
  have u2 : w1.cell? ⟨w.heap.size + 1, 2, none⟩ = some (.int .i64 0) := K1.cell 2
  have g2 := K2.frozen 2
  have v2 : w1.cell? ⟨w.heap.size + 1 + 1, 2, none⟩ = some (.int .i64 0) := K2.cell 2
  have f3 := K1.frozen 3
  have u3 : w1.cell? ⟨w.heap.size + 1, 3, none⟩ = some (.string ⟨#[]⟩) := K1.cell 3
  have g3 := K2.frozen 3
  have v3 : w1.cell? ⟨w.heap.size + 1 + 1, 3, none⟩ = some (.string ⟨#[]⟩) := K2.cell 3
  have C1 : Hid (Chg (fun k => k = p ∨ k = l) w w1) := C0.out.trans c1
  have H1 : Hid (Sz w1 p l g) := q1
  clear T1 T2 T3 K1 K2 c1 q1 C0 H0
  go_wp2_with fail
  refine bodyPost_ret (by simp [results, Tryd.results20, go_sem, u0, u1, u2, u3]; try rfl) rfl ?_
  have lt := LT.out
  exact ⟨rfl, ((((((H1.out.far lt (by first | omega | (dsimp only; omega)) _).far lt (by first | omega | (dsimp only; omega)) _).far lt (by first | omega | (dsimp only; omega)) _).far lt (by first | omega | (dsimp only; omega)) _).far lt (by first | omega | (dsimp only; omega)) _).far lt (by first | omega | (dsimp only; omega)) _), ((((((C1.out.setCell (Or.inr (by first | omega | (dsimp only; omega))) _).setCell (Or.inr (by first | omega | (dsimp only; omega))) _).setCell (Or.inr (by first | omega | (dsimp only; omega))) _).setCell (Or.inr (by first | omega | (dsimp only; omega))) _).setCell (Or.inr (by first | omega | (dsimp only; omega))) _).setCell (Or.inr (by first | omega | (dsimp only; omega))) _)⟩

theorem due_14 (p l : Nat) (g : PS) (n : Int) (a b cc : Int) (s t : ByteArray) (w : World) (hg : Good g n) (hn : n ≤ 4611686018427387904) (ha : I64 a) (hb : I64 b) (h : Sz w p l g) (ht : Tab w) :
    Calls Tryd.prog 20 #[.pointer (some ⟨l, 0, none⟩), .pointer (some ⟨p, 0, none⟩), opV 14 a b cc s t] w fun e w' => e = .returned (ansV 0 0 0 (textP g)) ∧ Sz w' p l g ∧ Chg (fun k => k = p ∨ k = l) w w' := by
  unfold opV
  obtain ⟨T1, T2, T3⟩ := frame3 (T := 47) w (.cells #[.int .i64 14, .int .i64 a, .int .i64 b, .int .i64 cc, .string s, .string t] 50) [.int .i64 0, .int .i64 0, .int .i64 0, .string ⟨#[]⟩] [.int .i64 0, .int .i64 0, .int .i64 0, .string ⟨#[]⟩]
  have T0 := frame4 (T := 47) (U := 50) w [.int .i64 14, .int .i64 a, .int .i64 b, .int .i64 cc, .string s, .string t] [.int .i64 0, .int .i64 0, .int .i64 0, .string ⟨#[]⟩] [.int .i64 0, .int .i64 0, .int .i64 0, .string ⟨#[]⟩]
  have hp := h.sh.obj.lt
  have hl := Has.lt h.cv
  have LT : Hid (p < w.heap.size ∧ l < w.heap.size) := ⟨hp, hl⟩
  have H0 : Hid (Sz (((w.alloc (.cells #[.int .i64 14, .int .i64 a, .int .i64 b, .int .i64 cc, .string s, .string t] 50)).alloc (.cells #[.int .i64 0, .int .i64 0, .int .i64 0, .string ⟨#[]⟩] 47)).alloc (.cells #[.int .i64 0, .int .i64 0, .int .i64 0, .string ⟨#[]⟩] 47)) p l g) := h.nil T3
  have C0 : Hid (Chg (fun k => k = p ∨ k = l) w (((w.alloc (.cells #[.int .i64 14, .int .i64 a, .int .i64 b, .int .i64 cc, .string s, .string t] 50)).alloc (.cells #[.int .i64 0, .int .i64 0, .int .i64 0, .string ⟨#[]⟩] 47)).alloc (.cells #[.int .i64 0, .int .i64 0, .int .i64 0, .string ⟨#[]⟩] 47))) := chg_0 T3
  have HT : Hid (Tab (((w.alloc (.cells #[.int .i64 14, .int .i64 a, .int .i64 b, .int .i64 cc, .string s, .string t] 50)).alloc (.cells #[.int .i64 0, .int .i64 0, .int .i64 0, .string ⟨#[]⟩] 47)).alloc (.cells #[.int .i64 0, .int .i64 0, .int .i64 0, .string ⟨#[]⟩] 47))) := ht.nil T3
  have HG : Hid (Good g n ∧ n ≤ 4611686018427387904 ∧ I64 a ∧ I64 b) := ⟨hg, hn, ha, hb⟩
  have i0 : w.cell? ⟨p, 0, none⟩ = some (.int .i64 g.depth) := h.sh.cell 0 (sh_get g h.len).1
  have z0 := h.sh.frozen 0
  have i1 : w.cell? ⟨p, 1, none⟩ = some (.int .i64 g.mode) := h.sh.cell 1 (sh_get g h.len).2.1
  have z1 := h.sh.frozen 1
  have i2 : w.cell? ⟨p, 2, none⟩ = some (.int .i64 g.sum) := h.sh.cell 2 (sh_get g h.len).2.2.1
  have z2 := h.sh.frozen 2
  have i3 : w.cell? ⟨p, 3, none⟩ = some (.int .i64 g.peak) := h.sh.cell 3 (sh_get g h.len).2.2.2.1
  have z3 := h.sh.frozen 3
  have i4 : w.cell? ⟨p, 4, none⟩ = some (.int .i64 g.dip) := h.sh.cell 4 (sh_get g h.len).2.2.2.2.1
  have z4 := h.sh.frozen 4
  have i5 : w.cell? ⟨p, 5, none⟩ = some (.int .i64 g.at_) := h.sh.cell 5 (sh_get g h.len).2.2.2.2.2.1
  have z5 := h.sh.frozen 5
  have i6 : w.cell? ⟨p, 6, none⟩ = some (.int .i64 g.seq) := h.sh.cell 6 (sh_get g h.len).2.2.2.2.2.2.1
  have z6 := h.sh.frozen 6
  have i7 : w.cell? ⟨p, 7, none⟩ = some (.int .i64 g.dropped) := h.sh.cell 7 (sh_get g h.len).2.2.2.2.2.2.2
  have z7 := h.sh.frozen 7
  have kA : ∀ (W : World) (i j : Nat) (v : Value), (W.setCell ⟨p, i, none⟩ v).cell? ⟨w.heap.size + 1, j, none⟩ = W.cell? ⟨w.heap.size + 1, j, none⟩ := fun W i j v => far_cell W (by omega) i j v
  have kAp : ∀ (W : World) (i j : Nat) (v : Value), (W.setCell ⟨w.heap.size + 1, i, none⟩ v).cell? ⟨p, j, none⟩ = W.cell? ⟨p, j, none⟩ := fun W i j v => far_cell W (by omega) i j v
  have kB : ∀ (W : World) (i j : Nat) (v : Value), (W.setCell ⟨p, i, none⟩ v).cell? ⟨w.heap.size + 1 + 1, j, none⟩ = W.cell? ⟨w.heap.size + 1 + 1, j, none⟩ := fun W i j v => far_cell W (by omega) i j v
  have kBp : ∀ (W : World) (i j : Nat) (v : Value), (W.setCell ⟨w.heap.size + 1 + 1, i, none⟩ v).cell? ⟨p, j, none⟩ = W.cell? ⟨p, j, none⟩ := fun W i j v => far_cell W (by omega) i j v
  have kO : ∀ (W : World) (i j : Nat) (v : Value), (W.setCell ⟨p, i, none⟩ v).cell? ⟨w.heap.size, j, none⟩ = W.cell? ⟨w.heap.size, j, none⟩ := fun W i j v => far_cell W (by omega) i j v
  have kOp : ∀ (W : World) (i j : Nat) (v : Value), (W.setCell ⟨w.heap.size, i, none⟩ v).cell? ⟨p, j, none⟩ = W.cell? ⟨p, j, none⟩ := fun W i j v => far_cell W (by omega) i j v
  have kF : ∀ (o1 o2 o3 : Obj) (j : Nat), (((w.alloc o1).alloc o2).alloc o3).cell? ⟨p, j, none⟩ = w.cell? ⟨p, j, none⟩ := fun o1 o2 o3 j => (((h.sh.obj.alloc o1).alloc o2).alloc o3).cell j |>.trans (h.sh.obj.cell j).symm
  have zF : ∀ (o1 o2 o3 : Obj) (j : Nat), (((w.alloc o1).alloc o2).alloc o3).frozen? ⟨p, j, none⟩ = false := fun o1 o2 o3 j => (((h.sh.obj.alloc o1).alloc o2).alloc o3).frozen j
  have HW : Hid (Sz w p l g) := h
  have q0 := hg.q0; have r0 := hg.r0; have A0 := hg.a0; have A8 := hg.a8
  have q1 : g.seq ≤ 4611686018427387904 := by have := hg.q1; omega
  have r1 : g.dropped ≤ 4611686018427387904 := by have := hg.r1; omega
  clear h hg hn ha hb hl ht
  have SQ := shown_any p l g n _ HG.out.1 HG.out.2.1 H0.out.sh H0.out.cv HT.out
  have HK : Hid (Calls _ _ _ _ _) := SQ
  clear SQ
  go_enter Tryd.func20, Tryd.ntmps20
  go_wp2_with fail
  refine (Calls.mono HK.out) ?_; rintro e w1 ⟨rfl, s1, c2⟩
  have hl := LT.out.2
  have q1 : Sz w1 p l g := H0.out.nil c2
  have c1 : Chg (fun k => k = p ∨ k = l) _ w1 := chg_0 c2
  clear s1 c2
  have K1 := T1.kept c1 (by omega)
  have K2 := T2.kept c1 (by omega)
  have f0 := K1.frozen 0
  have u0 : w1.cell? ⟨w.heap.size + 1, 0, none⟩ = some (.int .i64 0) := K1.cell 0
  have g0 := K2.frozen 0
  have v0 : w1.cell? ⟨w.heap.size + 1 + 1, 0, none⟩ = some (.int .i64 0) := K2.cell 0
  have f1 := K1.frozen 1
  have u1 : w1.cell? ⟨w.heap.size + 1, 1, none⟩ = some (.int .i64 0) := K1.cell 1
  have g1 := K2.frozen 1
  have v1 : w1.cell? ⟨w.heap.size + 1 + 1, 1, none⟩ = some (.int .i64 0) := K2.cell 1
  have f2 := K1.frozen 2
  have u2 : w1.cell? ⟨w.heap.size + 1, 2, none⟩ = some (.int .i64 0) := K1.cell 2
  have g2 := K2.frozen 2
  have v2 : w1.cell? ⟨w.heap.size + 1 + 1, 2, none⟩ = some (.int .i64 0) := K2.cell 2
  have f3 := K1.frozen 3
  have u3 : w1.cell? ⟨w.heap.size + 1, 3, none⟩ = some (.string ⟨#[]⟩) := K1.cell 3
  have g3 := K2.frozen 3
  have v3 : w1.cell? ⟨w.heap.size + 1 + 1, 3, none⟩ = some (.string ⟨#[]⟩) := K2.cell 3
  have C1 : Hid (Chg (fun k => k = p ∨ k = l) w w1) := C0.out.trans c1
  have H1 : Hid (Sz w1 p l g) := q1
  clear T1 T2 T3 K1 K2 c1 q1 C0 H0
  go_wp2_with fail
  refine bodyPost_ret (by simp [results, Tryd.results20, go_sem, u0, u1, u2, u3]; try rfl) rfl ?_
  have lt := LT.out
  exact ⟨rfl, (((((H1.out.far lt (by first | omega | (dsimp only; omega)) _).far lt (by first | omega | (dsimp only; omega)) _).far lt (by first | omega | (dsimp only; omega)) _).far lt (by first | omega | (dsimp only; omega)) _).far lt (by first | omega | (dsimp only; omega)) _), (((((C1.out.setCell (Or.inr (by first | omega | (dsimp only; omega))) _).setCell (Or.inr (by first | omega | (dsimp only; omega))) _).setCell (Or.inr (by first | omega | (dsimp only; omega))) _).setCell (Or.inr (by first | omega | (dsimp only; omega))) _).setCell (Or.inr (by first | omega | (dsimp only; omega))) _)⟩

end Go.Proofs.Qxb6500376aDoor
